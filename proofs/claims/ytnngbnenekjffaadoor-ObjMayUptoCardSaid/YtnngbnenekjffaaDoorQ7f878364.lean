/- General lemmas and walks: SpecDem, SpecDem0, SpecObj, SpecObj2, SpecInsn, LawInsn, SpecRef4, SpecSha, SpecHash, LawSha, SpecPack, SpecRel, SpecRel2, SpecRel3, SpecSort, SpecSort2, SpecSort3, SpecSort5. No condition but what each theorem names. -/
import Derived.Test.YtnngbnenekjffaaDoorQ2ad7965d
import Derived.Test.YtnngbnenekjffaaDoorQ66c3e74a
/-! from SpecDem -/
/- Manifests: which may be. Plain Lean. -/
namespace Go.Owl
end Go.Owl
namespace Go.Spec
open Go.Owl
structure Xt where
  id : UInt32
  bl : UInt32
deriving DecidableEq
def Xt.zero : Xt := ⟨0, 0⟩
structure Sg where
  a : UInt32
  p : UInt8
  b : List UInt8
deriving DecidableEq
def Sg.zero : Sg := ⟨0, 0, []⟩
section
variable {α : Type} {p : α → Bool} {l : List α} {d : α} {k : Nat} {r : α → α → Bool}
/-- The first that is so. -/
def fidx (p : α → Bool) (l : List α) : Int := match l.findIdx? p with
  | some k => (k : Int)
  | none => -1
theorem getD_at (h : k < l.length) : l.getD k d = l[k] := by rw [List.getD, List.getElem?_eq_getElem h]; rfl
theorem fidx_yes (hk : k < l.length) (h : ∀ j, j < k → p (l.getD j d) = false) (hp : p (l.getD k d) = true) : fidx p l = (k : Int) := by
  have e : l.findIdx? p = some k := by
    rw [List.findIdx?_eq_some_iff_getElem]
    refine ⟨hk, by rw [getD_at hk] at hp; exact hp, fun j hj => ?_⟩
    have h1 := h j hj
    rw [getD_at (by omega)] at h1
    simp [h1]
  rw [fidx, e]
theorem fidx_no (h : ∀ j, j < l.length → p (l.getD j d) = false) : fidx p l = -1 := by
  have e : l.findIdx? p = none := by
    rw [List.findIdx?_eq_none_iff]
    intro x hx
    obtain ⟨j, hj, rfl⟩ := List.getElem_of_mem hx
    have h1 := h j hj
    rw [getD_at hj] at h1
    exact h1
  rw [fidx, e]
theorem fidx_any : decide (fidx p l ≥ 0) = l.any p := by
  rw [← List.findIdx?_isSome, fidx]
  cases l.findIdx? p with
  | none => rfl
  | some k => simp
/-- Each two side by side are so. -/
def ris (r : α → α → Bool) : List α → Bool
  | a :: b :: l => r a b && ris r (b :: l)
  | _ => true
theorem allPrev {P : Nat → Prop} (h : ∀ j, j < k → P j) (h2 : P k) : ∀ j, j < k + 1 → P j := fun j hj => by
  rcases Nat.lt_or_ge j k with h3 | h3
  · exact h j h3
  · rw [show j = k by omega]; exact h2
end
def xtBad (x : Xt) : Bool := decide (x.id ≥ 16) || (decide (x.bl < 1) || decide (x.bl > 1024))
def xtLt (x y : Xt) : Bool := decide (x.id < y.id)
def u16Lt (x y : UInt16) : Bool := decide (x < y)
def u16Is (y x : UInt16) : Bool := decide (y = x)
def mfMay (pg : UInt32) (xs : List Xt) (ps : List UInt16) : Bool := !(xs.any xtBad) && (ris xtLt xs && (ris u16Lt ps && (!(ps.any (u16Is 0)) && (!decide (ps.length > 16) && !decide (pg > 1024)))))
end Go.Spec
/-! from SpecDem0 -/
/- Manifests: which are the same, which may be. Plain Lean. -/
namespace Go.Owl
section
variable {S : List Nat} {w0 w : World} {L : List Ent} {i : Nat}
theorem Own.rowFresh {v : Value} {t : TypeId} {sz n : Nat} {xs : List Value} (H : Own [] w0 w L) (hi : L[i]? = some (Ent.row v t sz n xs)) : ∀ b ∈ footA v xs, w0.heap.size ≤ b := by
  intro b hb
  obtain ⟨hl, ⟨rfl, rfl⟩ | ⟨g, cap, pre, junk, rfl, hk, hr⟩⟩ := H.row hi
  · have hx : xs = [] := List.eq_nil_of_length_eq_zero (by simpa using hl)
    subst hx; simp [footA] at hb
  · have hb' : b = g := by
      simp only [footA] at hb
      split at hb
      · cases hb
      · simpa [sBlk] using hb
    rcases H.own i _ hi g rfl with h | h
    · omega
    · cases h
end
end Go.Owl
namespace Go.Spec
open Go.Owl
section
variable {pg pg' : UInt32} {c c' : Bool} {xs xs' : List Xt} {ps ps' : List UInt16}
end
end Go.Spec
/-! from SpecObj -/
/- Symbols: which may be. Plain Lean. -/
namespace Go.Spec
open Go.Owl
structure Rl where
  off : UInt32
  kind : UInt8
  nm : List UInt8
  add : UInt32
deriving DecidableEq
def Rl.zero : Rl := ⟨0, 0, [], 0⟩
def rlc (x : Rl) : List Value := [vU32 x.off, vU8 x.kind, str x.nm, vU32 x.add]
structure Nt where
  kind : UInt8
  n : UInt32
  m : UInt32
deriving DecidableEq
def Nt.zero : Nt := ⟨0, 0, 0⟩
def ntc (x : Nt) : List Value := [vU8 x.kind, vU32 x.n, vU32 x.m]
structure Sy where
  nm : List UInt8
  bind : UInt8
  kind : UInt8
  size : UInt32
  b : List UInt8
  rv : Value
  rl : List Rl
  nv : Value
  nt : List Nt
def Sy.zero : Sy := ⟨[], 0, 0, 0, [], .slice none 0 0, [], .slice none 0 0, []⟩
def syc (x : Sy) : List Value := [str x.nm, vU8 x.bind, vU8 x.kind, vU32 x.size, str x.b, x.rv, x.nv]
def SyD : Deep Sy := ((Deep.arr 4 rlc).on (fun x : Sy => (x.rv, x.rl))).and ((Deep.arr 3 ntc).on (fun x : Sy => (x.nv, x.nt)))
structure Ob where
  nm : List UInt8
  sv : Value
  sy : List Sy
def Ob.zero : Ob := ⟨[], .slice none 0 0, []⟩
def obc (x : Ob) : List Value := [str x.nm, x.sv]
def ObD : Deep Ob := ((Deep.arr 7 syc).on (fun x : Ob => (x.sv, x.sy))).and (SyD.list.on (fun x : Ob => x.sy))
section
variable {w : World} {x : Sy} {o : Ob}
theorem SyD_mk (h : Arr w x.rv 4 x.rl.length (x.rl.flatMap rlc)) (k : Arr w x.nv 3 x.nt.length (x.nt.flatMap ntc)) : SyD.ok w x := ⟨h, k⟩
theorem SyD_rl (h : SyD.ok w x) : Arr w x.rv 4 x.rl.length (x.rl.flatMap rlc) := h.1
theorem SyD_nt (h : SyD.ok w x) : Arr w x.nv 3 x.nt.length (x.nt.flatMap ntc) := h.2
theorem SyD_zero (w : World) : SyD.ok w Sy.zero := ⟨Arr.nil w 4, Arr.nil w 3⟩
theorem ObD_mk (h : Arr w o.sv 7 o.sy.length (o.sy.flatMap syc)) (k : SyD.list.ok w o.sy) : ObD.ok w o := ⟨h, k⟩
theorem ObD_sy (h : ObD.ok w o) : Arr w o.sv 7 o.sy.length (o.sy.flatMap syc) := h.1
theorem ObD_in (h : ObD.ok w o) : SyD.list.ok w o.sy := h.2
theorem ObD_zero (w : World) : ObD.ok w Ob.zero := ⟨Arr.nil w 7, fun x hx => by cases hx⟩
end
section
variable {p : UInt8 → Bool} {s t : List UInt8}
def trR (p : UInt8 → Bool) (s : List UInt8) : List UInt8 := (s.reverse.dropWhile p).reverse
def trL (p : UInt8 → Bool) (s : List UInt8) : List UInt8 := s.dropWhile p
theorem drop_le (p : UInt8 → Bool) : ∀ s : List UInt8, (s.dropWhile p).length ≤ s.length
  | [] => Nat.le_refl _
  | a :: s => by
    rw [List.dropWhile_cons]
    split
    · exact Nat.le_succ_of_le (drop_le p s)
    · exact Nat.le_refl _
theorem trR_len (p : UInt8 → Bool) (s : List UInt8) : (trR p s).length ≤ s.length := by
  rw [trR, List.length_reverse]
  have h := drop_le p s.reverse
  rwa [List.length_reverse] at h
theorem last_split (h : 0 < t.length) : t = t.take (t.length - 1) ++ [t.getD (t.length - 1) 0] := by
  have h1 : t.getD (t.length - 1) 0 = t[t.length - 1]'(by omega) := by rw [List.getD, List.getElem?_eq_getElem (by omega)]; rfl
  rw [h1]
  conv => lhs; rw [← List.take_append_drop (t.length - 1) t]
  rw [List.drop_eq_getElem_cons (by omega)]
  congr 2
  rw [List.drop_eq_nil_iff]; omega
theorem trR_step (h : 0 < t.length) (hp : p (t.getD (t.length - 1) 0) = true) : trR p (t.take (t.length - 1)) = trR p t := by
  have e : trR p t = trR p (t.take (t.length - 1) ++ [t.getD (t.length - 1) 0]) := congrArg (trR p) (last_split h)
  rw [e, trR, trR, List.reverse_append, List.reverse_singleton, List.singleton_append, List.dropWhile_cons, if_pos hp]
theorem trR_stop (h : 0 < t.length) (hp : p (t.getD (t.length - 1) 0) = false) : trR p t = t := by
  have e : trR p t = trR p (t.take (t.length - 1) ++ [t.getD (t.length - 1) 0]) := congrArg (trR p) (last_split h)
  rw [e, trR, List.reverse_append, List.reverse_singleton, List.singleton_append, List.dropWhile_cons, if_neg (by rw [hp]; decide), ← List.singleton_append, ← List.reverse_singleton, ← List.reverse_append, List.reverse_reverse]
  exact (last_split h).symm
theorem trL_step (h : 0 < t.length) (hp : p (t.getD 0 0) = true) : trL p (t.drop 1) = trL p t := by
  cases t with
  | nil => simp at h
  | cons a l =>
    rw [trL, trL, List.dropWhile_cons, if_pos (by simpa using hp)]; rfl
theorem trL_stop (h : 0 < t.length) (hp : p (t.getD 0 0) = false) : trL p t = t := by
  cases t with
  | nil => simp at h
  | cons a l =>
    have h1 : p a = false := by simpa using hp
    rw [trL, List.dropWhile_cons, if_neg (by rw [h1]; decide)]
theorem drop_all : ∀ {s : List UInt8}, s.dropWhile p = [] ↔ s.all p = true
  | [] => by simp
  | a :: s => by
    rw [List.dropWhile_cons, List.all_cons]
    cases h : p a with
    | true => simp [drop_all (s := s)]
    | false => simp
theorem trim_nil : trL p (trR p s) = [] ↔ s.all p = true := by
  rw [trL, drop_all]
  constructor
  · intro h
    rw [List.all_eq_true]
    have h1 : (trR p s).dropWhile p = [] := drop_all.2 h
    by_cases h0 : trR p s = []
    · have : s.reverse.dropWhile p = [] := by rw [trR, List.reverse_eq_nil_iff] at h0; exact h0
      have := drop_all.1 this
      rw [List.all_reverse, List.all_eq_true] at this; exact this
    · -- the last one that stays is none of p's
      have hr : s.reverse.dropWhile p ≠ [] := fun e => h0 (by rw [trR, e]; rfl)
      have hh := List.head?_dropWhile_not p s.reverse
      cases hd : s.reverse.dropWhile p with
      | nil => exact absurd hd hr
      | cons a l =>
        rw [hd] at hh
        simp only [List.head?_cons] at hh
        have hm : a ∈ trR p s := by rw [trR, hd]; simp
        have := (List.all_eq_true.1 h) a hm
        rw [this] at hh; simp at hh
  · intro h
    have : s.reverse.dropWhile p = [] := drop_all.2 (by rw [List.all_reverse]; exact h)
    rw [trR, this]; rfl
def tabB (cs : List UInt8) (k : Nat) : List Value := (List.range 256).map (fun i => .bool ((cs.take k).any (fun c => c.toNat == i)))
def inB (cs : List UInt8) (x : UInt8) : Bool := cs.any (fun c => c.toNat == x.toNat)
theorem tabB_0 (cs : List UInt8) : tabB cs 0 = List.replicate 256 (.bool false) := by
  rw [tabB]
  apply List.ext_getElem
  · simp only [List.length_map, List.length_range, List.length_replicate]
  · intro i h1 h2; simp only [List.getElem_map, List.take_zero, List.any_nil, List.getElem_replicate]
theorem tabB_len (cs : List UInt8) (k : Nat) : (tabB cs k).length = 256 := by simp only [tabB, List.length_map, List.length_range]
theorem tabB_succ {cs : List UInt8} {k : Nat} (h : k < cs.length) : (tabB cs k).set (cs.getD k 0).toNat (.bool true) = tabB cs (k + 1) := by
  have hg : cs.getD k 0 = cs[k] := by rw [List.getD, List.getElem?_eq_getElem h]; rfl
  rw [hg]
  apply List.ext_getElem
  · rw [List.length_set, tabB_len, tabB_len]
  · intro i h1 h2
    rw [List.getElem_set]
    simp only [tabB, List.getElem_map, List.getElem_range, List.take_add_one, List.any_append, List.getElem?_eq_getElem h, Option.toList_some, List.any_cons, List.any_nil, Bool.or_false]
    split
    · rename_i e; simp [e]
    · rename_i e
      have : (cs[k].toNat == i) = false := by simpa using e
      rw [this, Bool.or_false]
theorem tabB_get (cs : List UInt8) (x : UInt8) : (tabB cs cs.length)[x.toNat]? = some (.bool (inB cs x)) := by
  have := x.toNat_lt
  simp [tabB, inB, this]
end
theorem tabB_one (cs : List UInt8) (k : Nat) : (tabB cs k).all (·.oneCell') = true := by
  rw [List.all_eq_true]; intro v hv
  obtain ⟨i, _, rfl⟩ := List.mem_map.1 hv
  rfl
def nameC (c : UInt8) : Bool := (decide (c ≥ 97) && decide (c ≤ 122)) || (decide (c ≥ 48) && decide (c ≤ 57)) || decide (c = 46) || decide (c = 95)
def nameB (s : List UInt8) : Bool := s.all nameC && (decide (s.length ≥ 1) && decide (s.length ≤ 32))
def nameCs : List UInt8 := [97, 98, 99, 100, 101, 102, 103, 104, 105, 106, 107, 108, 109, 110, 111, 112, 113, 114, 115, 116, 117, 118, 119, 120, 121, 122, 48, 49, 50, 51, 52, 53, 54, 55, 56, 57, 46, 95]
theorem inB_name (x : UInt8) : inB nameCs x = nameC x := by
  have h : ∀ i : Fin 256, inB nameCs (UInt8.ofNat i.1) = nameC (UInt8.ofNat i.1) := by decide +kernel
  have h1 := h ⟨x.toNat, x.toNat_lt⟩
  rwa [UInt8.ofNat_toNat] at h1
theorem nameCs_low (k : Nat) (hk : k < nameCs.length) : ¬ (nameCs.getD k 0) ≥ (128 : UInt8) := by
  have h : ∀ j : Fin 38, ¬ (nameCs.getD j.1 0) ≥ (128 : UInt8) := by decide +kernel
  exact h ⟨k, hk⟩
theorem inB_nameF : inB nameCs = nameC := funext inB_name
section
variable {s : List UInt8} {k : Nat}
theorem name_no (hk : k < s.length) (h : nameC (s.getD k 0) = false) : nameB s = false := by
  have hg : s.getD k 0 = s[k] := by rw [List.getD, List.getElem?_eq_getElem hk]; rfl
  have : s.all nameC = false := by
    rw [Bool.eq_false_iff]; intro ha
    have := (List.all_eq_true.1 ha) s[k] (List.getElem_mem hk)
    rw [← hg, h] at this; cases this
  rw [nameB, this]; rfl
theorem name_all (h : ∀ j, j < s.length → nameC (s.getD j 0) = true) : nameB s = (decide (s.length ≥ 1) && decide (s.length ≤ 32)) := by
  have : s.all nameC = true := by
    rw [List.all_eq_true]
    intro x hx
    obtain ⟨j, hj, rfl⟩ := List.getElem_of_mem hx
    have h1 := h j hj
    rwa [show s.getD j 0 = s[j] by rw [List.getD, List.getElem?_eq_getElem hj]; rfl] at h1
  rw [nameB, this]; rfl
theorem name_trim (h1 : s ≠ []) (h2 : s.length ≤ 32) : decide (trL (inB nameCs) (trR (inB nameCs) s) = []) = nameB s := by
  rw [inB_nameF, nameB, decide_eq_true h2, decide_eq_true (show s.length ≥ 1 from List.length_pos_iff.2 h1)]
  rw [show (s.all nameC && (true && true)) = s.all nameC by simp]
  cases h : s.all nameC with
  | true => exact decide_eq_true (trim_nil.2 h)
  | false => exact decide_eq_false (fun e => by rw [trim_nil.1 e] at h; cases h)
theorem name_long (h : ¬ s.length ≤ 32) : nameB s = false := by
  rw [nameB, decide_eq_false h]; simp
end
end Go.Spec
/-! from SpecObj2 -/
/- Symbols: notes, places, sizes. Plain Lean. -/
namespace Go.Spec
open Go.Owl
def noteB (x : Nt) : Bool :=
  bif decide (x.kind = 1) then decide (x.n ≤ 1024) && decide (x.m = 0)
  else bif decide (x.kind = 2) then (decide (x.n < 16) && decide (x.m ≥ 1)) && decide (x.m ≤ 1024)
  else bif decide (x.kind = 3) then (decide (x.n ≥ 1) && decide (x.n ≤ 65535)) && decide (x.m = 0)
  else bif decide (x.kind = 4) then decide (x.n = 0) && decide (x.m = 0) else false
def toldN (b : Bool) : Nat := bif b then 0 else 2
def noteE (x : Nt) : Nat := toldN (noteB x)
theorem or_nil (a b : UInt32) : decide ((a ||| b) = 0) = (decide (a = 0) && decide (b = 0)) := by
  rw [← Bool.decide_and]
  refine decide_eq_decide.2 ⟨fun h => ?_, fun h => by rw [h.1, h.2]; rfl⟩
  have h1 : a.toBitVec ||| b.toBitVec = 0#32 := by
    have := congrArg UInt32.toBitVec h
    simpa using this
  have e : ∀ i, a.toBitVec.getLsbD i = false ∧ b.toBitVec.getLsbD i = false := fun i => by
    have := congrArg (fun v => BitVec.getLsbD v i) h1
    simpa using this
  exact ⟨UInt32.toBitVec_inj.1 (BitVec.eq_of_getLsbD_eq fun i _ => by simp [e i]), UInt32.toBitVec_inj.1 (BitVec.eq_of_getLsbD_eq fun i _ => by simp [e i])⟩
def widthN (k : UInt8) : Nat := bif decide (k = 1) then 4 else bif decide (k = 2) then 2 else 0
theorem width_le (k : UInt8) : widthN k ≤ 4 := by
  unfold widthN; cases decide (k = 1) <;> cases decide (k = 2) <;> simp
def endOf (x : Rl) : Nat := x.off.toNat + widthN x.kind
def endAt (l : List Rl) : Nat → Nat
  | 0 => 0
  | k + 1 => endOf (l.getD k Rl.zero)
def relOk (b e : Nat) (x : Rl) : Bool := (((decide (widthN x.kind ≠ 0) && nameB x.nm) && decide (x.off ≤ 8192)) && decide (e ≤ x.off.toNat)) && decide (endOf x ≤ b)
def relsB (b : Nat) (l : List Rl) : Bool := (List.range l.length).all (fun k => relOk b (endAt l k) (l.getD k Rl.zero)) && decide (l.length ≤ 1024)
section
variable {l : List Rl} {b e k : Nat} {x : Rl}
theorem rels_no (hk : k < l.length) (h : relOk b (endAt l k) (l.getD k Rl.zero) = false) : relsB b l = false := by
  have : (List.range l.length).all (fun k => relOk b (endAt l k) (l.getD k Rl.zero)) = false := by
    rw [Bool.eq_false_iff]; intro ha
    have := (List.all_eq_true.1 ha) k (List.mem_range.2 hk)
    rw [h] at this; cases this
  rw [relsB, this]; rfl
theorem rels_all (h : ∀ j, j < l.length → relOk b (endAt l j) (l.getD j Rl.zero) = true) : relsB b l = decide (l.length ≤ 1024) := by
  have : (List.range l.length).all (fun k => relOk b (endAt l k) (l.getD k Rl.zero)) = true := by
    rw [List.all_eq_true]; intro j hj; exact h j (List.mem_range.1 hj)
  rw [relsB, this]; rfl
theorem relOk_iff : relOk b e x = true ↔ widthN x.kind ≠ 0 ∧ nameB x.nm = true ∧ x.off.toNat ≤ 8192 ∧ e ≤ x.off.toNat ∧ endOf x ≤ b := by
  simp only [relOk, Bool.and_eq_true, decide_eq_true_eq, and_assoc, UInt32.le_iff_toNat_le]
  exact Iff.rfl
theorem relOk_no (h : ¬ (widthN x.kind ≠ 0 ∧ nameB x.nm = true ∧ x.off.toNat ≤ 8192 ∧ e ≤ x.off.toNat ∧ endOf x ≤ b)) : relOk b e x = false := by
  rw [Bool.eq_false_iff]; exact fun h1 => h (relOk_iff.1 h1)
theorem endAt_le (h : ∀ j, j < k → relOk b (endAt l j) (l.getD j Rl.zero) = true) : endAt l k ≤ b := by
  cases k with
  | zero => exact Nat.zero_le _
  | succ k => exact (relOk_iff.1 (h k (by omega))).2.2.2.2
theorem endAt_lt (h : ∀ j, j < k → relOk b (endAt l j) (l.getD j Rl.zero) = true) : endAt l k ≤ 8196 := by
  cases k with
  | zero => exact Nat.zero_le _
  | succ k =>
    have h1 := (relOk_iff.1 (h k (by omega))).2.2.1
    have := width_le (l.getD k Rl.zero).kind
    show endOf _ ≤ _
    unfold endOf; omega
end
def sizedB (x : Sy) : Bool := decide (1 ≤ x.size.toNat ∧ x.size.toNat ≤ 8192 ∧ x.b.length ≤ x.size.toNat ∧ (x.kind = 1 → x.b.length = x.size.toNat ∧ x.size.toNat % 8 = 0))
def symB (x : Sy) : Bool := nameB x.nm && decide (x.bind ≤ 2) && decide (x.kind ≥ 1) && decide (x.kind ≤ 3) && sizedB x && relsB x.b.length x.rl && decide (x.nt.length ≤ 8) && x.nt.all noteB
def symE (x : Sy) : Nat := toldN (symB x)
section
variable {x y : Sy}
theorem symB_iff : symB x = true ↔ nameB x.nm = true ∧ x.bind ≤ 2 ∧ x.kind ≥ 1 ∧ x.kind ≤ 3 ∧ sizedB x = true ∧ relsB x.b.length x.rl = true ∧ x.nt.length ≤ 8 ∧ x.nt.all noteB = true := by
  simp only [symB, Bool.and_eq_true, decide_eq_true_eq, and_assoc]
theorem symB_no (h : ¬ (nameB x.nm = true ∧ x.bind ≤ 2 ∧ x.kind ≥ 1 ∧ x.kind ≤ 3 ∧ sizedB x = true ∧ relsB x.b.length x.rl = true ∧ x.nt.length ≤ 8 ∧ x.nt.all noteB = true)) : symB x = false := by
  rw [Bool.eq_false_iff]; exact fun h1 => h (symB_iff.1 h1)
theorem sized_iff : sizedB x = true ↔ 1 ≤ x.size.toNat ∧ x.size.toNat ≤ 8192 ∧ x.b.length ≤ x.size.toNat ∧ (x.kind = 1 → x.b.length = x.size.toNat ∧ x.size.toNat % 8 = 0) := by
  rw [sizedB, decide_eq_true_eq]
theorem sized_no (h : ¬ (1 ≤ x.size.toNat ∧ x.size.toNat ≤ 8192 ∧ x.b.length ≤ x.size.toNat ∧ (x.kind = 1 → x.b.length = x.size.toNat ∧ x.size.toNat % 8 = 0))) : sizedB x = false := by
  rw [Bool.eq_false_iff]; exact fun h1 => h (sized_iff.1 h1)
/-- The same but for where the slices lie. -/
def Sy.bare (x : Sy) : Sy := { x with rv := .slice none 0 0, nv := .slice none 0 0 }
theorem symB_bare : symB x.bare = symB x := rfl
end
theorem any_not_all {α : Type} (p : α → Bool) : ∀ l : List α, (l.any fun x => !p x) = !l.all p
  | [] => rfl
  | a :: l => by rw [List.any_cons, any_not_all p l, List.all_cons]; cases p a <;> simp
theorem u32_lt_nat {a : UInt32} {n : Nat} (hn : n < 2 ^ 32) : decide (a < UInt32.ofNat n) = decide (a.toNat < n) := by
  refine decide_eq_decide.2 ?_
  rw [UInt32.lt_iff_toNat_lt, UInt32.toNat_ofNat', Nat.mod_eq_of_lt hn]
theorem u32_gt_nat {a : UInt32} {n : Nat} (hn : n < 2 ^ 32) : decide (UInt32.ofNat n > a) = decide (n > a.toNat) := by
  refine decide_eq_decide.2 ?_
  rw [gt_iff_lt, UInt32.lt_iff_toNat_lt, UInt32.toNat_ofNat', Nat.mod_eq_of_lt hn]
/-- A size, as the program asks. -/
def sizedU (x : Sy) : Bool := bif decide (x.size < 1) then false else bif decide (x.size > 8192) then false else bif decide (UInt32.ofNat x.b.length > x.size) then false else
  bif decide (x.kind ≠ 1) then true else bif decide (UInt32.ofNat x.b.length = x.size) then decide (UInt32.ofNat x.b.length % 8 = 0) else false
theorem sized_eq {x : Sy} (hb : x.b.length < 2 ^ 32) : sizedB x = sizedU x := by
  have hz := x.size.toNat_lt
  have e1 : decide (x.size < 1) = decide (x.size.toNat < 1) := decide_eq_decide.2 (by rw [UInt32.lt_iff_toNat_lt]; rfl)
  have e2 : decide (x.size > 8192) = decide (x.size.toNat > 8192) := decide_eq_decide.2 (by rw [gt_iff_lt, UInt32.lt_iff_toNat_lt]; rfl)
  have e4 : decide (UInt32.ofNat x.b.length = x.size) = decide (x.b.length = x.size.toNat) := decide_eq_decide.2 (by rw [← UInt32.toNat_inj, UInt32.toNat_ofNat', Nat.mod_eq_of_lt hb])
  have e5 : decide (UInt32.ofNat x.b.length % 8 = 0) = decide (x.b.length % 8 = 0) := decide_eq_decide.2 (by rw [← UInt32.toNat_inj, UInt32.toNat_mod, UInt32.toNat_ofNat', Nat.mod_eq_of_lt hb]; rfl)
  rw [sizedU, e1, e2, u32_gt_nat hb, e4, e5]
  have key : sizedB x = (bif decide (x.size.toNat < 1) then false else bif decide (x.size.toNat > 8192) then false else bif decide (x.b.length > x.size.toNat) then false else
    bif decide (x.kind ≠ 1) then true else bif decide (x.b.length = x.size.toNat) then decide (x.b.length % 8 = 0) else false) := by
    by_cases h1 : x.size.toNat < 1
    · rw [sized_no (by omega), decide_eq_true h1]; rfl
    by_cases h2 : x.size.toNat > 8192
    · rw [sized_no (by omega), decide_eq_false h1, decide_eq_true h2]; rfl
    by_cases h3 : x.b.length > x.size.toNat
    · rw [sized_no (by omega), decide_eq_false h1, decide_eq_false h2, decide_eq_true h3]; rfl
    rw [decide_eq_false h1, decide_eq_false h2, decide_eq_false h3]
    by_cases h4 : x.kind = 1
    · rw [decide_eq_false (show ¬ (x.kind ≠ 1) from fun h => h h4)]
      by_cases h5 : x.b.length = x.size.toNat
      · rw [decide_eq_true h5]
        by_cases h6 : x.b.length % 8 = 0
        · rw [decide_eq_true h6, sized_iff.2 ⟨by omega, by omega, by omega, fun _ => ⟨h5, by omega⟩⟩]; rfl
        · rw [decide_eq_false h6, sized_no (fun h => h6 (by have := (h.2.2.2 h4).2; omega))]; rfl
      · rw [decide_eq_false h5, sized_no (fun h => h5 (h.2.2.2 h4).1)]; rfl
    · rw [decide_eq_true h4, sized_iff.2 ⟨by omega, by omega, by omega, fun h => absurd h h4⟩]; rfl
  exact key
section
variable {x : Rl} {b e : Nat} {l : List Rl} {k : Nat}
theorem getD_name {B : Nat} (h : ∀ y ∈ l, y.nm.length < B) (k : Nat) (hB : 0 < B := by decide) : (l.getD k Rl.zero).nm.length < B := by
  rcases Nat.lt_or_ge k l.length with hk | hk
  · rw [show l.getD k Rl.zero = l[k] by simp [List.getD, hk]]; exact h _ (List.getElem_mem hk)
  · rw [show l.getD k Rl.zero = Rl.zero by simp [List.getD, Nat.not_lt.2 hk]]; exact hB
theorem off_nat (h : decide (x.off > 8192) = false) : x.off.toNat ≤ 8192 := by
  have := of_decide_eq_false h
  rw [gt_iff_lt, UInt32.lt_iff_toNat_lt] at this
  exact Nat.le_of_not_lt this
theorem end_nat {n : Nat} {v : UInt32} (hv : v.toNat = n) (hn : n ≤ 4) (h : x.off.toNat ≤ 8192) : (x.off + v).toNat = x.off.toNat + n := by
  rw [UInt32.toNat_add, hv, Nat.mod_eq_of_lt (by omega)]
theorem end_U {v : UInt32} (hw : widthN x.kind = v.toNat) (h : decide (x.off > 8192) = false) : x.off + v = UInt32.ofNat (endOf x) := by
  have h1 := off_nat h
  have h4 := width_le x.kind
  apply UInt32.toNat_inj.1
  rw [end_nat hw.symm h4 h1, UInt32.toNat_ofNat', endOf, Nat.mod_eq_of_lt (by omega)]
theorem over_U {v : UInt32} (hw : widthN x.kind = v.toNat) (h : decide (x.off > 8192) = false) (hb : b < 2 ^ 32) : decide (x.off + v > UInt32.ofNat b) = decide (endOf x > b) := by
  have h1 := off_nat h
  have h4 := width_le x.kind
  refine decide_eq_decide.2 ?_
  rw [gt_iff_lt, UInt32.lt_iff_toNat_lt, UInt32.toNat_ofNat', Nat.mod_eq_of_lt hb, end_nat hw.symm h4 h1]
  exact Iff.rfl
theorem relOk_yes {v : UInt32} (hw : widthN x.kind = v.toNat) (h1 : nameB x.nm = true) (h2 : decide (x.off < UInt32.ofNat e) = false) (h3 : decide (x.off > 8192) = false) (h4 : decide (x.off + v > UInt32.ofNat b) = false) (he : e < 2 ^ 32) (hb : b < 2 ^ 32) (h0 : v.toNat ≠ 0 := by decide) : relOk b e x = true := by
  rw [over_U hw h3 hb] at h4
  rw [u32_lt_nat he] at h2
  have := of_decide_eq_false h2; have := of_decide_eq_false h4
  exact relOk_iff.2 ⟨by rw [hw]; exact h0, h1, off_nat h3, by omega, by omega⟩
theorem relOk_k (h : widthN x.kind = 0) : relOk b e x = false := relOk_no (fun h1 => h1.1 h)
theorem relOk_n (h : nameB x.nm = false) : relOk b e x = false := relOk_no (fun h1 => by rw [h] at h1; cases h1.2.1)
theorem relOk_e (h : decide (x.off < UInt32.ofNat e) = true) (he : e < 2 ^ 32) : relOk b e x = false := by
  rw [u32_lt_nat he] at h
  have := of_decide_eq_true h
  exact relOk_no (fun h1 => by have := h1.2.2.2.1; omega)
theorem relOk_b (h : decide (x.off > 8192) = true) : relOk b e x = false := by
  have := of_decide_eq_true h
  rw [gt_iff_lt, UInt32.lt_iff_toNat_lt] at this
  exact relOk_no (fun h1 => by have h2 := h1.2.2.1; have : 8192 < x.off.toNat := this; omega)
theorem relOk_o {v : UInt32} (hw : widthN x.kind = v.toNat) (h : decide (x.off > 8192) = false) (h1 : decide (x.off + v > UInt32.ofNat b) = true) (hb : b < 2 ^ 32) : relOk b e x = false := by
  rw [over_U hw h hb] at h1
  have := of_decide_eq_true h1
  exact relOk_no (fun h1 => by have := h1.2.2.2.2; omega)
theorem relOk_r (h0 : decide (widthN x.kind = 0) = false) (h1 : nameB x.nm = true) (h2 : decide (x.off > 8192) = false) (h3 : decide (x.off.toNat < e) = false) (h4 : decide (x.off.toNat + widthN x.kind > b) = false) : relOk b e x = true := by
  have := of_decide_eq_false h3; have := of_decide_eq_false h4
  exact relOk_iff.2 ⟨of_decide_eq_false h0, h1, off_nat h2, by omega, by unfold endOf; omega⟩
theorem relOk_eN (h : decide (x.off.toNat < e) = true) : relOk b e x = false := by
  have := of_decide_eq_true h
  exact relOk_no (fun h1 => by have := h1.2.2.2.1; omega)
theorem relOk_oN (h : decide (x.off.toNat + widthN x.kind > b) = true) : relOk b e x = false := by
  have := of_decide_eq_true h
  exact relOk_no (fun h1 => by have := h1.2.2.2.2; unfold endOf at this; omega)
end
section
variable {x : Sy} {k : Nat}
/-- A symbol, as the program asks. -/
def symU (x : Sy) : Bool := bif nameB x.nm then bif decide (x.bind ≤ 2) then bif decide (x.kind ≥ 1) then bif decide (x.kind ≤ 3) then bif sizedB x then bif relsB x.b.length x.rl then bif decide (x.nt.length ≤ 8) then !(x.nt.any fun n => !noteB n) else false else false else false else false else false else false else false
theorem sym_eq : symB x = symU x := by
  rw [symU, any_not_all, symB, Bool.not_not]
  cases nameB x.nm <;> cases decide (x.bind ≤ 2) <;> cases decide (x.kind ≥ 1) <;> cases decide (x.kind ≤ 3) <;> cases sizedB x <;> cases relsB x.b.length x.rl <;> cases decide (x.nt.length ≤ 8) <;> simp
/-- As the document asks. -/
def symR (x : Sy) : Bool := bif nameB x.nm then bif decide (x.bind > 2) then false else bif decide (x.kind < 1) then false else bif decide (x.kind > 3) then false else bif decide (x.size < 1) then false else bif decide (x.size > 8192) then false else bif decide (x.b.length > x.size.toNat) then false else
  bif (decide (x.kind = 1)) && (decide (x.b.length ≠ x.size.toNat) || decide (x.size % 8 ≠ 0)) then false else bif x.nt.all noteB then bif relsB x.b.length x.rl then decide (x.nt.length ≤ 8) else false else false else false
theorem all_yes {α : Type} {p : α → Bool} {l : List α} {d : α} (h : ∀ j, j < l.length → p (l.getD j d) = true) : l.all p = true := by
  rw [List.all_eq_true]
  intro y hy
  obtain ⟨j, hj, rfl⟩ := List.getElem_of_mem hy
  have h1 := h j hj
  rwa [show l.getD j d = l[j] by simp [List.getD, hj]] at h1
theorem symB_note (hk : k < x.nt.length) (h : noteB (x.nt.getD k Nt.zero) = false) : symB x = false := by
  refine symB_no fun h1 => ?_
  have h2 := List.all_eq_true.1 h1.2.2.2.2.2.2.2 x.nt[k] (List.getElem_mem hk)
  rw [show x.nt.getD k Nt.zero = x.nt[k] by simp [List.getD, hk]] at h
  rw [h] at h2; cases h2
theorem sizedR : sizedB x = (bif decide (x.size < 1) then false else bif decide (x.size > 8192) then false else bif decide (x.b.length > x.size.toNat) then false else
    !((decide (x.kind = 1)) && (decide (x.b.length ≠ x.size.toNat) || decide (x.size % 8 ≠ 0)))) := by
  have e1 : decide (x.size < 1) = decide (x.size.toNat < 1) := decide_eq_decide.2 (by rw [UInt32.lt_iff_toNat_lt]; rfl)
  have e2 : decide (x.size > 8192) = decide (x.size.toNat > 8192) := decide_eq_decide.2 (by rw [gt_iff_lt, UInt32.lt_iff_toNat_lt]; rfl)
  have e5 : decide (x.size % 8 ≠ 0) = decide (x.size.toNat % 8 ≠ 0) := decide_eq_decide.2 (by rw [ne_eq, ← UInt32.toNat_inj, UInt32.toNat_mod]; rfl)
  rw [e1, e2, e5]
  by_cases h1 : x.size.toNat < 1
  · rw [sized_no (by omega), decide_eq_true h1]; rfl
  by_cases h2 : x.size.toNat > 8192
  · rw [sized_no (by omega), decide_eq_false h1, decide_eq_true h2]; rfl
  by_cases h3 : x.b.length > x.size.toNat
  · rw [sized_no (by omega), decide_eq_false h1, decide_eq_false h2, decide_eq_true h3]; rfl
  rw [decide_eq_false h1, decide_eq_false h2, decide_eq_false h3]
  by_cases h4 : x.kind = 1
  · rw [decide_eq_true h4]
    by_cases h5 : x.b.length = x.size.toNat
    · by_cases h6 : x.size.toNat % 8 = 0
      · rw [decide_eq_false (show ¬ (x.b.length ≠ x.size.toNat) from fun h => h h5), decide_eq_false (show ¬ (x.size.toNat % 8 ≠ 0) from fun h => h h6), sized_iff.2 ⟨by omega, by omega, by omega, fun _ => ⟨h5, h6⟩⟩]; rfl
      · rw [decide_eq_true h6, sized_no (fun h => h6 (h.2.2.2 h4).2)]; simp
    · rw [decide_eq_true h5, sized_no (fun h => h5 (h.2.2.2 h4).1)]; simp
  · rw [decide_eq_false h4, sized_iff.2 ⟨by omega, by omega, by omega, fun h => absurd h h4⟩]; rfl
theorem symR_eq : symB x = symR x := by
  have f1 : decide (x.bind > 2) = !decide (x.bind ≤ 2) := by rw [← decide_not]; exact decide_eq_decide.2 (by rw [gt_iff_lt, UInt8.not_le])
  have f2 : decide (x.kind < 1) = !decide (x.kind ≥ 1) := by rw [← decide_not]; exact decide_eq_decide.2 (by rw [ge_iff_le, UInt8.not_le])
  have f3 : decide (x.kind > 3) = !decide (x.kind ≤ 3) := by rw [← decide_not]; exact decide_eq_decide.2 (by rw [gt_iff_lt, UInt8.not_le])
  rw [symR, f1, f2, f3, symB, sizedR]
  cases nameB x.nm <;> cases decide (x.bind ≤ 2) <;> cases decide (x.kind ≥ 1) <;> cases decide (x.kind ≤ 3) <;> try rfl
  cases decide (x.size < 1) <;> try rfl
  cases decide (x.size > 8192) <;> try rfl
  cases decide (x.b.length > x.size.toNat) <;> try rfl
  cases ((decide (x.kind = 1)) && (decide (x.b.length ≠ x.size.toNat) || decide (x.size % 8 ≠ 0))) <;> try rfl
  cases x.nt.all noteB <;> cases relsB x.b.length x.rl <;> cases decide (x.nt.length ≤ 8) <;> rfl
end
end Go.Spec
/-! from SpecInsn -/
/- What the instructions' functions say, in plain Lean. -/
namespace Go.Spec
open Go.Owl

def getTo (s : List UInt8) : Nat → UInt32
  | 0 => 0
  | k + 1 => getTo s k ||| shlU32 (UInt32.ofNat (s.getD k 0).toNat) (8 * k)
def getV (s : List UInt8) : UInt32 := if s.length < 1 ∨ 4 < s.length then 0 else getTo s s.length

end Go.Spec
/-! from LawInsn -/
/- Plain laws of the instructions' bytes. -/
namespace Go.Spec
open Go.Owl

end Go.Spec
/-! from SpecRef4 -/
/- What the reference of layer 4 says, in plain Lean, and that it says the same. -/
namespace Go.Spec
open Go.Owl

end Go.Spec
/-! from SpecSha -/
/- SHA-256 in plain Lean. -/
namespace Go.Spec
open Go.Owl
def rot (x : UInt32) (n : Nat) : UInt32 := shrU32 x n ||| shlU32 x (32 - n)
structure St where
  a : UInt32
  b : UInt32
  c : UInt32
  d : UInt32
  e : UInt32
  f : UInt32
  g : UInt32
  h : UInt32
/-- Four bytes, the highest first. -/
def be4 (b : List UInt8) (t : Nat) : UInt32 := ((shlU32 (UInt32.ofNat (b.getD (4 * t) 0).toNat) 24 ||| shlU32 (UInt32.ofNat (b.getD (4 * t + 1) 0).toNat) 16) ||| shlU32 (UInt32.ofNat (b.getD (4 * t + 2) 0).toNat) 8) ||| UInt32.ofNat (b.getD (4 * t + 3) 0).toNat
def mix (w : List UInt32) (t : Nat) : UInt32 :=
  ((w.getD (t - 16) 0 + ((rot (w.getD (t - 15) 0) 7 ^^^ rot (w.getD (t - 15) 0) 18) ^^^ shrU32 (w.getD (t - 15) 0) 3)) + w.getD (t - 7) 0) + ((rot (w.getD (t - 2) 0) 17 ^^^ rot (w.getD (t - 2) 0) 19) ^^^ shrU32 (w.getD (t - 2) 0) 10)
/-- The first k numbers W of a block. -/
def wl (b : List UInt8) : Nat → List UInt32
  | 0 => []
  | k + 1 => wl b k ++ [if k < 16 then be4 b k else mix (wl b k) k]
def keyL : List UInt32 := [
  0x428a2f98, 0x71374491, 0xb5c0fbcf, 0xe9b5dba5, 0x3956c25b, 0x59f111f1, 0x923f82a4, 0xab1c5ed5,
  0xd807aa98, 0x12835b01, 0x243185be, 0x550c7dc3, 0x72be5d74, 0x80deb1fe, 0x9bdc06a7, 0xc19bf174,
  0xe49b69c1, 0xefbe4786, 0x0fc19dc6, 0x240ca1cc, 0x2de92c6f, 0x4a7484aa, 0x5cb0a9dc, 0x76f988da,
  0x983e5152, 0xa831c66d, 0xb00327c8, 0xbf597fc7, 0xc6e00bf3, 0xd5a79147, 0x06ca6351, 0x14292967,
  0x27b70a85, 0x2e1b2138, 0x4d2c6dfc, 0x53380d13, 0x650a7354, 0x766a0abb, 0x81c2c92e, 0x92722c85,
  0xa2bfe8a1, 0xa81a664b, 0xc24b8b70, 0xc76c51a3, 0xd192e819, 0xd6990624, 0xf40e3585, 0x106aa070,
  0x19a4c116, 0x1e376c08, 0x2748774c, 0x34b0bcb5, 0x391c0cb3, 0x4ed8aa4a, 0x5b9cca4f, 0x682e6ff3,
  0x748f82ee, 0x78a5636f, 0x84c87814, 0x8cc70208, 0x90befffa, 0xa4506ceb, 0xbef9a3f7, 0xc67178f2]
def firstS : St := ⟨0x6a09e667, 0xbb67ae85, 0x3c6ef372, 0xa54ff53a, 0x510e527f, 0x9b05688c, 0x1f83d9ab, 0x5be0cd19⟩
def t1of (v : St) (k w : UInt32) : UInt32 := (((v.h + ((rot v.e 6 ^^^ rot v.e 11) ^^^ rot v.e 25)) + ((v.e &&& v.f) ^^^ (v.g &&& ~~~v.e))) + k) + w
def t2of (v : St) : UInt32 := ((rot v.a 2 ^^^ rot v.a 13) ^^^ rot v.a 22) + (((v.a &&& v.b) ^^^ (v.a &&& v.c)) ^^^ (v.b &&& v.c))
def stepS (v : St) (k w : UInt32) : St := ⟨t1of v k w + t2of v, v.a, v.b, v.c, v.d + t1of v k w, v.e, v.f, v.g⟩
def rounds (h : St) (w : List UInt32) : Nat → St
  | 0 => h
  | t + 1 => stepS (rounds h w t) (keyL.getD t 0) (w.getD t 0)
def addS (v h : St) : St := ⟨v.a + h.a, v.b + h.b, v.c + h.c, v.d + h.d, v.e + h.e, v.f + h.f, v.g + h.g, v.h + h.h⟩
def blockS (h : St) (b : List UInt8) : St := addS (rounds h (wl b 64) 64) h
def hb (x : UInt32) : List UInt8 := [UInt8.ofNat (shrU32 x 24).toNat, UInt8.ofNat (shrU32 x 16).toNat, UInt8.ofNat (shrU32 x 8).toNat, UInt8.ofNat x.toNat]
end Go.Spec
/-! from SpecHash -/
/- A hash by the text that was written to it. -/
namespace Go.Spec
open Go.Owl
/-- j blocks of d, and what is left. -/
def brest (d : List UInt8) : Nat → List UInt8
  | 0 => d
  | j + 1 => (brest d j).drop 64
def bst (h : St) (d : List UInt8) : Nat → St
  | 0 => h
  | j + 1 => blockS (bst h d j) ((brest d j).take 64)
def hst (all : List UInt8) : St := bst firstS all (all.length / 64)
def hrest (all : List UInt8) : List UInt8 := brest all (all.length / 64)
/-- All that was written when k texts are. -/
def acc (all : List UInt8) (ls : List (List UInt8)) : Nat → List UInt8
  | 0 => all
  | k + 1 => acc all ls k ++ ls.getD k []
end Go.Spec
/-! from LawSha -/
/- Texts, some of a list at a time. -/
namespace Go.Spec
end Go.Spec
/-! from SpecPack -/
/- Numbers, texts, lists as bytes, and readers of them, in plain Lean. -/
namespace Go.Spec
open Go.Owl
structure Rd where
  s : List UInt8
  at_ : Nat
  f : Nat
  h : at_ ≤ s.length
def Rd.rest (r : Rd) : List UInt8 := r.s.drop r.at_
def Rd.bad (r : Rd) (e : Nat) : Rd := ⟨r.s, r.at_, e, r.h⟩
def Rd.on (r : Rd) (k : Nat) (hk : ¬ k > r.s.length - r.at_) : Rd := ⟨r.s, r.at_ + k, r.f, by have := r.h; omega⟩
/-- The next n bytes, of a reader that is not spoilt. -/
def rawR (r : Rd) (n : Nat) : (List UInt8 × Nat) × Rd := if h : n > r.s.length - r.at_ then (([], 6), r.bad 6) else ((r.rest.take n, 0), r.on n h)
def takeR (r : Rd) (n : Int) : (List UInt8 × Nat) × Rd := if r.f ≠ 0 then (([], r.f), r) else if n < 0 then (([], 2), r.bad 2) else rawR r n.toNat
def numR (r : Rd) (n : Int) : (UInt32 × Nat) × Rd :=
  if r.f ≠ 0 then ((0, r.f), r) else if n < 1 ∨ n > 4 then ((0, 2), r.bad 2) else if (rawR r n.toNat).1.2 ≠ 0 then ((0, (rawR r n.toNat).1.2), (rawR r n.toNat).2) else ((getV (rawR r n.toNat).1.1, 0), (rawR r n.toNat).2)
def textR (r : Rd) : (List UInt8 × Nat) × Rd :=
  if (numR r 2).1.2 ≠ 0 then (([], (numR r 2).1.2), (numR r 2).2)
  else if (rawR (numR r 2).2 (numR r 2).1.1.toNat).1.2 ≠ 0 then ((rawR (numR r 2).2 (numR r 2).1.1.toNat).1, ⟨r.s, r.at_, (rawR (numR r 2).2 (numR r 2).1.1.toNat).2.f, r.h⟩)
  else rawR (numR r 2).2 (numR r 2).1.1.toNat
/-- k texts; the first error. -/
def txR (r : Rd) : Nat → Rd
  | 0 => r
  | k + 1 => (textR (txR r k)).2
def txL (r : Rd) : Nat → List (List UInt8)
  | 0 => []
  | k + 1 => txL r k ++ [(textR (txR r k)).1.1]
/-- The first of n texts that fails. -/
def txBad (r : Rd) : Nat → Option Nat
  | 0 => none
  | k + 1 => match txBad r k with
    | some j => some j
    | none => if (textR (txR r k)).1.2 ≠ 0 then some k else none
def textsR (r : Rd) : (List (List UInt8) × Nat) × Rd :=
  if (numR r 2).1.2 ≠ 0 then (([], (numR r 2).1.2), (numR r 2).2)
  else if (numR r 2).1.1 > 4096 then (([], 7), r.bad 7)
  else match txBad (numR r 2).2 (numR r 2).1.1.toNat with
    | some j => (([], (textR (txR (numR r 2).2 j)).1.2), ⟨r.s, r.at_, (textR (txR (numR r 2).2 j)).2.f, r.h⟩)
    | none => ((txL (numR r 2).2 (numR r 2).1.1.toNat, 0), txR (numR r 2).2 (numR r 2).1.1.toNat)
theorem rawR_1 {r : Rd} {n : Nat} (h : n > r.s.length - r.at_) : rawR r n = (([], 6), r.bad 6) := by unfold rawR; rw [dif_pos h]
theorem rawR_2 {r : Rd} {n : Nat} (h : ¬ n > r.s.length - r.at_) : rawR r n = ((r.rest.take n, 0), r.on n h) := by unfold rawR; rw [dif_neg h]
def Like (a b : Rd) : Prop := a.rest = b.rest ∧ a.f = b.f
theorem Like.left {a b : Rd} (h : Like a b) : a.s.length - a.at_ = b.s.length - b.at_ := by
  have := congrArg List.length h.1
  rwa [Rd.rest, Rd.rest, List.length_drop, List.length_drop] at this
theorem Like.bad {a b : Rd} (h : Like a b) (e : Nat) : Like (a.bad e) (b.bad e) := ⟨h.1, rfl⟩
theorem Like.raw {a b : Rd} (h : Like a b) (n : Nat) : (rawR a n).1 = (rawR b n).1 ∧ Like (rawR a n).2 (rawR b n).2 := by
  by_cases hn : n > a.s.length - a.at_
  · rw [rawR_1 hn, rawR_1 (by rw [← h.left]; exact hn)]
    exact ⟨rfl, h.bad 6⟩
  · rw [rawR_2 hn, rawR_2 (by rw [← h.left]; exact hn)]
    refine ⟨by rw [h.1], ?_, h.2⟩
    have := congrArg (List.drop n) h.1
    rwa [Rd.rest, Rd.rest, List.drop_drop, List.drop_drop] at this
theorem Like.take {a b : Rd} (h : Like a b) (n : Int) : (takeR a n).1 = (takeR b n).1 ∧ Like (takeR a n).2 (takeR b n).2 := by
  unfold takeR
  rw [h.2]
  split
  · exact ⟨rfl, h⟩
  · split
    · exact ⟨rfl, h.bad 2⟩
    · exact h.raw _
theorem Like.num {a b : Rd} (h : Like a b) (n : Int) : (numR a n).1 = (numR b n).1 ∧ Like (numR a n).2 (numR b n).2 := by
  unfold numR
  rw [h.2, (h.raw _).1]
  split
  · exact ⟨rfl, h⟩
  · split
    · exact ⟨rfl, h.bad 2⟩
    · split
      · exact ⟨rfl, (h.raw _).2⟩
      · exact ⟨rfl, (h.raw _).2⟩
theorem Like.text {a b : Rd} (h : Like a b) : (textR a).1 = (textR b).1 ∧ Like (textR a).2 (textR b).2 := by
  have h1 := h.num 2
  have h2 := h1.2.raw (numR b 2).1.1.toNat
  unfold textR
  rw [h1.1, h2.1]
  split
  · exact ⟨rfl, h1.2⟩
  · split
    · exact ⟨rfl, h.1, h2.2.2⟩
    · exact h2
theorem Like.tx {a b : Rd} (h : Like a b) : ∀ k, txL a k = txL b k ∧ Like (txR a k) (txR b k)
  | 0 => ⟨rfl, h⟩
  | k + 1 => by
    have ih := h.tx k
    have h1 := ih.2.text
    exact ⟨by rw [txL, txL, ih.1, h1.1], h1.2⟩
theorem Like.txBad {a b : Rd} (h : Like a b) : ∀ k, Spec.txBad a k = Spec.txBad b k
  | 0 => rfl
  | k + 1 => by rw [Spec.txBad, Spec.txBad, h.txBad k, ((h.tx k).2.text).1]
theorem Like.texts {a b : Rd} (h : Like a b) : (textsR a).1 = (textsR b).1 ∧ Like (textsR a).2 (textsR b).2 := by
  have h1 := h.num 2
  unfold textsR
  rw [h1.1, h1.2.txBad]
  split
  · exact ⟨rfl, h1.2⟩
  · split
    · exact ⟨rfl, h.bad 7⟩
    · split
      · rename_i j _
        have h3 := ((h1.2.tx j).2.text)
        exact ⟨by rw [h3.1], h.1, h3.2.2⟩
      · exact ⟨by rw [(h1.2.tx _).1], (h1.2.tx _).2⟩
structure Stp where
  d : Int
  n : Int
def Stp.zero : Stp := ⟨0, 0⟩
end Go.Spec
/-! from SpecRel -/
/- Symbols' bytes, with addresses in their places. Plain Lean. -/
namespace Go.Spec
open Go.Owl
section
variable {b s : List UInt8} {off k : Nat} {c : UInt8}
end
section
variable {b : List UInt8} {l : List Rl} {ads : List UInt32} {k n : Nat} {x : Sy}
end
def placeV (v : Value) (r : Rl) : Value := cutV3 v r.off.toNat (endOf r) (endOf r) 1
theorem Arr.place {w : World} {v : Value} {n : Nat} {l : List UInt8} {r : Rl} (hA : Arr w v 1 n (l.map vU8)) (h : endOf r ≤ n) : Arr w (placeV v r) 1 (widthN r.kind) (((l.drop r.off.toNat).take (widthN r.kind)).map vU8) := by
  have h1 := hA.cut3M (a := r.off.toNat) (b := endOf r) (c := endOf r) (by unfold endOf; omega) (Nat.le_refl _) h
  rwa [show endOf r - r.off.toNat = widthN r.kind by unfold endOf; omega] at h1
theorem Sub.place {w : World} {v : Value} {n : Nat} {xs : List Value} {r : Rl} (hA : Arr w v 1 n xs) (h : endOf r ≤ n) : Sub (placeV v r) v r.off.toNat (widthN r.kind) := by
  have h1 := Sub.cut3 hA (a := r.off.toNat) (b := endOf r) (c := endOf r) (by unfold endOf; omega) (Nat.le_refl _) h
  rwa [show endOf r - r.off.toNat = widthN r.kind by unfold endOf; omega] at h1
section
variable {k : UInt8} {v : UInt32} {r : Rl} {l : List UInt8}
end
section
variable {x : Sy} {ads : List UInt32} {s : List UInt8} {k : Nat}
end
end Go.Spec
/-! from SpecRel2 -/
/- Symbols' bytes, as the document has it. Plain Lean. -/
namespace Go.Spec
open Go.Owl
section
variable {x : Sy} {k j m : Nat} {s : List UInt8} {r : Rl} {v : UInt32} {ads : List UInt32}
end
def sameY (a b : Sy) : Bool := decide (a.nm = b.nm) && decide (a.bind = b.bind) && decide (a.kind = b.kind) && decide (a.size = b.size) && decide (a.b = b.b) && decide (a.rl = b.rl) && decide (a.nt = b.nt)
theorem sameY_iff {a b : Sy} : sameY a b = true ↔ a.nm = b.nm ∧ a.bind = b.bind ∧ a.kind = b.kind ∧ a.size = b.size ∧ a.b = b.b ∧ a.rl = b.rl ∧ a.nt = b.nt := by
  simp only [sameY, Bool.and_eq_true, decide_eq_true_eq, and_assoc]
theorem sameY_no {a b : Sy} (h : ¬ (a.nm = b.nm ∧ a.bind = b.bind ∧ a.kind = b.kind ∧ a.size = b.size ∧ a.b = b.b ∧ a.rl = b.rl ∧ a.nt = b.nt)) : sameY a b = false := by
  rw [Bool.eq_false_iff]; exact fun h1 => h (sameY_iff.1 h1)
theorem sameY_bare {a b : Sy} (h : a.bare = b.bare) : sameY a b = true := by
  cases a; cases b
  simp only [Sy.bare, Sy.mk.injEq] at h
  exact sameY_iff.2 ⟨h.1, h.2.1, h.2.2.1, h.2.2.2.1, h.2.2.2.2.1, h.2.2.2.2.2.2.1, h.2.2.2.2.2.2.2.2⟩
theorem ext_getD {α : Type} {d : α} {a b : List α} (hl : a.length = b.length) (h : ∀ j, j < a.length → a.getD j d = b.getD j d) : a = b := by
  refine List.ext_getElem hl fun i h2 h3 => ?_
  have := h i h2
  simpa [List.getD, h2, h3] using this
theorem rl_eq (a b : Rl) : (decide (a.off = b.off) && (decide (a.kind = b.kind) && (decide (a.nm = b.nm) && decide (a.add = b.add)))) = decide (a = b) := by
  rw [← Bool.decide_and, ← Bool.decide_and, ← Bool.decide_and]
  refine decide_eq_decide.2 ?_
  cases a; cases b; simp
theorem nt_eq (a b : Nt) : (decide (a.kind = b.kind) && (decide (a.n = b.n) && decide (a.m = b.m))) = decide (a = b) := by
  rw [← Bool.decide_and, ← Bool.decide_and]
  refine decide_eq_decide.2 ?_
  cases a; cases b; simp
def nameSum (l : List Rl) : Nat → Nat
  | 0 => 0
  | j + 1 => nameSum l j + (l.getD j Rl.zero).nm.length / 64
def syN (x : Sy) : Nat := x.rl.length / 4 + x.nt.length / 4 + x.b.length / 64 + x.nm.length / 16
def sySum (l : List Sy) : Nat → Nat
  | 0 => 0
  | k + 1 => sySum l k + syN (l.getD k Sy.zero) + nameSum (l.getD k Sy.zero).rl (min (l.getD k Sy.zero).rl.length 1100)
def obSum (l : List Ob) : Nat → Nat
  | 0 => 0
  | i + 1 => obSum l i + (l.getD i Ob.zero).sy.length + sySum (l.getD i Ob.zero).sy (min (l.getD i Ob.zero).sy.length 200)
def lg08 (l : List Ob) : Bool := decide (l.length > 20) || decide (obSum l (min l.length 40) > 2000)
end Go.Spec
/-! from SpecRel3 -/
/- Copies of symbols: what is new hangs on what is new. -/
namespace Go.Owl
section
variable {S : List Nat} {w0 w : World} {L : List Ent} {i : Nat}
end
end Go.Owl
namespace Go.Spec
open Go.Owl
section
variable {S : List Nat} {w0 w : World} {L : List Ent} {a b d : Nat}
theorem sy_one {X : Sy} (h1 : X.rv.oneCell' = true) (h2 : X.nv.oneCell' = true) : ∀ c ∈ List.flatMap syc [X], c.oneCell' = true := by
  intro c hc
  rw [List.flatMap_cons, List.flatMap_nil, List.append_nil] at hc
  simp only [syc, List.mem_cons, List.not_mem_nil, or_false] at hc
  rcases hc with rfl | rfl | rfl | rfl | rfl | rfl | rfl
  · rfl
  · rfl
  · rfl
  · rfl
  · rfl
  · exact h1
  · exact h2
/-- A symbol whose slices are rows. -/
theorem own_sy (X : Sy) {n1 n2 : Nat} (H : Own S w0 w L) (ha : L[a]? = some (Ent.ar X.rv 4 n1 (X.rl.flatMap rlc))) (hb : L[b]? = some (Ent.ar X.nv 3 n2 (X.nt.flatMap ntc))) : Own S w0 w (L ++ [Ent.dp SyD X]) :=
  H.join ha hb (fun h k => SyD_mk (Arr.lenF h (fun _ => rfl) (by decide)) (Arr.lenF k (fun _ => rfl) (by decide))) (fun b hb => List.mem_append.1 hb)
theorem sy_fresh {X : Sy} {m : List Sy} {s : Nat} (h : ∀ b ∈ SyD.list.ft m, s ≤ b) (h1 : ∀ b ∈ footA X.rv (X.rl.flatMap rlc), s ≤ b) (h2 : ∀ b ∈ footA X.nv (X.nt.flatMap ntc), s ≤ b) : ∀ b ∈ SyD.list.ft (m ++ [X]), s ≤ b := by
  intro b hb
  have hb' : b ∈ (m ++ [X]).flatMap SyD.ft := hb
  rw [List.flatMap_append, List.mem_append] at hb'
  rcases hb' with k | k
  · exact h b k
  · rw [List.flatMap_cons, List.flatMap_nil, List.append_nil] at k
    rcases List.mem_append.1 k with k | k
    · exact h1 b k
    · exact h2 b k
theorem bare_snoc {l m : List Sy} {k : Nat} {X : Sy} (hk : k < l.length) (h : m.map Sy.bare = (l.take k).map Sy.bare) (hx : X.bare = (l.getD k Sy.zero).bare) : (m ++ [X]).map Sy.bare = (l.take (k + 1)).map Sy.bare := by
  rw [List.map_append, h, List.take_add_one, List.map_append, List.map_singleton, hx]
  congr 1
  rw [List.getElem?_eq_getElem hk, Option.toList_some, List.map_singleton]
  rw [show l.getD k Sy.zero = l[k] by simp [List.getD, hk]]
def Fit (x : Sy) : Prop := x.nm.length < 2 ^ 48 ∧ x.b.length < 2 ^ 48 ∧ x.rl.length < 2 ^ 48 ∧ x.nt.length < 2 ^ 48 ∧ ∀ y ∈ x.rl, y.nm.length < 2 ^ 48
theorem fit_zero : Fit Sy.zero := ⟨by decide, by decide, by decide, by decide, fun y hy => by cases hy⟩
theorem fit_getD {l : List Sy} (h : ∀ x ∈ l, Fit x) (k : Nat) : Fit (l.getD k Sy.zero) := by
  rcases Nat.lt_or_ge k l.length with hk | hk
  · rw [show l.getD k Sy.zero = l[k] by simp [List.getD, hk]]; exact h _ (List.getElem_mem hk)
  · rw [show l.getD k Sy.zero = Sy.zero by simp [List.getD, Nat.not_lt.2 hk]]; exact fit_zero
theorem nameSum_le {l : List Rl} (h : ∀ y ∈ l, y.nm.length < 2 ^ 48) : ∀ j, nameSum l j ≤ j * 2 ^ 42
  | 0 => by simp [nameSum]
  | j + 1 => by
    have h1 := nameSum_le h j
    have h2 := getD_name h j
    rw [nameSum, Nat.add_mul]; omega
theorem syN_le {x : Sy} (h : Fit x) : syN x ≤ 2 ^ 48 := by
  obtain ⟨h1, h2, h3, h4, _⟩ := h
  unfold syN; omega
theorem nameSum_le1 {x : Sy} (h : Fit x) {j : Nat} (hj : j ≤ 1100) : nameSum x.rl j ≤ 2 ^ 53 := by
  have := nameSum_le h.2.2.2.2 j
  have : j * 2 ^ 42 ≤ 1100 * 2 ^ 42 := Nat.mul_le_mul_right _ hj
  omega
theorem sySum_le {l : List Sy} (h : ∀ x ∈ l, Fit x) : ∀ k, sySum l k ≤ k * 2 ^ 54
  | 0 => by simp [sySum]
  | k + 1 => by
    have h1 := sySum_le h k
    have hf := fit_getD h k
    have h2 := syN_le hf
    have h3 := nameSum_le1 hf (j := min (l.getD k Sy.zero).rl.length 1100) (by omega)
    rw [sySum, Nat.add_mul]; omega
def FitO (o : Ob) : Prop := o.sy.length < 2 ^ 48 ∧ ∀ x ∈ o.sy, Fit x
theorem fitO_getD {l : List Ob} (h : ∀ x ∈ l, FitO x) (k : Nat) : FitO (l.getD k Ob.zero) := by
  rcases Nat.lt_or_ge k l.length with hk | hk
  · rw [show l.getD k Ob.zero = l[k] by simp [List.getD, hk]]; exact h _ (List.getElem_mem hk)
  · rw [show l.getD k Ob.zero = Ob.zero by simp [List.getD, Nat.not_lt.2 hk]]; exact ⟨by decide, fun x hx => by cases hx⟩
theorem obSum_le {l : List Ob} (h : ∀ x ∈ l, FitO x) : ∀ i, i ≤ 40 → obSum l i ≤ i * (2 ^ 48 + 200 * 2 ^ 54)
  | 0, _ => by simp [obSum]
  | i + 1, hi => by
    have h1 := obSum_le h i (by omega)
    have hf := fitO_getD h i
    have h2 := sySum_le hf.2 (min (l.getD i Ob.zero).sy.length 200)
    have h3 : min (l.getD i Ob.zero).sy.length 200 * 2 ^ 54 ≤ 200 * 2 ^ 54 := Nat.mul_le_mul_right _ (by omega)
    have h4 := hf.1
    rw [obSum, Nat.add_mul]; omega
end
end Go.Spec
/-! from SpecSort -/
/- Lists that are sorted by swaps. Plain Lean. -/
namespace Go.Spec
structure LtOK {α : Type} (lt : α → α → Bool) : Prop where
  irr : ∀ a, lt a a = false
  asym : ∀ a b, lt a b = true → lt b a = false
  neg : ∀ a b c, lt a b = false → lt b c = false → lt a c = false
def swapL {α : Type} (d : α) (l : List α) (i j : Nat) : List α := (l.set i (l.getD j d)).set j (l.getD i d)
inductive Sw {α : Type} (d : α) (a b : Nat) : List α → List α → Prop
  | refl (l : List α) : Sw d a b l l
  | step {l l' : List α} {i j : Nat} : Sw d a b l l' → a ≤ i → i < b → a ≤ j → j < b → Sw d a b l (swapL d l' i j)
def SortS {α : Type} (lt : α → α → Bool) (d : α) (a b : Nat) (l : List α) : Prop := ∀ p q, a ≤ p → p < q → q < b → lt (l.getD q d) (l.getD p d) = false
section
variable {α : Type} {d : α} {l l' l'' : List α} {a b i j k : Nat} {lt : α → α → Bool}
theorem swapL_len : (swapL d l i j).length = l.length := by simp [swapL]
theorem getD_set (l : List α) (i k : Nat) (x : α) (hi : i < l.length) : (l.set i x).getD k d = if k = i then x else l.getD k d := by
  simp only [List.getD, List.getElem?_set]
  by_cases h : i = k
  · subst h; simp [hi]
  · rw [if_neg h, if_neg (fun e => h e.symm)]
theorem swap_get (hi : i < l.length) (hj : j < l.length) (k : Nat) : (swapL d l i j).getD k d = if k = j then l.getD i d else if k = i then l.getD j d else l.getD k d := by
  rw [swapL, getD_set _ _ _ _ (by simpa using hj), getD_set _ _ _ _ hi]
theorem ext_get (h : l.length = l'.length) (hg : ∀ k, l.getD k d = l'.getD k d) : l = l' := by
  apply List.ext_getElem h
  intro k h1 h2
  have := hg k
  simpa [List.getD, h1, h2] using this
theorem swap_swap (hi : i < l.length) (hj : j < l.length) : swapL d (swapL d l i j) i j = l := by
  apply ext_get (d := d) (by rw [swapL_len, swapL_len])
  intro k
  have hi' : i < (swapL d l i j).length := by rw [swapL_len]; exact hi
  have hj' : j < (swapL d l i j).length := by rw [swapL_len]; exact hj
  rw [swap_get hi' hj', swap_get hi hj, swap_get hi hj, swap_get hi hj]
  by_cases h1 : k = j
  · subst h1
    by_cases h2 : i = k
    · subst h2; simp
    · simp [h2]
  · by_cases h2 : k = i
    · subst h2; simp [h1]
    · simp [h1, h2]
theorem Sw.len (h : Sw d a b l l') : l'.length = l.length := by
  induction h with
  | refl => rfl
  | step _ _ _ _ _ ih => rw [swapL_len, ih]
theorem Sw.trans (h1 : Sw d a b l l') (h2 : Sw d a b l' l'') : Sw d a b l l'' := by
  induction h2 with
  | refl => exact h1
  | step _ h1 h2 h3 h4 ih => exact Sw.step ih h1 h2 h3 h4
theorem Sw.mono {a' b' : Nat} (ha : a' ≤ a) (hb : b ≤ b') (h : Sw d a b l l') : Sw d a' b' l l' := by
  induction h with
  | refl => exact .refl _
  | step _ h1 h2 h3 h4 ih => exact Sw.step ih (by omega) (by omega) (by omega) (by omega)
theorem Sw.one (hi : a ≤ i) (hi2 : i < b) (hj : a ≤ j) (hj2 : j < b) : Sw d a b l (swapL d l i j) := Sw.step (.refl _) hi hi2 hj hj2
theorem Sw.symm (hb : b ≤ l.length) (h : Sw d a b l l') : Sw d a b l' l := by
  induction h with
  | refl => exact .refl _
  | step h h1 h2 h3 h4 ih =>
    rename_i l1 i j
    have hl := h.len
    have h5 : Sw d a b (swapL d l1 i j) (swapL d (swapL d l1 i j) i j) := Sw.one h1 h2 h3 h4
    rw [swap_swap (by omega) (by omega)] at h5
    exact h5.trans ih
theorem Sw.out (hb : b ≤ l.length) (h : Sw d a b l l') (hk : k < a ∨ b ≤ k) : l'.getD k d = l.getD k d := by
  induction h with
  | refl => rfl
  | step h h1 h2 h3 h4 ih =>
    have hl := h.len
    rw [swap_get (by omega) (by omega), if_neg (by omega), if_neg (by omega), ih]
theorem Sw.all {p : α → Prop} (hb : b ≤ l.length) (h : Sw d a b l l') (hp : ∀ k, a ≤ k → k < b → p (l.getD k d)) : ∀ k, a ≤ k → k < b → p (l'.getD k d) := by
  induction h with
  | refl => exact hp
  | step h h1 h2 h3 h4 ih =>
    have hl := h.len
    intro k hk1 hk2
    rw [swap_get (by omega) (by omega)]
    split
    · exact ih _ h1 h2
    · split
      · exact ih _ h3 h4
      · exact ih _ hk1 hk2
theorem getDmem (hk : k < l.length) : l.getD k d ∈ l := by
  rw [show l.getD k d = l[k] by simp [List.getD, hk]]; exact List.getElem_mem hk
theorem mem_getD {x : α} (h : x ∈ l) : ∃ k, k < l.length ∧ l.getD k d = x := by
  obtain ⟨k, hk, e⟩ := List.getElem_of_mem h
  exact ⟨k, hk, by simp [List.getD, hk, e]⟩
theorem Sw.sub (hb : b ≤ l.length) (h : Sw d a b l l') : ∀ x, x ∈ l' → x ∈ l := by
  intro x hx
  obtain ⟨k, hk, rfl⟩ := mem_getD (d := d) hx
  rw [h.len] at hk
  by_cases hin : a ≤ k ∧ k < b
  · exact h.all (p := fun y => y ∈ l) hb (fun k h1 h2 => getDmem (by omega)) k hin.1 hin.2
  · rw [h.out hb (by omega)]; exact getDmem hk
theorem Sw.mem (hb : b ≤ l.length) (h : Sw d a b l l') (x : α) : x ∈ l' ↔ x ∈ l :=
  ⟨h.sub hb x, (h.symm hb).sub (by rw [h.len]; exact hb) x⟩
theorem SortS.nil (h : b ≤ a + 1) : SortS lt d a b l := fun p q h1 h2 h3 => by omega
def InsI (lt : α → α → Bool) (d : α) (a i j : Nat) (l : List α) : Prop := ∀ p q, a ≤ p → p < q → q ≤ i → q ≠ j → lt (l.getD q d) (l.getD p d) = false
theorem ins_init (h : SortS lt d a i l) : InsI lt d a i i l := fun p q h1 h2 h3 h4 => h p q h1 h2 (by omega)
theorem ins_done (ok : LtOK lt) (h : InsI lt d a i j l) (hj : j ≤ a ∨ lt (l.getD j d) (l.getD (j - 1) d) = false) (ha : a ≤ j) : SortS lt d a (i + 1) l := by
  intro p q h1 h2 h3
  by_cases hq : q = j
  · subst hq
    rcases hj with hj | hj
    · omega
    · by_cases hp : p = q - 1
      · rw [hp]; exact hj
      · exact ok.neg _ _ _ hj (h p (q - 1) h1 (by omega) (by omega) (by omega))
  · exact h p q h1 h2 (by omega) hq
theorem ins_step (ok : LtOK lt) (hi : i < l.length) (h : InsI lt d a i j l) (ha : a < j) (hj : j ≤ i) (hlt : lt (l.getD j d) (l.getD (j - 1) d) = true) : InsI lt d a i (j - 1) (swapL d l j (j - 1)) := by
  intro p q h1 h2 h3 h4
  have hs := swap_get (d := d) (l := l) (i := j) (j := j - 1) (by omega) (by omega)
  rw [hs p, hs q, if_neg h4]
  by_cases hq : q = j
  · subst hq
    rw [if_pos rfl]
    by_cases hp : p = q - 1
    · rw [if_pos hp]; exact ok.asym _ _ hlt
    · rw [if_neg hp, if_neg (by omega)]; exact h p (q - 1) h1 (by omega) (by omega) (by omega)
  · rw [if_neg hq]
    by_cases hp : p = j - 1
    · rw [if_pos hp]; exact h j q (by omega) (by omega) h3 hq
    · rw [if_neg hp]
      by_cases hp2 : p = j
      · rw [if_pos hp2]; exact h (j - 1) q (by omega) (by omega) h3 hq
      · rw [if_neg hp2]; exact h p q h1 h2 h3 hq
end
end Go.Spec
/-! from SpecSort2 -/
/- Orders of one-cell elements. Plain Lean. -/
namespace Go.Spec
def ltU16 (a b : UInt16) : Bool := decide (a < b)
theorem ltU16OK : LtOK ltU16 := by
  have h : ∀ a b : UInt16, ltU16 a b = decide (a.toNat < b.toNat) := fun a b => decide_eq_decide.2 UInt16.lt_iff_toNat_lt
  refine ⟨fun a => ?_, fun a b h1 => ?_, fun a b c h1 h2 => ?_⟩
  · rw [h]; exact decide_eq_false (by omega)
  · rw [h] at h1 ⊢; have := of_decide_eq_true h1; exact decide_eq_false (by omega)
  · rw [h] at h1 h2 ⊢; have := of_decide_eq_false h1; have := of_decide_eq_false h2; exact decide_eq_false (by omega)
end Go.Spec
/-! from SpecSort3 -/
/- Heaps, partitions, and what a sort asks of them. Plain Lean. -/
namespace Go.Spec
open Go.Owl
section
variable {α : Type} {d : α} {l l1 l2 l' : List α} {a b i j k f lo hi x c n mid : Nat} {lt : α → α → Bool} {pv : α}
def HeapX (lt : α → α → Bool) (d : α) (lo hi f x : Nat) (l : List α) : Prop := ∀ r c, lo ≤ r → r ≠ x → c < hi → (c = 2 * r + 1 ∨ c = 2 * r + 2) → lt (l.getD (f + r) d) (l.getD (f + c) d) = false
def HeapG (lt : α → α → Bool) (d : α) (lo hi f x : Nat) (l : List α) : Prop := ∀ y c, lo ≤ y → (x = 2 * y + 1 ∨ x = 2 * y + 2) → c < hi → (c = 2 * x + 1 ∨ c = 2 * x + 2) → lt (l.getD (f + y) d) (l.getD (f + c) d) = false
def HeapA (lt : α → α → Bool) (d : α) (lo hi f : Nat) (l : List α) : Prop := ∀ r c, lo ≤ r → c < hi → (c = 2 * r + 1 ∨ c = 2 * r + 2) → lt (l.getD (f + r) d) (l.getD (f + c) d) = false
/-- The greater child. -/
def Och (lt : α → α → Bool) (d : α) (hi f x c : Nat) (l : List α) : Prop := c < hi ∧ (c = 2 * x + 1 ∨ c = 2 * x + 2) ∧ ∀ o, o < hi → (o = 2 * x + 1 ∨ o = 2 * x + 2) → lt (l.getD (f + c) d) (l.getD (f + o) d) = false
theorem sift_init (h : HeapA lt d (lo + 1) hi f l) : HeapX lt d lo hi f lo l ∧ HeapG lt d lo hi f lo l :=
  ⟨fun r c h1 h2 h3 h4 => h r c (by omega) h3 h4, fun y c h1 h2 => by omega⟩
theorem sift_leaf (h : HeapX lt d lo hi f x l) (hx : hi ≤ 2 * x + 1) : HeapA lt d lo hi f l := fun r c h1 h2 h3 => by
  by_cases e : r = x
  · subst e; omega
  · exact h r c h1 e h2 h3
theorem och_2 (ok : LtOK lt) (h : 2 * x + 1 + 1 < hi) (hlt : lt (l.getD (f + (2 * x + 1)) d) (l.getD (f + (2 * x + 1) + 1) d) = true) : Och lt d hi f x (2 * x + 1 + 1) l := by
  refine ⟨h, .inr rfl, fun o h1 h2 => ?_⟩
  rcases h2 with rfl | rfl
  · exact ok.asym _ _ hlt
  · exact ok.irr _
theorem och_1 (ok : LtOK lt) (h : 2 * x + 1 < hi) (h2 : ¬ 2 * x + 1 + 1 < hi ∨ lt (l.getD (f + (2 * x + 1)) d) (l.getD (f + (2 * x + 1) + 1) d) = false) : Och lt d hi f x (2 * x + 1) l := by
  refine ⟨h, .inl rfl, fun o h3 h4 => ?_⟩
  rcases h4 with rfl | rfl
  · exact ok.irr _
  · rcases h2 with h2 | h2
    · omega
    · exact h2
theorem sift_stop (ok : LtOK lt) (h : HeapX lt d lo hi f x l) (ho : Och lt d hi f x c l) (hlt : lt (l.getD (f + x) d) (l.getD (f + c) d) = false) : HeapA lt d lo hi f l := fun r o h1 h2 h3 => by
  by_cases e : r = x
  · subst e; exact ok.neg _ _ _ hlt (ho.2.2 o h2 h3)
  · exact h r o h1 e h2 h3
theorem sift_step (ok : LtOK lt) (hf : f + hi ≤ l.length) (h : HeapX lt d lo hi f x l) (hg : HeapG lt d lo hi f x l) (ho : Och lt d hi f x c l) (hx : lo ≤ x) (hlt : lt (l.getD (f + x) d) (l.getD (f + c) d) = true) :
    HeapX lt d lo hi f c (swapL d l (f + x) (f + c)) ∧ HeapG lt d lo hi f c (swapL d l (f + x) (f + c)) := by
  obtain ⟨h1, h2, h3⟩ := ho
  have hs := swap_get (d := d) (l := l) (i := f + x) (j := f + c) (by omega) (by omega)
  constructor
  · intro r o q1 q2 q3 q4
    rw [hs, hs, if_neg (by omega)]
    by_cases e : r = x
    · subst e
      rw [if_pos rfl]
      by_cases e2 : o = c
      · subst e2; rw [if_pos rfl]; exact ok.asym _ _ hlt
      · rw [if_neg (by omega), if_neg (by omega)]; exact h3 o q3 q4
    · rw [if_neg (by omega)]
      by_cases e2 : o = c
      · exfalso; omega
      · rw [if_neg (by omega)]
        by_cases e3 : o = x
        · subst e3; rw [if_pos rfl]; exact hg r c q1 q4 h1 h2
        · rw [if_neg (by omega)]; exact h r o q1 e q3 q4
  · intro y o q1 q2 q3 q4
    have e : y = x := by omega
    subst e
    rw [hs, hs, if_neg (by omega), if_pos rfl, if_neg (by omega), if_neg (by omega)]
    exact h c o (by omega) (by omega) q3 q4
theorem heap_max (ok : LtOK lt) (h : HeapA lt d 0 hi f l) : ∀ p, p < hi → lt (l.getD f d) (l.getD (f + p) d) = false := by
  intro p
  induction p using Nat.strongRecOn with
  | _ p ih =>
    intro hp
    by_cases h0 : p = 0
    · subst h0; exact ok.irr _
    · have h1 := h ((p - 1) / 2) p (Nat.zero_le _) hp (by omega)
      exact ok.neg _ _ _ (ih ((p - 1) / 2) (by omega) (by omega)) h1
/-- The second half of a heap sort. -/
def HeapT (lt : α → α → Bool) (d : α) (a n k : Nat) (l : List α) : Prop := HeapA lt d 0 k a l ∧ ∀ p q, p < q → k ≤ q → q < n → lt (l.getD (a + q) d) (l.getD (a + p) d) = false
theorem heapT_init (h : HeapA lt d 0 n a l) : HeapT lt d a n n l := ⟨h, fun p q h1 h2 h3 => by omega⟩
theorem heapT_pre (hn : a + n ≤ l.length) (hk : i < n) (h : HeapT lt d a n (i + 1) l) : HeapA lt d 1 i a (swapL d l a (a + i)) := fun r c h1 h2 h3 => by
  have hs := swap_get (d := d) (l := l) (i := a) (j := a + i) (by omega) (by omega)
  rw [hs, hs, if_neg (by omega), if_neg (by omega), if_neg (by omega), if_neg (by omega)]
  exact h.1 r c (by omega) (by omega) h3
theorem heapT_step (ok : LtOK lt) (hn : a + n ≤ l.length) (hk : i < n) (h : HeapT lt d a n (i + 1) l) (hw : Sw d a (a + i) (swapL d l a (a + i)) l2) (hh : HeapA lt d 0 i a l2) : HeapT lt d a n i l2 := by
  refine ⟨hh, fun p q h1 h2 h3 => ?_⟩
  have hs := swap_get (d := d) (l := l) (i := a) (j := a + i) (by omega) (by omega)
  have hl : (swapL d l a (a + i)).length = l.length := swapL_len
  have hout : ∀ k, a + i ≤ k → l2.getD k d = (swapL d l a (a + i)).getD k d := fun k hk2 => hw.out (by omega) (.inr hk2)
  have hmax := heap_max ok h.1
  have hi2 : l2.getD (a + i) d = l.getD a d := by rw [hout _ (Nat.le_refl _), hs, if_pos rfl]
  by_cases e : q = i
  · subst e
    rw [hi2]
    have := hw.all (p := fun y => lt (l.getD a d) y = false) (by omega) (fun k q1 q2 => by
      rw [hs, if_neg (by omega)]
      split
      · exact hmax q (by omega)
      · have := hmax (k - a) (by omega)
        rw [show a + (k - a) = k by omega] at this; exact this) (a + p) (by omega) (by omega)
    exact this
  · have hq : l2.getD (a + q) d = l.getD (a + q) d := by rw [hout _ (by omega), hs, if_neg (by omega), if_neg (by omega)]
    rw [hq]
    by_cases e2 : p = i
    · subst e2; rw [hi2]
      have := h.2 0 q (by omega) (by omega) h3
      exact this
    · by_cases e3 : p < i
      · exact hw.all (p := fun y => lt (l.getD (a + q) d) y = false) (by omega) (fun k q1 q2 => by
          rw [hs, if_neg (by omega)]
          split
          · exact h.2 i q (by omega) (by omega) h3
          · have := h.2 (k - a) q (by omega) (by omega) h3
            rw [show a + (k - a) = k by omega] at this; exact this) (a + p) (by omega) (by omega)
      · rw [hout _ (by omega), hs, if_neg (by omega), if_neg (by omega)]
        exact h.2 p q h1 (by omega) h3
theorem heapT_end (h : HeapT lt d a n 0 l) (hb : a + n = b) : SortS lt d a b l := fun p q h1 h2 h3 => by
  have := h.2 (p - a) (q - a) (by omega) (by omega) (by omega)
  rw [show a + (q - a) = q by omega, show a + (p - a) = p by omega] at this; exact this
def PartI (lt : α → α → Bool) (d : α) (a b i j : Nat) (l : List α) (pv : α) : Prop :=
  a + 1 ≤ i ∧ i ≤ j + 1 ∧ j + 1 ≤ b ∧ l.getD a d = pv ∧ (∀ k, a + 1 ≤ k → k < i → lt (l.getD k d) pv = true) ∧ (∀ k, j < k → k < b → lt (l.getD k d) pv = false)
def PartP (lt : α → α → Bool) (d : α) (a b mid : Nat) (l : List α) : Prop :=
  a ≤ mid ∧ mid < b ∧ (∀ k, a ≤ k → k < mid → lt (l.getD k d) (l.getD mid d) = true) ∧ (∀ k, mid < k → k < b → lt (l.getD k d) (l.getD mid d) = false)
theorem part_init (h : a < b) (hv : l.getD a d = pv) : PartI lt d a b (a + 1) (b - 1) l pv := ⟨Nat.le_refl _, by omega, by omega, hv, fun k h1 h2 => by omega, fun k h1 h2 => by omega⟩
theorem part_i (h : PartI lt d a b i j l pv) (hij : i ≤ j) (hlt : lt (l.getD i d) (l.getD a d) = true) : PartI lt d a b (i + 1) j l pv := by
  obtain ⟨h1, h2, h3, h4, h5, h6⟩ := h
  rw [h4] at hlt
  refine ⟨by omega, by omega, h3, h4, fun k q1 q2 => ?_, h6⟩
  by_cases e : k = i
  · subst e; exact hlt
  · exact h5 k q1 (by omega)
theorem part_j (h : PartI lt d a b i j l pv) (hij : i ≤ j) (hlt : lt (l.getD j d) (l.getD a d) = false) : PartI lt d a b i (j - 1) l pv := by
  obtain ⟨h1, h2, h3, h4, h5, h6⟩ := h
  rw [h4] at hlt
  refine ⟨h1, by omega, by omega, h4, h5, fun k q1 q2 => ?_⟩
  by_cases e : k = j
  · subst e; exact hlt
  · exact h6 k (by omega) q2
theorem part_swap (hl : b ≤ l.length) (h : PartI lt d a b i j l pv) (hij : i ≤ j) (hi : lt (l.getD i d) (l.getD a d) = false) (hj : lt (l.getD j d) (l.getD a d) = true) : PartI lt d a b (i + 1) (j - 1) (swapL d l i j) pv := by
  obtain ⟨h1, h2, h3, h4, h5, h6⟩ := h
  rw [h4] at hi hj
  have hne : i ≠ j := fun e => by subst e; rw [hi] at hj; cases hj
  have hs := swap_get (d := d) (l := l) (i := i) (j := j) (by omega) (by omega)
  refine ⟨by omega, by omega, by omega, ?_, fun k q1 q2 => ?_, fun k q1 q2 => ?_⟩
  · rw [hs, if_neg (by omega), if_neg (by omega)]; exact h4
  · rw [hs, if_neg (by omega)]
    split
    · exact hj
    · exact h5 k q1 (by omega)
  · rw [hs]
    split
    · exact hi
    · rw [if_neg (by omega)]; exact h6 k (by omega) q2
theorem part_done (hl : b ≤ l.length) (h : PartI lt d a b i j l pv) (hij : j < i) : PartP lt d a b j (swapL d l j a) := by
  obtain ⟨h1, h2, h3, h4, h5, h6⟩ := h
  have hs := swap_get (d := d) (l := l) (i := j) (j := a) (by omega) (by omega)
  have hm : (swapL d l j a).getD j d = pv := by
    rw [hs]
    split
    · rename_i e; rw [e]; exact h4
    · rw [if_pos rfl]; exact h4
  refine ⟨by omega, by omega, fun k q1 q2 => ?_, fun k q1 q2 => ?_⟩
  · rw [hm, hs]
    split
    · exact h5 j (by omega) (by omega)
    · rw [if_neg (by omega)]; exact h5 k (by omega) (by omega)
  · rw [hm, hs, if_neg (by omega), if_neg (by omega)]; exact h6 k q1 q2
def EqI (lt : α → α → Bool) (d : α) (a b i j : Nat) (l : List α) (pv : α) : Prop :=
  a + 1 ≤ i ∧ i ≤ j + 1 ∧ j + 1 ≤ b ∧ l.getD a d = pv ∧ (∀ k, a + 1 ≤ k → k < i → lt pv (l.getD k d) = false) ∧ (∀ k, j < k → k < b → lt pv (l.getD k d) = true)
/-- Those that equal the least one stand first. -/
def EqP (lt : α → α → Bool) (d : α) (a b mid : Nat) (l : List α) (pv : α) : Prop := a + 1 ≤ mid ∧ mid ≤ b ∧ (∀ k, a ≤ k → k < mid → lt pv (l.getD k d) = false)
theorem eq_init (h : a < b) (hv : l.getD a d = pv) : EqI lt d a b (a + 1) (b - 1) l pv := ⟨Nat.le_refl _, by omega, by omega, hv, fun k h1 h2 => by omega, fun k h1 h2 => by omega⟩
theorem eq_i (h : EqI lt d a b i j l pv) (hij : i ≤ j) (hlt : lt (l.getD a d) (l.getD i d) = false) : EqI lt d a b (i + 1) j l pv := by
  obtain ⟨h1, h2, h3, h4, h5, h6⟩ := h
  rw [h4] at hlt
  refine ⟨by omega, by omega, h3, h4, fun k q1 q2 => ?_, h6⟩
  by_cases e : k = i
  · subst e; exact hlt
  · exact h5 k q1 (by omega)
theorem eq_j (h : EqI lt d a b i j l pv) (hij : i ≤ j) (hlt : lt (l.getD a d) (l.getD j d) = true) : EqI lt d a b i (j - 1) l pv := by
  obtain ⟨h1, h2, h3, h4, h5, h6⟩ := h
  rw [h4] at hlt
  refine ⟨h1, by omega, by omega, h4, h5, fun k q1 q2 => ?_⟩
  by_cases e : k = j
  · subst e; exact hlt
  · exact h6 k (by omega) q2
theorem eq_swap (hl : b ≤ l.length) (h : EqI lt d a b i j l pv) (hij : i ≤ j) (hi : lt (l.getD a d) (l.getD i d) = true) (hj : lt (l.getD a d) (l.getD j d) = false) : EqI lt d a b (i + 1) (j - 1) (swapL d l i j) pv := by
  obtain ⟨h1, h2, h3, h4, h5, h6⟩ := h
  rw [h4] at hi hj
  have hne : i ≠ j := fun e => by subst e; rw [hi] at hj; cases hj
  have hs := swap_get (d := d) (l := l) (i := i) (j := j) (by omega) (by omega)
  refine ⟨by omega, by omega, by omega, ?_, fun k q1 q2 => ?_, fun k q1 q2 => ?_⟩
  · rw [hs, if_neg (by omega), if_neg (by omega)]; exact h4
  · rw [hs, if_neg (by omega)]
    split
    · exact hj
    · exact h5 k q1 (by omega)
  · rw [hs]
    split
    · exact hi
    · rw [if_neg (by omega)]; exact h6 k (by omega) q2
theorem eq_done (ok : LtOK lt) (h : EqI lt d a b i j l pv) (hij : j < i) : EqP lt d a b i l pv := by
  obtain ⟨h1, h2, h3, h4, h5, h6⟩ := h
  refine ⟨h1, by omega, fun k q1 q2 => ?_⟩
  by_cases e : k = a
  · subst e; rw [h4]; exact ok.irr _
  · exact h5 k (by omega) q2
def OutS (lt : α → α → Bool) (d : α) (a b a' b' : Nat) (l : List α) : Prop := ∀ p q, a ≤ p → p < q → q < b → ¬ (a' ≤ p ∧ q < b') → lt (l.getD q d) (l.getD p d) = false
def PreS (lt : α → α → Bool) (d : α) (a b : Nat) (l : List α) : Prop := a = 0 ∨ ∀ x, a ≤ x → x < b → lt (l.getD x d) (l.getD (a - 1) d) = false
variable {a' b' : Nat}
theorem out_init : OutS lt d a b a b l := fun p q h1 h2 h3 h4 => by omega
theorem out_done (h : OutS lt d a b a' b' l) (hs : SortS lt d a' b' l) : SortS lt d a b l := fun p q h1 h2 h3 => by
  by_cases e : a' ≤ p ∧ q < b'
  · exact hs p q e.1 h2 e.2
  · exact h p q h1 h2 h3 e
theorem out_sw (ha : a ≤ a') (hb' : b' ≤ b) (hb : b' ≤ l.length) (h : OutS lt d a b a' b' l) (hw : Sw d a' b' l l') : OutS lt d a b a' b' l' := fun p q h1 h2 h3 h4 => by
  by_cases hp : a' ≤ p ∧ p < b'
  · rw [hw.out (k := q) hb (by omega)]
    exact hw.all (p := fun y => lt (l.getD q d) y = false) hb (fun k q1 q2 => h k q (by omega) (by omega) h3 (by omega)) p hp.1 hp.2
  · rw [hw.out (k := p) hb (by omega)]
    by_cases hq : a' ≤ q ∧ q < b'
    · exact hw.all (p := fun y => lt y (l.getD p d) = false) hb (fun k q1 q2 => h p k h1 (by omega) (by omega) (by omega)) q hq.1 hq.2
    · rw [hw.out (k := q) hb (by omega)]; exact h p q h1 h2 h3 h4
theorem pre_sw (hb : b' ≤ l.length) (h : PreS lt d a' b' l) (hw : Sw d a' b' l l') : PreS lt d a' b' l' := by
  by_cases e : a' = 0
  · exact .inl e
  · refine .inr ?_
    rw [hw.out (k := a' - 1) hb (by omega)]
    exact hw.all (p := fun y => lt y (l.getD (a' - 1) d) = false) hb (fun k q1 q2 => (h.resolve_left e) k q1 q2)
theorem pre_left (h : PreS lt d a b l) (hm : mid ≤ b) : PreS lt d a mid l := h.imp id fun h x h1 h2 => h x h1 (by omega)
theorem pre_right (h : PartP lt d a b mid l) : PreS lt d (mid + 1) b l := .inr fun x h1 h2 => h.2.2.2 x (by omega) h2
theorem part_left (ok : LtOK lt) (hl : b' ≤ l.length) (ha : a ≤ a') (ho : OutS lt d a b a' b' l) (hb' : b' ≤ b) (h : PartP lt d a' b' mid l) (hw : Sw d a' mid l l') (hs : SortS lt d a' mid l') : OutS lt d a b (mid + 1) b' l' ∧ PreS lt d (mid + 1) b' l' := by
  obtain ⟨h1, h2, h3, h4⟩ := h
  have ho' := out_sw ha hb' hl ho (hw.mono (Nat.le_refl _) (by omega))
  have hm : l'.getD mid d = l.getD mid d := hw.out (by omega) (.inr (Nat.le_refl _))
  have h3' := hw.all (p := fun y => lt y (l.getD mid d) = true) (by omega) h3
  have h4' : ∀ k, mid < k → k < b' → lt (l'.getD k d) (l.getD mid d) = false := fun k q1 q2 => by rw [hw.out (by omega) (.inr (by omega))]; exact h4 k q1 q2
  refine ⟨fun p q q1 q2 q3 q4 => ?_, .inr fun x q1 q2 => ?_⟩
  · by_cases e : a' ≤ p ∧ q < b'
    · by_cases e1 : q < mid
      · exact hs p q e.1 q2 e1
      · by_cases e2 : q = mid
        · subst e2; rw [hm]; exact ok.asym _ _ (h3' p e.1 q2)
        · by_cases e3 : p = mid
          · subst e3; rw [hm]; exact h4' q q2 e.2
          · exact ok.neg _ _ _ (h4' q (by omega) e.2) (ok.asym _ _ (h3' p e.1 (by omega)))
    · exact ho' p q q1 q2 q3 e
  · rw [Nat.add_sub_cancel, hm]; exact h4' x (by omega) q2
theorem part_right (ok : LtOK lt) (hl : b' ≤ l.length) (ha : a ≤ a') (ho : OutS lt d a b a' b' l) (hb' : b' ≤ b) (h : PartP lt d a' b' mid l) (hw : Sw d (mid + 1) b' l l') (hs : SortS lt d (mid + 1) b' l') : OutS lt d a b a' mid l' := by
  obtain ⟨h1, h2, h3, h4⟩ := h
  have ho' := out_sw ha hb' hl ho (hw.mono (by omega) (Nat.le_refl _))
  have hm : l'.getD mid d = l.getD mid d := hw.out hl (.inl (by omega))
  have h3' : ∀ k, a' ≤ k → k < mid → lt (l'.getD k d) (l.getD mid d) = true := fun k q1 q2 => by rw [hw.out hl (.inl (by omega))]; exact h3 k q1 q2
  have h4' := hw.all (p := fun y => lt y (l.getD mid d) = false) hl (fun k q1 q2 => h4 k (by omega) q2)
  intro p q q1 q2 q3 q4
  by_cases e : a' ≤ p ∧ q < b'
  · by_cases e1 : mid < p
    · exact hs p q (by omega) q2 e.2
    · by_cases e2 : q = mid
      · subst e2; rw [hm]; exact ok.asym _ _ (h3' p e.1 q2)
      · by_cases e3 : p = mid
        · subst e3; rw [hm]; exact h4' q (by omega) e.2
        · exact ok.neg _ _ _ (h4' q (by omega) e.2) (ok.asym _ _ (h3' p e.1 (by omega)))
  · exact ho' p q q1 q2 q3 e
theorem pre_right_sw (hl : b' ≤ l.length) (h : PreS lt d a' b' l) (hm : a' ≤ mid) (hm2 : mid < b') (hw : Sw d (mid + 1) b' l l') : PreS lt d a' mid l' := by
  by_cases e : a' = 0
  · exact .inl e
  · refine .inr fun x h1 h2 => ?_
    rw [hw.out hl (.inl (by omega)), hw.out hl (.inl (by omega))]
    exact (h.resolve_left e) x h1 (by omega)
theorem eq_left (ok : LtOK lt) (hl : b' ≤ l.length) (ha : a ≤ a') (ho : OutS lt d a b a' b' l) (hb' : b' ≤ b) (hp : PreS lt d a' b' l) (h0 : 0 < a') (hpv : lt (l.getD (a' - 1) d) pv = false) (hw : Sw d a' b' l l') (h : EqP lt d a' b' mid l' pv) : OutS lt d a b mid b' l' ∧ PreS lt d mid b' l' := by
  obtain ⟨h1, h2, h3⟩ := h
  have ho' := out_sw ha hb' hl ho hw
  have hmin := hw.all (p := fun y => lt y pv = false) hl (fun k q1 q2 => ok.neg _ _ _ ((hp.resolve_left (by omega)) k q1 q2) hpv)
  refine ⟨fun p q q1 q2 q3 q4 => ?_, .inr fun x q1 q2 => ok.neg _ _ _ (hmin x (by omega) q2) (h3 (mid - 1) (by omega) (by omega))⟩
  by_cases e : a' ≤ p ∧ q < b'
  · exact ok.neg _ _ _ (hmin q (by omega) e.2) (h3 p e.1 (by omega))
  · exact ho' p q q1 q2 q3 e
theorem swap_fst (ha : i < l.length) (hp : j < l.length) : (swapL d l i j).getD i d = l.getD j d := by
  rw [swap_get ha hp]
  split
  · rename_i e; rw [e]
  · rw [if_pos rfl]
theorem pre_gt (hp : PreS lt d a b l) (haj : a ≤ j) (h1 : 1 ≤ j) (hab : a < b) (hlt : lt (l.getD j d) (l.getD (j - 1) d) = true) : a < j := by
  rcases Nat.lt_or_ge a j with h | h
  · exact h
  · have e : j = a := by omega
    subst e
    rw [hp.resolve_left (by omega) j (Nat.le_refl _) hab] at hlt; cases hlt
theorem sort_snoc (ok : LtOK lt) (h : SortS lt d a i l) (hi : a < i) (hlt : lt (l.getD i d) (l.getD (i - 1) d) = false) : SortS lt d a (i + 1) l := fun p q h1 h2 h3 => by
  by_cases e : q = i
  · subst e
    by_cases e2 : p = q - 1
    · rw [e2]; exact hlt
    · exact ok.neg _ _ _ hlt (h p (q - 1) h1 (by omega) (by omega))
  · exact h p q h1 h2 (by omega)
/-- A sort that goes on where it stands: the elements ahead stay, the one that was out of order goes to its place. -/
theorem sort_swap (hi : i < l.length) (ha : a < i) (h : SortS lt d a i l) : SortS lt d a (i - 1) (swapL d l i (i - 1)) := fun p q h1 h2 h3 => by
  have hs := swap_get (d := d) (l := l) (i := i) (j := i - 1) hi (by omega)
  rw [hs, hs, if_neg (by omega), if_neg (by omega), if_neg (by omega), if_neg (by omega)]
  exact h p q h1 h2 (by omega)
theorem sort_keep (hb : b ≤ l.length) (h : SortS lt d a i l) (hw : Sw d i b l l') : SortS lt d a i l' := fun p q h1 h2 h3 => by
  rw [hw.out hb (.inl (by omega)), hw.out hb (.inl (by omega))]; exact h p q h1 h2 h3
end
def lenN (n : Nat) : Nat := if n = 0 then 0 else Nat.log2 n + 1
theorem lenN_shift {n k : Nat} (h : 2 ^ k ≤ n) : lenN (n / 2 ^ k) + k = lenN n := by
  have hp : 0 < 2 ^ k := Nat.two_pow_pos k
  have h1 : n / 2 ^ k ≠ 0 := by
    have := (Nat.le_div_iff_mul_le hp).2 (by rw [Nat.one_mul]; exact h)
    omega
  have hn : n ≠ 0 := by omega
  rw [lenN, lenN, if_neg h1, if_neg hn]
  have e : Nat.log2 n = Nat.log2 (n / 2 ^ k) + k := by
    rw [Nat.log2_eq_iff hn]
    have h2 := (Nat.log2_eq_iff (k := Nat.log2 (n / 2 ^ k)) h1).1 rfl
    constructor
    · rw [Nat.pow_add]; exact (Nat.le_div_iff_mul_le hp).1 h2.1
    · rw [show Nat.log2 (n / 2 ^ k) + k + 1 = (Nat.log2 (n / 2 ^ k) + 1) + k by omega, Nat.pow_add]; exact (Nat.div_lt_iff_lt_mul hp).1 h2.2
  omega
theorem lenN_pow {n : Nat} (h : 0 < n) : 2 ^ lenN n ≤ 2 * n := by
  rw [lenN, if_neg (by omega), Nat.pow_succ]
  have := (Nat.log2_eq_iff (k := Nat.log2 n) (by omega : n ≠ 0)).1 rfl
  omega
theorem lenN_le {n k : Nat} (h : n < 2 ^ k) : lenN n ≤ k := by
  unfold lenN
  split
  · omega
  · rename_i hn
    have := (Nat.log2_lt hn).2 h
    omega
theorem vN_I {a : Nat} {z : Int} (h : (a : Int) = z) : vN a = vI z := by subst h; rfl
theorem vI_N {a : Nat} {z : Int} (h : z = (a : Int)) : vI z = vN a := by subst h; rfl
theorem brk_lt {y : UInt64} {n : Nat} (h : 0 < n) (hn : n < 2 ^ 61) : (y &&& (shlU64 1 (lenN (UInt64.ofNat n).toNat) - 1)).toNat < 2 * n := by
  have e : (UInt64.ofNat n).toNat = n := by rw [UInt64.toNat_ofNat', Nat.mod_eq_of_lt (by omega)]
  have h1 := lenN_pow h
  have h2 : lenN n ≤ 61 := lenN_le hn
  have h3 : 2 ^ lenN n < 2 ^ 64 := Nat.pow_lt_pow_right (by omega) (by omega)
  have h4 : (shlU64 1 (lenN n)).toNat = 2 ^ lenN n := by
    rw [shlU64, UInt64.toNat_ofNat', Nat.shiftLeft_eq, show (1 : UInt64).toNat = 1 from rfl, Nat.one_mul, Nat.mod_eq_of_lt h3]
  have h5 : 0 < 2 ^ lenN n := Nat.two_pow_pos _
  have h6 : (shlU64 1 (lenN n) - 1).toNat = 2 ^ lenN n - 1 := by
    rw [UInt64.toNat_sub_of_le _ _ (by rw [UInt64.le_iff_toNat_le, h4]; exact h5), h4]; rfl
  rw [e, UInt64.toNat_and, h6]
  have := Nat.and_le_right (n := y.toNat) (m := 2 ^ lenN n - 1)
  omega
end Go.Spec
/-! from SpecSort5 -/
/- Rising lists without twins: what a sort and a compaction give. Plain Lean. -/
namespace Go.Spec
section
variable {α : Type} {lt : α → α → Bool} {d : α} {l l' : List α} {n k : Nat}
/-- Each element is below all behind it. -/
def Rise (lt : α → α → Bool) (l : List α) : Prop := l.Pairwise fun a b => lt a b = true
structure LtTot {α : Type} (lt : α → α → Bool) : Prop extends LtOK lt where
  tri : ∀ a b, lt a b = false → lt b a = false → a = b
theorem Rise.ext (irr : ∀ a, lt a a = false) (asym : ∀ a b, lt a b = true → lt b a = false) : ∀ {l l' : List α}, Rise lt l → Rise lt l' → (∀ x, x ∈ l ↔ x ∈ l') → l = l'
  | [], [], _, _, _ => rfl
  | [], b :: l', _, _, h => by have := (h b).2 (by simp); simp at this
  | a :: l, [], _, _, h => by have := (h a).1 (by simp); simp at this
  | a :: l, b :: l', h1, h2, h => by
    have h1' := List.pairwise_cons.1 h1
    have h2' := List.pairwise_cons.1 h2
    have e : a = b := by
      rcases List.mem_cons.1 ((h a).1 (by simp)) with e | e
      · exact e
      · rcases List.mem_cons.1 ((h b).2 (by simp)) with e2 | e2
        · exact e2.symm
        · have q1 := h2'.1 a e
          have q2 := h1'.1 b e2
          rw [asym _ _ q1] at q2; cases q2
    subst e
    have : l = l' := Rise.ext irr asym h1'.2 h2'.2 fun x => by
      constructor
      · intro hx
        rcases List.mem_cons.1 ((h x).1 (List.mem_cons_of_mem _ hx)) with e | e
        · subst e; have := h1'.1 x hx; rw [irr] at this; cases this
        · exact e
      · intro hx
        rcases List.mem_cons.1 ((h x).2 (List.mem_cons_of_mem _ hx)) with e | e
        · subst e; have := h2'.1 x hx; rw [irr] at this; cases this
        · exact e
    rw [this]
theorem LtTot.trans (ok : LtTot lt) {a b c : α} (h1 : lt a b = true) (h2 : lt b c = true) : lt a c = true := by
  cases h : lt a c with
  | true => rfl
  | false =>
    have := ok.neg _ _ _ h (ok.asym _ _ h2)
    rw [h1] at this; cases this
theorem take_snocD (hk : k < l.length) : l.take (k + 1) = l.take k ++ [l.getD k d] := by
  rw [List.take_add_one, List.getD_eq_getElem?_getD]
  simp [List.getElem?_eq_getElem hk]
theorem getDrop (l : List α) (k i : Nat) : (l.drop k).getD i d = l.getD (k + i) d := by simp [List.getD, List.getElem?_drop]
theorem take_set_snoc {x : α} (h : k < l.length) : l.take k ++ [x] = (l.set k x).take (k + 1) := by
  rw [take_snocD (d := x) (by rw [List.length_set]; exact h), List.take_set_of_le (Nat.le_refl _), getD_set _ _ _ _ h, if_pos rfl]
/-- The first n elements, without those that are as the one ahead. -/
def cpt [DecidableEq α] (d : α) (l : List α) : Nat → List α
  | 0 => []
  | n + 1 => if n ≠ 0 ∧ l.getD n d = l.getD (n - 1) d then cpt d l n else cpt d l n ++ [l.getD n d]
variable [DecidableEq α]
theorem cpt_same (h0 : 0 < k) (h : l.getD k d = l.getD (k - 1) d) : cpt d l (k + 1) = cpt d l k := if_pos ⟨by omega, h⟩
theorem cpt_other (h : k = 0 ∨ l.getD k d ≠ l.getD (k - 1) d) : cpt d l (k + 1) = cpt d l k ++ [l.getD k d] := if_neg fun q => h.elim (fun e => q.1 e) (fun e => e q.2)
theorem cpt_take (hk : k ≤ l.length) (h : ∀ j, 0 < j → j < k → l.getD j d ≠ l.getD (j - 1) d) : cpt d l k = l.take k := by
  induction k with
  | zero => simp [cpt]
  | succ k ih =>
    rw [cpt_other (by rcases Nat.eq_zero_or_pos k with e | e; exact .inl e; exact .inr (h k e (by omega))), ih (by omega) (fun j h1 h2 => h j h1 (by omega)), take_snocD (d := d) (by omega)]
theorem cpt_short (h : n < 2) (hn : l.length = n) : cpt d l n = l := by
  match l, hn with
  | [], hn => subst hn; rfl
  | [a], hn => subst hn; rfl
  | a :: b :: l, hn => simp at hn; omega
theorem cpt_cut {l1 r : List α} {j : Nat} (hj : j ≤ l1.length) (hc : cpt d l n = l1.take j) : (l1.take j ++ r).take j = cpt d l n := by
  rw [hc, List.take_append_of_le_length (by rw [List.length_take]; omega), List.take_take, Nat.min_self]
theorem cpt_mem (x : α) : ∀ n, x ∈ cpt d l n ↔ ∃ j, j < n ∧ l.getD j d = x
  | 0 => by simp [cpt]
  | n + 1 => by
    rw [cpt]
    split
    · rename_i h
      rw [cpt_mem x n]
      constructor
      · rintro ⟨j, h1, h2⟩; exact ⟨j, by omega, h2⟩
      · rintro ⟨j, h1, h2⟩
        rcases Nat.lt_or_ge j n with h3 | h3
        · exact ⟨j, h3, h2⟩
        · obtain rfl : j = n := by omega
          exact ⟨j - 1, by omega, by rw [← h.2]; exact h2⟩
    · rw [List.mem_append, cpt_mem x n, List.mem_singleton]
      constructor
      · rintro (⟨j, h1, h2⟩ | rfl)
        · exact ⟨j, by omega, h2⟩
        · exact ⟨n, by omega, rfl⟩
      · rintro ⟨j, h1, h2⟩
        rcases Nat.lt_or_ge j n with h3 | h3
        · exact .inl ⟨j, h3, h2⟩
        · obtain rfl : j = n := by omega
          exact .inr h2.symm
theorem cpt_rise (ok : LtTot lt) (hs : SortS lt d 0 n l) : ∀ k, k ≤ n → Rise lt (cpt d l k)
  | 0, _ => List.Pairwise.nil
  | k + 1, hk => by
    have ih := cpt_rise ok hs k (by omega)
    rw [cpt]; split
    · exact ih
    · rename_i h
      refine List.pairwise_append.2 ⟨ih, List.pairwise_singleton _ _, fun x hx y hy => ?_⟩
      rw [List.mem_singleton] at hy; subst hy
      obtain ⟨j, h1, rfl⟩ := (cpt_mem x k).1 hx
      cases e : lt (l.getD j d) (l.getD k d) with
      | true => rfl
      | false =>
        exfalso; apply h
        have h2 : lt (l.getD (k - 1) d) (l.getD j d) = false := by
          by_cases e2 : j = k - 1
          · rw [e2]; exact ok.irr _
          · exact hs j (k - 1) (by omega) (by omega) (by omega)
        exact ⟨by omega, ok.tri _ _ (hs (k - 1) k (by omega) (by omega) (by omega)) (ok.neg _ _ _ h2 e)⟩
/-- What a sort and a compaction of a list give. -/
theorem cpt_all (ok : LtTot lt) (hn : l'.length = n) (hn2 : l.length = n) (hw : Sw d 0 n l l') (hs : SortS lt d 0 n l') : Rise lt (cpt d l' n) ∧ ∀ x, x ∈ cpt d l' n ↔ x ∈ l := by
  refine ⟨cpt_rise ok hs n (Nat.le_refl _), fun x => ?_⟩
  rw [cpt_mem, ← hw.mem (by omega)]
  constructor
  · rintro ⟨j, h1, rfl⟩; exact getDmem (by omega)
  · intro hx
    obtain ⟨k, h1, h2⟩ := mem_getD (d := d) hx
    exact ⟨k, by omega, h2⟩
end
section
variable {α : Type} {lt : α → α → Bool} {d : α} {k : Nat}
/-- Those below x; then x, once; then those above. -/
def put1 [DecidableEq α] (lt : α → α → Bool) (x : α) : List α → List α
  | [] => [x]
  | y :: l => if lt y x = true then y :: put1 lt x l else if y = x then y :: l else x :: y :: l
variable [DecidableEq α]
theorem put1_mem {x z : α} : ∀ {l : List α}, z ∈ put1 lt x l ↔ z = x ∨ z ∈ l
  | [] => by simp [put1]
  | y :: l => by
    rw [put1]
    split
    · rw [List.mem_cons, put1_mem, List.mem_cons]
      constructor
      · rintro (h | h | h); exact .inr (.inl h); exact .inl h; exact .inr (.inr h)
      · rintro (h | h | h); exact .inr (.inl h); exact .inl h; exact .inr (.inr h)
    · split
      · rename_i h; subst h
        rw [List.mem_cons]
        constructor
        · rintro (h | h); exact .inl h; exact .inr (.inr h)
        · rintro (h | h | h); exact .inl h; exact .inl h; exact .inr h
      · rw [List.mem_cons]
theorem put1_rise (ok : LtTot lt) {x : α} : ∀ {l : List α}, Rise lt l → Rise lt (put1 lt x l)
  | [], _ => List.pairwise_singleton _ _
  | y :: l, h => by
    have h' := List.pairwise_cons.1 h
    rw [put1]
    split
    · rename_i h1
      refine List.pairwise_cons.2 ⟨fun z hz => ?_, put1_rise ok h'.2⟩
      rcases put1_mem.1 hz with rfl | hz
      · exact h1
      · exact h'.1 z hz
    · rename_i h1
      split
      · exact h
      · rename_i h2
        have h3 : lt x y = true := by
          cases e : lt x y with
          | true => rfl
          | false => exact absurd (ok.tri _ _ (by simpa using h1) e) h2
        refine List.pairwise_cons.2 ⟨fun z hz => ?_, h⟩
        rcases List.mem_cons.1 hz with rfl | hz
        · exact h3
        · exact ok.trans h3 (h'.1 z hz)
end
theorem ltU16Tot : LtTot ltU16 where
  toLtOK := ltU16OK
  tri a b h1 h2 := by
    have h : ∀ a b : UInt16, ltU16 a b = decide (a.toNat < b.toNat) := fun a b => decide_eq_decide.2 UInt16.lt_iff_toNat_lt
    rw [h] at h1 h2
    have := of_decide_eq_false h1; have := of_decide_eq_false h2
    exact UInt16.toNat_inj.1 (by omega)
end Go.Spec
