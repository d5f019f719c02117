/- Arguments of any depth, opened; the row's proof with the form's own reach. -/
import Derived.Test.YtpnghdalnghpcaaOwl14
import Derived.Test.YtpnghdalnghpcaaOwlRow
import Derived.HandedShaped
import Derived.Deep.Slices
namespace Go.Owl
open Go.ChangeShapes Go.WideShapes Go.RowKit

/-- What is read at a type has this form. -/
def Opens (P : Program) (t : TypeId) {α : Type} (f : α → List Value) (ok : World → α → Prop) : Prop :=
  ∀ (H : Type) (enc : TypeId × Value → H) (w : World) (base : Nat) (spare : Nat → Bool) (held : Bool) (fuel : Nat) (cs : List Value) (x : DataW H × List MemPlace),
    DataW.trod enc P w base spare held fuel t cs = some x → (∀ k ∈ x.1.weights P t, k ≤ reachBytes) → ∃ a, cs = f a ∧ ok w a

section
variable {P : Program} {t e : TypeId}

theorem Opens.map {α β : Type} {f : α → List Value} {ok : World → α → Prop} {f' : β → List Value} {ok' : World → β → Prop} (h : Opens P t f ok) (g : α → β) (hf : ∀ a, f a = f' (g a)) (hk : ∀ w a, ok w a → ok' w (g a)) : Opens P t f' ok' := by
  intro H enc w base spare held fuel cs x hx hw
  obtain ⟨a, h1, h2⟩ := h H enc w base spare held fuel cs x hx hw
  exact ⟨g a, h1.trans (hf a), hk w a h2⟩

theorem u16_of {n : Int} (h : (Lit.int .u16 n).wf = true) : ∃ a : UInt16, Value.int .u16 n = vU16 a := by
  simp [Lit.wf, IntKind.min, IntKind.max, IntKind.signed, IntKind.bits] at h
  exact ⟨UInt16.ofNat n.toNat, by unfold vU16; congr 1; simp; omega⟩
theorem opens_u8 (ht : P.underlying t = some (.int .u8)) : Opens P t (fun a : UInt8 => [vU8 a]) (fun _ _ => True) := by
  intro H enc w base spare held fuel cs x hx _
  obtain ⟨n, rfl, -, hw⟩ := DataW.trod_int ht hx
  obtain ⟨a, ha⟩ := u8_of hw
  exact ⟨a, by rw [ha], trivial⟩
theorem opens_u16 (ht : P.underlying t = some (.int .u16)) : Opens P t (fun a : UInt16 => [vU16 a]) (fun _ _ => True) := by
  intro H enc w base spare held fuel cs x hx _
  obtain ⟨n, rfl, -, hw⟩ := DataW.trod_int ht hx
  obtain ⟨a, ha⟩ := u16_of hw
  exact ⟨a, by rw [ha], trivial⟩
theorem opens_u32 (ht : P.underlying t = some (.int .u32)) : Opens P t (fun a : UInt32 => [vU32 a]) (fun _ _ => True) := by
  intro H enc w base spare held fuel cs x hx _
  obtain ⟨n, rfl, -, hw⟩ := DataW.trod_int ht hx
  obtain ⟨a, ha⟩ := u32_of hw
  exact ⟨a, by rw [ha], trivial⟩
theorem opens_i64 (ht : P.underlying t = some (.int .i64)) : Opens P t (fun a : Int => [vI a]) (fun _ a => -9223372036854775808 ≤ a ∧ a ≤ 9223372036854775807) := by
  intro H enc w base spare held fuel cs x hx _
  obtain ⟨n, rfl, -, hw⟩ := DataW.trod_int ht hx
  refine ⟨n, rfl, ?_⟩
  simp [Lit.wf, IntKind.min, IntKind.max, IntKind.signed, IntKind.bits] at hw
  omega
theorem opens_bool (ht : P.underlying t = some .bool) : Opens P t (fun a : Bool => [.bool a]) (fun _ _ => True) := by
  intro H enc w base spare held fuel cs x hx _
  obtain ⟨b, rfl, -⟩ := DataW.trod_bool ht hx
  exact ⟨b, rfl, trivial⟩
theorem opens_str (ht : P.underlying t = some .string) : Opens P t (fun l : List UInt8 => [str l]) (fun _ l => l.length ≤ 140737488351232) := by
  intro H enc w base spare held fuel cs x hx hw
  obtain ⟨s, rfl, rfl, -⟩ := DataW.trod_string ht hx
  refine ⟨s.data.toList, by simp [str], ?_⟩
  have := hw s.data.toList.length (by simp [DataW.weights])
  simpa [reachBytes] using this

theorem weightsAll_mem {H : Type} {d : DataW H} : ∀ {l : List (DataW H)}, d ∈ l → ∀ k ∈ d.weights P e, k ∈ DataW.weightsAll P e l
  | [], h, _, _ => by cases h
  | y :: l, h, k, hk => by
    rw [DataW.weightsAll, List.mem_append]
    rcases List.mem_cons.1 h with rfl | h
    · exact .inl hk
    · exact .inr (weightsAll_mem h k hk)

theorem cells?_get {w : World} {base : Nat} {a : Addr} {n : Nat} {cs : List Value} (h : w.cells? base a n = some cs) : cs.length = n ∧ ∀ i, i < n → w.cell? (a.add i) = cs[i]? := by
  unfold World.cells? at h
  split at h
  · refine ⟨by simpa using mapM_some_length h, fun i hi => ?_⟩
    have := mapM_some_get h i i (by simp [hi])
    exact this
  · cases h

theorem flatMap_len {β : Type} {g : β → List Value} {sz : Nat} (hg : ∀ b, (g b).length = sz) : ∀ l : List β, (l.flatMap g).length = l.length * sz
  | [] => by simp
  | b :: l => by rw [List.flatMap_cons, List.length_append, hg, flatMap_len hg l, List.length_cons, Nat.add_mul]; omega
theorem flatMap_at {β : Type} {g : β → List Value} {sz : Nat} (hg : ∀ b, (g b).length = sz) : ∀ (l : List β) (i k : Nat) (b : β), l[i]? = some b → k < sz → (l.flatMap g)[i * sz + k]? = (g b)[k]?
  | [], i, k, b, h, _ => by simp at h
  | c :: l, 0, k, b, h, hk => by
    simp at h; subst h
    rw [List.flatMap_cons, Nat.zero_mul, Nat.zero_add, List.getElem?_append_left (by rw [hg]; exact hk)]
  | c :: l, i + 1, k, b, h, hk => by
    rw [List.flatMap_cons, List.getElem?_append_right (by rw [hg, Nat.add_mul]; omega), hg, show (i + 1) * sz + k - sz = i * sz + k by rw [Nat.add_mul]; omega]
    exact flatMap_at hg l i k b (by simpa using h) hk

theorem spot_none {w : World} {a : Addr} {v : Value} (h : w.cell? a = some v) : a.spot = none := by
  unfold World.cell? at h
  split at h
  · split at h
    · cases h
    · rename_i hs; simpa using hs
  · cases h
theorem add0 (a : Addr) : a.add 0 = a := rfl

theorem opens_slice {β : Type} {g : β → List Value} {okE : World → β → Prop} {sz by_ : Nat} (ht : P.underlying t = some (.slice e)) (hE : Opens P e g okE) (hg : ∀ b, (g b).length = sz) (hsz : P.cellsOf e = sz) (hs0 : 0 < sz) (hby : P.bytesOf e = by_) :
    Opens P t (fun p : Value × List β => [p.1]) (fun w p => Arr w p.1 sz p.2.length (p.2.flatMap g) ∧ (∀ b ∈ p.2, okE w b) ∧ p.2.length * by_ ≤ 140737488351232) := by
  intro H enc w base spare held fuel cs x hx hw
  rcases Deep.open_slice ht hx with ⟨rfl, rfl⟩ | ⟨a, len, cap, m, n, D, Pl, rfl, hb, hl, hm, hmm, rfl, hel⟩
  · exact ⟨(.slice none 0 0, []), rfl, Arr.nil w sz, (fun b hb => by cases hb), (by simp)⟩
  · have hlm : len ≤ m := by rw [hmm]; split <;> omega
    simp only [DataW.weights, ht] at hw
    have hwl := hw _ (List.mem_cons_self ..)
    have each : ∀ i, i < len → ∃ b, okE w b ∧ ∀ k, k < sz → w.cell? ((a.add (i * sz)).add k) = (g b)[k]? := fun i hi => by
      obtain ⟨cs', h1, h2⟩ := hel i (by omega)
      have hwi : ∀ k ∈ (D i).weights P e, k ≤ reachBytes := fun k hk => hw k (List.mem_cons_of_mem _ (List.mem_append.2 (.inl (weightsAll_mem (List.mem_map.2 ⟨i, List.mem_range.2 hi, rfl⟩) k hk))))
      obtain ⟨b, hb1, hb2⟩ := hE H enc w base spare held n cs' _ h2 hwi
      subst hb1
      obtain ⟨hl1, h3⟩ := cells?_get h1
      rw [hsz] at h3
      exact ⟨b, hb2, fun k hk => by rw [← h3 k hk]⟩
    let F : Fin len → β := fun i => Classical.choose (each i.1 i.2)
    have hF : ∀ i : Fin len, okE w (F i) ∧ ∀ k, k < sz → w.cell? ((a.add (i.1 * sz)).add k) = (g (F i))[k]? := fun i => Classical.choose_spec (each i.1 i.2)
    have hspot : len ≠ 0 → a.spot = none := fun h0 => by
      have h1 := (hF ⟨0, by omega⟩).2 0 hs0
      simp only [Nat.zero_mul, add0] at h1
      exact spot_none (h1.trans (List.getElem?_eq_getElem (by rw [hg]; exact hs0)))
    refine ⟨(.slice (some a) len cap, List.ofFn F), rfl, ⟨⟨some a, cap, by simp, by simpa using hl, hm, (fun h => by cases h), fun h0 ad had => ?_⟩, ?_, ?_⟩, ?_, ?_⟩
    · injection had with had; subst had; exact hspot (by simpa using h0)
    · exact flatMap_len hg _
    · intro j hj
      rw [flatMap_len hg, List.length_ofFn] at hj
      have hi : j / sz < len := Nat.div_lt_of_lt_mul (by rw [Nat.mul_comm]; exact hj)
      have hk : j % sz < sz := Nat.mod_lt _ hs0
      have ej : j = j / sz * sz + j % sz := by rw [Nat.mul_comm]; exact (Nat.div_add_mod j sz).symm
      have h1 := (hF ⟨j / sz, hi⟩).2 (j % sz) hk
      have h2 := flatMap_at hg (List.ofFn F) (j / sz) (j % sz) (F ⟨j / sz, hi⟩) (by rw [List.getElem?_ofFn]; simp [hi]) hk
      rw [← ej] at h2
      rw [h2, ← h1]
      have hs := hspot (fun e0 => by rw [e0] at hi; exact absurd hi (Nat.not_lt_zero _))
      obtain ⟨b, o, s⟩ := a
      simp at hs; subst hs
      rw [Addr.add_at, Addr.add_at, Nat.add_assoc, ← ej]
      rfl
    · intro b hb
      rw [List.mem_ofFn] at hb
      obtain ⟨i, rfl⟩ := hb
      exact (hF i).1
    · have h5 : len * by_ ≤ reachBytes := by
        refine Nat.le_trans ?_ hwl
        rw [hby]; refine Nat.mul_le_mul_right _ ?_
        simp
      simpa [reachBytes] using h5

/-- Elements of one cell. -/
theorem flatMap_one {β : Type} (g : β → Value) : ∀ l : List β, l.flatMap (fun b => [g b]) = l.map g
  | [] => rfl
  | b :: l => by rw [List.flatMap_cons, flatMap_one g l]; rfl
theorem opens_slice1 {β : Type} {g : β → Value} {okE : World → β → Prop} {by_ : Nat} (ht : P.underlying t = some (.slice e)) (hE : Opens P e (fun b => [g b]) okE) (hsz : P.cellsOf e = 1) (hby : P.bytesOf e = by_) :
    Opens P t (fun p : Value × List β => [p.1]) (fun w p => Arr w p.1 1 p.2.length (p.2.map g) ∧ (∀ b ∈ p.2, okE w b) ∧ p.2.length * by_ ≤ 140737488351232) :=
  (opens_slice ht hE (fun _ => rfl) hsz (by decide) hby).map id (fun _ => rfl) (fun w a h => by rw [flatMap_one] at h; exact h)

/-! Structs. -/
def OpensF (P : Program) (fs : List Field) (o : Nat) {α : Type} (f : α → List Value) (ok : World → α → Prop) : Prop :=
  ∀ (H : Type) (enc : TypeId × Value → H) (w : World) (base : Nat) (spare : Nat → Bool) (held : Bool) (n : Nat) (cs : List Value) (xs : List (DataW H × List MemPlace)),
    (∀ (i : Nat) (g : Field), fs[i]? = some g → DataW.trod enc P w base spare held n g.type ((cs.drop g.offset).take (P.cellsOf g.type)) = xs[i]?) → xs.length = fs.length →
    (∀ k ∈ DataW.weightsEach P (fs.map (·.type)) (xs.map (·.1)), k ≤ reachBytes) → cs.length = o + (fs.map fun g => P.cellsOf g.type).sum → ∃ a, cs.drop o = f a ∧ ok w a
theorem opensF_nil {o : Nat} : OpensF P [] o (fun _ : Unit => []) (fun _ _ => True) := by
  intro H enc w base spare held n cs xs _ _ _ hl
  exact ⟨(), List.drop_of_length_le (by simp at hl; omega), trivial⟩
theorem opensF_cons {α β : Type} {f0 : Field} {fs : List Field} {o k : Nat} {g : β → List Value} {okg : World → β → Prop} {f : α → List Value} {ok : World → α → Prop} (ho : f0.offset = o) (hk : P.cellsOf f0.type = k) (hg : Opens P f0.type g okg)
    (hf : OpensF P fs (o + k) f ok) : OpensF P (f0 :: fs) o (fun p : β × α => g p.1 ++ f p.2) (fun w p => okg w p.1 ∧ ok w p.2) := by
  intro H enc w base spare held n cs xs hx hl hw hc
  cases xs with
  | nil => simp at hl
  | cons x xs =>
    simp only [List.map_cons, DataW.weightsEach, List.mem_append] at hw
    simp only [List.map_cons, List.sum_cons, hk] at hc
    have h0 := hx 0 f0 rfl
    rw [ho, hk] at h0
    obtain ⟨b, hb1, hb2⟩ := hg H enc w base spare held n _ x (by simpa using h0) (fun k hk => hw k (.inl hk))
    obtain ⟨a, ha1, ha2⟩ := hf H enc w base spare held n cs xs (fun i q hi => by simpa using hx (i + 1) q (by simpa using hi)) (by simpa using hl) (fun k hk => hw k (.inr hk)) (by omega)
    refine ⟨(b, a), ?_, hb2, ha2⟩
    show cs.drop o = g b ++ f a
    rw [← hb1, ← ha1, ← List.drop_drop, List.take_append_drop]
theorem opens_struct {α : Type} {fs : List Field} {f : α → List Value} {ok : World → α → Prop} (ht : P.underlying t = some (.struct fs.toArray)) (hc : P.cellsOf t = (fs.map fun g => P.cellsOf g.type).sum) (hf : OpensF P fs 0 f ok) : Opens P t f ok := by
  intro H enc w base spare held fuel cs x hx hw
  obtain ⟨xs, n, rfl, rfl, hl, hlen, hfs⟩ := DataW.trod_struct ht hx
  simp only [DataW.weights, ht] at hw
  obtain ⟨a, h1, h2⟩ := hf H enc w base spare held n cs xs (fun i g hi => hfs i g (by simpa using hi)) (by simpa using hlen) (by simpa using hw) (by omega)
  exact ⟨a, by simpa using h1, h2⟩

/-! Arguments. -/
section
variable {H : Type} {enc : TypeId × Value → H} {w : World} {base b0 : Nat} {spare : Nat → Bool} {held : Bool} {r : Reach} {v : Value} {d : DataW H} {ps : List MemPlace}
theorem cells_scal {v : Value} (h : ∀ cs, v ≠ .agg cs) : v.cells.toList = [v] := by
  cases v <;> first | rfl | exact absurd rfl (h _)
theorem arg_scal {α : Type} {g : α → Value} {ok : World → α → Prop} (h : Opens P t (fun a => [g a]) ok) (hu : (match P.underlying t with | some (.int _) | some .string | some .bool | some (.slice _) => true | _ => false) = true)
    (hval : Value.okWide P w r b0 t v) (hd : DataW.Trod enc P w base spare held t v d ps) (hw : ∀ k ∈ d.weights P t, k ≤ reachBytes) : ∃ a, v = g a ∧ ok w a := by
  have hv : v.cells.toList = [v] := by
    split at hu
    · rename_i k hk; obtain ⟨n, rfl⟩ := okWide_int hk hval; rfl
    · rename_i hk; obtain ⟨n, rfl⟩ := okWide_string hk hval; rfl
    · rename_i hk; obtain ⟨n, rfl⟩ := okWide_bool hk hval; rfl
    · rename_i k hk; obtain ⟨a, l, c, rfl⟩ := okWide_slice hk hval; rfl
    · cases hu
  obtain ⟨fuel, hf⟩ := hd
  obtain ⟨a, h1, h2⟩ := h H enc w base spare held fuel _ _ hf hw
  rw [hv] at h1
  exact ⟨a, by simpa using h1, h2⟩
theorem arg_struct {α : Type} {f : α → List Value} {ok : World → α → Prop} {fs : Array Field} (hu : P.underlying t = some (.struct fs)) (h : Opens P t f ok)
    (hval : Value.okWide P w r b0 t v) (hd : DataW.Trod enc P w base spare held t v d ps) (hw : ∀ k ∈ d.weights P t, k ≤ reachBytes) : ∃ a, v = .agg (f a).toArray ∧ ok w a := by
  obtain ⟨cs, rfl, -⟩ := okWide_struct hu hval
  obtain ⟨fuel, hf⟩ := hd
  obtain ⟨a, h1, h2⟩ := h H enc w base spare held fuel _ _ hf hw
  refine ⟨a, ?_, h2⟩
  rw [← h1]; simp [Value.cells]
end

/-- The row's proof, but for the walk; the reach is handed on. -/
theorem row_sized {H : Type} {enc : TypeId × Value → H} {C : Checked} {os : Os} {f : FuncId} {fn : Func} {s : ChangeSpec} {conds : List PathCond} {apart : Bool} {tb : TypeId} (own : ownKnob C.prog.godebug = none) (started : os.Started) (noInit : C.prog.inits.idxOf? f = none)
    (hfn : C.prog.funcs[f]? = some fn)
    (witness : ∃ (w : World) (tape : Tape) (i : Input), w.os = os ∧ (w.forCall tape i).Shaped C.prog ∧ i.vars = [] ∧ Input.okWide C.prog (w.forCall tape i) .any w.heap.size f i ∧
      s.pre6 enc C.prog fn conds apart (w.forCall tape i).memory i.args ∧ ({} : Assume).holds C.prog (lone (Frame.enter C.prog f i.args .normal) [] (w.forCall tape i)))
    (hl : laidOutB C.prog = true) (hv : s.vars = []) (hv2 : s.plain.varTypes C.prog = []) (hsp : ∀ ds : List (DataW H), ds.length = fn.params.size → (s.fn H ds).results = [.lit (.bool true)] ∧ (s.fn H ds).args = ds ∧ (s.fn H ds).vars = [])
    (hres : fn.resultTypes = #[tb]) (htb : C.prog.underlying tb = some .bool) (hread : (fn.params.toList.all fun t => C.prog.readableRec t && decide (t < C.prog.types.size)) = true)
    (walk : ∀ (W : World) (base : Nat) (args : Array Value) (ds : List (DataW H)) (ps : List MemPlace), (∀ (j : Nat) t v, fn.params[j]? = some t → args[j]? = some v → Value.okWide C.prog W .any base t v) →
      DataW.TrodAll enc C.prog W 0 (fun _ => true) true fn.params.toList args.toList ds ps → (∀ k ∈ DataW.weightsEach C.prog fn.params.toList ds, k ≤ reachBytes) → Calls C.prog f args W fun e W' => e = .returned (.bool true) ∧ Fr [] W W') :
    ReturnsInHanded {} C os f .any (s.pre6 enc C.prog fn conds apart) (s.post enc C.prog fn apart true false false) := by
  refine returnsInHanded_of_change_shaped own started noInit hfn witness ?_
  intro W base args ds gs before hval hW _ hwt _ _
  have hW' := hW
  obtain ⟨p, q, hA, hV, rfl, hfz, hnd⟩ := hW
  rw [hv] at hV
  obtain ⟨rfl, rfl⟩ := trodVars_none hV
  have hlt : ∀ x ∈ p, x.block < W.heap.size := fun x hx => by simpa using hW'.lt x (by simp [hx])
  rw [hv2, List.append_nil, List.append_nil] at hwt
  refine (walk W base args ds p hval hA (fun k hk => by simpa using List.all_eq_true.1 hwt k hk)).mono fun e W' ⟨he, hw⟩ => ⟨_, he, ?_⟩
  have hb := hw.below
  obtain ⟨s1, s2, s3⟩ := hsp ds (by rw [(trodAll_length hA).1]; simp)
  refine ⟨ds, [], _, [], p, [], hW', ?_, ?_, ?_, hb.frame _, fun h => by cases h⟩
  · rw [List.append_nil, s1, hres]; exact trodAll_mk1 (shut_bool htb true)
  · rw [List.append_nil, s2]; exact trodAll_stays hl hb hread hA hlt
  · rw [List.append_nil, s3, hv]; exact rfl
end
end Go.Owl
