/- A row that says: whatever the input, true; the input reads as it did. -/
import Derived.Test.YtpnghdalnghpcaaOwl10
import Derived.ProofKit
namespace Go.Owl
open Go.ChangeShapes Go.WideShapes Go.RowKit
section
variable {H : Type} {enc : TypeId × Value → H} {P : Program}

theorem trodAll_stays (hl : laidOutB P = true) {W W' : World} (hb : Below W.heap.size W W') : ∀ {ts : List TypeId} {vs : List Value} {ds : List (DataW H)} {ps : List MemPlace},
    (ts.all fun t => P.readableRec t && decide (t < P.types.size)) = true → DataW.TrodAll enc P W 0 (fun _ => true) true ts vs ds ps → (∀ x ∈ ps, x.block < W.heap.size) →
    DataW.TrodAll enc P W' 0 (fun b => decide (b < W.heap.size)) true ts vs ds ps
  | [], vs, ds, ps, _, h, _ => by
    obtain ⟨rfl, rfl, rfl⟩ := trodAll_nil h
    exact rfl
  | t :: ts, vs, ds, ps, hr, h, hlt => by
    obtain ⟨v, vs1, d, ds1, a, b, rfl, rfl, rfl, h1, h2⟩ := trodAll_cons h
    rw [List.all_cons, Bool.and_eq_true, Bool.and_eq_true, decide_eq_true_eq] at hr
    exact ⟨a, b, Below.trod hl hr.1.1 hr.1.2 h1 hb (fun x hx => hlt x (List.mem_append.2 (.inl hx))), trodAll_stays hl hb hr.2 h2 (fun x hx => hlt x (List.mem_append.2 (.inr hx))), rfl⟩

theorem trodAll_length {w : World} {base : Nat} {spare : Nat → Bool} {held : Bool} : ∀ {ts : List TypeId} {vs : List Value} {ds : List (DataW H)} {ps : List MemPlace}, DataW.TrodAll enc P w base spare held ts vs ds ps → ds.length = ts.length ∧ vs.length = ts.length
  | [], vs, ds, ps, h => by
    obtain ⟨rfl, rfl, rfl⟩ := trodAll_nil h
    exact ⟨rfl, rfl⟩
  | t :: ts, vs, ds, ps, h => by
    obtain ⟨v, vs1, d, ds1, a, b, rfl, rfl, rfl, h1, h2⟩ := trodAll_cons h
    simp [trodAll_length h2]

/-- The row's proof, but for the walk. -/
theorem row_true {C : Checked} {os : Os} {f : FuncId} {fn : Func} {s : ChangeSpec} {conds : List PathCond} {apart : Bool} {tb : TypeId} (own : ownKnob C.prog.godebug = none) (started : os.Started) (noInit : C.prog.inits.idxOf? f = none)
    (hfn : C.prog.funcs[f]? = some fn)
    (witness : ∃ (w : World) (tape : Tape) (i : Input), w.os = os ∧ (w.forCall tape i).Shaped C.prog ∧ i.vars = [] ∧ Input.okWide C.prog (w.forCall tape i) .any w.heap.size f i ∧
      s.pre6 enc C.prog fn conds apart (w.forCall tape i).memory i.args ∧ ({} : Assume).holds C.prog (lone (Frame.enter C.prog f i.args .normal) [] (w.forCall tape i)))
    (hl : laidOutB C.prog = true) (hv : s.vars = []) (hsp : ∀ ds : List (DataW H), ds.length = fn.params.size → (s.fn H ds).results = [.lit (.bool true)] ∧ (s.fn H ds).args = ds ∧ (s.fn H ds).vars = [])
    (hres : fn.resultTypes = #[tb]) (htb : C.prog.underlying tb = some .bool) (hread : (fn.params.toList.all fun t => C.prog.readableRec t && decide (t < C.prog.types.size)) = true)
    (walk : ∀ (W : World) (base : Nat) (args : Array Value) (ds : List (DataW H)) (ps : List MemPlace), (∀ (j : Nat) t v, fn.params[j]? = some t → args[j]? = some v → Value.okWide C.prog W .any base t v) →
      DataW.TrodAll enc C.prog W 0 (fun _ => true) true fn.params.toList args.toList ds ps → (∀ x ∈ ps, x.block < W.heap.size) → Calls C.prog f args W fun e W' => e = .returned (.bool true) ∧ Fr [] W W') :
    ReturnsInHanded {} C os f .any (s.pre6 enc C.prog fn conds apart) (s.post enc C.prog fn apart true false false) := by
  refine returnsInHanded_of_change own started noInit hfn witness ?_
  intro W base args ds gs before hval hW _ _
  have hW' := hW
  obtain ⟨p, q, hA, hV, rfl, hfz, hnd⟩ := hW
  rw [hv] at hV
  obtain ⟨rfl, rfl⟩ := trodVars_none hV
  have hlt : ∀ x ∈ p, x.block < W.heap.size := fun x hx => by simpa using hW'.lt x (by simp [hx])
  refine (walk W base args ds p hval hA hlt).mono fun e W' ⟨he, hw⟩ => ⟨_, he, ?_⟩
  have hb := hw.below
  obtain ⟨s1, s2, s3⟩ := hsp ds (by rw [(trodAll_length hA).1]; simp)
  refine ⟨ds, [], _, [], p, [], hW', ?_, ?_, ?_, hb.frame _, fun h => by cases h⟩
  · rw [List.append_nil, s1, hres]; exact trodAll_mk1 (shut_bool htb true)
  · rw [List.append_nil, s2]; exact trodAll_stays hl hb hread hA hlt
  · rw [List.append_nil, s3, hv]; exact rfl
end

/-! ### The arguments' forms -/
theorem u8_of {n : Int} (h : (Lit.int .u8 n).wf = true) : ∃ a : UInt8, Value.int .u8 n = vU8 a := by
  simp [Lit.wf, IntKind.min, IntKind.max, IntKind.signed, IntKind.bits] at h
  exact ⟨UInt8.ofNat n.toNat, by unfold vU8; congr 1; simp; omega⟩
theorem u32_of {n : Int} (h : (Lit.int .u32 n).wf = true) : ∃ a : UInt32, Value.int .u32 n = vU32 a := by
  simp [Lit.wf, IntKind.min, IntKind.max, IntKind.signed, IntKind.bits] at h
  exact ⟨UInt32.ofNat n.toNat, by unfold vU32; congr 1; simp; omega⟩
section
variable {H : Type} {enc : TypeId × Value → H} {P : Program} {w : World} {base b0 : Nat} {spare : Nat → Bool} {held : Bool} {r : Reach} {t : TypeId} {v : Value} {d : DataW H} {ps : List MemPlace}
theorem open_u32 (ht : P.underlying t = some (.int .u32)) (hval : Value.okWide P w r b0 t v) (hd : DataW.Trod enc P w base spare held t v d ps) : ∃ a : UInt32, v = vU32 a := by
  obtain ⟨n, rfl, -, -, hw⟩ := open_int ht hval hd
  exact u32_of hw
theorem open_u8 (ht : P.underlying t = some (.int .u8)) (hval : Value.okWide P w r b0 t v) (hd : DataW.Trod enc P w base spare held t v d ps) : ∃ a : UInt8, v = vU8 a := by
  obtain ⟨n, rfl, -, -, hw⟩ := open_int ht hval hd
  exact u8_of hw
theorem open_str (ht : P.underlying t = some .string) (hval : Value.okWide P w r b0 t v) (hd : DataW.Trod enc P w base spare held t v d ps) : ∃ l : List UInt8, v = str l ∧ l.length ≤ 9223372036854775807 := by
  obtain ⟨s, rfl⟩ := okWide_string ht hval
  obtain ⟨fuel, hf⟩ := hd
  obtain ⟨s', h, -, hl⟩ := DataW.trod_string ht hf
  simp [Value.cells] at h
  subst h
  exact ⟨s.data.toList, by simp [str], by rw [Array.length_toList]; exact hl⟩
theorem open_fields {fs : Array Field} (hs : P.underlying t = some (.struct fs)) (hval : Value.okWide P w r b0 t v) (hd : DataW.Trod enc P w base spare held t v d ps) :
    ∃ cs : List Value, v = .agg cs.toArray ∧ cs.length = P.cellsOf t ∧ ∀ (i : Nat) (f : Field), fs[i]? = some f → ∃ n x, DataW.trod enc P w base spare held n f.type ((cs.drop f.offset).take (P.cellsOf f.type)) = some x := by
  obtain ⟨cs, rfl, hsz⟩ := okWide_struct hs hval
  obtain ⟨fuel, hf⟩ := hd
  obtain ⟨xs, n, -, -, hl, hlen, hx⟩ := DataW.trod_struct hs hf
  refine ⟨cs.toList, by simp, by simpa using hsz, fun i f hi => ?_⟩
  have hi' : i < fs.size := by
    rcases Nat.lt_or_ge i fs.size with h | h
    · exact h
    · simp [Array.getElem?_eq_none h] at hi
  refine ⟨n, xs[i]'(by omega), ?_⟩
  have := hx i f hi
  rw [List.getElem?_eq_getElem (by omega)] at this
  simpa [Value.cells] using this
theorem head_take {α : Type} {cs : List α} {o k : Nat} {x : α} (h : (cs.drop o).take k = [x]) : cs[o]? = some x := by
  have h0 := congrArg (fun l => l[0]?) h
  simp only [List.getElem?_take, List.getElem?_drop, List.getElem?_cons_zero, Nat.add_zero] at h0
  split at h0
  · exact h0
  · cases h0
theorem open_insn {fs : Array Field} (hs : P.underlying t = some (.struct fs)) (hC : P.cellsOf t = 5)
    (hF : (fs.toList.map fun f => (f.offset, P.underlying f.type)) = [(0, some (.int .u8)), (1, some (.int .u8)), (2, some (.int .u8)), (3, some (.int .u8)), (4, some (.int .u32))])
    (hval : Value.okWide P w r b0 t v) (hd : DataW.Trod enc P w base spare held t v d ps) : ∃ (op d a b : UInt8) (imm : UInt32), v = .agg #[vU8 op, vU8 d, vU8 a, vU8 b, vU32 imm] := by
  obtain ⟨cs, rfl, hl, hf⟩ := open_fields hs hval hd
  rw [hC] at hl
  obtain ⟨fl⟩ := fs
  have hlen : fl.length = 5 := by simpa using congrArg List.length hF
  match fl, hlen, hF with
  | [f0, f1, f2, f3, f4], _, hF =>
    simp only [List.map_cons, List.map_nil, List.cons.injEq, Prod.mk.injEq, and_true] at hF
    obtain ⟨⟨o0, u0⟩, ⟨o1, u1⟩, ⟨o2, u2⟩, ⟨o3, u3⟩, ⟨o4, u4⟩⟩ := hF
    obtain ⟨_, _, h0⟩ := hf 0 f0 rfl
    obtain ⟨_, _, h1⟩ := hf 1 f1 rfl
    obtain ⟨_, _, h2⟩ := hf 2 f2 rfl
    obtain ⟨_, _, h3⟩ := hf 3 f3 rfl
    obtain ⟨_, _, h4⟩ := hf 4 f4 rfl
    obtain ⟨n0, e0, -, w0⟩ := DataW.trod_int u0 h0
    obtain ⟨n1, e1, -, w1⟩ := DataW.trod_int u1 h1
    obtain ⟨n2, e2, -, w2⟩ := DataW.trod_int u2 h2
    obtain ⟨n3, e3, -, w3⟩ := DataW.trod_int u3 h3
    obtain ⟨n4, e4, -, w4⟩ := DataW.trod_int u4 h4
    have g0 := head_take e0; have g1 := head_take e1; have g2 := head_take e2; have g3 := head_take e3; have g4 := head_take e4
    rw [o0] at g0; rw [o1] at g1; rw [o2] at g2; rw [o3] at g3; rw [o4] at g4
    match cs, hl with
    | [c0, c1, c2, c3, c4], _ =>
      simp at g0 g1 g2 g3 g4
      subst g0; subst g1; subst g2; subst g3; subst g4
      obtain ⟨x0, k0⟩ := u8_of w0
      obtain ⟨x1, k1⟩ := u8_of w1
      obtain ⟨x2, k2⟩ := u8_of w2
      obtain ⟨x3, k3⟩ := u8_of w3
      obtain ⟨x4, k4⟩ := u32_of w4
      exact ⟨x0, x1, x2, x3, x4, by rw [k0, k1, k2, k3, k4]⟩
end
end Go.Owl
