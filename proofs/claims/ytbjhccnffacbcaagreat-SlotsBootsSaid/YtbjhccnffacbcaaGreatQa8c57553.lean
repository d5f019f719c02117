/- General lemmas and walks: OwlRow, OwlOpen, Owl18, Owl19, Owl20, Owl21, Owl22, Owl23, Owl24, Owl25, Owl26, Owl35, Owl36, Owl27, Owl28, Owl30, Owl33, Owl37, Owl38, Owl31, Owl32, Owl50, Owl39, Owl40, Owl41, OwlIn, OwlSeq, Owl43, OwlDef. No condition but what each theorem names. -/
import Derived.Test.YtbjhccnffacbcaaGreatQ36a60414
import Derived.ProofKit
import Derived.HandedShaped
import Derived.Deep.Slices
import Derived.Lib.SliceRun
import Derived.LoopN
import Derived.MapKept
import Derived.Maps.RangeRun
import Derived.OrdersHeld
import Derived.Sort.LoopGhostIn
import Derived.RangeFuncFrom
import Derived.RangeFuncLeaves
import Derived.Defers
namespace Go.Owl
open Go.ChangeShapes Go.WideShapes Go.RowKit
section
variable {H:Type} {enc:TypeId × Value→H} {P:Program}
theorem trodAll_stays (hl:laidOutB P=true) {W W':World} (hb:Below W.heap.size W W'): ∀ {ts:List TypeId} {vs:List Value} {ds:List (DataW H)} {ps:List MemPlace},
    (ts.all fun t=>P.readableRec t&&decide (t<P.types.size))=true→DataW.TrodAll enc P W 0 (fun _=>true) true ts vs ds ps→(∀x∈ps,x.block<W.heap.size) →
    DataW.TrodAll enc P W' 0 (fun b=>decide (b<W.heap.size)) true ts vs ds ps
  | [],vs,ds,ps,_,h,_=>by
    obtain ⟨rfl,rfl,rfl⟩:=trodAll_nil h
    exact rfl
  | t::ts,vs,ds,ps,hr,h,hlt=>by
    obtain ⟨v,vs1,d,ds1,a,b,rfl,rfl,rfl,h1,h2⟩:=trodAll_cons h
    rw [List.all_cons,Bool.and_eq_true,Bool.and_eq_true,decide_eq_true_eq] at hr
    exact ⟨a,b,Below.trod hl hr.1.1 hr.1.2 h1 hb (fun x hx=>hlt x (List.mem_append.2 (.inl hx))),trodAll_stays hl hb hr.2 h2 (fun x hx=>hlt x (List.mem_append.2 (.inr hx))),rfl⟩
theorem trodAll_length {w:World} {base:Nat} {spare:Nat→Bool} {held:Bool}: ∀ {ts:List TypeId} {vs:List Value} {ds:List (DataW H)} {ps:List MemPlace},DataW.TrodAll enc P w base spare held ts vs ds ps→ds.length=ts.length∧vs.length=ts.length
  | [],vs,ds,ps,h=>by
    obtain ⟨rfl,rfl,rfl⟩:=trodAll_nil h
    exact ⟨rfl,rfl⟩
  | t::ts,vs,ds,ps,h=>by
    obtain ⟨v,vs1,d,ds1,a,b,rfl,rfl,rfl,h1,h2⟩:=trodAll_cons h
    simp [trodAll_length h2]
end
theorem u8_of {n:Int} (h:(Lit.int .u8 n).wf=true): ∃a:UInt8,Value.int .u8 n=vU8 a:=by
  simp [Lit.wf,IntKind.min,IntKind.max,IntKind.signed,IntKind.bits] at h
  exact ⟨UInt8.ofNat n.toNat,by unfold vU8; congr 1; simp; omega⟩
theorem u32_of {n:Int} (h:(Lit.int .u32 n).wf=true): ∃a:UInt32,Value.int .u32 n=vU32 a:=by
  simp [Lit.wf,IntKind.min,IntKind.max,IntKind.signed,IntKind.bits] at h
  exact ⟨UInt32.ofNat n.toNat,by unfold vU32; congr 1; simp; omega⟩
section
variable {H:Type} {enc:TypeId × Value→H} {P:Program} {w:World} {base b0:Nat} {spare:Nat→Bool} {held:Bool} {r:Reach} {t:TypeId} {v:Value} {d:DataW H} {ps:List MemPlace}
end
end Go.Owl
namespace Go.Owl
open Go.ChangeShapes Go.WideShapes Go.RowKit
def Opens (P:Program) (t:TypeId) {α:Type} (f:α→List Value) (ok:World→α→Prop):Prop :=
  ∀(H:Type) (enc:TypeId × Value→H) (w:World) (base:Nat) (spare:Nat→Bool) (held:Bool) (fuel:Nat) (cs:List Value) (x:DataW H × List MemPlace),
    DataW.trod enc P w base spare held fuel t cs=some x→(∀k∈x.1.weights P t,k≤reachBytes)→∃a,cs=f a∧ok w a
section
variable {P:Program} {t e:TypeId}
theorem Opens.map {α β:Type} {f:α→List Value} {ok:World→α→Prop} {f':β→List Value} {ok':World→β→Prop} (h:Opens P t f ok) (g:α→β) (hf: ∀a,f a=f' (g a)) (hk: ∀w a,ok w a→ok' w (g a)):Opens P t f' ok':=by
  intro H enc w base spare held fuel cs x hx hw
  obtain ⟨a,h1,h2⟩:=h H enc w base spare held fuel cs x hx hw
  exact ⟨g a,h1.trans (hf a),hk w a h2⟩
theorem u16_of {n:Int} (h:(Lit.int .u16 n).wf=true): ∃a:UInt16,Value.int .u16 n=vU16 a:=by
  simp [Lit.wf,IntKind.min,IntKind.max,IntKind.signed,IntKind.bits] at h
  exact ⟨UInt16.ofNat n.toNat,by unfold vU16; congr 1; simp; omega⟩
theorem opens_u8 (ht:P.underlying t=some (.int .u8)):Opens P t (fun a:UInt8=>[vU8 a]) (fun _ _=>True):=by
  intro H enc w base spare held fuel cs x hx _
  obtain ⟨n,rfl, -, hw⟩:=DataW.trod_int ht hx
  obtain ⟨a,ha⟩:=u8_of hw
  exact ⟨a,by rw [ha],trivial⟩
theorem opens_u16 (ht:P.underlying t=some (.int .u16)):Opens P t (fun a:UInt16=>[vU16 a]) (fun _ _=>True):=by
  intro H enc w base spare held fuel cs x hx _
  obtain ⟨n,rfl, -, hw⟩:=DataW.trod_int ht hx
  obtain ⟨a,ha⟩:=u16_of hw
  exact ⟨a,by rw [ha],trivial⟩
theorem opens_u32 (ht:P.underlying t=some (.int .u32)):Opens P t (fun a:UInt32=>[vU32 a]) (fun _ _=>True):=by
  intro H enc w base spare held fuel cs x hx _
  obtain ⟨n,rfl, -, hw⟩:=DataW.trod_int ht hx
  obtain ⟨a,ha⟩:=u32_of hw
  exact ⟨a,by rw [ha],trivial⟩
theorem opens_bool (ht:P.underlying t=some .bool):Opens P t (fun a:Bool=>[.bool a]) (fun _ _=>True):=by
  intro H enc w base spare held fuel cs x hx _
  obtain ⟨b,rfl, -⟩:=DataW.trod_bool ht hx
  exact ⟨b,rfl,trivial⟩
theorem opens_str (ht:P.underlying t=some .string):Opens P t (fun l:List UInt8=>[str l]) (fun _ l=>l.length≤140737488351232):=by
  intro H enc w base spare held fuel cs x hx hw
  obtain ⟨s,rfl,rfl, -⟩:=DataW.trod_string ht hx
  refine ⟨s.data.toList,by simp [str],?_⟩
  have:=hw s.data.toList.length (by simp [DataW.weights])
  simpa [reachBytes] using this
theorem weightsAll_mem {H:Type} {d:DataW H}: ∀ {l:List (DataW H)},d∈l→∀k∈d.weights P e,k∈DataW.weightsAll P e l
  | [],h,_,_=>by cases h
  | y::l,h,k,hk=>by
    rw [DataW.weightsAll,List.mem_append]
    rcases List.mem_cons.1 h with rfl | h
    · exact .inl hk
    · exact .inr (weightsAll_mem h k hk)
theorem cells?_get {w:World} {base:Nat} {a:Addr} {n:Nat} {cs:List Value} (h:w.cells? base a n=some cs):cs.length=n∧∀i,i<n→w.cell? (a.add i)=cs[i]?:=by
  unfold World.cells? at h
  split at h
  · refine ⟨by simpa using mapM_some_length h,fun i hi=>?_⟩
    have:=mapM_some_get h i i (by simp [hi])
    exact this
  · cases h
theorem flatMap_len {β:Type} {g:β→List Value} {sz:Nat} (hg: ∀b,(g b).length=sz): ∀l:List β,(l.flatMap g).length=l.length * sz
  | []=>by simp
  | b::l=>by rw [List.flatMap_cons,List.length_append,hg,flatMap_len hg l,List.length_cons,Nat.add_mul]; omega
theorem flatMap_at {β:Type} {g:β→List Value} {sz:Nat} (hg: ∀b,(g b).length=sz): ∀(l:List β) (i k:Nat) (b:β),l[i]?=some b→k<sz→(l.flatMap g)[i * sz+k]?=(g b)[k]?
  | [],i,k,b,h,_=>by simp at h
  | c::l,0,k,b,h,hk=>by
    simp at h; subst h
    rw [List.flatMap_cons,Nat.zero_mul,Nat.zero_add,List.getElem?_append_left (by rw [hg]; exact hk)]
  | c::l,i+1,k,b,h,hk=>by
    rw [List.flatMap_cons,List.getElem?_append_right (by rw [hg,Nat.add_mul]; omega),hg,show (i+1) * sz+k-sz=i * sz+k by rw [Nat.add_mul]; omega]
    exact flatMap_at hg l i k b (by simpa using h) hk
theorem spot_none {w:World} {a:Addr} {v:Value} (h:w.cell? a=some v):a.spot=none:=by
  unfold World.cell? at h
  split at h
  · split at h
    · cases h
    · rename_i hs; simpa using hs
  · cases h
theorem add0 (a:Addr):a.add 0=a:=rfl
theorem opens_slice {β:Type} {g:β→List Value} {okE:World→β→Prop} {sz by_:Nat} (ht:P.underlying t=some (.slice e)) (hE:Opens P e g okE) (hg: ∀b,(g b).length=sz) (hsz:P.cellsOf e=sz) (hs0:0<sz) (hby:P.bytesOf e=by_) :
    Opens P t (fun p:Value × List β=>[p.1]) (fun w p=>Arr w p.1 sz p.2.length (p.2.flatMap g)∧(∀b∈p.2,okE w b)∧p.2.length * by_≤140737488351232):=by
  intro H enc w base spare held fuel cs x hx hw
  rcases Deep.open_slice ht hx with ⟨rfl,rfl⟩ | ⟨a,len,cap,m,n,D,Pl,rfl,hb,hl,hm,hmm,rfl,hel⟩
  · exact ⟨(.slice none 0 0,[]),rfl,Arr.nil w sz,(fun b hb=>by cases hb),(by simp)⟩
  · have hlm:len≤m:=by rw [hmm]; split<;>omega
    simp only [DataW.weights,ht] at hw
    have hwl:=hw _ (List.mem_cons_self ..)
    have each: ∀i,i<len→∃b,okE w b∧∀k,k<sz→w.cell? ((a.add (i * sz)).add k)=(g b)[k]?:=fun i hi=>by
      obtain ⟨cs',h1,h2⟩:=hel i (by omega)
      have hwi: ∀k∈(D i).weights P e,k≤reachBytes:=fun k hk=>hw k (List.mem_cons_of_mem _ (List.mem_append.2 (.inl (weightsAll_mem (List.mem_map.2 ⟨i,List.mem_range.2 hi,rfl⟩) k hk))))
      obtain ⟨b,hb1,hb2⟩:=hE H enc w base spare held n cs' _ h2 hwi
      subst hb1
      obtain ⟨hl1,h3⟩:=cells?_get h1
      rw [hsz] at h3
      exact ⟨b,hb2,fun k hk=>by rw [←h3 k hk]⟩
    let F:Fin len→β:=fun i=>Classical.choose (each i.1 i.2)
    have hF: ∀i:Fin len,okE w (F i)∧∀k,k<sz→w.cell? ((a.add (i.1 * sz)).add k)=(g (F i))[k]?:=fun i=>Classical.choose_spec (each i.1 i.2)
    have hspot:len≠0→a.spot=none:=fun h0=>by
      have h1:=(hF ⟨0,by omega⟩).2 0 hs0
      simp only [Nat.zero_mul,add0] at h1
      exact spot_none (h1.trans (List.getElem?_eq_getElem (by rw [hg]; exact hs0)))
    refine ⟨(.slice (some a) len cap,List.ofFn F),rfl,⟨⟨some a,cap,by simp,by simpa using hl,hm,(fun h=>by cases h),fun h0 ad had=>?_⟩,?_,?_⟩,?_,?_⟩
    · injection had with had; subst had; exact hspot (by simpa using h0)
    · exact flatMap_len hg _
    · intro j hj
      rw [flatMap_len hg,List.length_ofFn] at hj
      have hi:j / sz<len:=Nat.div_lt_of_lt_mul (by rw [Nat.mul_comm]; exact hj)
      have hk:j%sz<sz:=Nat.mod_lt _ hs0
      have ej:j=j / sz * sz+j%sz:=by rw [Nat.mul_comm]; exact (Nat.div_add_mod j sz).symm
      have h1:=(hF ⟨j / sz,hi⟩).2 (j%sz) hk
      have h2:=flatMap_at hg (List.ofFn F) (j / sz) (j%sz) (F ⟨j / sz,hi⟩) (by rw [List.getElem?_ofFn]; simp [hi]) hk
      rw [←ej] at h2
      rw [h2,←h1]
      have hs:=hspot (fun e0=>by rw [e0] at hi; exact absurd hi (Nat.not_lt_zero _))
      obtain ⟨b,o,s⟩:=a
      simp at hs; subst hs
      rw [Addr.add_at,Addr.add_at,Nat.add_assoc,←ej]
      rfl
    · intro b hb
      rw [List.mem_ofFn] at hb
      obtain ⟨i,rfl⟩:=hb
      exact (hF i).1
    · have h5:len * by_≤reachBytes:=by
        refine Nat.le_trans ?_ hwl
        rw [hby]; refine Nat.mul_le_mul_right _ ?_
        simp
      simpa [reachBytes] using h5
theorem flatMap_one {β:Type} (g:β→Value): ∀l:List β,l.flatMap (fun b=>[g b])=l.map g
  | []=>rfl
  | b::l=>by rw [List.flatMap_cons,flatMap_one g l]; rfl
theorem opens_slice1 {β:Type} {g:β→Value} {okE:World→β→Prop} {by_:Nat} (ht:P.underlying t=some (.slice e)) (hE:Opens P e (fun b=>[g b]) okE) (hsz:P.cellsOf e=1) (hby:P.bytesOf e=by_) :
    Opens P t (fun p:Value × List β=>[p.1]) (fun w p=>Arr w p.1 1 p.2.length (p.2.map g)∧(∀b∈p.2,okE w b)∧p.2.length * by_≤140737488351232) :=
  (opens_slice ht hE (fun _=>rfl) hsz (by decide) hby).map id (fun _=>rfl) (fun w a h=>by rw [flatMap_one] at h; exact h)
def OpensF (P:Program) (fs:List Field) (o:Nat) {α:Type} (f:α→List Value) (ok:World→α→Prop):Prop :=
  ∀(H:Type) (enc:TypeId × Value→H) (w:World) (base:Nat) (spare:Nat→Bool) (held:Bool) (n:Nat) (cs:List Value) (xs:List (DataW H × List MemPlace)),
    (∀(i:Nat) (g:Field),fs[i]?=some g→DataW.trod enc P w base spare held n g.type ((cs.drop g.offset).take (P.cellsOf g.type))=xs[i]?)→xs.length=fs.length →
    (∀k∈DataW.weightsEach P (fs.map (·.type)) (xs.map (·.1)),k≤reachBytes)→cs.length=o+(fs.map fun g=>P.cellsOf g.type).sum→∃a,cs.drop o=f a∧ok w a
theorem opensF_nil {o:Nat}:OpensF P [] o (fun _:Unit=>[]) (fun _ _=>True):=by
  intro H enc w base spare held n cs xs _ _ _ hl
  exact ⟨(),List.drop_of_length_le (by simp at hl; omega),trivial⟩
theorem opensF_cons {α β:Type} {f0:Field} {fs:List Field} {o k:Nat} {g:β→List Value} {okg:World→β→Prop} {f:α→List Value} {ok:World→α→Prop} (ho:f0.offset=o) (hk:P.cellsOf f0.type=k) (hg:Opens P f0.type g okg)
    (hf:OpensF P fs (o+k) f ok):OpensF P (f0::fs) o (fun p:β × α=>g p.1++f p.2) (fun w p=>okg w p.1∧ok w p.2):=by
  intro H enc w base spare held n cs xs hx hl hw hc
  cases xs with
  | nil=>simp at hl
  | cons x xs =>
    simp only [List.map_cons,DataW.weightsEach,List.mem_append] at hw
    simp only [List.map_cons,List.sum_cons,hk] at hc
    have h0:=hx 0 f0 rfl
    rw [ho,hk] at h0
    obtain ⟨b,hb1,hb2⟩:=hg H enc w base spare held n _ x (by simpa using h0) (fun k hk=>hw k (.inl hk))
    obtain ⟨a,ha1,ha2⟩:=hf H enc w base spare held n cs xs (fun i q hi=>by simpa using hx (i+1) q (by simpa using hi)) (by simpa using hl) (fun k hk=>hw k (.inr hk)) (by omega)
    refine ⟨(b,a),?_,hb2,ha2⟩
    show cs.drop o=g b++f a
    rw [←hb1,←ha1,←List.drop_drop,List.take_append_drop]
theorem opens_struct {α:Type} {fs:List Field} {f:α→List Value} {ok:World→α→Prop} (ht:P.underlying t=some (.struct fs.toArray)) (hc:P.cellsOf t=(fs.map fun g=>P.cellsOf g.type).sum) (hf:OpensF P fs 0 f ok):Opens P t f ok:=by
  intro H enc w base spare held fuel cs x hx hw
  obtain ⟨xs,n,rfl,rfl,hl,hlen,hfs⟩:=DataW.trod_struct ht hx
  simp only [DataW.weights,ht] at hw
  obtain ⟨a,h1,h2⟩:=hf H enc w base spare held n cs xs (fun i g hi=>hfs i g (by simpa using hi)) (by simpa using hlen) (by simpa using hw) (by omega)
  exact ⟨a,by simpa using h1,h2⟩
section
variable {H:Type} {enc:TypeId × Value→H} {w:World} {base b0:Nat} {spare:Nat→Bool} {held:Bool} {r:Reach} {v:Value} {d:DataW H} {ps:List MemPlace}
theorem arg_scal {α:Type} {g:α→Value} {ok:World→α→Prop} (h:Opens P t (fun a=>[g a]) ok) (hu:(match P.underlying t with | some (.int _) | some .string | some .bool | some (.slice _)=>true | _=>false)=true)
    (hval:Value.okWide P w r b0 t v) (hd:DataW.Trod enc P w base spare held t v d ps) (hw: ∀k∈d.weights P t,k≤reachBytes): ∃a,v=g a∧ok w a:=by
  have hv:v.cells.toList=[v]:=by
    split at hu
    · rename_i k hk; obtain ⟨n,rfl⟩:=okWide_int hk hval; rfl
    · rename_i hk; obtain ⟨n,rfl⟩:=okWide_string hk hval; rfl
    · rename_i hk; obtain ⟨n,rfl⟩:=okWide_bool hk hval; rfl
    · rename_i k hk; obtain ⟨a,l,c,rfl⟩:=okWide_slice hk hval; rfl
    · cases hu
  obtain ⟨fuel,hf⟩:=hd
  obtain ⟨a,h1,h2⟩:=h H enc w base spare held fuel _ _ hf hw
  rw [hv] at h1
  exact ⟨a,by simpa using h1,h2⟩
theorem arg_struct {α:Type} {f:α→List Value} {ok:World→α→Prop} {fs:Array Field} (hu:P.underlying t=some (.struct fs)) (h:Opens P t f ok)
    (hval:Value.okWide P w r b0 t v) (hd:DataW.Trod enc P w base spare held t v d ps) (hw: ∀k∈d.weights P t,k≤reachBytes): ∃a,v=.agg (f a).toArray∧ok w a:=by
  obtain ⟨cs,rfl, -⟩:=okWide_struct hu hval
  obtain ⟨fuel,hf⟩:=hd
  obtain ⟨a,h1,h2⟩:=h H enc w base spare held fuel _ _ hf hw
  refine ⟨a,?_,h2⟩
  rw [←h1]; simp [Value.cells]
end
theorem row_sized {H:Type} {enc:TypeId × Value→H} {C:Checked} {os:Os} {f:FuncId} {fn:Func} {s:ChangeSpec} {conds:List PathCond} {apart:Bool} {tb:TypeId} (own:ownKnob C.prog.godebug=none) (started:os.Started) (noInit:C.prog.inits.idxOf? f=none)
    (hfn:C.prog.funcs[f]?=some fn)
    (witness: ∃(w:World) (tape:Tape) (i:Input),w.os=os∧(w.forCall tape i).Shaped C.prog∧i.vars=[]∧Input.okWide C.prog (w.forCall tape i) .any w.heap.size f i ∧
      s.pre6 enc C.prog fn conds apart (w.forCall tape i).memory i.args∧({}:Assume).holds C.prog (lone (Frame.enter C.prog f i.args .normal) [] (w.forCall tape i)))
    (hl:laidOutB C.prog=true) (hv:s.vars=[]) (hv2:s.plain.varTypes C.prog=[]) (hsp: ∀ds:List (DataW H),ds.length=fn.params.size→(s.fn H ds).results=[.lit (.bool true)]∧(s.fn H ds).args=ds∧(s.fn H ds).vars=[])
    (hres:fn.resultTypes=#[tb]) (htb:C.prog.underlying tb=some .bool) (hread:(fn.params.toList.all fun t=>C.prog.readableRec t&&decide (t<C.prog.types.size))=true)
    (walk: ∀(W:World) (base:Nat) (args:Array Value) (ds:List (DataW H)) (ps:List MemPlace),(∀(j:Nat) t v,fn.params[j]?=some t→args[j]?=some v→Value.okWide C.prog W .any base t v) →
      DataW.TrodAll enc C.prog W 0 (fun _=>true) true fn.params.toList args.toList ds ps→(∀k∈DataW.weightsEach C.prog fn.params.toList ds,k≤reachBytes)→Calls C.prog f args W fun e W'=>e=.returned (.bool true)∧Fr [] W W') :
    ReturnsInHanded {} C os f .any (s.pre6 enc C.prog fn conds apart) (s.post enc C.prog fn apart true false false):=by
  refine returnsInHanded_of_change_shaped own started noInit hfn witness ?_
  intro W base args ds gs before hval hW _ hwt _ _
  have hW':=hW
  obtain ⟨p,q,hA,hV,rfl,hfz,hnd⟩:=hW
  rw [hv] at hV
  obtain ⟨rfl,rfl⟩:=trodVars_none hV
  have hlt: ∀x∈p,x.block<W.heap.size:=fun x hx=>by simpa using hW'.lt x (by simp [hx])
  rw [hv2,List.append_nil,List.append_nil] at hwt
  refine (walk W base args ds p hval hA (fun k hk=>by simpa using List.all_eq_true.1 hwt k hk)).mono fun e W' ⟨he,hw⟩=>⟨_,he,?_⟩
  have hb:=hw.below
  obtain ⟨s1,s2,s3⟩:=hsp ds (by rw [(trodAll_length hA).1]; simp)
  refine ⟨ds,[],_,[],p,[],hW',?_,?_,?_,hb.frame _,fun h=>by cases h⟩
  · rw [List.append_nil,s1,hres]; exact trodAll_mk1 (shut_bool htb true)
  · rw [List.append_nil,s2]; exact trodAll_stays hl hb hread hA hlt
  · rw [List.append_nil,s3,hv]; exact rfl
end
end Go.Owl
namespace Go.Owl
section
variable {β:Type} {g:β→List Value} {sz:Nat}
theorem flatMap_piece (hg: ∀b,(g b).length=sz): ∀(l:List β) (i:Nat) (d:β),i<l.length→((l.flatMap g).drop (i * sz)).take sz=g (l.getD i d)
  | [],i,d,h=>by simp at h
  | c::l,0,d,_=>by
    rw [List.flatMap_cons,Nat.zero_mul,List.drop_zero,List.take_append_of_le_length (by rw [hg]; exact Nat.le_refl _),List.take_of_length_le (by rw [hg]; exact Nat.le_refl _)]; rfl
  | c::l,i+1,d,h=>by
    have e:(i+1) * sz=sz+i * sz:=by rw [Nat.add_mul]; omega
    have e2:((c::l).flatMap g).drop ((i+1) * sz)=(l.flatMap g).drop (i * sz):=by
      have h0:((c::l).flatMap g).drop sz=l.flatMap g:=by
        have hh:=List.drop_left (l₁:=g c) (l₂:=l.flatMap g)
        rw [hg] at hh
        rw [List.flatMap_cons]; exact hh
      rw [e,←List.drop_drop,h0]
    rw [e2]
    have:=flatMap_piece hg l i d (by simpa using h)
    rw [this]; rfl
variable {w:World} {v:Value} {q:Nat} {l:List β}
theorem flat_len (hg: ∀b,(g b).length=sz) (hs:0<sz) (h:(l.flatMap g).length=q * sz):l.length=q:=by
  rw [flatMap_len hg] at h; exact Nat.eq_of_mul_eq_mul_right hs h
theorem Arr.flatLen (hA:Arr w v sz q (l.flatMap g)) (hg: ∀b,(g b).length=sz) (hs:0<sz):l.length=q:=flat_len hg hs hA.len
theorem Arr.atsF {i:Nat} (hA:Arr w v sz q (l.flatMap g)) (hg: ∀b,(g b).length=sz) (hs:0<sz) (d:β) (hi:i<q): ∀j u,(g (l.getD i d))[j]?=some u→w.cell? ⟨sBlk v,sOff v+i * sz+j,none⟩=some u :=
  hA.ats (by rw [hg]; exact flatMap_piece hg l i d (by rw [hA.flatLen hg hs]; exact hi))
theorem one_flat (h: ∀a, ∀c∈g a,c.oneCell'=true) {l:List β}: ∀c∈l.flatMap g,c.oneCell'=true:=fun c hc=>by
  obtain ⟨a,_,ha⟩:=List.mem_flatMap.1 hc
  exact h a c ha
end
section
variable {P:Program} {n:Nat} {D:List Deferred} {ρ:Env} {w w0:World} {R:Value→World→Prop} {dst:Option Tmp} {ty:TypeId} {pos:String} {af:Array Edge} {gd:Option (Nat × Bool)}
variable {S:List Nat} {L:List Ent} {i:Nat} {t t' T T':TypeId} {x y:Operand} {z:List Value} {sz by_:Nat} {d:TypeDesc}
theorem op_appendF {α:Type} {f:α→List Value} {l l':List α} {v u:Value} {q m:Nat} (H:Own S w0 w L) (hu:P.underlying T=some (.slice t)) (hz:tiB P t=some (z,sz,by_)) (hzl:z.length=sz) (hx:ev ρ x=some v) (hy:ev ρ y=some u)
    (hi:L[i]?=some (Ent.row v t sz q (l.flatMap f))) (hs:Src P w T' sz u m (l'.flatMap f)) (h1: ∀c∈l'.flatMap f,c.oneCell'=true) (h63:q+m≤9223372036854775807) (hby:(q+m) * by_≤140737488355328)
    (h: ∀v' w',Own S w0 w' (L.set i (.row v' t sz (q+m) ((l++l').flatMap f)))→R v' w'):Op1 P n D ⟨dst,.call { callee:=.builtin .append,args:=#[x,y],argTypes:=#[T,T'] },ty,pos,af,gd⟩ ρ w R :=
  op_append H hu hz hzl hx hy hi hs h1 h63 hby (fun v' w' H'=>h v' w' (by rw [List.flatMap_append]; exact H'))
theorem op_loadSP {v:Value} {k:Nat} {vs:List Value} (hx:ev ρ x=some (.pointer (some (sp v k)))) (hc: ∀j u,vs[j]?=some u→w.cell? ⟨sBlk v,sOff v+k+j,none⟩=some u) (hu:P.underlying T=some d) (hs:scal d=false)
    (hz:tiB P T=some (z,sz,by_)) (hl:vs.length=sz) (h:R (.agg vs.toArray) w):Op1 P n D ⟨dst,.load T x,ty,pos,af,gd⟩ ρ w R :=
  op_loadS (b:=sBlk v) (off:=sOff v+k) hx hc hu hs hz hl h
end
end Go.Owl
namespace Go.Owl
def w32 (x:Int):Int:=(x+2147483648)%4294967296-2147483648
section
variable {P:Program} {n:Nat} {D:List Deferred} {ρ:Env} {w:World} {R:Value→World→Prop} {dst:Option Tmp} {ty:TypeId} {pos:String} {af:Array Edge} {g:Option (Nat × Bool)}
variable {t t':TypeId} {x y:Operand}
end
def isNilS:Value→Bool
  | .slice a _ _=>a.isNone
  | _=>false
theorem Arr.isNil0 {w:World} {v:Value} {sz n:Nat} {xs:List Value} (h:Arr w v sz n xs) (hb:isNilS v=true):n=0∧v=.slice none 0 0:=by
  obtain ⟨a,cap,rfl,_,_,hn,_⟩:=h.form
  cases a with
  | none=>obtain ⟨rfl,rfl⟩:=hn rfl; exact ⟨rfl,rfl⟩
  | some a=>cases hb
section
variable {P:Program} {n:Nat} {D:List Deferred} {ρ:Env} {w:World} {R:Value→World→Prop} {dst:Option Tmp} {ty:TypeId} {pos:String} {af:Array Edge} {g:Option (Nat × Bool)}
variable {t t':TypeId} {x y:Operand}
theorem op_eqlSN {v:Value} {sz m:Nat} {xs:List Value} {el:TypeId} (hu:P.underlying t=some (.slice el)) (hx:ev ρ x=some v) (hA:Arr w v sz m xs) (hy:ev ρ y=some (.slice none 0 0)) (h:R (.bool (isNilS v)) w):Op1 P n D ⟨dst,.binOp .eql t x y t',ty,pos,af,g⟩ ρ w R:=by
  obtain ⟨a,cap,rfl,_⟩:=hA.form
  exact Op1.val (fun c ha=>by
    have hg:(eqGuard .eql t x y (.slice a m cap) (.slice none 0 0)).run P w=.ok () w:=rfl
    simp only [execOp,ha.ev hx,ha.ev hy,Sem.run_bind,hg,Result.andThen_ok,Lib.run_eql_slice_nil w _ _ a m cap 0 0 hu,Sem.run_pure]; rfl) h
end
end Go.Owl
namespace Go.Owl
variable {P:Program} {ops:Array Oper} {Q:Exit→Act→World→Prop}
end Go.Owl
namespace Go.Owl
variable {P:Program} {n:Nat} {D:List Deferred} {ρ:Env} {w w0:World} {S:List Nat} {L:List Ent} {Q:Exit→Act→World→Prop}
end Go.Owl
namespace Go.Owl
variable {P:Program} {n:Nat} {D:List Deferred} {ρ:Env} {w w0:World} {S:List Nat} {L:List Ent} {Q:Exit→Act→World→Prop}
end Go.Owl
namespace Go.Owl
variable {P:Program} {n:Nat} {D:List Deferred} {ρ:Env} {w w0:World} {S:List Nat} {L:List Ent} {Q:Exit→Act→World→Prop}
end Go.Owl
namespace Go.Owl
theorem bsplit {b:Bool} {P:Prop} (h1:b=true→P) (h2:b=false→P):P:=by
  cases h:b
  · exact h2 h
  · exact h1 h
section
variable {P:Program} {n:Nat} {D:List Deferred} {ρ:Env} {w:World} {R:Value→World→Prop} {dst:Option Tmp} {ty:TypeId} {pos:String} {af:Array Edge} {g:Option (Nat × Bool)} {t t':TypeId} {x y:Operand}
theorem op_neqPN {a:Option Addr} (hu:P.underlying t=some (.pointer (P.pointee t))) (hx:ev ρ x=some (.pointer a)) (hy:ev ρ y=some (.pointer none)) (h:R (.bool (!a.isNone)) w):Op1 P n D ⟨dst,.binOp .neq t x y t',ty,pos,af,g⟩ ρ w R :=
  Op1.val (fun c ha=>by
    have hg:(eqGuard .neq t x y (.pointer a) (.pointer none)).run P w=.ok () w:=rfl
    simp only [execOp,ha.ev hx,ha.ev hy,Sem.run_bind,hg,Result.andThen_ok,run_neq_pointer_nil w t a hu,Sem.run_pure]) h
end
theorem Arr.lenF {β:Type} {g:β→List Value} {w:World} {v:Value} {sz q:Nat} {l:List β} (hA:Arr w v sz q (l.flatMap g)) (hg: ∀b,(g b).length=sz) (hs:0<sz):Arr w v sz l.length (l.flatMap g):=by
  have h:=hA.len
  rw [flatMap_len hg] at h
  have e:l.length=q:=Nat.eq_of_mul_eq_mul_right hs h
  rw [e]; exact hA
end Go.Owl
namespace Go.Owl
section
variable {P:Program} {n:Nat} {D:List Deferred} {ρ:Env} {w w0:World} {S:List Nat} {L:List Ent} {ops:Array Oper} {Q:Exit→Act→World→Prop}
def Nrm (Q:Exit→Act→World→Prop):Exit→Act→World→Prop:=fun e a w=>e=.normal∧Q .normal a w
theorem letsOut_nrm (h:LetsOut (Nrm Q)):False:=by
  obtain ⟨_,_,h,_⟩:=h; cases h
theorem wp_nrm {o:Oper} {a:Act} {w:World} {K:Act→World→Prop} (h:o.wp P a w K (Nrm Q)):o.wp P a w K Q:=by
  unfold Oper.wp at *
  generalize (execOp a.eval o).run P w=r at *
  cases r with
  | ok x w' =>
    cases x<;>simp only [Oper.upon] at h ⊢ <;> first
      | exact h
      | exact Calls.mono h (fun e w'' he=>by
          cases e with
          | returned v=>exact he
          | panicked c=>exact absurd he.1 (by intro h; cases h)
          | outgrown=>exact (letsOut_nrm he).elim)
  | halt x w' =>
    cases x<;>simp only [Oper.upon] at h ⊢ <;> first
      | exact h
      | exact absurd h.1 (by intro h; cases h)
theorem wpOp_nrm {i:Nat} {a:Act} {w:World} {K:Act→World→Prop} (h:wpOp P ops (Nrm Q) i K a w):wpOp P ops Q i K a w:=by
  unfold wpOp at *
  cases ho:ops[i]? with
  | none=>simp only [ho] at h ⊢; exact h
  | some o =>
    simp only [ho] at h ⊢
    split
    · rename_i hw
      rw [if_pos hw] at h
      rcases h with h | ⟨_,h⟩
      · exact .inl (wp_nrm h)
      · exact (letsOut_nrm h).elim
    · rename_i hw
      rw [if_neg hw] at h; exact h
theorem wpAny_nrm: ∀(fuel:Nat) (listed:Array Bool) (a:Act) (w:World),wpAny P .any ops (Nrm Q) fuel listed a w→wpAny P .any ops Q fuel listed a w
  | 0,_,_,_,h=>⟨h.1,h.2.2⟩
  | fuel+1,_,_,_,h=>⟨fun hr=>(h.1 hr).2,fun i hi=>wpOp_nrm (wpOp_mono (fun a w h=>wpAny_nrm fuel _ a w h) (h.2 i hi))⟩
def WD (P:Program) (n:Nat) (D:List Deferred) (ops:Array Oper) (Q:Exit→Act→World→Prop) (fuel:Nat) (listed:Array Bool) (ρ:Env) (w:World):Prop :=
  ∀a,Agr n D ρ a→wpAny P .any ops (Nrm Q) fuel listed a w
theorem WC.drawn {id:Nat} {l:List Oper} (N:Nat) (hN:l.length=N) (hm:P.follows .mixedOrders=true) (H:Own S w0 w L) (h: ∀w1,Own S w0 w1 L→WD P n D l.toArray Q N (Array.replicate N false) ρ w1):WC P n D (.region id l.toArray true) Q ρ w:=by
  subst hN
  exact fun a ha=>wp_region_any hm (wpAny_nrm _ _ _ _ (by have h1:=h w.drew (H.fr' (Fr.drew w)) a ha; rw [show l.length=l.toArray.size from (List.size_toArray ..).symm] at h1; exact h1))
def chkEarly (ops:Array Oper) (listed:Array Bool) (i:Nat):Bool:=Region.noSelect ops&&Region.free .any ops listed i&&(Region.ready .any ops listed).contains i
theorem WD.op {i fuel:Nat} {oi:Oper} {listed:Array Bool} (hi:ops[i]?=some oi) (hg:oi.guard=none) (hd:dOK n oi.dst=true) (hr:Region.ready .any ops listed=[i])
    (h:Op1 P n D oi ρ w (fun v w'=>WD P n D ops Q fuel (listed.setIfInBounds i true) (ext ρ oi.dst v) w')):WD P n D ops Q (fuel+1) listed ρ w:=by
  intro a ha
  refine ⟨fun h=>(by rw [hr] at h; cases h),fun j hj=>?_⟩
  rw [hr] at hj
  have hji:j=i:=by simpa using hj
  subst hji
  refine wpOp_of hi ?_
  rw [if_pos (by simp [Region.wanted,hg])]
  exact (h a ha).wp fun v w' hR=>hR _ (ha.put hd v)
theorem WD.done {fuel:Nat} {listed:Array Bool} (hr:Region.ready .any ops listed=[]) (h:WQ n D Q .normal ρ w):WD P n D ops Q fuel listed ρ w :=
  fun a ha=>wpAny_done hr ⟨rfl,h a ha⟩ fuel
end
end Go.Owl
namespace Go.Owl
section
variable {P:Program} {n:Nat} {D:List Deferred} {ρ ρ':Env} {w w0:World} {S:List Nat} {L:List Ent} {ops:Array Oper} {Q:Exit→Act→World→Prop} {fuel:Nat} {listed:Array Bool}
theorem WD.named (h: ∀W:Nat→Array Bool→Env→World→Prop,W=WD P n D ops Q→W fuel listed ρ w):WD P n D ops Q fuel listed ρ w:=h _ rfl
theorem WD.cov (hc:Cov ρ ρ') (h:WD P n D ops Q fuel listed ρ' w):WD P n D ops Q fuel listed ρ w:=fun a ha=>h a (ha.cov hc)
def WS (P:Program) (n:Nat) (D:List Deferred) (ops:Array Oper) (Q:Exit→Act→World→Prop) (i fuel:Nat) (listed:Array Bool) (ρ:Env) (w:World):Prop :=
  ∀a,Agr n D ρ a→wpOp P ops (Nrm Q) i (wpAny P .any ops (Nrm Q) fuel (listed.setIfInBounds i true)) a w
theorem WS.op {i:Nat} {oi:Oper} (hi:ops[i]?=some oi) (hg:oi.guard=none) (hd:dOK n oi.dst=true)
    (h:Op1 P n D oi ρ w (fun v w'=>WD P n D ops Q fuel (listed.setIfInBounds i true) (ext ρ oi.dst v) w')):WS P n D ops Q i fuel listed ρ w:=by
  intro a ha
  refine wpOp_of hi ?_
  rw [if_pos (by simp [Region.wanted,hg])]
  exact (h a ha).wp fun v w' hR=>hR _ (ha.put hd v)
theorem WD.all {rs:List Nat} (hr:Region.ready .any ops listed=rs) (hne:rs≠[]) (h: ∀i,i∈rs→WS P n D ops Q i fuel listed ρ w):WD P n D ops Q (fuel+1) listed ρ w:=by
  subst hr
  exact fun a ha=>⟨fun h0=>absurd h0 hne,fun i hi=>h i hi a ha⟩
theorem WD.all1 {i:Nat} (hr:Region.ready .any ops listed=[i]) (h:WS P n D ops Q i fuel listed ρ w):WD P n D ops Q (fuel+1) listed ρ w :=
  WD.all hr (by simp) fun k hk=>by
    rcases List.mem_singleton.1 hk with rfl; exact h
theorem WD.all2 {i j:Nat} (hr:Region.ready .any ops listed=[i,j]) (h:WS P n D ops Q i fuel listed ρ w) (h2:WS P n D ops Q j fuel listed ρ w):WD P n D ops Q (fuel+1) listed ρ w :=
  WD.all hr (by simp) fun k hk=>by
    rcases List.mem_cons.1 hk with rfl | hk
    · exact h
    · rcases List.mem_singleton.1 hk with rfl; exact h2
theorem WD.all3 {i j m:Nat} (hr:Region.ready .any ops listed=[i,j,m]) (h:WS P n D ops Q i fuel listed ρ w) (h2:WS P n D ops Q j fuel listed ρ w) (h3:WS P n D ops Q m fuel listed ρ w):WD P n D ops Q (fuel+1) listed ρ w :=
  WD.all hr (by simp) fun k hk=>by
    rcases List.mem_cons.1 hk with rfl | hk
    · exact h
    · rcases List.mem_cons.1 hk with rfl | hk
      · exact h2
      · rcases List.mem_singleton.1 hk with rfl; exact h3
theorem WD.cw {W:Nat→Array Bool→Env→World→Prop} (hW:W=WD P n D ops Q) (h:W fuel listed ρ' w) (hc:Cov ρ ρ':=by repeat (first | exact trivial | refine ⟨rfl,?_⟩)):WD P n D ops Q fuel listed ρ w:=by
  subst hW; exact WD.cov hc h
end
end Go.Owl
namespace Go.Owl
section
variable {P:Program} {n:Nat} {D:List Deferred} {ρ:Env} {w w0:World} {R:Value→World→Prop} {dst:Option Tmp} {ty:TypeId} {pos:String} {af:Array Edge} {g:Option (Nat × Bool)}
variable {S:List Nat} {L:List Ent} {i:Nat} {t t' T T':TypeId} {x y:Operand} {z:List Value} {sz by_:Nat} {k:IntKind}
end
end Go.Owl
namespace Go.Owl
section
variable {P:Program} {n:Nat} {D:List Deferred} {Q:Exit→Act→World→Prop} {ρ:Env} {w:World} {c:Code}
theorem WC.unroll (k:Nat) (h:WC P n D c (Exit.then (Code.rounds P c Q k) Q) ρ w):WC P n D (.loop c) Q ρ w :=
  fun a ha=>wp_loop_rounds (k+1) (h a ha)
theorem WQ.again {k:Nat} (h:WC P n D c (Exit.then (Code.rounds P c Q k) Q) ρ w):WQ n D (Exit.then (Code.rounds P c Q (k+1)) Q) .normal ρ w :=
  fun a ha=>h a ha
end
end Go.Owl
namespace Go.Owl
structure Deep (α:Type) where
  ok:World→α→Prop
  ft:α→List Nat
  lt: ∀(w:World) (a:α),ok w a→∀b∈ft a,b<w.heap.size
  fr: ∀(T:List Nat) (w w':World) (a:α),Fr T w w'→(∀b∈ft a,b ∉ T)→ok w a→ok w' a
section
variable {α β:Type} {S:List Nat} {w0 w w':World} {L:List Ent} {i j:Nat}
theorem Deep.st (D:Deep α) (a:α):Stable (fun w=>D.ok w a) (D.ft a):=⟨fun w h=>D.lt w a h,fun T w w' hf hT h=>D.fr T w w' a hf hT h⟩
def Deep.list (D:Deep α):Deep (List α) where
  ok:=fun w l=> ∀x∈l,D.ok w x
  ft:=fun l=>l.flatMap D.ft
  lt:=fun w l h b hb=>by
    obtain ⟨x,hx,hb⟩:=List.mem_flatMap.1 hb
    exact D.lt w x (h x hx) b hb
  fr:=fun T w w' l hf hT h x hx=>D.fr T w w' x hf (fun b hb=>hT b (List.mem_flatMap.2 ⟨x,hx,hb⟩)) (h x hx)
def Deep.and (D E:Deep α):Deep α where
  ok:=fun w a=>D.ok w a∧E.ok w a
  ft:=fun a=>D.ft a++E.ft a
  lt:=fun w a h b hb=>(List.mem_append.1 hb).elim (D.lt w a h.1 b) (E.lt w a h.2 b)
  fr:=fun T w w' a hf hT h=>⟨D.fr T w w' a hf (fun b hb=>hT b (List.mem_append.2 (.inl hb))) h.1,E.fr T w w' a hf (fun b hb=>hT b (List.mem_append.2 (.inr hb))) h.2⟩
def Deep.on (D:Deep β) (g:α→β):Deep α where
  ok:=fun w a=>D.ok w (g a)
  ft:=fun a=>D.ft (g a)
  lt:=fun w a=>D.lt w (g a)
  fr:=fun T w w' a=>D.fr T w w' (g a)
def Deep.arr (sz:Nat) (g:β→List Value):Deep (Value × List β) where
  ok:=fun w p=>Arr w p.1 sz p.2.length (p.2.flatMap g)
  ft:=fun p=>footA p.1 (p.2.flatMap g)
  lt:=fun w p=>(Arr.stable p.1 sz p.2.length (p.2.flatMap g)).lt w
  fr:=fun T w w' p hf hT h=>(Arr.stable p.1 sz p.2.length (p.2.flatMap g)).fr T w w' hf hT h
def Ent.dp (D:Deep α) (a:α):Ent:=.ro (fun w=>D.ok w a) (D.ft a) (D.st a)
theorem Own.dpO {D:Deep α} {a:α} (H:Own S w0 w L) (hi:L[i]?=some (Ent.dp D a)):D.ok w a:=H.ok i _ hi
theorem Deep.getD (D:Deep α) {l:List α} (h:D.list.ok w l) (d:α) (hd:D.ok w d) (i:Nat):D.ok w (l.getD i d):=by
  rcases Nat.lt_or_ge i l.length with hi | hi
  · rw [show l.getD i d=l[i] by simp [List.getD,hi]]; exact h _ (List.getElem_mem hi)
  · rw [show l.getD i d=d by simp [List.getD,Nat.not_lt.2 hi]]; exact hd
theorem Deep.list_nil (D:Deep α):D.list.ok w []:=fun x hx=>by cases hx
theorem Deep.list_snoc (D:Deep α) {l:List α} {a:α} (h:D.list.ok w l) (k:D.ok w a):D.list.ok w (l++[a]):=fun x hx=>by
  rcases List.mem_append.1 hx with hx | hx
  · exact h x hx
  · rw [List.mem_singleton] at hx; subst hx; exact k
theorem Own.join {p q r:World→Prop} {F G K:List Nat} {sp:Stable p F} {sq:Stable q G} {sr:Stable r K} (H:Own S w0 w L) (hi:L[i]?=some (.ro p F sp)) (hj:L[j]?=some (.ro q G sq)) (hr:p w→q w→r w) (hs: ∀b∈K,b∈F∨b∈G) :
    Own S w0 w (L++[.ro r K sr]) :=
  H.new' (Fr.refl _ _) (hr (H.ok i _ hi) (H.ok j _ hj)) (fun b hb=>by cases hb) (fun b hb k f hk hfb=>by
    rcases hs b hb with h | h
    · have hne:k≠i:=fun e=>by subst e; rw [hi] at hk; injection hk with hk; subst hk; cases hfb
      exact H.sep k i f _ hk hi hne b hfb h
    · have hne:k≠j:=fun e=>by subst e; rw [hj] at hk; injection hk with hk; subst hk; cases hfb
      exact H.sep k j f _ hk hj hne b hfb h)
theorem Own.dpSnoc {D:Deep α} {l:List α} {a:α} (H:Own S w0 w L) (hi:L[i]?=some (Ent.dp D.list l)) (hj:L[j]?=some (Ent.dp D a)):Own S w0 w (L++[Ent.dp D.list (l++[a])]) :=
  H.join hi hj (fun h k=>D.list_snoc h k) (fun b hb=>by
    have hb':b∈(l++[a]).flatMap D.ft:=hb
    rw [List.flatMap_append,List.mem_append] at hb'
    rcases hb' with h | h
    · exact .inl h
    · rw [List.flatMap_cons,List.flatMap_nil,List.append_nil] at h; exact .inr h)
theorem Own.dpNil (D:Deep α) (H:Own S w0 w L):Own S w0 w (L++[Ent.dp D.list []]) :=
  H.new' (Fr.refl _ _) D.list_nil (fun b hb=>by cases hb) (fun b hb=>by cases hb)
theorem Own.dpOld {D:Deep α} {a:α} (H:Own [] w0 w L) (h:D.ok w0 a):Own [] w0 w (L++[Ent.dp D a]):=H.old (D.st a) h
end
end Go.Owl
namespace Go.Owl
section
variable {P:Program} {n:Nat} {D:List Deferred} {ρ:Env} {w w0:World} {R:Value→World→Prop} {dst:Option Tmp} {ty:TypeId} {pos:String} {af:Array Edge} {g:Option (Nat × Bool)}
variable {S:List Nat} {L:List Ent} {i:Nat} {t t' T T':TypeId} {x y:Operand} {z:List Value} {sz by_:Nat} {d:TypeDesc}
structure SrcC (P:Program) (w:World) (sz:Nat) (u:Value) (m:Nat) (ys:List Value):Prop where
  len:(Builtin.lenOf u).run P w=.ok m w
  size:ys.length=m * sz
  cells: ∀k,k≤m→(Builtin.firstCells sz k u).run P w=.ok (ys.take (k * sz)).toArray w
theorem SrcC.ofStr {l:List UInt8}:SrcC P w 1 (str l) l.length (l.map vU8):=by
  refine ⟨by simp [Builtin.lenOf,size_str],by simp,fun k hk=>?_⟩
  simp only [Builtin.firstCells,ByteArray.extract_mk,Nat.mul_one]
  simp [List.map_take]
theorem SrcC.ofArr {u:Value} {m:Nat} {ys:List Value} (hA:Arr w u sz m ys):SrcC P w sz u m ys:=by
  obtain ⟨a0,cap,rfl,hn,hc,ha0,hsp⟩:=hA.form
  refine ⟨by simp [Builtin.lenOf],hA.len,fun k hk=>?_⟩
  cases a0 with
  | none =>
    have:ys=[]:=List.eq_nil_of_length_eq_zero (by rw [hA.len,(ha0 rfl).1]; simp)
    subst this
    simp [Builtin.firstCells]
  | some ad =>
    by_cases hm0:k=0
    · subst hm0
      have:=run_firstCells_some (P:=P) w sz 0 ad m cap [] (by simp) (fun j v hj=>by simp at hj)
      simpa using this
    have hs0:=hsp (by omega) ad rfl
    obtain ⟨b,o,s⟩:=ad
    simp at hs0; subst hs0
    refine run_firstCells_some w sz k ⟨b,o,none⟩ m cap (ys.take (k * sz)) ?_ (fun j v hj=>?_)
    · rw [List.length_take,hA.len]; exact Nat.min_eq_left (Nat.mul_le_mul_right _ hk)
    rw [Addr.add_at]
    have hj':j<(ys.take (k * sz)).length:=(List.getElem?_eq_some_iff.1 hj).1
    have hjy:j<ys.length:=by rw [List.length_take] at hj'; omega
    have h1:=hA.cell j hjy
    rw [List.getElem?_take,if_pos (by rw [List.length_take] at hj'; omega)] at hj
    rw [←hj,←h1]
    rfl
def Sub (u v:Value) (a dl:Nat):Prop:= ∃ad cap,u=.slice ad dl cap∧(dl≠0→ad=some (sp v a))
theorem Sub.self {v:Value} {q:Nat} {xs:List Value} (hA:Arr w v 1 q xs):Sub v v 0 q:=by
  obtain ⟨a0,cap,rfl,hn,hc,ha0,hsp⟩:=hA.form
  refine ⟨a0,cap,rfl,fun h=>?_⟩
  cases a0 with
  | none=>exact absurd (ha0 rfl).1 h
  | some ad =>
    have:=hsp h ad rfl
    obtain ⟨b,o,s⟩:=ad
    simp at this; subst this
    rfl
theorem RowOK.stores {v:Value} {q a:Nat} {xs ys:List Value} (hr:RowOK w v t 1 q xs) (ha:a+ys.length≤q) (h1: ∀c∈ys,c.oneCell'=true) (hne:ys≠[]) :
    ∃w',(storeCells (sp v a) ys).run P w=.ok () w'∧RowOK w' v t 1 q (xs.take a++(ys++xs.drop (a+ys.length)))∧Fr v.ownBlock.toList w w':=by
  have hp:0<ys.length:=List.length_pos_iff.2 hne
  obtain ⟨hl,⟨rfl,rfl⟩ | ⟨gb,cap,pre,junk,rfl,hk,hn,hc,hj⟩⟩:=hr
  · omega
  · rw [Nat.mul_one] at hl
    have hst:=run_storeCells_blk P gb (pre.length+a) t ys 0 _ w hk (by simp; omega) h1
    have e:List.take (pre.length+a+0) (pre++(xs++junk))++ys++List.drop (pre.length+a+0+ys.length) (pre++(xs++junk))=pre++((xs.take a++(ys++xs.drop (a+ys.length)))++junk):=by
      rw [Nat.add_zero,Nat.add_assoc,List.take_length_add_append,List.drop_length_add_append,List.take_append_of_le_length (by omega),List.drop_append_of_le_length (by omega)]
      simp only [List.append_assoc]
    rw [e] at hst
    refine ⟨_,hst,⟨by simp only [List.length_append,List.length_take,List.length_drop]; omega,.inr ⟨gb,cap,pre,junk,rfl,hk.setRow _ (by simp only [List.length_append,List.length_take,List.length_drop]; omega),hn,hc,?_⟩⟩,Fr.setRow _ _ _⟩
    simp only [List.length_append,List.length_take,List.length_drop] at hj ⊢; omega
theorem op_copy {u v s:Value} {q m a dl:Nat} {xs ys:List Value} (H:Own S w0 w L) (hu:P.underlying T=some (.slice t)) (hz:tiB P t=some (z,1,by_)) (hx:ev ρ x=some u) (hy:ev ρ y=some s)
    (hs:SrcC P w 1 s m ys) (hi:L[i]?=some (Ent.row v t 1 q xs)) (hd:Sub u v a dl) (ha:a+dl≤q) (h1: ∀c∈ys,c.oneCell'=true)
    (h: ∀w',Own S w0 w' (L.set i (.row v t 1 q (xs.take a++(ys.take (min m dl)++xs.drop (a+min m dl)))))→R (vN (min m dl)) w') :
    Op1 P n D ⟨dst,.call { callee:=.builtin .copy,args:=#[x,y],argTypes:=#[T,T'] },ty,pos,af,g⟩ ρ w R:=by
  obtain ⟨ad,cap,rfl,had⟩:=hd
  have hys:ys.length=m:=by have:=hs.size; omega
  have hc:=hs.cells (min m dl) (Nat.min_le_left _ _)
  rw [Nat.mul_one] at hc
  have hlen:(ys.take (min m dl)).length=min m dl:=by rw [List.length_take,hys]; omega
  have hmin:Nat.min m dl=min m dl:=rfl
  by_cases h0:min m dl=0
  · have e0:ys.take (min m dl)=[]:=List.eq_nil_of_length_eq_zero (by rw [hlen,h0])
    have hrow:=h w (by
      rw [e0,h0,Nat.add_zero,List.nil_append,List.take_append_drop]
      have hh:=List.getElem?_eq_some_iff.1 hi
      rw [show L.set i (Ent.row v t 1 q xs)=L by rw [←hh.2]; exact List.set_getElem_self hh.1]; exact H)
    refine Op1.val (w':=w) (fun c hcc=>?_) hrow
    rw [e0] at hc
    cases ad with
    | none=>simp [execOp,resolve,invoke,builtin,hcc.ev hx,hcc.ev hy,Builtin.copy_,run_underlying hu,hs.len,run_sizeOf hz,hmin,hc,goInt]
    | some ad=>simp [execOp,resolve,invoke,builtin,hcc.ev hx,hcc.ev hy,Builtin.copy_,run_underlying hu,hs.len,run_sizeOf hz,hmin,hc,goInt,storeCells]
  · have hdl:dl≠0:=by omega
    have:=had hdl; subst this
    obtain ⟨w',h2,h3,h4⟩:=(H.row hi).stores (P:=P) (a:=a) (ys:=ys.take (min m dl)) (by rw [hlen]; omega) (fun c hcc=>h1 c (List.mem_of_mem_take hcc)) (fun e=>by rw [e] at hlen; simp at hlen; omega)
    rw [hlen] at h3
    refine Op1.val (w':=w') (fun c hcc=>?_) (h w' (H.upd hi h4 (fun b hb=>by simpa [Ent.Owns] using hb) h3 (fun b hb=>.inl hb)))
    simp [execOp,resolve,invoke,builtin,hcc.ev hx,hcc.ev hy,Builtin.copy_,run_underlying hu,hs.len,run_sizeOf hz,hmin,hc,goInt,h2]
theorem op_copyM {α:Type} {f:α→Value} {l r:List α} {u v s:Value} {q m a dl kk:Nat} (H:Own S w0 w L) (hu:P.underlying T=some (.slice t)) (hz:tiB P t=some (z,1,by_)) (hx:ev ρ x=some u) (hy:ev ρ y=some s)
    (hs:SrcC P w 1 s m (r.map f)) (hi:L[i]?=some (Ent.row v t 1 q (l.map f))) (hd:Sub u v a dl) (ha:a+dl≤q) (hk:min m dl=kk) (h1: ∀c,(f c).oneCell'=true)
    (h: ∀w',Own S w0 w' (L.set i (.row v t 1 q ((l.take a++(r.take kk++l.drop (a+kk))).map f)))→R (vN kk) w') :
    Op1 P n D ⟨dst,.call { callee:=.builtin .copy,args:=#[x,y],argTypes:=#[T,T'] },ty,pos,af,g⟩ ρ w R:=by
  subst hk
  exact op_copy H hu hz hx hy hs hi hd ha (fun c hc=>by obtain ⟨b,_,rfl⟩:=List.mem_map.1 hc; exact h1 b) (fun w' H'=>h w' (by
    rw [List.map_append,List.map_append,List.map_take,List.map_take,List.map_drop]; exact H'))
end
end Go.Owl
namespace Go.Owl
section
variable {β:Type} {g:β→Value}
def ments (g:β→Value):List (List UInt8 × β)→Nat→List MapEntry
  | [],_=>[]
  | (k,v)::l,i=>⟨str k,g v,i⟩::ments g l (i+1)
def mO (g:β→Value) (l:List (List UInt8 × β)):Obj:=.map (ments g l 0).toArray l.length
end
section
variable {P:Program} {n:Nat} {D:List Deferred} {ρ:Env} {w w0:World} {R:Value→World→Prop} {dst:Option Tmp} {ty:TypeId} {pos:String} {af:Array Edge} {gd:Option (Nat × Bool)}
variable {S:List Nat} {L:List Ent} {i b:Nat} {t T kt et:TypeId} {x y z:Operand} {by_:Nat} {β:Type} {g:β→Value} {l:List (List UInt8 × β)} {k:List UInt8}
theorem Own.map (H:Own S w0 w L) (hi:L[i]?=some (Ent.obj b (mO g l))):w.heap[b]?=some (.map (ments g l 0).toArray l.length):=H.ok i _ hi
def zvB (P:Program) (t:TypeId):Option Value:=(P.info? t).bind (·.zero)
theorem run_zv {v:Value} (hz:zvB P t=some v):(zeroValue t).run P w=.ok v w:=by
  unfold zvB at hz
  cases hi:P.info? t with
  | none=>rw [hi] at hz; cases hz
  | some ti =>
    rw [hi] at hz
    have hz':ti.zero=some v:=hz
    simp [zeroValue,typeInfo,hi,hz']
end
end Go.Owl
namespace Go.Owl
section
variable {P:Program} {n:Nat} {D:List Deferred} {ρ:Env} {w w0:World} {R:Value→World→Prop} {dst:Option Tmp} {ty:TypeId} {pos:String} {af:Array Edge} {g:Option (Nat × Bool)}
variable {S:List Nat} {L:List Ent} {i:Nat} {t t' T T':TypeId} {x y:Operand} {z:List Value} {sz by_:Nat} {d:TypeDesc}
theorem Sub.cut {v:Value} {q a b:Nat} {xs:List Value} (hA:Arr w v 1 q xs) (hab:a≤b) (hb:b≤q):Sub (cutV v a b 1) v a (b-a):=by
  obtain ⟨ad,cap,rfl,hn,hcm,ha0,hsp⟩:=hA.form
  refine ⟨_,_,rfl,fun h=>?_⟩
  rw [if_neg (by omega)]
  cases ad with
  | none=>have:=ha0 rfl; omega
  | some ad =>
    have:=hsp (by omega) ad rfl
    obtain ⟨bb,o,s⟩:=ad
    simp at this; subst this
    simp only [Option.map_some,Addr.add_at,sp,sBlk,sOff,Nat.mul_one]
theorem Own.blkEq {b:Nat} {cs cs':List Value} (H:Own S w0 w L) (hi:L[i]?=some (Ent.blk b cs t)) (e:cs=cs'):Own S w0 w (L.set i (.blk b cs' t)):=by
  subst e
  have h:=List.getElem?_eq_some_iff.1 hi
  have e:L.set i (.blk b cs t)=L:=by rw [←h.2]; exact List.set_getElem_self h.1
  rw [e]; exact H
end
theorem set_tab {α β:Type} {f:α→β} (p:List β) (l:List α) (k i:Nat) (x:α) (hp:p.length=k:=by rfl):(p++l.map f).set (k+i) (f x)=p++(l.set i x).map f:=by
  subst hp
  rw [List.set_append_right _ _ (Nat.le_add_right _ _),Nat.add_sub_cancel_left,List.map_set]
theorem drop_tab {α β:Type} {f:α→β} (p:List β) (l:List α) (k:Nat) (hp:p.length=k:=by rfl):((p++l.map f).drop k).take (l.map f).length=l.map f:=by
  subst hp; rw [List.drop_left,List.take_length]
end Go.Owl
namespace Go.Owl
section
variable {α:Type} {S:List Nat} {w0 w w1:World} {L:List Ent} {i j:Nat} {t:TypeId} {f:α→List Value} {bl:α→Nat} {l:List α}
def BsOK (t:TypeId) (f:α→List Value) (bl:α→Nat) (l:List α) (w:World):Prop:=(l.map bl).Nodup∧∀a∈l,Blk w (bl a) (f a) t
theorem BsOK.st (t:TypeId) (f:α→List Value) (bl:α→Nat) (l:List α):Stable (BsOK t f bl l) (l.map bl) where
  lt:=fun w h b hb=>by
    obtain ⟨a,ha,rfl⟩:=List.mem_map.1 hb
    exact (h.2 a ha).lt
  fr:=fun T w w' hf hT h=>⟨h.1,fun a ha=>(h.2 a ha).fr hf (hT _ (List.mem_map.2 ⟨a,ha,rfl⟩))⟩
def Ent.bs (t:TypeId) (f:α→List Value) (bl:α→Nat) (l:List α):Ent:=.grp (BsOK t f bl l) (l.map bl) (BsOK.st t f bl l)
def Ent.bsO (t:TypeId) (f:α→List Value) (bl:α→Nat) (l:List α):Ent:=.ro (BsOK t f bl l) (l.map bl) (BsOK.st t f bl l)
theorem Own.bsG (H:Own S w0 w L) (hi:L[i]?=some (Ent.bs t f bl l)):BsOK t f bl l w:=H.ok i _ hi
theorem Own.bsR (H:Own S w0 w L) (hi:L[i]?=some (Ent.bsO t f bl l)):BsOK t f bl l w:=H.ok i _ hi
theorem BsOK.cell (h:BsOK t f bl l w) {a:α} (ha:a∈l) {k:Nat} {v:Value} (hv:(f a)[k]?=some v):w.cell? ⟨bl a,k,none⟩=some v:=by
  rw [(h.2 a ha).cell]; exact hv
theorem BsOK.nil:BsOK t f bl [] w:=⟨List.nodup_nil,fun a h=>by cases h⟩
theorem Own.bsNil (H:Own S w0 w L) (t:TypeId) (f:α→List Value) (bl:α→Nat):Own S w0 w (L++[Ent.bs t f bl []]) :=
  H.new (Fr.refl _ _) BsOK.nil (fun b hb=>by cases hb)
theorem Own.bsFreeze (H:Own S w0 w L) (hi:L[i]?=some (Ent.bs t f bl l)):Own S w0 w (L.set i (Ent.bsO t f bl l)) :=
  H.upd' hi (Fr.refl [] w) (fun b hb=>by cases hb) (H.bsG hi) (fun b hb=>by cases hb) (fun b hb=>.inl hb)
theorem Own.bsOld (H:Own [] w0 w L) (h:BsOK t f bl l w0):Own [] w0 w (L++[Ent.bsO t f bl l]):=H.old (BsOK.st t f bl l) h
def Ent.nul:Ent:=.ro (fun _=>True) [] ⟨fun _ _ _ h=>(by cases h),fun _ _ _ _ _ _=>True.intro⟩
theorem Own.regroup {e e1 e2:Ent} (H:Own S w0 w L) (hi:L[i]?=some e) (h1:e1.ok w) (h2:e2.ok w) (o1: ∀b,e1.Owns b→e.Owns b) (o2: ∀b,e2.Owns b→e.Owns b) (f1: ∀b∈e1.foot,b∈e.foot) (f2: ∀b∈e2.foot,b∈e.foot)
    (s1: ∀b,e1.Owns b→b ∉ e2.foot) (s2: ∀b,e2.Owns b→b ∉ e1.foot):Own S w0 w (L.set i e1++[e2]):=by
  have hlt:=(List.getElem?_eq_some_iff.1 hi).1
  have key: ∀k x,(L.set i e1++[e2])[k]?=some x→(k=i∧x=e1)∨(k=L.length∧x=e2)∨(k≠i∧k<L.length∧L[k]?=some x):=fun k x hk=>by
    rcases Nat.lt_or_ge k L.length with h | h
    · rw [List.getElem?_append_left (by rw [List.length_set]; exact h),List.getElem?_set] at hk
      by_cases hik:i=k
      · subst hik; simp [hlt] at hk; exact .inl ⟨rfl,hk.symm⟩
      · rw [if_neg hik] at hk; exact .inr (.inr ⟨fun e=>hik e.symm,h,hk⟩)
    · rw [List.getElem?_append_right (by rw [List.length_set]; exact h),List.length_set] at hk
      have h0:=(List.getElem?_eq_some_iff.1 hk).1
      simp only [List.length_cons,List.length_nil] at h0
      rw [show k-L.length=0 by omega] at hk
      exact .inr (.inl ⟨by omega,(Option.some.inj hk).symm⟩)
  refine ⟨H.fr,fun k x hk=>?_,fun k m x y hk hm hkm b hb=>?_,fun k x hk b hb=>?_⟩
  · rcases key k x hk with ⟨_,rfl⟩ | ⟨_,rfl⟩ | ⟨_,_,h⟩
    · exact h1
    · exact h2
    · exact H.ok k x h
  · rcases key k x hk with ⟨rfl,rfl⟩ | ⟨rfl,rfl⟩ | ⟨hk1,hk2,hk3⟩<;>rcases key m y hm with ⟨rfl,rfl⟩ | ⟨rfl,rfl⟩ | ⟨hm1,hm2,hm3⟩
    · exact absurd rfl hkm
    · exact s1 b hb
    · exact H.sep k m e y hi hm3 hkm b (o1 b hb)
    · exact s2 b hb
    · exact absurd rfl hkm
    · exact H.sep i m e y hi hm3 (Ne.symm hm1) b (o2 b hb)
    · exact fun h=>H.sep k m x e hk3 hi hkm b hb (f1 b h)
    · exact fun h=>H.sep k i x e hk3 hi hk1 b hb (f2 b h)
    · exact H.sep k m x y hk3 hm3 hkm b hb
  · rcases key k x hk with ⟨rfl,rfl⟩ | ⟨rfl,rfl⟩ | ⟨_,_,h⟩
    · exact H.own k e hi b (o1 b hb)
    · exact H.own i e hi b (o2 b hb)
    · exact H.own k x h b hb
theorem nodup_mid {a:Nat} {p q:List Nat}:(p++a::q).Nodup↔a ∉ p++q∧(p++q).Nodup :=
  (List.perm_middle.nodup_iff).trans List.nodup_cons
theorem Own.focus {l1 l2:List α} {a:α} (H:Own S w0 w L) (hi:L[i]?=some (Ent.bs t f bl (l1++a::l2))):Own S w0 w (L.set i (Ent.bs t f bl (l1++l2))++[.blk (bl a) (f a) t]):=by
  have h:=H.bsG hi
  have hn:=h.1
  rw [List.map_append,List.map_cons,nodup_mid,←List.map_append] at hn
  have hs: ∀x∈l1++l2,x∈l1++a::l2:=fun x hx=>by
    rcases List.mem_append.1 hx with hx | hx
    · exact List.mem_append.2 (.inl hx)
    · exact List.mem_append.2 (.inr (List.mem_cons_of_mem _ hx))
  have hm: ∀b∈(l1++l2).map bl,b∈(l1++a::l2).map bl:=fun b hb=>by
    obtain ⟨x,hx,rfl⟩:=List.mem_map.1 hb
    exact List.mem_map.2 ⟨x,hs x hx,rfl⟩
  have ha:bl a∈(l1++a::l2).map bl:=List.mem_map.2 ⟨a,by simp,rfl⟩
  refine H.regroup (e1:=Ent.bs t f bl (l1++l2)) (e2:=.blk (bl a) (f a) t) hi ⟨hn.2,fun x hx=>h.2 x (hs x hx)⟩ (h.2 a (by simp)) (fun b hb=>hm b hb) (fun b hb=>?_) (fun b hb=>hm b hb) (fun b hb=>?_) (fun b hb hf=>?_) (fun b hb hf=>?_)
  · cases hb; exact ha
  · cases List.mem_singleton.1 hb; exact ha
  · cases List.mem_singleton.1 hf; exact hn.1 hb
  · cases hb; exact hn.1 hf
theorem Own.fold {b:Nat} {cs:List Value} {a:α} {l1 l2:List α} (H:Own S w0 w L) (hi:L[i]?=some (Ent.bs t f bl (l1++l2))) (hj:L[j]?=some (.blk b cs t)) (hij:Nat.beq i j=false) (hb:bl a=b) (hc:f a=cs) :
    Own S w0 w ((L.set j Ent.nul).set i (Ent.bs t f bl (l1++a::l2))):=by
  subst hb; subst hc
  have hne:i≠j:=fun e=>by subst e; rw [Nat.beq_refl] at hij; cases hij
  have h:=H.bsG hi
  have hk:=H.blk hj
  have hsep:bl a ∉ (l1++l2).map bl:=H.sep j i _ _ hj hi (Ne.symm hne) (bl a) rfl
  have h1:Own S w0 w (L.set j Ent.nul) :=
    H.upd' hj (Fr.refl [] w) (fun b hb=>by cases hb) True.intro (fun b hb=>by cases hb) (fun b hb=>by cases hb)
  have key: ∀b,b∈(l1++a::l2).map bl→b∈(l1++l2).map bl∨b=bl a:=fun b hb=>by
    obtain ⟨x,hx,rfl⟩:=List.mem_map.1 hb
    rcases List.mem_append.1 hx with hx | hx
    · exact .inl (List.mem_map.2 ⟨x,List.mem_append.2 (.inl hx),rfl⟩)
    · rcases List.mem_cons.1 hx with rfl | hx
      · exact .inr rfl
      · exact .inl (List.mem_map.2 ⟨x,List.mem_append.2 (.inr hx),rfl⟩)
  have hok:BsOK t f bl (l1++a::l2) w:=by
    refine ⟨?_,fun x hx=>?_⟩
    · rw [List.map_append,List.map_cons,nodup_mid,←List.map_append]; exact ⟨hsep,h.1⟩
    · rcases List.mem_append.1 hx with hx | hx
      · exact h.2 x (List.mem_append.2 (.inl hx))
      · rcases List.mem_cons.1 hx with rfl | hx
        · exact hk
        · exact h.2 x (List.mem_append.2 (.inr hx))
  have hilt:=(List.getElem?_eq_some_iff.1 hi).1
  have get: ∀k x,((L.set j Ent.nul).set i (Ent.bs t f bl (l1++a::l2)))[k]?=some x →
      (k=i∧x=Ent.bs t f bl (l1++a::l2))∨(k≠i∧k=j∧x.foot=[]∧(∀b,¬x.Owns b)∧∀w,x.ok w)∨(k≠i∧k≠j∧L[k]?=some x):=fun k x hk=>by
    rw [List.getElem?_set] at hk
    by_cases hik:i=k
    · subst hik; simp [hilt] at hk; exact .inl ⟨rfl,hk.symm⟩
    · rw [if_neg hik,List.getElem?_set] at hk
      by_cases hjk:j=k
      · rw [if_pos hjk] at hk
        split at hk
        · cases hk; exact .inr (.inl ⟨Ne.symm hik,hjk.symm,rfl,fun _ h=>h,fun _=>True.intro⟩)
        · cases hk
      · rw [if_neg hjk] at hk; exact .inr (.inr ⟨Ne.symm hik,Ne.symm hjk,hk⟩)
  refine ⟨H.fr,fun k x hk=>?_,fun k m x y hk hm hkm b hb=>?_,fun k x hk b hb=>?_⟩
  · rcases get k x hk with ⟨_,rfl⟩ | ⟨_,_,_,_,h5⟩ | ⟨_,_,h5⟩
    · exact hok
    · exact h5 w
    · exact H.ok k x h5
  · rcases get k x hk with ⟨rfl,rfl⟩ | ⟨_,_,_,h4,_⟩ | ⟨hk1,hk2,hk3⟩
    · rcases get m y hm with ⟨rfl,rfl⟩ | ⟨_,_,h3,_,_⟩ | ⟨hm1,hm2,hm3⟩
      · exact absurd rfl hkm
      · rw [h3]; simp
      · rcases key b hb with hb | rfl
        · exact H.sep k m _ y hi hm3 hkm b hb
        · exact H.sep j m _ y hj hm3 (Ne.symm hm2) (bl a) rfl
    · exact absurd hb (h4 b)
    · rcases get m y hm with ⟨rfl,rfl⟩ | ⟨_,_,h3,_,_⟩ | ⟨hm1,hm2,hm3⟩
      · intro hf
        rcases key b hf with hf | rfl
        · exact H.sep k m x _ hk3 hi hkm b hb hf
        · exact H.sep k j x _ hk3 hj hk2 (bl a) hb (List.mem_singleton.2 rfl)
      · rw [h3]; simp
      · exact H.sep k m x y hk3 hm3 hkm b hb
  · rcases get k x hk with ⟨rfl,rfl⟩ | ⟨_,_,_,h4,_⟩ | ⟨_,_,h5⟩
    · rcases key b hb with hb | rfl
      · exact H.own k _ hi b hb
      · exact H.own j _ hj (bl a) rfl
    · exact absurd hb (h4 b)
    · exact H.own k x h5 b hb
end
end Go.Owl
namespace Go.Owl
structure ME where
  k:Nat
  b:Nat
  r:Nat
def ME.ent (kk:IntKind) (e:ME):MapEntry:=⟨.int kk (e.k:Int),ptr e.b 0,e.r⟩
def mP (kk:IntKind) (l:List ME) (c:Nat):Obj:=.map (l.map (ME.ent kk)).toArray c
structure MEok (l:List ME) (c:Nat):Prop where
  born: ∀e∈l,e.r<c
  rn:(l.map ME.r).Nodup
  kn:(l.map ME.k).Nodup
theorem sameInt (kk:IntKind) (i j:Int):Instr.sameNow (.int kk) (.int kk i) (.int kk j)=some (i==j):=by
  simp [Instr.sameNow]
theorem findP_none {kk:IntKind} {i:Int}: ∀(l:List ME) (j:Nat),(∀e∈l,(e.k:Int)≠i)→Instr.findNow (.int kk) (.int kk i) (l.map (ME.ent kk)) j=some none
  | [],_,_=>rfl
  | e::l,j,h=>by
    have h1:(i==(e.k:Int))=false:=by simpa using Ne.symm (h e (List.mem_cons_self ..))
    rw [List.map_cons,Instr.findNow]
    simp only [ME.ent,sameInt,h1]
    exact findP_none l (j+1) (fun x hx=>h x (List.mem_cons_of_mem _ hx))
theorem findP_some {kk:IntKind} {i:Int} {e:ME} {l2:List ME} (he:(e.k:Int)=i): ∀(l1:List ME) (j:Nat),(∀x∈l1,(x.k:Int)≠i)→Instr.findNow (.int kk) (.int kk i) ((l1++e::l2).map (ME.ent kk)) j=some (some (j+l1.length,ptr e.b 0))
  | [],j,_=>by
    rw [List.nil_append,List.map_cons,Instr.findNow]
    simp only [ME.ent,sameInt,he,beq_self_eq_true]
    rfl
  | x::l1,j,h=>by
    have h1:(i==(x.k:Int))=false:=by simpa using Ne.symm (h x (List.mem_cons_self ..))
    rw [List.cons_append,List.map_cons,Instr.findNow]
    simp only [ME.ent,sameInt,h1]
    have:=findP_some (kk:=kk) (l2:=l2) he l1 (j+1) (fun y hy=>h y (List.mem_cons_of_mem _ hy))
    rw [List.length_cons,show j+(l1.length+1)=j+1+l1.length by omega]
    exact this
theorem MEok.left {l1 l2:List ME} {e:ME} {c:Nat} (h:MEok (l1++e::l2) c): ∀x∈l1,(x.k:Int)≠(e.k:Int):=fun x hx hk=>by
  have h1:=h.kn
  rw [List.map_append,List.map_cons,nodup_mid] at h1
  exact h1.1 (List.mem_append.2 (.inl (by rw [←show x.k=e.k by omega]; exact List.mem_map.2 ⟨x,hx,rfl⟩)))
theorem MEok.add {l:List ME} {k b c:Nat} (h:MEok l c) (hk: ∀x∈l,x.k≠k):MEok (l++[⟨k,b,c⟩]) (c+1):=by
  refine ⟨fun x hx=>?_,?_,?_⟩
  · rcases List.mem_append.1 hx with hx | hx
    · exact Nat.lt_succ_of_lt (h.born x hx)
    · rw [List.mem_singleton] at hx; subst hx; exact Nat.lt_succ_self _
  · rw [List.map_append,List.map_cons,List.map_nil,nodup_mid,List.append_nil]
    exact ⟨fun hm=>by obtain ⟨x,hx,e⟩:=List.mem_map.1 hm; have:=h.born x hx; dsimp only at e; omega,h.rn⟩
  · rw [List.map_append,List.map_cons,List.map_nil,nodup_mid,List.append_nil]
    exact ⟨fun hm=>by obtain ⟨x,hx,e⟩:=List.mem_map.1 hm; exact hk x hx e,h.kn⟩
theorem MEok.nil (c:Nat):MEok [] c:=⟨fun _ h=>(by cases h),List.nodup_nil,List.nodup_nil⟩
section
variable {P:Program} {n:Nat} {D:List Deferred} {ρ:Env} {w w0:World} {R:Value→World→Prop} {dst:Option Tmp} {ty:TypeId} {pos:String} {af:Array Edge} {gd:Option (Nat × Bool)}
variable {S:List Nat} {L:List Ent} {i b ib:Nat} {t T kt et:TypeId} {x y z:Operand} {l l1 l2:List ME} {e:ME} {c:Nat} {q:Int} {kk:IntKind}
theorem mP.st (kk:IntKind) (b:Nat) (l:List ME) (c:Nat):Stable (fun w=>w.heap[b]?=some (mP kk l c)) [b] where
  lt:=fun w h b' hb=>by rw [List.mem_singleton] at hb; subst hb; exact (Array.getElem?_eq_some_iff.1 h).1
  fr:=fun T w w' hf hT h=>(hf.block b (Array.getElem?_eq_some_iff.1 h).1 (hT b (by simp))).trans h
def Ent.mo (kk:IntKind) (b:Nat) (l:List ME) (c:Nat):Ent:=.ro (fun w=>w.heap[b]?=some (mP kk l c)) [b] (mP.st kk b l c)
theorem Own.mpO (H:Own S w0 w L) (hi:L[i]?=some (Ent.mo kk b l c)):w.heap[b]?=some (mP kk l c):=H.ok i _ hi
theorem Own.mp (H:Own S w0 w L) (hi:L[i]?=some (Ent.obj b (mP kk l c))):w.heap[b]?=some (mP kk l c):=H.ok i _ hi
theorem Own.mpOld (H:Own [] w0 w L) (h:w0.heap[b]?=some (mP kk l c)):Own [] w0 w (L++[Ent.mo kk b l c]):=H.old (mP.st kk b l c) h
theorem run_lookP_some (hb:w.heap[b]?=some (mP kk (l1++e::l2) c)) (hu:P.underlying T=some (.map kt et)) (hk:P.underlying kt=some (.int kk)) (h1: ∀x∈l1,(x.k:Int)≠q) (he:(e.k:Int)=q) (ok:Bool) :
    (Instr.lookup T (.map (some b)) (.int kk q) ok).run P w=.ok (if ok then .tuple #[ptr e.b 0,.bool true] else ptr e.b 0) w:=by
  have hd: ∀e,(Instr.checkKey e 10000 kt (.int kk q)).run P w=.ok () w:=fun e=>MapKept.run_checkKey (P:=P) (w:=w) hk (show MapKept.IsKey (.int kk) (.int kk q) from rfl) e 9999
  have hf:=MapKept.run_findKey (P:=P) (w:=w) hk (findP_some (l2:=l2) he l1 0 h1)
  generalize l1++e::l2=l0 at hb hf
  cases ok<;>simp [Instr.lookup,run_underlying hu,MapKept.run_getObj_map hb,hd,hf]
theorem run_lookP_none (hb:w.heap[b]?=some (mP kk l c)) (hu:P.underlying T=some (.map kt et)) (hk:P.underlying kt=some (.int kk)) (hz:zvB P et=some (.pointer none)) (h1: ∀x∈l,(x.k:Int)≠q) (ok:Bool) :
    (Instr.lookup T (.map (some b)) (.int kk q) ok).run P w=.ok (if ok then .tuple #[.pointer none,.bool false] else .pointer none) w:=by
  have hd: ∀e,(Instr.checkKey e 10000 kt (.int kk q)).run P w=.ok () w:=fun e=>MapKept.run_checkKey (P:=P) (w:=w) hk (show MapKept.IsKey (.int kk) (.int kk q) from rfl) e 9999
  have hv:=run_zv (w:=w) hz
  have hf:=MapKept.run_findKey (P:=P) (w:=w) hk (findP_none l 0 h1)
  cases ok<;>simp [Instr.lookup,run_underlying hu,MapKept.run_getObj_map hb,hd,hf,hv]
theorem op_lookP_some (hb:w.heap[b]?=some (mP kk (l1++e::l2) c)) (hu:P.underlying T=some (.map kt et)) (hk:P.underlying kt=some (.int kk)) (h1: ∀x∈l1,(x.k:Int)≠q) (he:(e.k:Int)=q)
    (hx:ev ρ x=some (.map (some b))) (hy:ev ρ y=some (.int kk q)) (h:R (ptr e.b 0) w):Op1 P n D ⟨dst,.lookup T x y false,ty,pos,af,gd⟩ ρ w R :=
  Op1.val (fun a ha=>by simp only [execOp,ha.ev hx,ha.ev hy,Sem.run_bind,run_lookP_some hb hu hk h1 he false,Result.andThen_ok,Sem.run_pure,Bool.false_eq_true,if_false]) h
theorem op_lookP_none (hb:w.heap[b]?=some (mP kk l c)) (hu:P.underlying T=some (.map kt et)) (hk:P.underlying kt=some (.int kk)) (hz:zvB P et=some (.pointer none)) (h1: ∀x∈l,(x.k:Int)≠q)
    (hx:ev ρ x=some (.map (some b))) (hy:ev ρ y=some (.int kk q)) (h:R (.pointer none) w):Op1 P n D ⟨dst,.lookup T x y false,ty,pos,af,gd⟩ ρ w R :=
  Op1.val (fun a ha=>by simp only [execOp,ha.ev hx,ha.ev hy,Sem.run_bind,run_lookP_none hb hu hk hz h1 false,Result.andThen_ok,Sem.run_pure,Bool.false_eq_true,if_false]) h
theorem op_makeMapP (H:Own S w0 w L) (h: ∀b w',Own S w0 w' (L++[.obj b (mP kk [] 0)])→R (.map (some b)) w'):Op1 P n D ⟨dst,.makeMap T none,ty,pos,af,gd⟩ ρ w R :=
  Op1.val (w':=w.alloc (.map #[] 0)) (fun a ha=>by simp [execOp,Instr.makeMap]) (h _ _ (H.new (Fr.alloc w _) (heap_alloc_new w _) (fun b hb=>by simp only [Ent.Owns,Option.some.injEq] at hb; omega)))
theorem run_updP {k b':Nat} (hb:w.heap[b]?=some (mP kk l c)) (hu:P.underlying T=some (.map kt et)) (hk:P.underlying kt=some (.int kk)) (h1: ∀x∈l,x.k≠k) :
    (Instr.mapUpdate T (.map (some b)) (.int kk (k:Int)) (ptr b' 0)).run P w=.ok () { w with heap:=w.heap.setIfInBounds b (mP kk (l++[⟨k,b',c⟩]) (c+1)) }:=by
  have hd: ∀e,(Instr.checkKey e 10000 kt (.int kk (k:Int))).run P w=.ok () w:=fun e=>MapKept.run_checkKey (P:=P) (w:=w) hk (show MapKept.IsKey (.int kk) (.int kk (k:Int)) from rfl) e 9999
  have hf:=MapKept.run_findKey (P:=P) (w:=w) hk (findP_none (i:=(k:Int)) l 0 (fun x hx h=>h1 x hx (by omega)))
  have e:mP kk (l++[⟨k,b',c⟩]) (c+1)=.map ((l.map (ME.ent kk)).toArray.push ⟨.int kk (k:Int),ptr b' 0,c⟩) (c+1):=by
    rw [mP,List.map_append,List.push_toArray]; rfl
  simp [Instr.mapUpdate,run_underlying hu,MapKept.run_getObj_map hb,hd,hf,MapKept.run_setObj_map _ hb,e]
theorem op_updP {k b':Nat} (H:Own S w0 w L) (hi:L[i]?=some (Ent.obj b (mP kk l c))) (hu:P.underlying T=some (.map kt et)) (hk:P.underlying kt=some (.int kk)) (h1: ∀x∈l,x.k≠k) (hx:ev ρ x=some (.map (some b))) (hy:ev ρ y=some (.int kk (k:Int))) (hz:ev ρ z=some (ptr b' 0))
    (h: ∀w',Own S w0 w' (L.set i (.obj b (mP kk (l++[⟨k,b',c⟩]) (c+1))))→R undef w'):Op1 P n D ⟨dst,.mapUpdate T x y z,ty,pos,af,gd⟩ ρ w R:=by
  refine Op1.unit (w':={ w with heap:=w.heap.setIfInBounds b (mP kk (l++[⟨k,b',c⟩]) (c+1)) }) (fun a ha=>by simp only [execOp,ha.ev hx,ha.ev hy,ha.ev hz,Sem.run_bind,run_updP (H.mp hi) hu hk h1,Result.andThen_ok,Sem.run_pure]) (h _ ?_)
  exact H.upd hi (Fr.setObj w b _) (fun x hx=>by simp at hx; subst hx; rfl) (MapKept.heap_set (H.mp hi)).1 (fun x hx=>.inl hx)
def itO (b c:Nat) (sn:List ME):Obj:=.mapIter (some b) c (sn.map ME.r).toArray c
theorem op_rangeP (H:Own S w0 w L) (hb:w.heap[b]?=some (mP kk l c)) (hu:P.underlying T=some (.map kt et)) (hx:ev ρ x=some (.map (some b))) (h: ∀ib w',Own S w0 w' (L++[.obj ib (itO b c [])])→R (ptr ib 0) w') :
    Op1 P n D ⟨dst,.range T x,ty,pos,af,gd⟩ ρ w R :=
  Op1.val (w':=w.alloc (.mapIter (some b) c #[] c)) (v:=ptr w.heap.size 0) (fun a ha=>by simp only [execOp,ha.ev hx,Sem.run_bind,run_range_map w T kt et b _ c hu hb,Result.andThen_ok,Sem.run_pure])
    (h _ _ (H.new (Fr.alloc w _) (heap_alloc_new w _) (fun b hb=>by simp only [Ent.Owns,Option.some.injEq] at hb; omega)))
theorem Fr.setBlock (w:World) (g:Nat) (o:Obj):Fr [g] w (ChangeMaps.setBlock w g o):=Fr.setObj w g o
theorem op_nextP {sn rest:List ME} (H:Own S w0 w L) (hi:L[i]?=some (Ent.obj ib (itO b c sn))) (hb:w.heap[b]?=some (mP kk l c)) (hl:MEok l c) (hp:l.Perm (sn++rest)) (hx:ev ρ x=some (ptr ib 0))
    (h0:rest=[]→R (.tuple #[.bool false]) w)
    (h1: ∀(e:ME) (rest':List ME),rest.length=rest'.length+1→l.Perm ((sn++[e])++rest')→∀w',Own S w0 w' (L.set i (.obj ib (itO b c (sn++[e]))))→R (.tuple #[.bool true,.int kk (e.k:Int),ptr e.b 0]) w') :
    Op1 P n D ⟨dst,.next x false,ty,pos,af,gd⟩ ρ w R:=by
  have hr:w.heap[ib]?=some (.mapIter (some b) c (sn.map ME.r).toArray c):=H.ok i _ hi
  have hold: ∀x∈((l.map (ME.ent kk)).toArray).toList,x.born<c:=fun x hx=>by
    obtain ⟨e,he,rfl⟩:=List.mem_map.1 hx
    exact hl.born e he
  have hnd:((sn++rest).map ME.r).Nodup:=(hp.map ME.r).nodup_iff.1 hl.rn
  have hleft: ∀e:ME,e∈l→(sn.map ME.r).toArray.contains e.r=false→e∈rest:=fun e he hc=>by
    rcases List.mem_append.1 (hp.mem_iff.1 he) with h | h
    · have:(sn.map ME.r).toArray.contains e.r=true:=by simpa using ⟨e,h,rfl⟩
      rw [this] at hc; cases hc
    · exact h
  rcases run_next_at (P:=P) w ty ib b c c (sn.map ME.r).toArray (l.map (ME.ent kk)).toArray c hr hb hold (Nat.le_refl _) with ⟨hz,hrun⟩ | ⟨e',he',w1,hw1,hrun⟩
  · have hrest:rest=[]:=by
      cases rest with
      | nil=>rfl
      | cons e rest =>
        exfalso
        have hall:=all_seen _ _ hz ((ME.ent kk) e) (by
          show (ME.ent kk) e∈l.map (ME.ent kk)
          exact List.mem_map.2 ⟨e,hp.mem_iff.2 (by simp),rfl⟩)
        have hm:e.r∈sn.map ME.r:=by simpa [ME.ent] using hall
        rw [List.map_append,List.map_cons,nodup_mid] at hnd
        exact hnd.1 (List.mem_append.2 (.inl hm))
    exact Op1.val (fun a ha=>by simp only [execOp,ha.ev hx,Sem.run_bind,hrun,Result.andThen_ok,Sem.run_pure]) (h0 hrest)
  · obtain ⟨hm1,hm2⟩:=mem_left he'
    obtain ⟨e,he,rfl⟩:=List.mem_map.1 hm1
    have her:=hleft e he hm2
    obtain ⟨r1,r2,rfl⟩:=List.append_of_mem her
    have hp':l.Perm ((sn++[e])++(r1++r2)):=hp.trans (by
      rw [List.append_assoc]
      exact List.Perm.append_left sn List.perm_middle)
    have e0:(sn.map ME.r).toArray.push ((ME.ent kk) e).born=((sn++[e]).map ME.r).toArray:=by
      rw [List.push_toArray,List.map_append]; rfl
    rw [e0] at hrun
    have hf1:Fr [] w w1:=by
      rcases hw1 with rfl | rfl
      · exact Fr.refl _ _
      · exact Fr.drew w
    have hi1:=H.fr' hf1
    refine Op1.val (fun a ha=>by simp only [execOp,ha.ev hx,Sem.run_bind,hrun,Result.andThen_ok,Sem.run_pure]; rfl) (h1 e (r1++r2) (by simp; omega) hp' _ ?_)
    exact hi1.upd hi (Fr.setBlock w1 ib _) (fun x hx=>by simp at hx; subst hx; rfl) (MapKept.heap_set (show w1.heap[ib]?=_ from hi1.ok i _ hi)).1 (fun x hx=>.inl hx)
end
end Go.Owl
namespace Go.Owl
section
variable {P:Program} {n:Nat} {D:List Deferred} {ρ:Env} {w:World} {R:Value→World→Prop} {dst:Option Tmp} {ty:TypeId} {pos:String} {af:Array Edge} {g:Option (Nat × Bool)} {t t':TypeId} {x y:Operand}
end
end Go.Owl
namespace Go.Owl
section
variable {P:Program} {n:Nat} {D:List Deferred} {ρ ρ':Env} {w w0:World} {S:List Nat} {L:List Ent} {ops:Array Oper} {Q:Exit→Act→World→Prop} {fuel:Nat} {listed:Array Bool} {Sx:World→Prop}
def WH (P:Program) (n:Nat) (D:List Deferred) (ops:Array Oper) (Q:Exit→Act→World→Prop) (Sx:World→Prop) (fuel:Nat) (listed:Array Bool) (ρ:Env) (w:World):Prop :=
  ∀a,Agr n D ρ a→wpAnyH P .any ops (Nrm Q) Sx fuel listed a w
theorem WC.held {id:Nat} {l:List Oper} (N:Nat) (hN:l.length=N) (hm:P.follows .mixedOrders=true) (H:Own S w0 w L) (Sx:World→Prop) (h: ∀w1,Own S w0 w1 L→WH P n D l.toArray Q Sx N (Array.replicate N false) ρ w1):WC P n D (.region id l.toArray true) Q ρ w:=by
  subst hN
  exact fun a ha=>wp_region_any hm (wpAny_nrm _ _ _ _ (wpAny_of_held _ _ _ _ (by have h1:=h w.drew (H.fr' (Fr.drew w)) a ha; rw [show l.length=l.toArray.size from (List.size_toArray ..).symm] at h1; exact h1)))
theorem WH.named (h: ∀W:Nat→Array Bool→Env→World→Prop,W=WH P n D ops Q Sx→W fuel listed ρ w):WH P n D ops Q Sx fuel listed ρ w:=h _ rfl
theorem WH.cov (hc:Cov ρ ρ') (h:WH P n D ops Q Sx fuel listed ρ' w):WH P n D ops Q Sx fuel listed ρ w:=fun a ha=>h a (ha.cov hc)
theorem WH.cv (h:WH P n D ops Q Sx fuel listed ρ' w) (hc:Cov ρ ρ':=by repeat (first | exact trivial | refine ⟨rfl,?_⟩)):WH P n D ops Q Sx fuel listed ρ w:=WH.cov hc h
theorem WH.cw {W:Nat→Array Bool→Env→World→Prop} (hW:W=WH P n D ops Q Sx) (h:W fuel listed ρ' w) (hc:Cov ρ ρ':=by repeat (first | exact trivial | refine ⟨rfl,?_⟩)):WH P n D ops Q Sx fuel listed ρ w:=by
  subst hW; exact WH.cov hc h
theorem WH.done (hr:Region.ready .any ops listed=[]) (h:WQ n D Q .normal ρ w):WH P n D ops Q Sx fuel listed ρ w:=fun a ha=>wpAnyH_done hr ⟨rfl,h a ha⟩ fuel
def Wnt (ops:Array Oper) (ρ:Env) (o:Oper):Prop:=o.guard=none∨∃j t want b,o.guard=some (j,want)∧(ops[j]?).bind (·.dst)=some t∧Env.get ρ t=some (.bool b)∧b=want
theorem Wnt.yes {o:Oper} {a:Act} (h:Wnt ops ρ o) (ha:Agr n D ρ a):Region.wanted o (yielded ops a.tmps)=true:=by
  rcases h with hg | ⟨j,t,want,b,hg,hj,hv,hb⟩
  · simp [Region.wanted,hg]
  · simp [Region.wanted,hg,yielded_of ha hj hv,sees,hb]
def valOp (o:Oper):Bool:=match o.op with
  | .move _ | .assign _ | .pick .. | .load .. | .binOp .. | .unOp .. | .convert .. | .fieldAddr .. | .field .. | .indexAddr .. | .index .. | .extract .. | .slice .. | .build .. => true
  | _=>false
theorem run_v {s:Sem Value} {x:Next} {w w':World} (h:((do pure (Next.value (←s)):Sem Next)).run P w=.ok x w'): ∃u,x=.value u:=by
  rw [Sem.run_bind] at h
  cases hs:s.run P w with
  | halt y w2=>rw [hs] at h; cases h
  | ok u w2 =>
    rw [hs] at h
    simp only [Result.andThen_ok,Sem.run_pure] at h
    cases h; exact ⟨u,rfl⟩
theorem exec_val {o:Oper} (h:valOp o=true) {e:Operand→Value} {x:Next} {w w':World} (hx:(execOp e o).run P w=.ok x w'): ∃u,x=.value u:=by
  obtain ⟨dst,op,ty,pos,af,g⟩:=o
  cases op<;>first
    | (cases h; done)
    | exact run_v hx
    | (simp only [execOp,Sem.run_pure] at hx; cases hx; exact ⟨_,rfl⟩)
    | (simp only [execOp,Sem.run_bind] at hx
       rename_i c a b
       cases hs:(asBool (e c)).run P w with
       | halt y w2=>rw [hs] at hx; cases hx
       | ok u w2=>rw [hs] at hx; simp only [Result.andThen_ok,Sem.run_pure] at hx; cases hx; exact ⟨_,rfl⟩)
theorem WH.take {i:Nat} {oi:Oper} {v:Value} (hi:ops[i]?=some oi) (hv:valOp oi=true) (hg:Wnt ops ρ oi) (hd:dOK n oi.dst=true) (hc:chkEarly ops listed i=true) (hS:Sx w)
    (hy: ∀w1,Sx w1→Op1 P n D oi ρ w1 (fun u w2=>u=v∧w2=w1)) (h:WH P n D ops Q Sx fuel (listed.setIfInBounds i true) (ext ρ oi.dst v) w):WH P n D ops Q Sx (fuel+1) listed ρ w:=by
  intro a ha
  unfold chkEarly at hc
  simp only [Bool.and_eq_true] at hc
  refine wpAnyH_take hi hc.1.1 hc.1.2 hc.2 (fun c a w h=>absurd h.1 (by intro h; cases h)) (.inl ⟨hg.yes ha,fun w1 h1=>?_⟩) hS (h _ (ha.put hd v))
  have h2:=hy w1 h1 a ha
  cases hr:(execOp a.eval oi).run P w1 with
  | halt y w2=>rw [hr] at h2; exact h2.elim
  | ok x w2 =>
    obtain ⟨u,rfl⟩:=exec_val hv hr
    rw [hr] at h2
    obtain ⟨rfl,rfl⟩:=h2
    rfl
def WHS (P:Program) (n:Nat) (D:List Deferred) (ops:Array Oper) (Q:Exit→Act→World→Prop) (Sx:World→Prop) (i fuel:Nat) (listed:Array Bool) (ρ:Env) (w:World):Prop :=
  ∀a,Agr n D ρ a→wpOp P ops (Nrm Q) i (fun a' w'=>Sx w'∧wpAnyH P .any ops (Nrm Q) Sx fuel (listed.setIfInBounds i true) a' w') a w
theorem WHS.op {i:Nat} {oi:Oper} (hi:ops[i]?=some oi) (hg:Wnt ops ρ oi) (hd:dOK n oi.dst=true)
    (h:Op1 P n D oi ρ w (fun v w'=>Sx w'∧WH P n D ops Q Sx fuel (listed.setIfInBounds i true) (ext ρ oi.dst v) w')):WHS P n D ops Q Sx i fuel listed ρ w:=by
  intro a ha
  refine wpOp_of hi ?_
  rw [if_pos (hg.yes ha)]
  exact (h a ha).wp fun v w' hR=>⟨hR.1,hR.2 _ (ha.put hd v)⟩
theorem WH.all {rs:List Nat} (hr:Region.ready .any ops listed=rs) (hne:rs≠[]) (h: ∀i,i∈rs→WHS P n D ops Q Sx i fuel listed ρ w):WH P n D ops Q Sx (fuel+1) listed ρ w :=
  fun a ha=>wpAnyH_all hr hne fun i hi=>h i hi a ha
theorem WH.all1 {i:Nat} (hr:Region.ready .any ops listed=[i]) (h:WHS P n D ops Q Sx i fuel listed ρ w):WH P n D ops Q Sx (fuel+1) listed ρ w :=
  WH.all hr (by simp) fun k hk=>by
    rcases List.mem_singleton.1 hk with rfl; exact h
theorem WH.all2 {i j:Nat} (hr:Region.ready .any ops listed=[i,j]) (h:WHS P n D ops Q Sx i fuel listed ρ w) (h2:WHS P n D ops Q Sx j fuel listed ρ w):WH P n D ops Q Sx (fuel+1) listed ρ w :=
  WH.all hr (by simp) fun k hk=>by
    rcases List.mem_cons.1 hk with rfl | hk
    · exact h
    · rcases List.mem_singleton.1 hk with rfl; exact h2
theorem WH.all3 {i j m:Nat} (hr:Region.ready .any ops listed=[i,j,m]) (h:WHS P n D ops Q Sx i fuel listed ρ w) (h2:WHS P n D ops Q Sx j fuel listed ρ w) (h3:WHS P n D ops Q Sx m fuel listed ρ w):WH P n D ops Q Sx (fuel+1) listed ρ w :=
  WH.all hr (by simp) fun k hk=>by
    rcases List.mem_cons.1 hk with rfl | hk
    · exact h
    · rcases List.mem_cons.1 hk with rfl | hk
      · exact h2
      · rcases List.mem_singleton.1 hk with rfl; exact h3
theorem op_indexAddrW {R:Value→World→Prop} {dst:Option Tmp} {ty:TypeId} {pos:String} {af:Array Edge} {g:Option (Nat × Bool)} {x y:Operand} {z:List Value} {sz by_:Nat} {t:TypeId} {w2:World} {v:Value} {e:TypeId} {k:IntKind} {m q:Nat} {xs:List Value} (hu:P.underlying t=some (.slice e)) (hz:tiB P e=some (z,sz,by_)) (hx:ev ρ x=some v) (hA:Arr w2 v sz q xs)
    (hi:ev ρ y=some (.int k (m:Int))) (hm:m<q) (h:R (.pointer (some (sp v (m * sz)))) w):Op1 P n D ⟨dst,.indexAddr t x y,ty,pos,af,g⟩ ρ w R:=by
  obtain ⟨a0,cap,rfl,hn,hc,ha0,hsp⟩:=hA.form
  cases a0 with
  | none=>have:=(ha0 rfl).1; omega
  | some ad =>
    have hs0:=hsp (by omega) ad rfl
    refine Op1.val (fun a ha=>?_) h
    have e1:ad.add (m * sz)=sp (.slice (some ad) q cap) (m * sz):=by
      obtain ⟨b,o,s⟩:=ad; simp at hs0; subst hs0; rw [Addr.add_at]; rfl
    have h1:((0:Int)≤(m:Int)∧(m:Int)<(q:Int)):=by omega
    simp [execOp,ha.ev hx,ha.ev hi,Instr.indexAt,asIntOf,run_underlying hu,h1,hm,run_sizeOf hz,e1]
theorem op_indexAddr1W {R:Value→World→Prop} {dst:Option Tmp} {ty:TypeId} {pos:String} {af:Array Edge} {g:Option (Nat × Bool)} {x y:Operand} {z:List Value} {by_:Nat} {t:TypeId} {w2:World} {v:Value} {e:TypeId} {k:IntKind} {m q:Nat} {xs:List Value} (hu:P.underlying t=some (.slice e)) (hz:tiB P e=some (z,1,by_)) (hx:ev ρ x=some v) (hA:Arr w2 v 1 q xs)
    (hi:ev ρ y=some (.int k (m:Int))) (hm:m<q) (h:R (.pointer (some (sp v m))) w):Op1 P n D ⟨dst,.indexAddr t x y,ty,pos,af,g⟩ ρ w R :=
  op_indexAddrW hu hz hx hA hi hm (by rw [Nat.mul_one]; exact h)
end
end Go.Owl
namespace Go.Owl
section
variable {P:Program} {n:Nat} {D:List Deferred} {ops:Array Oper} {Q Q':Exit→Act→World→Prop} {o:Oper} {rest:List Oper} {ρ:Env} {w:World} {x y:Code}
theorem wo (h:Op1 P n D o ρ w (fun v w'=>WL P n D ops Q rest (ext ρ o.dst v) w')) (hd:dOK n o.dst=true:=by rfl) (hg:o.guard=none:=by rfl):WL P n D ops Q (o::rest) ρ w:=WL.op hg hd h
theorem wn (h:WC P n D y Q ρ w):WL P n D ops (Exit.then (y.wp P Q) Q') [] ρ w:=WL.nil fun a ha=>h a ha
theorem ws {id:Nat} {l:List Oper} (h:WL P n D l.toArray (Exit.then (y.wp P Q) Q) l ρ w):WC P n D (.seq (.region id l.toArray false) y) Q ρ w:=WC.seq (WC.region h)
end
section
variable {P:Program} {n:Nat} {D:List Deferred} {ops:Array Oper} {Q:Exit→Act→World→Prop} {ρ:Env} {w w0:World} {fuel:Nat} {listed:Array Bool} {S:List Nat} {L0 L1:List Ent}
theorem wt (i:Nat) (v:Value) {oi:Oper} (H:Own S w0 w (L0++L1)) (hy: ∀w1 L2,Own S w0 w1 (L0++L2)→Op1 P n D oi ρ w1 (fun u w2=>u=v∧w2=w1))
    (h:WH P n D ops Q (fun w'=> ∃L',Own S w0 w' (L0++L')) fuel (listed.setIfInBounds i true) (ext ρ oi.dst v) w) (hi:ops[i]?=some oi:=by rfl) (hv:valOp oi=true:=by rfl) (hg:Wnt ops ρ oi:=by exact .inl rfl) (hd:dOK n oi.dst=true:=by rfl) (hc:chkEarly ops listed i=true:=by kernel_rfl) :
    WH P n D ops Q (fun w'=> ∃L',Own S w0 w' (L0++L')) (fuel+1) listed ρ w:=WH.take hi hv hg hd hc ⟨_,H⟩ (fun w1 ⟨L2,h2⟩=>hy w1 L2 h2) h
end
theorem zr {v:Value} {w:World}:v=v∧Fr [] w w:=⟨rfl,Fr.refl _ _⟩
end Go.Owl
namespace Go.Owl
section
variable {P:Program} {n:Nat} {D:List Deferred} {ops:Array Oper} {Q Q':Exit→Act→World→Prop} {o:Oper} {rest:List Oper} {ρ:Env} {w w0:World} {x y:Code} {S:List Nat} {L:List Ent} {i:Nat} {Γ:List Fl1}
variable {dst:Option Tmp} {ty:TypeId} {pos:String} {af:Array Edge}
theorem wm {a:Operand} {v:Value} (hx:ev ρ a=some v) (h:WL P n D ops Q rest (ext ρ dst v) w) (hd:dOK n dst=true:=by rfl):WL P n D ops Q (⟨dst,.move a,ty,pos,af,none⟩::rest) ρ w:=WL.op rfl hd (op_move hx h)
theorem wa {a:Operand} {v:Value} (hx:ev ρ a=some v) (h:WL P n D ops Q rest (ext ρ dst v) w) (hd:dOK n dst=true:=by rfl):WL P n D ops Q (⟨dst,.assign a,ty,pos,af,none⟩::rest) ρ w:=WL.op rfl hd (op_assign hx h)
theorem we {a:Operand} {k:Nat} {vs:Array Value} {v:Value} (hx:ev ρ a=some (.tuple vs)) (hv:vs.toList[k]?=some v) (h:WL P n D ops Q rest (ext ρ dst v) w) (hd:dOK n dst=true:=by rfl):WL P n D ops Q (⟨dst,.extract a k,ty,pos,af,none⟩::rest) ρ w:=WL.op rfl hd (op_extract hx hv h)
theorem oh {l:List Oper} {v:Value} {sp:List Sp} (h:DetAt P n D S w0 L o ρ v) (k:HW P n D ops S w0 L (i+1) Γ l sp (ext ρ o.dst v)) (hg:o.guard=none:=by rfl):HW P n D ops S w0 L i Γ (o::l) (.det v none::sp) ρ:=HW.op hg h k
theorem mh {l:List Oper} {a:Operand} {v:Value} {sp:List Sp} (hx:ev ρ a=some v) (k:HW P n D ops S w0 L (i+1) Γ l sp (ext ρ dst v)):HW P n D ops S w0 L i Γ (⟨dst,.move a,ty,pos,af,none⟩::l) (.det v none::sp) ρ:=HW.op rfl (fun _ _=>op_move hx zr) k
theorem ah {l:List Oper} {a:Operand} {v:Value} {sp:List Sp} (hx:ev ρ a=some v) (k:HW P n D ops S w0 L (i+1) Γ l sp (ext ρ dst v)):HW P n D ops S w0 L i Γ (⟨dst,.assign a,ty,pos,af,none⟩::l) (.det v none::sp) ρ:=HW.op rfl (fun _ _=>op_assign hx zr) k
theorem yh {l:List Oper} {v:Value} {sp:List Sp} {j t:Nat} {want b:Bool} (hb:b=want) (h:DetAt P n D S w0 L o ρ v) (k:HW P n D ops S w0 L (i+1) Γ l sp (ext ρ o.dst v)) (hg:o.guard=some (j,want):=by rfl) (hj:(ops[j]?).bind (·.dst)=some t:=by rfl) (hv:Env.get ρ t=some (.bool b):=by rfl):HW P n D ops S w0 L i Γ (o::l) (.det v none::sp) ρ:=HW.yes hg hj hv hb h k
theorem nh {l:List Oper} {sp:List Sp} {j t:Nat} {want b:Bool} (hb:b= !want) (k:HW P n D ops S w0 L (i+1) Γ l sp (ext ρ o.dst undef)) (hg:o.guard=some (j,want):=by rfl) (hj:(ops[j]?).bind (·.dst)=some t:=by rfl) (hv:Env.get ρ t=some (.bool b):=by rfl):HW P n D ops S w0 L i Γ (o::l) (.det undef none::sp) ρ:=HW.no hg hj hv hb k
theorem uh {l:List Oper} {sp:List Sp} {j t:Nat} {want:Bool} (k:HW P n D ops S w0 L (i+1) Γ l sp (ext ρ o.dst undef)) (hg:o.guard=some (j,want):=by rfl) (hj:(ops[j]?).bind (·.dst)=some t:=by rfl) (hv:Env.get ρ t=some undef:=by rfl):HW P n D ops S w0 L i Γ (o::l) (.det undef none::sp) ρ:=HW.non hg hj hv k
theorem wY {j t:Nat} {want b:Bool} (hb:b=want) (h:Op1 P n D o ρ w (fun v w'=>WL P n D ops Q rest (ext ρ o.dst v) w')) (hg:o.guard=some (j,want):=by rfl) (hj:(ops[j]?).bind (·.dst)=some t:=by rfl) (hv:Env.get ρ t=some (.bool b):=by rfl)
    (hd:dOK n o.dst=true:=by rfl):WL P n D ops Q (o::rest) ρ w:=WL.yes hg hj hv hb hd h
theorem wN {j t:Nat} {want b:Bool} (hb:b= !want) (h:WL P n D ops Q rest (ext ρ o.dst undef) w) (hg:o.guard=some (j,want):=by rfl) (hj:(ops[j]?).bind (·.dst)=some t:=by rfl) (hv:Env.get ρ t=some (.bool b):=by rfl)
    (hd:dOK n o.dst=true:=by rfl):WL P n D ops Q (o::rest) ρ w:=WL.no hg hj hv hb hd h
theorem wC (t:Bool) {cc:Operand} (h1:t=true→WC P n D x Q ρ w) (h2:t=false→WC P n D y Q ρ w) (hc:ev ρ cc=some (.bool t):=by rfl):WC P n D (.cond cc x y) Q ρ w:=WC.cond hc h1 h2
theorem wV (t:Nat) (b:Bool) (h1:b=true→WL P n D ops Q rest ρ w) (h0:b=false→WL P n D ops Q rest ρ w) (hv:Env.get ρ t=some (.bool b):=by rfl):WL P n D ops Q rest ρ w:=WL.split hv h1 h0
theorem wB (b:Bool) {p:Prop} (h1:b=true→p) (h0:b=false→p):p:=bsplit h1 h0
theorem kS (k:Nat) {oi:Oper} {fuel:Nat} {listed:Array Bool} (hi:ops[k]?=some oi) (h:Op1 P n D oi ρ w (fun v w'=>WD P n D ops Q fuel (listed.setIfInBounds k true) (ext ρ oi.dst v) w')) (hg:oi.guard=none:=by rfl) (hd:dOK n oi.dst=true:=by rfl):WS P n D ops Q k fuel listed ρ w:=WS.op hi hg hd h
theorem kH (k:Nat) {oi:Oper} {fuel:Nat} {listed:Array Bool} {Sx:World→Prop} (hi:ops[k]?=some oi) (h:Op1 P n D oi ρ w (fun v w'=>Sx w'∧WH P n D ops Q Sx fuel (listed.setIfInBounds k true) (ext ρ oi.dst v) w')) (hg:Wnt ops ρ oi:=by exact .inl rfl) (hd:dOK n oi.dst=true:=by rfl):WHS P n D ops Q Sx k fuel listed ρ w:=WHS.op hi hg hd h
theorem wd1 (i:Nat) {fuel:Nat} {listed:Array Bool} (h:WS P n D ops Q i fuel listed ρ w) (hr:Region.ready .any ops listed=[i]:=by kernel_rfl):WD P n D ops Q (fuel+1) listed ρ w:=WD.all1 hr h
theorem wd2 (i j:Nat) {fuel:Nat} {listed:Array Bool} (h:WS P n D ops Q i fuel listed ρ w) (h2:WS P n D ops Q j fuel listed ρ w) (hr:Region.ready .any ops listed=[i,j]:=by kernel_rfl):WD P n D ops Q (fuel+1) listed ρ w:=WD.all2 hr h h2
theorem wd3 (i j m:Nat) {fuel:Nat} {listed:Array Bool} (h:WS P n D ops Q i fuel listed ρ w) (h2:WS P n D ops Q j fuel listed ρ w) (h3:WS P n D ops Q m fuel listed ρ w) (hr:Region.ready .any ops listed=[i,j,m]:=by kernel_rfl):WD P n D ops Q (fuel+1) listed ρ w:=WD.all3 hr h h2 h3
theorem wh1 (i:Nat) {fuel:Nat} {listed:Array Bool} {Sx:World→Prop} (h:WHS P n D ops Q Sx i fuel listed ρ w) (hr:Region.ready .any ops listed=[i]:=by kernel_rfl):WH P n D ops Q Sx (fuel+1) listed ρ w:=WH.all1 hr h
theorem wh2 (i j:Nat) {fuel:Nat} {listed:Array Bool} {Sx:World→Prop} (h:WHS P n D ops Q Sx i fuel listed ρ w) (h2:WHS P n D ops Q Sx j fuel listed ρ w) (hr:Region.ready .any ops listed=[i,j]:=by kernel_rfl):WH P n D ops Q Sx (fuel+1) listed ρ w:=WH.all2 hr h h2
theorem xt (i:Nat) {L0 L1:List Ent} {fuel:Nat} {listed:Array Bool} {oi:Oper} (hi:ops[i]?=some oi) (v:Value) (H:Own S w0 w (L0++L1)) (hy: ∀w1 L2,Own S w0 w1 (L0++L2)→Op1 P n D oi ρ w1 (fun u w2=>u=v∧w2=w1))
    (h:WH P n D ops Q (fun w'=> ∃L',Own S w0 w' (L0++L')) fuel (listed.setIfInBounds i true) (ext ρ oi.dst v) w) (hv:valOp oi=true:=by rfl) (hg:Wnt ops ρ oi:=by exact .inl rfl) (hd:dOK n oi.dst=true:=by rfl) (hc:chkEarly ops listed i=true:=by kernel_rfl) :
    WH P n D ops Q (fun w'=> ∃L',Own S w0 w' (L0++L')) (fuel+1) listed ρ w:=wt i v H hy h hi hv hg hd hc
theorem dT {p:Prop} [Decidable p] (h:decide p=true):p:=of_decide_eq_true h
theorem dF {p:Prop} [Decidable p] (h:decide p=false):¬p:=of_decide_eq_false h
theorem cq {f:FuncId} {args:Array Operand} {ats:Array TypeId} {vs:List Value} {v:Value} {R:Value→World→Prop} {g:Option (Nat × Bool)} (H:Own S w0 w L) (hb:callB P f=true) (hv:evL ρ args.toList=some vs) (hc:Calls P f vs.toArray w (fun e w'=>e=.returned v∧Fr [] w w'))
    (h: ∀w',Own S w0 w' L→R v w'):Op1 P n D ⟨dst,.call { callee:=.value (.func f),args:=args,argTypes:=ats },ty,pos,af,g⟩ ρ w R:=op_callF hb hv (hc.mono (fun _ w' hq=>⟨v,hq.1,h w' (H.fr' hq.2)⟩))
theorem wE (p:Prop) [Decidable p] {cc:Operand} (h1:decide p=true→p→WC P n D x Q ρ w) (h2:decide p=false→¬p→WC P n D y Q ρ w) (hc:ev ρ cc=some (.bool (decide p)):=by rfl):WC P n D (.cond cc x y) Q ρ w:=WC.cond hc (fun h=>h1 h (dT h)) (fun h=>h2 h (dF h))
theorem wF (t:Nat) (p:Prop) [Decidable p] (h1:decide p=true→p→WL P n D ops Q rest ρ w) (h0:decide p=false→¬p→WL P n D ops Q rest ρ w) (hv:Env.get ρ t=some (.bool (decide p)):=by rfl):WL P n D ops Q rest ρ w:=WL.split hv (fun h=>h1 h (dT h)) (fun h=>h0 h (dF h))
theorem wG (p:Prop) [Decidable p] {q:Prop} (h1:decide p=true→p→q) (h0:decide p=false→¬p→q):q:=bsplit (fun h=>h1 h (dT h)) (fun h=>h0 h (dF h))
end
def bq:Nat→Nat→List Bool
  | 0,_=>[]
  | k+1,m=>(m%2==1)::bq k (m / 2)
abbrev bz (k m:Nat):Array Bool:=(bq k m).toArray
end Go.Owl
namespace Go.Owl
structure Cl where
  f:FuncId
  cap:List Value
def Cl.zero:Cl:=⟨0,[]⟩
def clV (c:Cl):Value:=.func (.func c.f) #[] c.cap.toArray
section
variable {α:Type} {S:List Nat} {w0 w w1:World} {L E M:List Ent} {i j g:Nat} {I:List Nat} {t:TypeId} {f:α→List Value} {bl:α→Nat} {l:List α} {a:α} {b:Nat} {cs:List Value}
theorem Own.rowX {v:Value} {sz m m':Nat} {xs xs':List Value} (H:Own S w0 w L) (hi:L[i]?=some (Ent.row v t sz m xs)) (e:xs=xs') (en:m=m'):Own S w0 w (L.set i (.row v t sz m' xs')):=by
  subst e; subst en
  have h:=List.getElem?_eq_some_iff.1 hi
  have e:L.set i (.row v t sz m xs)=L:=by rw [←h.2]; exact List.set_getElem_self h.1
  rw [e]; exact H
theorem Own.foldEnd (H:Own S w0 w L) (hi:L[i]?=some (Ent.bs t f bl l)) (hj:L[j]?=some (.blk b cs t)) (hij:Nat.beq i j=false) (hb:bl a=b) (hc:f a=cs) :
    Own S w0 w ((L.set j Ent.nul).set i (Ent.bs t f bl (l++[a]))) :=
  H.fold (l1:=l) (l2:=[]) (by rw [List.append_nil]; exact hi) hj hij hb hc
theorem Own.addBo (H:Own S w0 w M) (hc:Owl.cellsAt w b cs) (hM: ∀(k:Nat) (x:Ent),M[k]?=some x→¬x.Owns b):Own S w0 w (M++[Ent.bo b cs]) :=
  H.new' (Fr.refl _ _) hc (fun b hb=>by cases hb) (fun b' hb' k x hk=>by
    have:b'=b:=by
      cases cs with
      | nil=>simp [Ent.bo,Ent.foot] at hb'
      | cons c r=>simpa [Ent.bo,Ent.foot] using hb'
    rw [this]; exact hM k x hk)
theorem Own.notOwn (H:Own S w0 w L) (hp:picks L I=some E) (hg:L[g]?=some (Ent.bs t f bl l)) (hgI:I.any (Nat.beq g)=false) (ha:a∈l): ∀(k:Nat) (x:Ent),E[k]?=some x→¬x.Owns (bl a):=fun k x hk hx=>by
  obtain ⟨q,hq,h⟩:=picks_of hp hk
  refine H.sep q g x _ h hg (fun e=>?_) (bl a) hx (List.mem_map.2 ⟨a,ha,rfl⟩)
  exact (List.any_eq_false.1 hgI q (List.mem_of_getElem? hq)) (by rw [e]; exact Nat.beq_refl _)
theorem notOwn_bo (h: ∀(k:Nat) (x:Ent),M[k]?=some x→¬x.Owns b) {b':Nat} {cs':List Value}: ∀(k:Nat) (x:Ent),(M++[Ent.bo b' cs'])[k]?=some x→¬x.Owns b:=fun k x hk=>by
  rcases Nat.lt_trichotomy k M.length with h1 | h1 | h1
  · rw [List.getElem?_append_left h1] at hk; exact h k x hk
  · subst h1; simp at hk; subst hk; exact fun h=>h
  · rw [List.getElem?_eq_none (by simp; omega)] at hk; cases hk
theorem BsOK.cells (h:BsOK t f bl l w) (ha:a∈l):cellsAt w (bl a) (f a):=fun _j _u hu=>h.cell ha hu
end
end Go.Owl
namespace Go.Owl
section
variable {S:List Nat} {w0 w:World} {L:List Ent} {i b:Nat} {cs cs':List Value} {t:TypeId}
theorem Own.toBo (H:Own S w0 w L) (hi:L[i]?=some (.blk b cs t)) (k:Nat) (hk:cs.take k=cs'):Own S w0 w (L.set i (Ent.bo b cs')):=by
  refine H.upd' hi (Fr.refl [] w) (fun b hb=>by cases hb) (fun j u hu=>?_) (fun b hb=>by cases hb) (fun b' hb=>?_)
  · subst hk
    rw [List.getElem?_take] at hu
    split at hu
    · exact H.cell hi hu
    · cases hu
  · left
    cases cs' with
    | nil=>simp [Ent.bo,Ent.foot] at hb
    | cons c r=>simpa [Ent.bo,Ent.foot] using hb
theorem Own.fresh0 (H:Own [] w0 w L) (hi:L[i]?=some (.blk b cs t)) (_h:True=True):w0.heap.size≤b:=by
  rcases H.own i _ hi b rfl with h | h
  · exact h
  · cases h
theorem up {F:List Nat} {w:World} (h: ∀b∈F,w.heap.size≤b) (hs:w0.heap.size≤w.heap.size): ∀b∈F,w0.heap.size≤b:=fun b hb=>Nat.le_trans hs (h b hb)
end
theorem repl_copy {α:Type} {z y:α} {c d k:Nat} (_hd:d≤c) (hk:k=min d (c-d)) :
    (List.replicate d z++List.replicate (c-d) y).take d++(((List.replicate d z++List.replicate (c-d) y).take d).take k++(List.replicate d z++List.replicate (c-d) y).drop (d+k))=List.replicate (d+k) z++List.replicate (c-(d+k)) y:=by
  have e1:(List.replicate d z++List.replicate (c-d) y).take d=List.replicate d z:=by
    rw [List.take_append_of_le_length (by simp),List.take_of_length_le (by simp)]
  have e2:(List.replicate d z++List.replicate (c-d) y).drop (d+k)=List.replicate (c-(d+k)) y:=by
    rw [←List.drop_drop,List.drop_left' (by simp),List.drop_replicate]
    congr 1; omega
  rw [e1,e2,List.take_replicate,show min k d=k by omega,←List.append_assoc,List.replicate_append_replicate]
end Go.Owl
namespace Go.Owl
section
variable {α:Type} {P:Program} {n:Nat} {D:List Deferred} {ρ:Env} {w w0:World} {R:Value→World→Prop} {dst:Option Tmp} {ty:TypeId} {pos:String} {af:Array Edge} {gd:Option (Nat × Bool)}
variable {S:List Nat} {L:List Ent} {i b ib c:Nat} {kk:IntKind} {x:Operand} {f:α→ME} {gs sn rest:List α}
theorem ME.rn_sep {A B:List ME} {e:ME} {C:List ME} (h:(A.map ME.r).Nodup) (hp:A.Perm ((B++[e])++C)):e ∉ B:=fun hb=>by
  have h1:=(hp.map ME.r).nodup_iff.1 h
  rw [List.map_append,List.map_append,List.append_assoc] at h1
  obtain ⟨p,q,rfl⟩:=List.append_of_mem hb
  rw [List.map_append,List.map_cons,List.append_assoc,List.cons_append,nodup_mid] at h1
  exact h1.1 (by simp)
theorem op_nextG (H:Own S w0 w L) (hi:L[i]?=some (Ent.obj ib (itO b c (sn.map f)))) (hb:w.heap[b]?=some (mP kk (gs.map f) c)) (hl:MEok (gs.map f) c) (hp:gs.Perm (sn++rest)) (hx:ev ρ x=some (ptr ib 0))
    (h0:rest=[]→R (.tuple #[.bool false]) w)
    (h1: ∀(g:α) (rest':List α),rest.length=rest'.length+1→gs.Perm ((sn++[g])++rest')→∀w',Own S w0 w' (L.set i (.obj ib (itO b c ((sn++[g]).map f))))→R (.tuple #[.bool true,.int kk ((f g).k:Int),ptr (f g).b 0]) w') :
    Op1 P n D ⟨dst,.next x false,ty,pos,af,gd⟩ ρ w R:=by
  refine op_nextP (sn:=sn.map f) (rest:=rest.map f) H hi hb hl (by rw [←List.map_append]; exact hp.map f) hx (fun h=>h0 (List.map_eq_nil_iff.1 h)) (fun e r' hlen hp' w' H'=>?_)
  have he:e∈gs.map f:=hp'.mem_iff.2 (by simp)
  have hns:e ∉ sn.map f:=ME.rn_sep hl.rn hp'
  have he2:e∈(sn++rest).map f:=(hp.map f).mem_iff.1 he
  rw [List.map_append,List.mem_append] at he2
  obtain ⟨g,hg,rfl⟩:=List.mem_map.1 (he2.resolve_left hns)
  obtain ⟨r1,r2,rfl⟩:=List.append_of_mem hg
  rw [←List.map_singleton (f:=f) (a:=g),←List.map_append] at H'
  refine h1 g (r1++r2) (by simp; omega) (hp.trans ?_) w' H'
  rw [List.append_assoc]
  exact List.Perm.append_left sn List.perm_middle
theorem op_entryG {g:α} (H:Own S w0 w L) (hi:L[i]?=some (Ent.obj ib (itO b c ((sn++[g]).map f)))) (hb:w.heap[b]?=some (mP kk (gs.map f) c)) (hl:MEok (gs.map f) c) (hp:gs.Perm ((sn++[g])++rest)) (hx:ev ρ x=some (ptr ib 0))
    (h:R (.tuple #[.int kk ((f g).k:Int),ptr (f g).b 0]) w):Op1 P n D ⟨dst,.entry x,ty,pos,af,gd⟩ ρ w R:=by
  have hr:w.heap[ib]?=some (.mapIter (some b) c (((sn++[g]).map f).map ME.r).toArray c):=H.ok i _ hi
  have e0:(((sn++[g]).map f).map ME.r).toArray=((sn.map f).map ME.r).toArray.push (ME.ent kk (f g)).born:=by
    rw [List.push_toArray,List.map_append,List.map_append]; rfl
  rw [e0] at hr
  have hm:ME.ent kk (f g)∈((gs.map f).map (ME.ent kk)).toArray.toList:=by
    have:g∈gs:=hp.mem_iff.2 (by simp)
    exact List.mem_map.2 ⟨f g,List.mem_map.2 ⟨g,this,rfl⟩,rfl⟩
  have hn:(((gs.map f).map (ME.ent kk)).toArray.toList.map (·.born)).Nodup:=by
    have:=hl.rn
    rw [List.map_map]; exact this
  exact Op1.val (fun a ha=>by simp only [execOp,ha.ev hx,Sem.run_bind,run_entry_at w ib b c _ _ c _ hr hb hm hn,Result.andThen_ok,Sem.run_pure]; rfl) h
theorem op_lookG_some {T kt et:TypeId} {y:Operand} {q:Int} {g:α} (hb:w.heap[b]?=some (mP kk (gs.map f) c)) (hl:MEok (gs.map f) c) (hg:g∈gs) (he:((f g).k:Int)=q) (hu:P.underlying T=some (.map kt et)) (hk:P.underlying kt=some (.int kk))
    (hx:ev ρ x=some (.map (some b))) (hy:ev ρ y=some (.int kk q)) (h:R (ptr (f g).b 0) w):Op1 P n D ⟨dst,.lookup T x y false,ty,pos,af,gd⟩ ρ w R:=by
  obtain ⟨l1,l2,rfl⟩:=List.append_of_mem hg
  rw [List.map_append,List.map_cons] at hb hl
  refine op_lookP_some hb hu hk (fun x hx he2=>?_) he hx hy h
  exact hl.left x hx (he2.trans he.symm)
theorem op_lookG_no {T kt et:TypeId} {y:Operand} {q:Int} (hb:w.heap[b]?=some (mP kk (gs.map f) c)) (hn: ∀g∈gs,((f g).k:Int)≠q) (hu:P.underlying T=some (.map kt et)) (hk:P.underlying kt=some (.int kk)) (hz:zvB P et=some (.pointer none))
    (hx:ev ρ x=some (.map (some b))) (hy:ev ρ y=some (.int kk q)) (h:R (.pointer none) w):Op1 P n D ⟨dst,.lookup T x y false,ty,pos,af,gd⟩ ρ w R :=
  op_lookP_none hb hu hk hz (fun x hx=>by
    obtain ⟨g,hg,rfl⟩:=List.mem_map.1 hx
    exact hn g hg) hx hy h
end
end Go.Owl
namespace Go.Owl
section
variable {α:Type} {S:List Nat} {w0 w:World} {L:List Ent} {i:Nat} {t:TypeId} {f:α→List Value} {bl:α→Nat} {l:List α} {a:α}
theorem Own.bsView (H:Own S w0 w L) (hi:L[i]?=some (Ent.bsO t f bl l)) (ha:a∈l):Own S w0 w (L++[Ent.bo (bl a) (f a)]) :=
  H.join (i:=i) (j:=i) hi hi (fun h _ j u hu=>by rw [(h.2 a ha).cell]; exact hu) (fun b hb=>.inl (by
    have hb':b=bl a:=by
      split at hb
      · cases hb
      · exact List.mem_singleton.1 hb
    exact List.mem_map.2 ⟨a,ha,hb'.symm⟩))
theorem Own.dpView {D:Deep α} {v:Value} {sz n:Nat} {xs:List Value} (H:Own S w0 w L) (hi:L[i]?=some (Ent.dp D.list l)) (ha:a∈l) (h: ∀w,D.ok w a→Arr w v sz n xs) (hs: ∀b∈footA v xs,b∈D.ft a):Own S w0 w (L++[Ent.ar v sz n xs]) :=
  H.join (i:=i) (j:=i) hi hi (fun k _=>h w (k a ha)) (fun b hb=>.inl (List.mem_flatMap.2 ⟨a,ha,hs b hb⟩))
end
end Go.Owl
namespace Go.Owl
section
variable {α:Type} {S:List Nat} {w0 w:World} {L E:List Ent} {i j:Nat}
theorem Own.rowFreshT {v:Value} {t:TypeId} {sz n:Nat} {xs:List Value} (H:Own S w0 w L) (hi:L[i]?=some (Ent.row v t sz n xs)) (hS: ∀b∈S, ∃(j:Nat) (e:Ent),L[j]?=some e∧j≠i∧e.Owns b): ∀b∈footA v xs,w0.heap.size≤b:=by
  intro b hb
  obtain ⟨hl,⟨rfl,rfl⟩ | ⟨g,cap,pre,junk,rfl,hk,hr⟩⟩:=H.row hi
  · have hx:xs=[]:=List.eq_nil_of_length_eq_zero (by simpa using hl)
    subst hx; simp [footA] at hb
  · have hb':b=g:=by
      simp only [footA] at hb
      split at hb
      · cases hb
      · simpa [sBlk] using hb
    rcases H.own i _ hi g rfl with h | h
    · omega
    · obtain ⟨j,e,hj,hne,ho⟩:=hS g h
      exact absurd (Ent.block_foot (e:=.row (.slice (some ⟨g,pre.length,none⟩) n cap) t sz n xs) rfl) (H.sep j i e _ hj hi hne g ho)
theorem Fits.dpTo {D:Deep α} {l l':List α} {r:List Ent} (j:Nat) (hj:E[j]?=some (Ent.dp D.list l)) (h: ∀b∈D.list.ft l',w.heap.size≤b∨b∈D.list.ft l) (k:Fits w E r):Fits w E (Ent.dp D.list l'::r) :=
  k.cons (fun b hb=>.inr ((h b hb).imp id (fun h2=>⟨j,_,hj,h2⟩)))
end
end Go.Owl
namespace Go.Owl
section
variable {α β:Type} {w:World}
theorem capT7 {c mb:Nat} {cs x1 x2 x3:List Value} {t t2:TypeId} {o:Obj} {v1 v2 v3:Value} {s1 s2 s3 n1 n2 n3:Nat} {f:α→List Value} {bl:α→Nat} {l:List α} {D:Deep β} {a:β} :
    ∀b∈blks [Ent.blk c cs t,Ent.ar v1 s1 n1 x1,.obj mb o,Ent.bs t2 f bl l,Ent.dp D a,Ent.ar v2 s2 n2 x2,Ent.ar v3 s3 n3 x3],b=c∨b=mb∨b∈List.map bl l:=by
  intro b hb
  obtain ⟨m,e,hm,ho⟩:=mem_blks.1 hb
  match m,hm,ho with
  | 0,hm,ho=>cases hm; exact .inl (Option.some.inj ho).symm
  | 1,hm,ho=>cases hm; cases ho
  | 2,hm,ho=>cases hm; exact .inr (.inl (Option.some.inj ho).symm)
  | 3,hm,ho=>cases hm; exact .inr (.inr ho)
  | 4,hm,ho=>cases hm; cases ho
  | 5,hm,ho=>cases hm; cases ho
  | 6,hm,ho=>cases hm; cases ho
  | m+7,hm,ho=>simp at hm
end
end Go.Owl
namespace Go.Owl
structure Free (F:Fence):Prop where
  fn: ∀f,F.fn f
  depth:F.depth=none
  calls: ∀(P:Program) (m:Nat) (f:FuncId) (args:Array Value) (w:World) (R:Ending→World→Prop),Calls P f args w R→CallsIn F m P f args w R
theorem Free.wide:Free Fence.wide:=⟨fun _=>trivial,rfl,fun _P _m _f _args _w _R h=>callsIn_wide.2 h⟩
theorem Free.round (l:Nat):Free (Fence.wide.inRound l):=⟨fun _=>trivial,rfl,fun P m f args w R h=>(callsIn_wide.2 h:CallsIn Fence.wide m P f args w R)⟩
theorem Free.d1 {F:Fence} (hF:Free F) {m:Nat}:F.depth.isSome=true→1≤m:=fun h=>by rw [hF.depth] at h; cases h
def WLI (F:Fence) (m:Nat) (P:Program) (n:Nat) (D:List Deferred) (ops:Array Oper) (Q:Exit→Act→World→Prop) (l:List Oper) (ρ:Env) (w:World):Prop :=
  ∀a,Agr n D ρ a→wpListIn F m P ops Q l a w
def WCI (F:Fence) (m:Nat) (P:Program) (n:Nat) (D:List Deferred) (c:Code) (Q:Exit→Act→World→Prop) (ρ:Env) (w:World):Prop :=
  ∀a,Agr n D ρ a→c.wpIn F m P Q a w
def notDefer:Op→Bool
  | .defer _=>false
  | _=>true
theorem ndef_ne {o:Op} (h:notDefer o=true): ∀c,o≠.defer c:=fun c e=>by subst e; cases h
section
variable {F:Fence} {m:Nat} {P:Program} {n:Nat} {D:List Deferred} {ops:Array Oper} {Q Q':Exit→Act→World→Prop} {o:Oper} {rest:List Oper} {ρ ρ':Env} {w:World} {c x y:Code}
theorem OpRun.wpIn {a:Act} {R:Value→World→Prop} {K:Act→World→Prop} (hF:Free F) (hd:notDefer o.op=true) (h:OpRun P ((execOp a.eval o).run P w) R)
    (hK: ∀v w',R v w'→K (a.put o.dst v) w'):o.wpIn F m P a w K Q:=by
  refine ⟨fun f _=>hF.fn f,?_⟩
  rw [Oper.semAt_eq _ _ _ (ndef_ne hd)]
  generalize (execOp a.eval o).run P w=r at h
  cases r with
  | halt x w'=>exact h.elim
  | ok x w' =>
    cases x with
    | value v=>exact hK v w' h
    | skip=>exact hK undef w' h
    | enter f args=>exact ⟨hF.d1,(hF.calls _ _ _ _ _ _ h).mono fun e w'' ⟨v,he,hR⟩=>by subst he; exact hK v w'' hR⟩
    | _=>exact h.elim
theorem WLI.op (hF:Free F) (hg:o.guard=none) (hn:notDefer o.op=true) (hd:dOK n o.dst=true) (h:Op1 P n D o ρ w (fun v w'=>WLI F m P n D ops Q rest (ext ρ o.dst v) w')) :
    WLI F m P n D ops Q (o::rest) ρ w :=
  fun a ha=>wpListIn_plain hg fun _K hK=>(h a ha).wpIn hF hn fun v _w' hR=>hK _ _ (hR _ (ha.put hd v))
theorem WLI.nil (h:WQ n D Q .normal ρ w):WLI F m P n D ops Q [] ρ w:=fun a ha=>wpListIn_nil (h a ha)
theorem WLI.yield {f:Operand} {ys:Array Operand} {tys:Array TypeId} {l:Nat} {vs:List Value} {R:Ending→World→Prop} {dst:Option Tmp} {ty:TypeId} {pos:String} {af:Array Edge} (hF:Free F) (hd:dOK n dst=true)
    (hf:ev ρ f=some (.func (.yield l) #[] #[])) (hy:evL ρ ys.toList=some vs) (hY:YieldAt F (m-1) P l vs.toArray w R)
    (hR: ∀e w',R e w'→∃v,e=.returned v∧WLI F m P n D ops Q rest (ext ρ dst v) w'):WLI F m P n D ops Q (⟨dst,.call { callee:=.value f,args:=ys,argTypes:=tys },ty,pos,af,none⟩::rest) ρ w:=by
  intro a ha
  refine wpListIn_plain rfl fun K hK=>⟨fun f _=>hF.fn f,?_⟩
  rw [Oper.semAt_eq _ _ _ (fun c e=>by cases e)]
  obtain ⟨fn,tmps,as,bd,hrun,hround⟩:=hY
  have h1:=ha.evA hy
  have e1:(execOp a.eval ⟨dst,.call { callee:=.value f,args:=ys,argTypes:=tys },ty,pos,af,none⟩).run P w=(Instr.yield l vs.toArray).run P w:=by
    simp [execOp,resolve,h1,ha.ev hf,Deferred.ofValue,invoke]
  rw [e1,hrun,Oper.uponIn_round]
  refine ⟨hF.d1,hround.mono fun e w' he=>?_⟩
  obtain ⟨v,rfl,h2⟩:=hR e w' he
  exact hK _ _ (h2 _ (ha.put hd v))
theorem WCI.region {id:Nat} {l:List Oper} (h:WLI F m P n D l.toArray Q l ρ w):WCI F m P n D (.region id l.toArray false) Q ρ w :=
  fun a ha=>wpIn_region_lit (h a ha)
theorem WCI.seq (h:WCI F m P n D x (Exit.then (y.wpIn F m P Q) Q) ρ w):WCI F m P n D (.seq x y) Q ρ w:=fun a ha=>wpIn_seq (h a ha)
theorem WQ.nextI (h:WCI F m P n D y Q ρ w):WQ n D (Exit.then (y.wpIn F m P Q) Q) .normal ρ w:=fun a ha=>h a ha
theorem WCI.block {id:Nat} (h:WCI F m P n D c (Exit.inBlock id Q) ρ w):WCI F m P n D (.block id c) Q ρ w:=fun a ha=>wpIn_block (h a ha)
theorem WCI.ret (h:WQ n D Q .ret ρ w):WCI F m P n D .ret Q ρ w:=fun a ha=>wpIn_ret (h a ha)
theorem WCI.skip (h:WQ n D Q .normal ρ w):WCI F m P n D .skip Q ρ w:=fun a ha=>wpIn_skip (h a ha)
theorem WCI.exit {id:Nat} (h:WQ n D Q (.exit id) ρ w):WCI F m P n D (.exit id) Q ρ w:=fun a ha=>wpIn_exit (h a ha)
theorem WCI.cond {cc:Operand} {t:Bool} (hc:ev ρ cc=some (.bool t)) (h1:t=true→WCI F m P n D x Q ρ w) (h2:t=false→WCI F m P n D y Q ρ w) :
    WCI F m P n D (.cond cc x y) Q ρ w:=fun a ha=>wpIn_cond_split (ha.ev hc) (fun h=>h1 h a ha) (fun h=>h2 h a ha)
theorem WCI.yes {cc:Operand} {b:Bool} (hc:ev ρ cc=some (.bool b)) (hb:b=true) (h1:WCI F m P n D x Q ρ w):WCI F m P n D (.cond cc x y) Q ρ w:=by
  subst hb; exact fun a ha=>wpIn_cond_true (ha.ev hc) (h1 a ha)
theorem WCI.no {cc:Operand} {b:Bool} (hc:ev ρ cc=some (.bool b)) (hb:b=false) (h1:WCI F m P n D y Q ρ w):WCI F m P n D (.cond cc x y) Q ρ w:=by
  subst hb; exact fun a ha=>wpIn_cond_false (ha.ev hc) (h1 a ha)
theorem WCI.loop {α:Type} (E:α→Env) (R:α→World→Prop) (μ:α→Nat) (z:α) (hr:R z w) (hc:Cov ρ (E z))
    (h: ∀z w',R z w'→WCI F m P n D c (Exit.then (Round n D E R μ (μ z)) Q) (E z) w'):WCI F m P n D (.loop c) Q ρ w:=fun a ha=>by
  refine wpIn_loop_ghost (fun k a w=> ∃z,μ z=k∧Agr n D (E z) a∧R z w) (μ z) ⟨z,rfl,ha.cov hc,hr⟩ ?_
  rintro _ a' w' ⟨z,rfl,hz,hrz⟩
  refine wpIn_mono (h z w' hrz a' hz) fun e a'' w'' hq=>?_
  cases e with
  | normal=>obtain ⟨z',hz',hr',hlt⟩:=hq; exact ⟨_,hlt,z',rfl,hz',hr'⟩
  | _=>exact hq
theorem agr_ents {fn:Func} {args:List Value} (hs:Nat.ble args.length fn.ntmps=true):Agr fn.ntmps [] (ents 0 args) { tmps:=args.toArray++Array.replicate (fn.ntmps-args.toArray.size) undef,defers:=[] }:=by
  have hs':args.length≤fn.ntmps:=by simpa [Nat.ble_eq] using hs
  refine ⟨by simp; omega,rfl,fun i v hv=>?_⟩
  obtain ⟨_,h2⟩:=ents_get args 0 i v hv
  have hlt:i<args.length:=by
    rcases Nat.lt_or_ge i args.length with h | h
    · exact h
    · simp [List.getElem?_eq_none h] at h2
  simp only [Nat.sub_zero] at h2
  simp only [Array.getD_eq_getD_getElem?,Array.getElem?_append,List.size_toArray,hlt,if_true,List.getElem?_toArray,h2,Option.getD_some]
theorem enterI {f:FuncId} {fn:Func} {args:List Value} {R:Ending→World→Prop} (hF:Free F) (hro:F.round=none) (hf:P.funcs[f]?=some fn) (hb:fn.body=some c) (hs:Nat.ble args.length fn.ntmps=true)
    (h:WCI F m P fn.ntmps [] c (bodyPost P fn R) (ents 0 args) w):CallsIn F m P f args.toArray w R :=
  callsIn_of_wp hf hb (hF.fn f) (h _ (agr_ents hs)) hro
theorem enterM {f:FuncId} {fn:Func} {args:List Value} {R:Ending→World→Prop} (hF:Free F) (hro:F.round=none) (hf:P.funcs[f]?=some fn) (hb:fn.body=some c) (hs:Nat.ble args.length fn.ntmps=true)
    (h:WCI F m P fn.ntmps [] c (bodyPostM F m P fn R) (ents 0 args) w):CallsIn F m P f args.toArray w R :=
  callsIn_of_wp_marks hf hb (hF.fn f) (h _ (agr_ents hs)) hro
end
end Go.Owl
namespace Go.Owl
open Go.RowKit
section
variable {S T:List Nat} {w0 w w':World} {L:List Ent}
theorem Own.far (H:Own S w0 w L) (hf:Fr T w w') (h1: ∀b∈T,w0.heap.size≤b) (h2: ∀(i:Nat) (e:Ent),L[i]?=some e→∀b∈e.foot,b ∉ T):Own S w0 w' L :=
  ⟨⟨hf.os.trans H.fr.os,hf.tape.trans H.fr.tape,hf.output.trans H.fr.output,Nat.le_trans H.fr.size hf.size,fun k hk hS =>
      (hf.block k (Nat.lt_of_lt_of_le hk H.fr.size) (fun hm=>by have:=h1 k hm; omega)).trans (H.fr.block k hk hS)⟩,
   fun i e hi=>Ent.fr (H.ok i e hi) hf (h2 i e hi),H.sep,H.own⟩
theorem Own.cellsFoot (H:Own S w0 w L) {i:Nat} {e:Ent} (hi:L[i]?=some e) (hk:(∃b cs t,e=.blk b cs t)∨∃v t sz n xs,e=.row v t sz n xs) {b:Nat} (hb:b∈e.foot): ∃o:Obj,w.heap[b]?=some o∧o.isCells=true:=by
  have hok:=H.ok i e hi
  rcases hk with ⟨b',cs,t,rfl⟩ | ⟨v,t,sz,n,xs,rfl⟩
  · simp only [Ent.foot,List.mem_singleton] at hb
    subst hb
    obtain ⟨fr,_,h⟩:=hok
    exact ⟨_,h,rfl⟩
  · obtain ⟨hl,⟨rfl,rfl⟩ | ⟨g,cap,pre,junk,rfl,hk,hr⟩⟩:=hok
    · simp [Ent.foot,Value.ownBlock] at hb
    · simp only [Ent.foot,Value.ownBlock,Option.toList_some,List.mem_singleton] at hb
      subst hb
      obtain ⟨fr,_,h⟩:=hk
      exact ⟨_,h,rfl⟩
theorem Own.turn {b t1 t2 sz n:Nat} {cs xs:List Value} {v:Value} {r:Nat} {o:Obj} (H:Own S w0 w [.blk b cs t1,.row v t2 sz n xs]) (hf:Fr [r] w w') (h1:w0.heap.size≤r) (ho:w.heap[r]?=some o) (hc:o.isCells=false) :
    Own S w0 w' [.blk b cs t1,.row v t2 sz n xs] :=
  H.far hf (fun b hb=>by rw [List.mem_singleton] at hb; subst hb; exact h1) (fun i e hi b hb hm=>by
    rw [List.mem_singleton] at hm; subst hm
    obtain ⟨o',ho',hc'⟩:=H.cellsFoot hi (match i,hi with
      | 0,hi=>.inl ⟨_,_,_,(Option.some.inj hi).symm⟩
      | 1,hi=>.inr ⟨_,_,_,_,_,(Option.some.inj hi).symm⟩
      | k+2,hi=>by simp at hi) hb
    rw [ho] at ho'; cases ho'; rw [hc] at hc'; cases hc')
theorem Own.turnF {b t1 t2 sz n:Nat} {cs xs:List Value} {v:Value} {row:Option Nat} (H:Own S w0 w [.blk b cs t1,.row v t2 sz n xs]) (hg:w.grownBy w' row) (hr: ∀r,row=some r→w0.heap.size≤r∧∃o:Obj,w.heap[r]?=some o∧o.isCells=false) :
    Own S w0 w' [.blk b cs t1,.row v t2 sz n xs]:=by
  cases row with
  | none=>exact H.fr' (Fr.ofGrown hg)
  | some r =>
    obtain ⟨h1,o,ho,hc⟩:=hr r rfl
    exact H.turn (Fr.ofGrown hg) h1 ho hc
theorem Fr.others (hf:Fr T w w') (hT: ∀b∈T, ∃o:Obj,w.heap[b]?=some o∧o.isCells=true):KeepsOthers w w'∧KeepsWalks w w':=by
  refine ⟨⟨hf.size,fun k o hk ho=>(hf.block k (Array.getElem?_eq_some_iff.1 hk).1 (fun hm=>?_)).trans hk⟩,⟨hf.size,fun k o hk ho=>(hf.block k (Array.getElem?_eq_some_iff.1 hk).1 (fun hm=>?_)).trans hk⟩⟩
  · obtain ⟨o',ho',hc⟩:=hT k hm
    rw [hk] at ho'; cases ho'; rw [ho] at hc; cases hc
  · obtain ⟨o',ho',hc⟩:=hT k hm
    rw [hk] at ho'; cases ho'
    cases o<;>first | (cases ho; done) | (cases hc; done)
theorem Fr.putObj (w:World) (r:Nat) (o:Obj):Fr [r] w (w.putObj r o):=Fr.setObj w r o
end
section
variable {F:Fence} {m:Nat} {P:Program} {n:Nat} {D:List Deferred} {Q:Exit→Act→World→Prop} {ρ:Env} {w:World}
theorem WCI.rangeF {α:Type} {enc:α→Value} {g:Operand} {p q id:Nat} {ty:TypeId} {pos:String} {af:Array Edge} {body:Code} (hF: ∀l,Free (F.inRound l)) (hF0:Free F) (hro:F.round=none) {gf:Nat} {lb:Array Value} (hg:ev ρ g=some (.func (.func gf) #[] lb))
    (eg: ∀args w,(callFunc gf args).run P w=.ok (.enter gf args) w) {S:List α→Prop} {N:Nat} {w0:World} (hseq:SeqStopsK F (m-1) P gf lb (fun x=>#[enc x]) KeepsWalks S (fun _=>True) N w0) (hb0:Below w0.heap.size w0 w) (h1:1≤m)
    (hp:Nat.blt p n=true) (hq:Nat.blt q n=true) (I:List α→World→Prop) (hI:OwnFrom w.heap.size I) (h0:I [] w)
    (hbody: ∀l pre x W,I pre W→pre.length<N→WCI (F.inRound l) (m-1-1) P n [] body (ownPostK KeepsWalks I (fun _ _ _=>False) (pre++[x]) W) ((q,enc x)::(p,enc x)::ρ) W)
    (hdone: ∀d xs W,w.heap.size≤d→S xs→I xs W→W.heap[d]?=some (.deferred (some []))→WQ n ({ target:=.collected d,args:=#[] }::D) Q .normal ρ W) :
    WCI F m P n D (.rangeFunc g #[p] (.region id #[⟨some q,.assign (.tmp p),ty,pos,af,none⟩] false) body) Q ρ w:=by
  intro a ha
  have hp':p<a.tmps.size:=by rw [ha.size]; simpa [Nat.blt_eq] using hp
  have hset: ∀x,Agr n [] ((p,enc x)::ρ) { tmps:=(#[p].zip #[enc x]).foldl (fun t (p,v)=>t.setIfInBounds p v) a.tmps,defers:=[] }:=fun x=>by
    have:=Agr.put (n:=n) (D:=[]) (ρ:=ρ) (a:={ tmps:=a.tmps,defers:=[] }) ⟨ha.size,rfl,ha.get⟩ (d:=some p) hp (enc x)
    simpa [ext,Act.put] using this
  refine wpIn_rangeFunc_ownF hro h1 (ha.ev hg) (hF0.fn gf) eg hseq (fun h k=>h.trans k) (fun W l o o' hl h hc hw=>walksK_b W l o o' hl h hc hw) hb0 (fun x=>rfl) I (fun _ _ _=>False) hI (fun c s W W' row h=>h.elim) h0
    (fun x=>Act.put { tmps:=(#[p].zip #[enc x]).foldl (fun t (p,v)=>t.setIfInBounds p v) a.tmps,defers:=[] } (some q) (enc x)) ?_ ?_ ?_ ?_
  · intro l x W K hK
    refine wpIn_region_lit (wpListIn_plain rfl fun K' hK'=>?_)
    refine OpRun.wpIn (hF l) rfl (R:=fun v w'=>v=enc x∧w'=W) ?_ ?_
    · have h2:=(hset x).get p (enc x) (by simp [Env.get])
      show OpRun P (.ok (.value _) W) _
      exact ⟨h2,rfl⟩
    · rintro v w' ⟨rfl,rfl⟩
      exact hK' _ _ (wpListIn_nil hK)
  · intro l pre x W hi hlt
    exact hbody l pre x W hi hlt _ ((hset x).put (d:=some q) hq (enc x))
  · intro d xs W hd hS hi hk
    exact hdone d xs W hd hS hi hk _ ⟨ha.size,by rw [←ha.defers],ha.get⟩
  · intro d c pre W _ _ h; exact h.elim
theorem WQ.outM {fn:Func} {R:Ending→World→Prop} {vs:List Value} {d:Nat} (hd:w.heap[d]?=some (.deferred (some []))) (h:ResOK P (w.putObj d (.deferred none)) ρ fn.results.toList vs) (hR:R (.returned (tup vs)) (w.putObj d (.deferred none))) :
    WQ n [{ target:=.collected d,args:=#[] }] (bodyPostM F m P fn R) .ret ρ w:=fun a ha=>by
  show LeavesInM F m P fn a.tmps R a.defers .returning w
  rw [ha.defers]
  exact ⟨by simp,.inl ⟨d,_,rfl,run_takeDeferred hd,_,results_of ha h,hR⟩⟩
end
end Go.Owl
namespace Go.Owl
open Go.RowKit
section
variable {S:List Nat} {w0 w w':World}
theorem Own.cellsT2 {b t1 t2 sz n:Nat} {cs xs:List Value} {v:Value} (H:Own S w0 w [.blk b cs t1,.row v t2 sz n xs]): ∀x∈blks [Ent.blk b cs t1,.row v t2 sz n xs], ∃o:Obj,w.heap[x]?=some o∧o.isCells=true:=fun x hx=>by
  obtain ⟨m,e,hm,ho⟩:=mem_blks.1 hx
  exact H.cellsFoot hm (match m,hm with
    | 0,hm=>.inl ⟨_,_,_,(Option.some.inj hm).symm⟩
    | 1,hm=>.inr ⟨_,_,_,_,_,(Option.some.inj hm).symm⟩
    | k+2,hm=>by simp at hm) (Ent.block_foot ho)
theorem Own.obj1 {b:Nat} {o:Obj} (h:w.heap[b]?=some o):Own [b] w w [.obj b o] :=
  ⟨Fr.refl _ _,fun i e hi=>match i,hi with
    | 0,hi=>by cases hi; exact h
    | k+1,hi=>by simp at hi,fun i j e f hi hj hne=>match i,j,hi,hj with
    | 0,0,_,_=>absurd rfl hne
    | 0,k+1,_,hj=>by simp at hj
    | k+1,_,hi,_=>by simp at hi,fun i e hi b' hb=>match i,hi with
    | 0,hi=>by cases hi; exact .inr (by rw [←Option.some.inj hb]; simp)
    | k+1,hi=>by simp at hi⟩
theorem Fr.grown {row:Option Nat} (hf:Fr row.toList w w'):w.grownBy w' row:=⟨hf.os,hf.tape,hf.output,hf.size,fun k hk hne=>hf.block k hk (fun hm=>hne (by cases row with
  | none=>cases hm
  | some r=>simp at hm; rw [hm]))⟩
end
def kvI (kk:IntKind) (e:ME):Value:=.int kk (e.k:Int)
section
variable {P:Program} {n:Nat} {D:List Deferred} {ρ:Env} {w:World} {R:Value→World→Prop} {dst:Option Tmp} {ty:TypeId} {pos:String} {af:Array Edge} {gd:Option (Nat × Bool)}
variable {b ib c:Nat} {kk:IntKind} {x:Operand} {l sn rest:List ME} {e:ME}
theorem op_entryR (hr:w.heap[ib]?=some (itO b c (sn++[e]))) (hb:w.heap[b]?=some (mP kk l c)) (hl:MEok l c) (hp:l.Perm ((sn++[e])++rest)) (hx:ev ρ x=some (ptr ib 0))
    (h:R (.tuple #[kvI kk e,ptr e.b 0]) w):Op1 P n D ⟨dst,.entry x,ty,pos,af,gd⟩ ρ w R:=by
  have e0:((sn++[e]).map ME.r).toArray=(sn.map ME.r).toArray.push (ME.ent kk e).born:=by
    rw [List.push_toArray,List.map_append]; rfl
  unfold itO at hr
  rw [e0] at hr
  have hm:ME.ent kk e∈(l.map (ME.ent kk)).toArray.toList:=List.mem_map.2 ⟨e,hp.mem_iff.2 (by simp),rfl⟩
  have hn:((l.map (ME.ent kk)).toArray.toList.map (·.born)).Nodup:=by
    have:=hl.rn
    rw [List.map_map]; exact this
  exact Op1.val (fun a ha=>by simp only [execOp,ha.ev hx,Sem.run_bind,run_entry_at w ib b c _ _ c _ hr hb hm hn,Result.andThen_ok,Sem.run_pure]; rfl) h
end
end Go.Owl
namespace Go.Owl
theorem enters_callB {P:Program} {f:FuncId} (hb:callB P f=true) (args:Array Value) (w:World):(callFunc f args).run P w=.ok (.enter f args) w:=by
  unfold callB at hb
  split at hb
  · rename_i fn hfn
    simp only [Bool.and_eq_true,Bool.not_eq_true'] at hb
    have hb1:fn.name ≠ "runtime.NumGoroutine" := by simpa using hb.1
    have hb2:¬fn.body=none:=by have:=hb.2; intro e; simp [e] at this
    simp [callFunc,hfn,hb1,hb2]
  · cases hb
end Go.Owl
namespace Go.Owl
theorem kv32 {e:ME} (h:e.k<2^32):kvI .u32 e=vU32 (UInt32.ofNat e.k):=by
  show Value.int .u32 _=Value.int .u32 _
  rw [show ((UInt32.ofNat e.k).toNat:Int)=(e.k:Int) from congrArg _ (by rw [UInt32.toNat_ofNat',Nat.mod_eq_of_lt h])]
end Go.Owl
namespace Go.Owl
section
variable {P:Program} {n:Nat} {D:List Deferred} {ρ:Env} {w w0:World} {R:Value→World→Prop} {dst:Option Tmp} {ty:TypeId} {pos:String} {af:Array Edge} {g:Option (Nat × Bool)}
variable {S:List Nat} {L:List Ent} {i sz by_:Nat} {t T:TypeId} {z:List Value} {x y:Operand}
theorem flatMap_set {α:Type} {f:α→List Value} {sz:Nat} (hf: ∀a,(f a).length=sz) (x:α): ∀ {l:List α} {k:Nat},k<l.length→(l.flatMap f).take (k * sz)++f x++(l.flatMap f).drop (k * sz+sz)=(l.set k x).flatMap f
  | [],k,h=>by simp at h
  | a::l,0,h=>by
    rw [List.flatMap_cons,Nat.zero_mul,List.take_zero,Nat.zero_add,List.drop_append,List.drop_eq_nil_of_le (by rw [hf]; omega),hf,Nat.sub_self]
    simp [List.flatMap_cons]
  | a::l,k+1,h=>by
    have ih:=flatMap_set hf x (l:=l) (k:=k) (by simpa using h)
    rw [List.set_cons_succ,List.flatMap_cons,List.flatMap_cons,←ih,Nat.succ_mul,List.take_append,List.take_of_length_le (by rw [hf]; omega),List.drop_append,List.drop_eq_nil_of_le (by rw [hf]; omega),hf]
    rw [show k * sz+sz-sz=k * sz by omega,show k * sz+sz+sz-sz=k * sz+sz by omega]
    simp [List.append_assoc]
end
end Go.Owl
namespace Go.Owl
section
variable {α:Type} {S:List Nat} {w0 w:World} {L:List Ent} {i j:Nat}
theorem Own.dpOf {D:Deep α} {l l':List α} (H:Own S w0 w L) (hi:L[i]?=some (Ent.dp D.list l)) (h1: ∀w,D.list.ok w l→D.list.ok w l') (h2: ∀b∈D.list.ft l',b∈D.list.ft l):Own S w0 w (L++[Ent.dp D.list l']) :=
  H.join (i:=i) (j:=i) hi hi (fun h _=>h1 _ h) (fun b hb=>.inl (h2 b hb))
theorem Own.dpWith {D:Deep α} {l l':List α} {a:α} (H:Own S w0 w L) (hi:L[i]?=some (Ent.dp D.list l)) (hj:L[j]?=some (Ent.dp D a)) (h1: ∀w,D.list.ok w l→D.ok w a→D.list.ok w l') (h2: ∀b∈D.list.ft l',b∈D.list.ft l∨b∈D.ft a):Own S w0 w (L++[Ent.dp D.list l']) :=
  H.join (i:=i) (j:=j) hi hj (fun h k=>h1 _ h k) h2
end
end Go.Owl
namespace Go.Owl
section
variable {P:Program} {n:Nat} {D:List Deferred} {ops:Array Oper} {Q:Exit→Act→World→Prop} {rest:List Oper} {ρ:Env} {w:World} {c:Code}
theorem enterD {f:FuncId} {fn:Func} {args:List Value} {R:Ending→World→Prop} (hf:P.funcs[f]?=some fn) (hb:fn.body=some c) (hs:Nat.ble args.length fn.ntmps=true)
    (h:WC P fn.ntmps [] c (bodyPostD P fn R) (ents 0 args) w):Calls P f args.toArray w R:=calls_of_wp_defers hf hb (h _ (agr_ents hs))
theorem deferred {f:FuncId} {fn:Func} {args:List Value} {R:Ending→World→Prop} {u:FrameMode} (hf:P.funcs[f]?=some fn) (hb:fn.body=some c) (hs:Nat.ble args.length fn.ntmps=true)
    (h:WC P fn.ntmps [] c (bodyPost P fn R) (ents 0 args) w):CallsD P f args.toArray u w (fun e u' w'=>u'=u∧R e w'):=callsD_of_wp hf hb (h _ (agr_ents hs))
theorem WL.defer {f:Operand} {ys:Array Operand} {tys:Array TypeId} {g:FuncId} {fi ca vs:List Value} {ty:TypeId} {pos:String} {af:Array Edge}
    (hf:ev ρ f=some (.func (.func g) fi.toArray ca.toArray)) (hy:evL ρ ys.toList=some vs) (h:WL P n (⟨.fn (.func g) ca.toArray,(fi++vs).toArray⟩::D) ops Q rest ρ w) :
    WL P n D ops Q (⟨none,.defer { callee:=.value f,args:=ys,argTypes:=tys },ty,pos,af,none⟩::rest) ρ w:=fun a ha =>
  wpList_plain rfl fun K hK=>by
    have h1:=ha.evA hy
    have hr:(execOp a.eval ⟨none,.defer { callee:=.value f,args:=ys,argTypes:=tys },ty,pos,af,none⟩).run P w=.ok (.defer ⟨.fn (.func g) ca.toArray,(fi++vs).toArray⟩) w:=by
      simp [execOp,resolve,h1,ha.ev hf,Deferred.ofValue]
    show Oper.upon _ _ _ _ _ _
    rw [hr]
    exact hK _ _ (h _ ⟨ha.size,by show _::a.defers=_; rw [ha.defers],ha.get⟩)
theorem WQ.outD0 {fn:Func} {R:Ending→World→Prop} {vs:List Value} (h:ResOK P w ρ fn.results.toList vs) (hR:R (.returned (tup vs)) w) :
    WQ n [] (bodyPostD P fn R) .ret ρ w:=fun a ha=>by
  show Leaves P fn a.tmps R a.defers .returning w
  rw [ha.defers]
  exact ⟨_,results_of ha h,hR⟩
theorem WQ.outD1 {fn:Func} {R:Ending→World→Prop} {R':World→Prop} {g:FuncId} {ca dargs:List Value} (hb:callB P g=true)
    (hc:CallsD P g (dargs++ca).toArray .returning w (fun e u' w'=>u'=.returning∧(∃v,e=.returned v)∧R' w'))
    (hr: ∀w',R' w'→∃vs,ResOK P w' ρ fn.results.toList vs∧R (.returned (tup vs)) w') :
    WQ n [⟨.fn (.func g) ca.toArray,dargs.toArray⟩] (bodyPostD P fn R) .ret ρ w:=fun a ha=>by
  show Leaves P fn a.tmps R a.defers .returning w
  rw [ha.defers]
  have hi:(invoke (.fn (.func g) ca.toArray) dargs.toArray).run P w=.ok (.enter g (dargs++ca).toArray) w:=by
    rw [show (dargs++ca).toArray=dargs.toArray++ca.toArray by simp]
    exact enters_callB hb _ _
  refine leaves_cons (by simp) hi (hc.mono fun e u' w' ⟨hu,⟨v,hv⟩,h2⟩=>?_)
  subst hu; subst hv
  obtain ⟨vs,h3,h4⟩:=hr w' h2
  exact ⟨_,results_of ha h3,h4⟩
end
end Go.Owl
