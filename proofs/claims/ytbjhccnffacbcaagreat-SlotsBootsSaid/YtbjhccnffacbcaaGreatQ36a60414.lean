/- General lemmas and walks: Owl1, Owl2, Owl3, Owl4, Owl5, Owl6, Owl7, Owl8, Owl9, Owl10, Owl11, Owl12, Owl13, Owl14, Owl15, Owl16, Owl17. No condition but what each theorem names. -/
import Derived.WalkKit
import Derived.Deep.Quiet
import Derived.Deep.LoopGhost
import Derived.StillTail
import Derived.Lib.Builder
import Derived.Lib.UnsafeStr
import Derived.Laws.Externs
namespace Go.Owl
abbrev Env:=List (Nat × Value)
def Env.get:Env→Nat→Option Value
  | [],_=>none
  | (j,v)::ρ,i=>if Nat.beq j i=true then some v else Env.get ρ i
def ext (ρ:Env):Option Tmp→Value→Env
  | some d,v=>(d,v)::ρ
  | none,_=>ρ
def ev (ρ:Env):Operand→Option Value
  | .tmp t=>Env.get ρ t
  | .const v=>some v
  | .global g=>some (.pointer (some ⟨g,0,none⟩))
  | .func f=>some (.func (.func f) #[] #[])
def evL (ρ:Env):List Operand→Option (List Value)
  | []=>some []
  | x::l=>match ev ρ x,evL ρ l with
    | some v,some vs=>some (v::vs)
    | _,_=>none
def dOK (n:Nat):Option Tmp→Bool
  | some d=>Nat.blt d n
  | none=>true
structure Agr (n:Nat) (D:List Deferred) (ρ:Env) (a:Act):Prop where
  size:a.tmps.size=n
  defers:a.defers=D
  get: ∀i v,Env.get ρ i=some v→a.tmps.getD i undef=v
theorem Agr.ev {n D ρ a} (h:Agr n D ρ a) {x:Operand} {v:Value} (hx:ev ρ x=some v):a.eval x=v:=by
  cases x with
  | tmp t=>exact h.get t v hx
  | const u=>exact Option.some.inj hx
  | global g=>exact Option.some.inj hx
  | func f=>exact Option.some.inj hx
theorem Agr.evL {n D ρ a} (h:Agr n D ρ a): ∀ {l:List Operand} {vs:List Value},evL ρ l=some vs→l.map a.eval=vs
  | [],vs,hx=>by simp [Owl.evL] at hx; simp [←hx]
  | x::l,vs,hx=>by
    simp only [Owl.evL] at hx
    split at hx
    · rename_i v ws h1 h2
      injection hx with hx
      rw [←hx,List.map_cons,h.ev h1,h.evL h2]
    · cases hx
theorem Agr.put {n D ρ a} (h:Agr n D ρ a) {d:Option Tmp} (hd:dOK n d=true) (v:Value):Agr n D (ext ρ d v) (a.put d v):=by
  cases d with
  | none=>exact h
  | some d =>
    have hd':d<n:=by simpa [dOK,Nat.blt_eq] using hd
    refine ⟨by simp [Act.put,h.size],by simp [Act.put,h.defers],fun i u hu=>?_⟩
    simp only [ext,Env.get] at hu
    split at hu
    · rename_i hb
      have hb':d=i:=by simpa using hb
      subst hb'
      injection hu with hu
      subst hu
      simp [Act.put,h.size,hd']
    · rename_i hb
      have hb':d≠i:=by simpa using hb
      have:=h.get i u hu
      simp [Act.put,Array.getElem?_setIfInBounds_ne hb'] at this ⊢
      exact this
def Cov (ρ:Env):Env→Prop
  | []=>True
  | (i,v)::t=>Env.get ρ i=some v∧Cov ρ t
theorem Cov.get {ρ:Env}: ∀ {ρ':Env},Cov ρ ρ'→∀i v,Env.get ρ' i=some v→Env.get ρ i=some v
  | [],_,i,v,h=>by simp [Env.get] at h
  | (j,u)::t,hc,i,v,h=>by
    simp only [Env.get] at h
    split at h
    · rename_i hb
      have hb':j=i:=by simpa using hb
      subst hb'
      injection h with h; subst h; exact hc.1
    · exact hc.2.get i v h
theorem Agr.cov {n D ρ ρ' a} (h:Agr n D ρ a) (hc:Cov ρ ρ'):Agr n D ρ' a:=⟨h.size,h.defers,fun i v hv=>h.get i v (hc.get i v hv)⟩
def OpRun (P:Program) (r:Result Next) (R:Value→World→Prop):Prop :=
  match r with
  | .ok (.value v) w'=>R v w'
  | .ok .skip w'=>R undef w'
  | .ok (.enter f args) w'=>Calls P f args w' (fun e w''=> ∃v,e=.returned v∧R v w'')
  | _=>False
theorem OpRun.wp {P:Program} {o:Oper} {a:Act} {w:World} {R:Value→World→Prop} {K:Act→World→Prop} {Q:Exit→Act→World→Prop} (h:OpRun P ((execOp a.eval o).run P w) R)
    (hK: ∀v w',R v w'→K (a.put o.dst v) w'):o.wp P a w K Q:=by
  unfold Oper.wp
  generalize (execOp a.eval o).run P w=r at h
  cases r with
  | halt x w'=>exact h.elim
  | ok x w' =>
    cases x with
    | value v=>exact hK v w' h
    | skip=>exact hK undef w' h
    | enter f args=>exact Calls.mono h fun e w'' ⟨v,he,hR⟩=>by subst he; exact hK v w'' hR
    | _=>exact h.elim
def Op1 (P:Program) (n:Nat) (D:List Deferred) (o:Oper) (ρ:Env) (w:World) (R:Value→World→Prop):Prop :=
  ∀a,Agr n D ρ a→OpRun P ((execOp a.eval o).run P w) R
def WL (P:Program) (n:Nat) (D:List Deferred) (ops:Array Oper) (Q:Exit→Act→World→Prop) (l:List Oper) (ρ:Env) (w:World):Prop :=
  ∀a,Agr n D ρ a→wpList P ops Q l a w
def WC (P:Program) (n:Nat) (D:List Deferred) (c:Code) (Q:Exit→Act→World→Prop) (ρ:Env) (w:World):Prop :=
  ∀a,Agr n D ρ a→c.wp P Q a w
def WQ (n:Nat) (D:List Deferred) (Q:Exit→Act→World→Prop) (e:Exit) (ρ:Env) (w:World):Prop :=
  ∀a,Agr n D ρ a→Q e a w
section
variable {P:Program} {n:Nat} {D:List Deferred} {ops:Array Oper} {Q Q':Exit→Act→World→Prop} {o:Oper} {rest:List Oper} {ρ ρ':Env} {w:World} {c x y:Code}
theorem WL.op (hg:o.guard=none) (hd:dOK n o.dst=true) (h:Op1 P n D o ρ w (fun v w'=>WL P n D ops Q rest (ext ρ o.dst v) w')) :
    WL P n D ops Q (o::rest) ρ w :=
  fun a ha=>wpList_plain hg fun _K hK=>(h a ha).wp fun v _w' hR=>hK _ _ (hR _ (ha.put hd v))
def sees:Value→Option Bool
  | .bool b=>some b
  | _=>none
theorem yielded_of {a:Act} (ha:Agr n D ρ a) {j t:Nat} {v:Value} (hj:(ops[j]?).bind (·.dst)=some t) (hv:Env.get ρ t=some v) :
    yielded ops a.tmps j=sees v:=by
  have h:=ha.get t v hv
  unfold yielded
  simp only [hj,Option.bind_some]
  rcases Nat.lt_or_ge t a.tmps.size with ht | ht
  · simp [ht] at h ⊢; subst h; cases a.tmps[t]<;>rfl
  · simp [Array.getElem?_eq_none ht] at h ⊢; subst h; rfl
theorem WL.yes {j t:Nat} {want b:Bool} (hg:o.guard=some (j,want)) (hj:(ops[j]?).bind (·.dst)=some t) (hv:Env.get ρ t=some (.bool b)) (hb:b=want)
    (hd:dOK n o.dst=true) (h:Op1 P n D o ρ w (fun v w'=>WL P n D ops Q rest (ext ρ o.dst v) w')):WL P n D ops Q (o::rest) ρ w:=by
  intro a ha
  unfold wpList
  rw [if_pos (by simp [Region.wanted,hg,yielded_of ha hj hv,sees,hb])]
  exact .inl ((h a ha).wp fun v w' hR=>hR _ (ha.put hd v))
theorem WL.no {j t:Nat} {want b:Bool} (hg:o.guard=some (j,want)) (hj:(ops[j]?).bind (·.dst)=some t) (hv:Env.get ρ t=some (.bool b)) (hb:b= !want)
    (hd:dOK n o.dst=true) (h:WL P n D ops Q rest (ext ρ o.dst undef) w):WL P n D ops Q (o::rest) ρ w:=by
  intro a ha
  unfold wpList
  rw [if_neg (by subst hb; cases want<;>simp [Region.wanted,hg,yielded_of ha hj hv,sees])]
  exact h _ (ha.put hd _)
theorem WL.non {j t:Nat} {want:Bool} (hg:o.guard=some (j,want)) (hj:(ops[j]?).bind (·.dst)=some t) (hv:Env.get ρ t=some undef)
    (hd:dOK n o.dst=true) (h:WL P n D ops Q rest (ext ρ o.dst undef) w):WL P n D ops Q (o::rest) ρ w:=by
  intro a ha
  unfold wpList
  rw [if_neg (by simp [Region.wanted,hg,yielded_of ha hj hv,sees,undef])]
  exact h _ (ha.put hd _)
theorem WL.nil (h:WQ n D Q .normal ρ w):WL P n D ops Q [] ρ w:=fun a ha=>wpList_nil (h a ha)
theorem WC.region {id:Nat} {l:List Oper} (h:WL P n D l.toArray Q l ρ w):WC P n D (.region id l.toArray false) Q ρ w :=
  fun a ha=>wp_region_lit (h a ha)
theorem WC.seq (h:WC P n D x (Exit.then (y.wp P Q) Q) ρ w):WC P n D (.seq x y) Q ρ w:=fun a ha=>wp_seq (h a ha)
theorem WQ.next (h:WC P n D y Q ρ w):WQ n D (Exit.then (y.wp P Q) Q) .normal ρ w:=fun a ha=>h a ha
theorem WQ.thenRet {N:Act→World→Prop} (h:WQ n D Q .ret ρ w):WQ n D (Exit.then N Q) .ret ρ w:=fun a ha=>h a ha
theorem WQ.thenExit {N:Act→World→Prop} {id:Nat} (h:WQ n D Q (.exit id) ρ w):WQ n D (Exit.then N Q) (.exit id) ρ w:=fun a ha=>h a ha
theorem WQ.inNormal {id:Nat} (h:WQ n D Q .normal ρ w):WQ n D (Exit.inBlock id Q) .normal ρ w:=fun a ha=>h a ha
theorem WQ.inRet {id:Nat} (h:WQ n D Q .ret ρ w):WQ n D (Exit.inBlock id Q) .ret ρ w:=fun a ha=>h a ha
theorem WQ.inHere {id:Nat} (h:WQ n D Q .normal ρ w):WQ n D (Exit.inBlock id Q) (.exit id) ρ w:=fun a ha=>by
  simp only [Exit.inBlock,if_true]; exact h a ha
theorem WQ.inPass {id id':Nat} (hne:Nat.beq id' id=false) (h:WQ n D Q (.exit id') ρ w):WQ n D (Exit.inBlock id Q) (.exit id') ρ w:=fun a ha=>by
  have:id'≠id:=by intro e; subst e; simp at hne
  simp only [Exit.inBlock,this,if_false]; exact h a ha
theorem WC.block {id:Nat} (h:WC P n D c (Exit.inBlock id Q) ρ w):WC P n D (.block id c) Q ρ w:=fun a ha=>wp_block (h a ha)
theorem WC.ret (h:WQ n D Q .ret ρ w):WC P n D .ret Q ρ w:=fun a ha=>wp_ret (h a ha)
theorem WC.skip (h:WQ n D Q .normal ρ w):WC P n D .skip Q ρ w:=fun a ha=>wp_skip (h a ha)
theorem WC.exit {id:Nat} (h:WQ n D Q (.exit id) ρ w):WC P n D (.exit id) Q ρ w:=fun a ha=>wp_exit (h a ha)
theorem WC.cond {cc:Operand} {t:Bool} (hc:ev ρ cc=some (.bool t)) (h1:t=true→WC P n D x Q ρ w) (h2:t=false→WC P n D y Q ρ w) :
    WC P n D (.cond cc x y) Q ρ w:=fun a ha=>wp_cond_split (ha.ev hc) (fun h=>h1 h a ha) (fun h=>h2 h a ha)
theorem WC.yes {cc:Operand} {b:Bool} (hc:ev ρ cc=some (.bool b)) (hb:b=true) (h1:WC P n D x Q ρ w):WC P n D (.cond cc x y) Q ρ w:=by
  subst hb; exact fun a ha=>wp_cond_true (ha.ev hc) (h1 a ha)
theorem WC.no {cc:Operand} {b:Bool} (hc:ev ρ cc=some (.bool b)) (hb:b=false) (h1:WC P n D y Q ρ w):WC P n D (.cond cc x y) Q ρ w:=by
  subst hb; exact fun a ha=>wp_cond_false (ha.ev hc) (h1 a ha)
theorem WL.split {l:List Oper} {t:Nat} {b:Bool} (_hv:Env.get ρ t=some (.bool b)) (h1:b=true→WL P n D ops Q l ρ w) (h0:b=false→WL P n D ops Q l ρ w):WL P n D ops Q l ρ w:=by
  cases b
  · exact h0 rfl
  · exact h1 rfl
def Here (n:Nat) (D:List Deferred) {α:Type} (E:α→Env) (R:α→World→Prop) (a:Act) (w:World):Prop:= ∃x,Agr n D (E x) a∧R x w
theorem WC.cut {α:Type} (E:α→Env) (R:α→World→Prop) (h1:WC P n D x (Exit.then (Here n D E R) Q) ρ w)
    (h2: ∀z w,R z w→WC P n D y Q (E z) w):WC P n D (.seq x y) Q ρ w:=fun a ha=>by
  refine wp_seq (wp_mono (h1 a ha) fun e a' w' h=>?_)
  cases e with
  | normal=>obtain ⟨z,hz,hr⟩:=h; exact h2 z w' hr a' hz
  | _=>exact h
theorem WQ.here {α:Type} {E:α→Env} {R:α→World→Prop} (z:α) (hr:R z w) (hc:Cov ρ (E z)):WQ n D (Exit.then (Here n D E R) Q) .normal ρ w :=
  fun _ ha=>⟨z,ha.cov hc,hr⟩
def Round (n:Nat) (D:List Deferred) {α:Type} (E:α→Env) (R:α→World→Prop) (m:α→Nat) (k:Nat) (a:Act) (w:World):Prop :=
  ∃x,Agr n D (E x) a∧R x w∧m x<k
theorem WC.loop {α:Type} (E:α→Env) (R:α→World→Prop) (m:α→Nat) (z:α) (hr:R z w) (hc:Cov ρ (E z))
    (h: ∀z w',R z w'→WC P n D c (Exit.then (Round n D E R m (m z)) Q) (E z) w'):WC P n D (.loop c) Q ρ w:=fun a ha=>by
  refine wp_loop_ghost (fun k a w=> ∃z,m z=k∧Agr n D (E z) a∧R z w) (m z) ⟨z,rfl,ha.cov hc,hr⟩ ?_
  rintro _ a' w' ⟨z,rfl,hz,hrz⟩
  refine wp_mono (h z w' hrz a' hz) fun e a'' w'' hq=>?_
  cases e with
  | normal=>obtain ⟨z',hz',hr',hlt⟩:=hq; exact ⟨_,hlt,z',rfl,hz',hr'⟩
  | _=>exact hq
theorem WQ.round {α:Type} {E:α→Env} {R:α→World→Prop} {m:α→Nat} {k:Nat} (z:α) (hr:R z w) (hc:Cov ρ (E z)) (hm:m z<k) :
    WQ n D (Exit.then (Round n D E R m k) Q) .normal ρ w:=fun _ ha=>⟨z,ha.cov hc,hr,hm⟩
def ents (i:Nat):List Value→Env
  | []=>[]
  | v::l=>(i,v)::ents (i+1) l
theorem ents_get: ∀(l:List Value) (i j:Nat) (v:Value),Env.get (ents i l) j=some v→i≤j∧l[j-i]?=some v
  | [],i,j,v,h=>by simp [ents,Env.get] at h
  | u::l,i,j,v,h=>by
    simp only [ents,Env.get] at h
    split at h
    · rename_i hb
      have:i=j:=by simpa using hb
      subst this
      injection h with h; subst h; simp
    · rename_i hb
      have hne:i≠j:=by simpa using hb
      obtain ⟨h1,h2⟩:=ents_get l (i+1) j v h
      refine ⟨by omega,?_⟩
      rw [show j-i=(j-(i+1))+1 by omega]
      simpa using h2
theorem enter {f:FuncId} {fn:Func} {args:List Value} {R:Ending→World→Prop} (hf:P.funcs[f]?=some fn) (hb:fn.body=some c) (hs:Nat.ble args.length fn.ntmps=true)
    (h:WC P fn.ntmps [] c (bodyPost P fn R) (ents 0 args) w):Calls P f args.toArray w R:=by
  refine calls_of_wp hf hb (h _ ?_)
  have hs':args.length≤fn.ntmps:=by simpa [Nat.ble_eq] using hs
  refine ⟨by simp; omega,rfl,fun i v hv=>?_⟩
  obtain ⟨_,h2⟩:=ents_get args 0 i v hv
  have hlt:i<args.length:=by
    rcases Nat.lt_or_ge i args.length with h | h
    · exact h
    · simp [List.getElem?_eq_none h] at h2
  simp only [Nat.sub_zero] at h2
  simp only [Array.getD_eq_getD_getElem?,Array.getElem?_append,List.size_toArray,hlt,if_true,List.getElem?_toArray,h2,Option.getD_some]
inductive ResOK (P:Program) (w:World) (ρ:Env):List ResultVar→List Value→Prop where
  | nil:ResOK P w ρ [] []
  | tmp {t v l vs} (h:Env.get ρ t=some v) (k:ResOK P w ρ l vs):ResOK P w ρ (.tmp t::l) (v::vs)
  | cell {t ty v l vs ad} (h:Env.get ρ t=some (.pointer (some ad))) (hl:(loadVar ty ad).run P w=.ok v w) (k:ResOK P w ρ l vs):ResOK P w ρ (.cell t ty::l) (v::vs)
def tup:List Value→Value
  | [v]=>v
  | vs=>.tuple vs.toArray
theorem mapM_results {ρ:Env} {a:Act} {n:Nat} {D:List Deferred} (ha:Agr n D ρ a) (g:ResultVar→Sem Value) (hg1: ∀t,g (.tmp t)=pure (a.tmps.getD t undef))
    (hg2: ∀b t,g (.cell b t)=(asAddr (a.tmps.getD b undef) >>= fun x=>loadVar t x)): ∀ {l:List ResultVar} {vs:List Value},ResOK P w ρ l vs →
    (List.mapM (m:=Sem) g l).run P w=.ok vs w
  | _,_,.nil=>by simp
  | _,_,.tmp h k=>by
    have h1:=ha.get _ _ h
    have ih:=mapM_results ha g hg1 hg2 k
    simp only [List.mapM_cons,Sem.run_bind,hg1,Sem.run_pure,Result.andThen_ok,h1,ih]
  | _,_,.cell h hl k=>by
    have h1:=ha.get _ _ h
    have ih:=mapM_results ha g hg1 hg2 k
    have h2: ∀x,asAddr (.pointer (some x))=pure x:=fun _=>rfl
    simp only [List.mapM_cons,Sem.run_bind,hg2,h1,h2,Sem.run_pure,Result.andThen_ok,hl,ih]
theorem results_of {fn:Func} {ρ:Env} {a:Act} (ha:Agr n D ρ a) {vs:List Value} (h:ResOK P w ρ fn.results.toList vs) :
    (results fn a.tmps).run P w=.ok (tup vs) w:=by
  unfold results
  have h1:fn.results=fn.results.toList.toArray:=by simp
  rw [h1,List.mapM_toArray]
  rw [Sem.run_bind,Sem.run_map,mapM_results ha _ (fun _=>rfl) (fun _ _=>rfl) h]
  simp only [Result.andThen_ok,Sem.run_pure]
  match vs with
  | []=>rfl
  | [v]=>rfl
  | v::u::l=>simp [tup]
theorem WQ.out {fn:Func} {R:Ending→World→Prop} {vs:List Value} (h:ResOK P w ρ fn.results.toList vs) (hR:R (.returned (tup vs)) w) :
    WQ n [] (bodyPost P fn R) .ret ρ w:=fun _ ha=>⟨ha.defers,_,results_of ha h,hR⟩
theorem WQ.outEnd {fn:Func} {R:Ending→World→Prop} {vs:List Value} (h:ResOK P w ρ fn.results.toList vs) (hR:R (.returned (tup vs)) w) :
    WQ n [] (bodyPost P fn R) .normal ρ w:=fun _ ha=>⟨ha.defers,_,results_of ha h,hR⟩
end
end Go.Owl
namespace Go.Owl
structure Fr (T:List Nat) (w w':World):Prop where
  os:w'.os=w.os
  tape:w'.tape=w.tape
  output:w'.output=w.output
  size:w.heap.size≤w'.heap.size
  block: ∀k,k<w.heap.size→k ∉ T→w'.heap[k]?=w.heap[k]?
theorem Fr.refl (T:List Nat) (w:World):Fr T w w:=⟨rfl,rfl,rfl,Nat.le_refl _,fun _ _ _=>rfl⟩
theorem Fr.trans {T:List Nat} {a b c:World} (h:Fr T a b) (k:Fr T b c):Fr T a c :=
  ⟨k.os.trans h.os,k.tape.trans h.tape,k.output.trans h.output,Nat.le_trans h.size k.size,fun i hi hT=>(k.block i (Nat.lt_of_lt_of_le hi h.size) hT).trans (h.block i hi hT)⟩
theorem Fr.mono {T T':List Nat} {a b:World} (h:Fr T a b) (hT: ∀x∈T,x∈T'):Fr T' a b :=
  ⟨h.os,h.tape,h.output,h.size,fun i hi hn=>h.block i hi fun hm=>hn (hT i hm)⟩
theorem Fr.nil {T:List Nat} {a b:World} (h:Fr [] a b):Fr T a b:=h.mono (fun _ hx=>by cases hx)
theorem Fr.below {w w':World} (h:Fr [] w w'):RowKit.Below w.heap.size w w':=⟨h.os,h.tape,h.output,h.size,fun k hk=>h.block k hk (by simp)⟩
theorem Fr.ofBelow {w w':World} (h:RowKit.Below w.heap.size w w'):Fr [] w w':=⟨h.os,h.tape,h.output,h.size,fun k hk _=>h.block k hk⟩
theorem Fr.ofGrown {w w':World} {r:Option Nat} (h:w.grownBy w' r):Fr r.toList w w' :=
  ⟨h.os,h.tape,h.output,h.size,fun k hk hn=>h.block k hk (by intro e; subst e; simp at hn)⟩
theorem Fr.alloc (w:World) (o:Obj):Fr [] w (w.alloc o):=⟨rfl,rfl,rfl,by simp,fun k hk _=>RowKit.Below.heap_alloc w o k hk⟩
theorem Fr.drew (w:World):Fr [] w w.drew:=⟨rfl,rfl,rfl,Nat.le_refl _,fun _ _ _=>rfl⟩
theorem Fr.setRow (w:World) (g:Nat) (cs:Array Value):Fr [g] w (w.setRow g cs) :=
  ⟨rfl,rfl,rfl,by simp,fun k _ hn=>setRow_other w g k cs (by simpa using hn)⟩
theorem Fr.setObj (w:World) (g:Nat) (o:Obj):Fr [g] w { w with heap:=w.heap.setIfInBounds g o } :=
  ⟨rfl,rfl,rfl,by simp,fun k _ hn=>by
    have:k≠g:=by simpa using hn
    show (w.heap.setIfInBounds g o)[k]?=_
    rw [Array.getElem?_setIfInBounds_ne (Ne.symm this)]⟩
def thaw (k:Nat) (fr:Nat × Nat):Prop:=fr.2≤fr.1∨k≤fr.1
def Blk (w:World) (b:Nat) (cs:List Value) (t:TypeId):Prop:= ∃fr,thaw cs.length fr∧w.heap[b]?=some (.cells cs.toArray t fr)
theorem Blk.lt {w b cs t} (h:Blk w b cs t):b<w.heap.size:=by
  obtain ⟨fr,_,h⟩:=h
  exact (Array.getElem?_eq_some_iff.1 h).1
theorem Blk.fr {T:List Nat} {w w':World} {b cs t} (h:Blk w b cs t) (hf:Fr T w w') (hb:b ∉ T):Blk w' b cs t:=by
  have hl:=h.lt
  obtain ⟨fr,h1,h2⟩:=h
  exact ⟨fr,h1,(hf.block b hl hb).trans h2⟩
theorem Blk.cell {w:World} {b:Nat} {cs:List Value} {t:TypeId} (h:Blk w b cs t) (j:Nat):w.cell? ⟨b,j,none⟩=cs[j]?:=by
  obtain ⟨fr,_,h⟩:=h
  simp [World.cell?,h]
theorem Blk.frozen {w:World} {b:Nat} {cs:List Value} {t:TypeId} (h:Blk w b cs t) {j:Nat} (hj:j<cs.length):w.frozen? ⟨b,j,none⟩=false:=by
  obtain ⟨⟨lo,hi⟩,h1,h⟩:=h
  simp only [World.frozen?,h]
  simp only [thaw] at h1
  simp; omega
theorem Blk.alloc (w:World) (cs:List Value) (t:TypeId):Blk (w.alloc (.cells cs.toArray t)) w.heap.size cs t:=⟨(0,0),.inl (Nat.le_refl _),heap_alloc_new w _⟩
theorem Blk.setRow {w:World} {b:Nat} {cs:List Value} {t:TypeId} (h:Blk w b cs t) (cs':List Value) (hl:cs'.length=cs.length):Blk (w.setRow b cs'.toArray) b cs' t:=by
  obtain ⟨fr,h1,h⟩:=h
  exact ⟨fr,by rw [hl]; exact h1,setRow_heap w b cs.toArray cs'.toArray t fr h⟩
theorem Addr.add_at (b off k:Nat):(⟨b,off,none⟩:Addr).add k=⟨b,off+k,none⟩:=by unfold Addr.add; split<;>simp_all
theorem run_storeCells_blk (P:Program) (b o:Nat) (t:TypeId): ∀(vs:List Value) (i:Nat) (cs:List Value) (w:World),Blk w b cs t→o+i+vs.length≤cs.length→(∀v∈vs,v.oneCell'=true) →
    (storeCells ⟨b,o,none⟩ vs i).run P w=.ok () (w.setRow b (cs.take (o+i)++vs++cs.drop (o+i+vs.length)).toArray)
  | [],i,cs,w,hb,_,_=>by
    obtain ⟨fr,_,h⟩:=hb
    simp only [storeCells,List.append_nil,List.length_nil,Nat.add_zero,List.take_append_drop]
    rw [setRow_self w b cs.toArray t fr h]
    rfl
  | v::rest,i,cs,w,hb,hl,h1=>by
    have hi:o+i<cs.length:=by simp at hl; omega
    have hcell:w.cell? ⟨b,o+i,none⟩=some cs[o+i]:=by rw [hb.cell]; simp [hi]
    have hfro:=hb.frozen hi
    have hst:(store ((⟨b,o,none⟩:Addr).add i) v).run P w=.ok () (w.setRow b (cs.set (o+i) v).toArray):=by
      rw [Addr.add_at,run_store P w _ v _ (h1 v (by simp)),hcell]
      obtain ⟨fr,_,h⟩:=hb
      simp [hfro,setCell_eq_setRow w b (o+i) cs.toArray t fr v h]
    have hb':Blk (w.setRow b (cs.set (o+i) v).toArray) b (cs.set (o+i) v) t:=hb.setRow _ (by simp)
    have ih:=run_storeCells_blk P b o t rest (i+1) (cs.set (o+i) v) _ hb' (by simp at hl ⊢; omega) (fun x hx=>h1 x (by simp [hx]))
    simp only [storeCells,Sem.run_bind,hst,Result.andThen_ok,ih,setRow_setRow]
    congr 3
    have e1:List.take (o+(i+1)) (cs.set (o+i) v)=List.take (o+i) cs++[v]:=by
      rw [←Nat.add_assoc,List.take_add_one,List.take_set_of_le (by omega)]
      simp [hi]
    have e2:List.drop (o+(i+1)+rest.length) (cs.set (o+i) v)=List.drop (o+i+(v::rest).length) cs:=by
      rw [List.drop_set_of_lt (by omega)]
      congr 1
      simp; omega
    rw [e1,e2]
    simp
def sBlk:Value→Nat
  | .slice (some a) _ _=>a.block
  | _=>0
def sOff:Value→Nat
  | .slice (some a) _ _=>a.off
  | _=>0
def sp (v:Value) (k:Nat):Addr:=⟨sBlk v,sOff v+k,none⟩
structure Arr (w:World) (v:Value) (sz n:Nat) (xs:List Value):Prop where
  form: ∃a cap,v=.slice a n cap∧n≤cap∧cap≤maxLen∧(a=none→n=0∧cap=0)∧(n≠0→∀ad,a=some ad→ad.spot=none)
  len:xs.length=n * sz
  cell: ∀j,j<xs.length→w.cell? (sp v j)=xs[j]?
theorem Arr.fr {T:List Nat} {w w':World} {v sz n xs} (h:Arr w v sz n xs) (hf:Fr T w w') (hb:sBlk v ∉ T):Arr w' v sz n xs:=by
  refine ⟨h.form,h.len,fun j hj=>?_⟩
  have h1:=h.cell j hj
  rw [←h1]
  refine World.cell?_of_block (hf.block _ ?_ hb)
  have:(w.cell? (sp v j))=some xs[j]:=by rw [h1]; simp [hj]
  exact block_lt_of_cell (a:=sp v j) this
theorem Arr.nil (w:World) (sz:Nat):Arr w (.slice none 0 0) sz 0 []:=⟨⟨none,0,rfl,by omega,by simp [maxLen],fun _=>⟨rfl,rfl⟩,fun _ _ h=>by cases h⟩,by simp,fun j hj=>by simp at hj⟩
def RowOK (w:World) (v:Value) (t:TypeId) (sz n:Nat) (xs:List Value):Prop :=
  xs.length=n * sz∧((v=.slice none 0 0∧n=0) ∨
    ∃g cap pre junk,v=.slice (some ⟨g,pre.length,none⟩) n cap∧Blk w g (pre++(xs++junk)) t∧n≤cap∧cap≤maxLen∧cap * sz≤xs.length+junk.length)
theorem RowOK.arr {w v t sz n xs} (h:RowOK w v t sz n xs):Arr w v sz n xs:=by
  obtain ⟨hl,⟨rfl,rfl⟩ | ⟨g,cap,pre,junk,rfl,hb,hn,hc,hj⟩⟩:=h
  · have:xs=[]:=List.eq_nil_of_length_eq_zero (by simpa using hl)
    subst this
    exact Arr.nil w sz
  · refine ⟨⟨some ⟨g,pre.length,none⟩,cap,rfl,hn,hc,(fun h=>by cases h),(fun _ ad h=>by cases h; rfl)⟩,hl,fun j hj=>?_⟩
    show w.cell? ⟨g,pre.length+j,none⟩=_
    rw [hb.cell,List.getElem?_append_right (by omega),Nat.add_sub_cancel_left,List.getElem?_append_left hj]
structure Stable (p:World→Prop) (F:List Nat):Prop where
  lt: ∀w,p w→∀b∈F,b<w.heap.size
  fr: ∀(T:List Nat) w w',Fr T w w'→(∀b∈F,b ∉ T)→p w→p w'
inductive Ent where
  | blk (b:Nat) (cs:List Value) (t:TypeId)
  | row (v:Value) (t:TypeId) (sz n:Nat) (xs:List Value)
  | obj (b:Nat) (o:Obj)
  | ro (p:World→Prop) (F:List Nat) (st:Stable p F)
  | grp (p:World→Prop) (F:List Nat) (st:Stable p F)
def Ent.Owns:Ent→Nat→Prop
  | .blk b' _ _,b=>some b'=some b
  | .row v _ _ _ _,b=>v.ownBlock=some b
  | .obj b' _,b=>some b'=some b
  | .ro _ _ _,_=>False
  | .grp _ F _,b=>b∈F
def Ent.owns:Ent→List Nat
  | .blk b _ _=>[b]
  | .row v _ _ _ _=>v.ownBlock.toList
  | .obj b _=>[b]
  | .ro _ _ _=>[]
  | .grp _ F _=>F
theorem Ent.mem_owns {e:Ent} {b:Nat}:b∈e.owns↔e.Owns b:=by
  cases e with
  | blk b' cs t=>simp [Ent.owns,Ent.Owns,eq_comm]
  | obj b' o=>simp [Ent.owns,Ent.Owns,eq_comm]
  | row v t sz n xs=>simp [Ent.owns,Ent.Owns]
  | ro p F st=>simp [Ent.owns,Ent.Owns]
  | grp p F st=>exact Iff.rfl
def Ent.foot:Ent→List Nat
  | .blk b _ _=>[b]
  | .row v _ _ _ _=>v.ownBlock.toList
  | .obj b _=>[b]
  | .ro _ F _=>F
  | .grp _ F _=>F
theorem Ent.block_foot {e:Ent} {b:Nat} (h:e.Owns b):b∈e.foot:=by
  cases e with
  | blk b' cs t=>simp only [Ent.Owns,Option.some.injEq] at h; simp [Ent.foot,h]
  | obj b' o=>simp only [Ent.Owns,Option.some.injEq] at h; simp [Ent.foot,h]
  | row v t sz n xs=>simp only [Ent.Owns] at h; simp [Ent.foot,h]
  | ro p F st=>cases h
  | grp p F st=>exact h
def Ent.ok (w:World):Ent→Prop
  | .blk b cs t=>Blk w b cs t
  | .row v t sz n xs=>RowOK w v t sz n xs
  | .obj b o=>w.heap[b]?=some o
  | .ro p _ _=>p w
  | .grp p _ _=>p w
theorem Ent.ltF {w:World} {e:Ent} (h:e.ok w) {b:Nat} (hb:b∈e.foot):b<w.heap.size:=by
  cases e with
  | blk b' cs t=>simp only [Ent.foot,List.mem_singleton] at hb; subst hb; exact Blk.lt h
  | obj b' o=>simp only [Ent.foot,List.mem_singleton] at hb; subst hb; exact (Array.getElem?_eq_some_iff.1 h).1
  | row v t sz n xs =>
    obtain ⟨_,⟨rfl,rfl⟩ | ⟨g,cap,pre,junk,rfl,hk,_⟩⟩:=h
    · simp [Ent.foot,Value.ownBlock] at hb
    · simp only [Ent.foot,Value.ownBlock,Option.toList_some,List.mem_singleton] at hb; subst hb; exact hk.lt
  | ro p F st=>exact st.lt w h b hb
  | grp p F st=>exact st.lt w h b hb
theorem Ent.lt {w:World} {e:Ent} (h:e.ok w) {b:Nat} (hb:e.Owns b):b<w.heap.size:=Ent.ltF h (Ent.block_foot hb)
theorem Ent.fr {T:List Nat} {w w':World} {e:Ent} (h:e.ok w) (hf:Fr T w w') (hb: ∀b∈e.foot,b ∉ T):e.ok w':=by
  cases e with
  | blk b cs t=>exact Blk.fr h hf (hb b (by simp [Ent.foot]))
  | obj b o=>exact (hf.block b (Ent.lt h rfl) (hb b (by simp [Ent.foot]))).trans h
  | row v t sz n xs =>
    obtain ⟨hl,⟨rfl,rfl⟩ | ⟨g,cap,pre,junk,rfl,hk,hr⟩⟩:=h
    · exact ⟨hl,.inl ⟨rfl,rfl⟩⟩
    · exact ⟨hl,.inr ⟨g,cap,pre,junk,rfl,hk.fr hf (hb g (by simp [Ent.foot,Value.ownBlock])),hr⟩⟩
  | ro p F st=>exact st.fr T w w' hf hb h
  | grp p F st=>exact st.fr T w w' hf hb h
structure Own (S:List Nat) (w0 w:World) (L:List Ent):Prop where
  fr:Fr S w0 w
  ok: ∀(i:Nat) (e:Ent),L[i]?=some e→e.ok w
  sep: ∀(i j:Nat) (e f:Ent),L[i]?=some e→L[j]?=some f→i≠j→∀b,e.Owns b→b ∉ f.foot
  own: ∀(i:Nat) (e:Ent),L[i]?=some e→∀b,e.Owns b→w0.heap.size≤b∨b∈S
theorem Own.start (w:World) (S:List Nat):Own S w w []:=⟨Fr.refl _ _,fun i e h=>by simp at h,fun i j e f h=>by simp at h,fun i e h=>by simp at h⟩
theorem Own.upd' {S w0 w w1 L} {i:Nat} {e e':Ent} {T:List Nat} (h:Own S w0 w L) (hi:L[i]?=some e) (hf:Fr T w w1) (hT: ∀b∈T,e.Owns b) (he:Ent.ok w1 e')
    (hb: ∀b,e'.Owns b→e.Owns b∨w.heap.size≤b) (hff: ∀b∈e'.foot,b∈e.foot∨w.heap.size≤b):Own S w0 w1 (L.set i e'):=by
  have hil:i<L.length:=(List.getElem?_eq_some_iff.1 hi).1
  have hsub: ∀b∈T,w0.heap.size≤b∨b∈S:=fun b hbT=>h.own i e hi b (hT b hbT)
  refine ⟨⟨hf.os.trans h.fr.os,hf.tape.trans h.fr.tape,hf.output.trans h.fr.output,Nat.le_trans h.fr.size hf.size,fun k hk hS=>?_⟩,fun j f hj=>?_,fun j k f g hj hk hjk b hfb=>?_,fun j f hj b hfb=>?_⟩
  · have hkT:k ∉ T:=fun hm=>(hsub k hm).elim (fun h=>by omega) hS
    exact (hf.block k (Nat.lt_of_lt_of_le hk h.fr.size) hkT).trans (h.fr.block k hk hS)
  · rw [List.getElem?_set] at hj
    by_cases hij:i=j
    · subst hij; simp [hil] at hj; subst hj; exact he
    · rw [if_neg hij] at hj
      exact Ent.fr (h.ok j f hj) hf fun b hfb hbT=>h.sep i j e f hi hj hij b (hT b hbT) hfb
  · rw [List.getElem?_set] at hj hk
    by_cases hij:i=j
    · subst hij
      simp [hil] at hj; subst hj
      rw [if_neg hjk] at hk
      rcases hb b hfb with h1 | h1
      · exact h.sep i k e g hi hk hjk b h1
      · intro hgb; have:=Ent.ltF (h.ok k g hk) hgb; omega
    · rw [if_neg hij] at hj
      by_cases hik:i=k
      · subst hik
        simp [hil] at hk; subst hk
        intro hgb
        rcases hff b hgb with h1 | h1
        · exact h.sep j i f e hj hi hjk b hfb h1
        · have:=Ent.lt (h.ok j f hj) hfb; omega
      · rw [if_neg hik] at hk
        exact h.sep j k f g hj hk hjk b hfb
  · rw [List.getElem?_set] at hj
    by_cases hij:i=j
    · subst hij; simp [hil] at hj; subst hj
      rcases hb b hfb with h1 | h1
      · exact h.own i e hi b h1
      · left; have:=h.fr.size; omega
    · rw [if_neg hij] at hj
      exact h.own j f hj b hfb
def Ent.solid:Ent→Prop
  | .ro _ _ _=>False
  | _=>True
theorem Ent.foot_solid {e:Ent} (h:e.solid) {b:Nat} (hb:b∈e.foot):e.Owns b:=by
  cases e with
  | blk b' cs t=>simp only [Ent.foot,List.mem_singleton] at hb; simp [Ent.Owns,hb]
  | obj b' o=>simp only [Ent.foot,List.mem_singleton] at hb; simp [Ent.Owns,hb]
  | row v t sz n xs=>simp only [Ent.foot,Option.mem_toList] at hb; exact hb
  | ro p F st=>exact h.elim
  | grp p F st=>exact hb
theorem Own.upd {S w0 w w1 L} {i:Nat} {e e':Ent} {T:List Nat} (h:Own S w0 w L) (hi:L[i]?=some e) (hf:Fr T w w1) (hT: ∀b∈T,e.Owns b) (he:Ent.ok w1 e')
    (hb: ∀b,e'.Owns b→e.Owns b∨w.heap.size≤b) (hs:e'.solid:=by exact True.intro):Own S w0 w1 (L.set i e') :=
  h.upd' hi hf hT he hb (fun b hfb=>(hb b (Ent.foot_solid hs hfb)).imp Ent.block_foot id)
theorem Own.fr' {S w0 w w1 L} (h:Own S w0 w L) (hf:Fr [] w w1):Own S w0 w1 L :=
  ⟨h.fr.trans hf.nil,fun j f hj=>Ent.fr (h.ok j f hj) hf (fun _ _=>by simp),h.sep,h.own⟩
theorem Own.new' {S w0 w w1 L e} (h:Own S w0 w L) (hf:Fr [] w w1) (he:Ent.ok w1 e) (hb: ∀b,e.Owns b→w.heap.size≤b)
    (hff: ∀b∈e.foot, ∀(i:Nat) (f:Ent),L[i]?=some f→¬f.Owns b):Own S w0 w1 (L++[e]):=by
  have h1:=h.fr' hf
  have key: ∀j f,(L++[e])[j]?=some f→L[j]?=some f∨(j=L.length∧f=e):=fun j f hj=>by
    rcases Nat.lt_trichotomy j L.length with hlt | heq | hgt
    · left; rwa [List.getElem?_append_left hlt] at hj
    · right; subst heq; simp at hj; exact ⟨rfl,hj.symm⟩
    · rw [List.getElem?_append_right (by omega)] at hj
      have:([e]:List Ent)[j-L.length]?=none:=by rw [List.getElem?_eq_none]; simp; omega
      rw [this] at hj; cases hj
  refine ⟨h1.fr,fun j f hj=>?_,fun j k f g hj hk hjk b hfb=>?_,fun j f hj b hfb=>?_⟩
  · rcases key j f hj with hj | ⟨_,rfl⟩
    · exact h1.ok j f hj
    · exact he
  · rcases key j f hj with hj | ⟨rfl,rfl⟩
    · rcases key k g hk with hk | ⟨hk1,hk2⟩
      · exact h.sep j k f g hj hk hjk b hfb
      · intro hgb; rw [hk2] at hgb; exact hff b hgb j f hj hfb
    · rcases key k g hk with hk | ⟨rfl,rfl⟩
      · intro hgb; have h2:=hb b hfb; have h3:=Ent.ltF (h.ok k g hk) hgb; omega
      · exact absurd rfl hjk
  · rcases key j f hj with hj | ⟨rfl,rfl⟩
    · exact h.own j f hj b hfb
    · left; have:=hb b hfb; have:=h.fr.size; omega
theorem Own.new {S w0 w w1 L e} (h:Own S w0 w L) (hf:Fr [] w w1) (he:Ent.ok w1 e) (hb: ∀b,e.Owns b→w.heap.size≤b) (hs:e.solid:=by exact True.intro):Own S w0 w1 (L++[e]) :=
  h.new' hf he hb (fun b hfb i f hi hfb'=>by
    have h2:=hb b (Ent.foot_solid hs hfb); have h3:=Ent.lt (h.ok i f hi) hfb'; omega)
theorem Own.take {S w0 w L} (h:Own S w0 w L) (k:Nat):Own S w0 w (L.take k):=by
  have key: ∀j f,(L.take k)[j]?=some f→L[j]?=some f:=fun j f hj=>by
    rw [List.getElem?_take] at hj; split at hj
    · exact hj
    · cases hj
  exact ⟨h.fr,fun j f hj=>h.ok j f (key j f hj),fun j k f g hj hk hjk=>h.sep j k f g (key j f hj) (key k g hk) hjk,fun j f hj=>h.own j f (key j f hj)⟩
theorem Own.blk {S w0 w L} {i:Nat} {b cs t} (h:Own S w0 w L) (hi:L[i]?=some (Ent.blk b cs t)):Blk w b cs t:=h.ok i _ hi
theorem Own.row {S w0 w L} {i:Nat} {v t sz n xs} (h:Own S w0 w L) (hi:L[i]?=some (Ent.row v t sz n xs)):RowOK w v t sz n xs:=h.ok i _ hi
theorem Own.alloc {S w0 w L} (h:Own S w0 w L) (cs:List Value) (t:TypeId):Own S w0 (w.alloc (.cells cs.toArray t)) (L++[.blk w.heap.size cs t]) :=
  h.new (Fr.alloc _ _) (Blk.alloc _ _ _) (fun b hb=>by simp only [Ent.Owns,Option.some.injEq] at hb; omega)
theorem Own.setBlk {S w0 w L} {i:Nat} {b cs t} (h:Own S w0 w L) (hi:L[i]?=some (Ent.blk b cs t)) (cs':List Value) (hl:cs'.length=cs.length) :
    Own S w0 (w.setRow b cs'.toArray) (L.set i (.blk b cs' t)) :=
  h.upd hi (Fr.setRow _ _ _) (fun x hx=>by simp at hx; subst hx; rfl) ((h.blk hi).setRow _ hl) (fun x hx=>.inl hx)
end Go.Owl
namespace Go.Owl
abbrev vU8 (x:UInt8):Value:=.int .u8 (x.toNat:Int)
abbrev vU16 (x:UInt16):Value:=.int .u16 (x.toNat:Int)
abbrev vU32 (x:UInt32):Value:=.int .u32 (x.toNat:Int)
abbrev vU64 (x:UInt64):Value:=.int .u64 (x.toNat:Int)
abbrev vN (n:Nat):Value:=.int .i64 (n:Int)
abbrev vI (n:Int):Value:=.int .i64 n
abbrev str (l:List UInt8):Value:=.string ⟨l.toArray⟩
abbrev ptr (b off:Nat):Value:=.pointer (some ⟨b,off,none⟩)
def tiB (P:Program) (t:TypeId):Option (List Value × Nat × Nat) :=
  match P.info? t with
  | some i=>match i.zero with
    | some z=>some (z.cells.toList,i.size,i.bytes)
    | none=>none
  | none=>none
theorem tiB_spec {P:Program} {t:TypeId} {z:List Value} {sz by_:Nat} (h:tiB P t=some (z,sz,by_)) :
    ∃i v,P.info? t=some i∧i.zero=some v∧v.cells.toList=z∧i.size=sz∧i.bytes=by_:=by
  unfold tiB at h
  split at h
  · rename_i i hi
    split at h
    · rename_i v hv
      simp only [Option.some.injEq,Prod.mk.injEq] at h
      exact ⟨i,v,hi,hv,h.1,h.2.1,h.2.2⟩
    · cases h
  · cases h
def scal:TypeDesc→Bool
  | .struct _ | .array _ _=>false
  | _=>true
def faB (P:Program) (s:TypeId) (k:Nat):Option (Nat × Nat × Bool) :=
  match P.underlying s with
  | some (.struct fs)=>match fs[k]? with
    | some f=>match P.info? f.type,P.underlying f.type with
      | some i,some d=>if i.size=0 then none else some (f.offset,i.size,scal d)
      | _,_=>none
    | none=>none
  | _=>none
theorem faB_spec {P:Program} {s:TypeId} {k off sz:Nat} {b:Bool} (h:faB P s k=some (off,sz,b)) :
    ∃fs f i d,P.underlying s=some (.struct fs)∧fs[k]?=some f∧P.info? f.type=some i∧P.underlying f.type=some d∧i.size=sz∧sz≠0∧f.offset=off∧scal d=b:=by
  unfold faB at h
  split at h
  · rename_i fs hfs
    split at h
    · rename_i f hf
      split at h
      · rename_i i d hi hd
        split at h
        · cases h
        · rename_i hne
          simp only [Option.some.injEq,Prod.mk.injEq] at h
          exact ⟨fs,f,i,d,hfs,hf,hi,hd,h.2.1,by rw [←h.2.1]; exact hne,h.1,h.2.2⟩
      · cases h
    · cases h
  · cases h
def callB (P:Program) (f:FuncId):Bool :=
  match P.funcs[f]? with
  | some fn=> !(fn.name == "runtime.NumGoroutine")&& !fn.body.isNone
  | none=>false
section
variable {P:Program} {n:Nat} {D:List Deferred} {ρ:Env} {w:World} {R:Value→World→Prop} {dst:Option Tmp} {ty:TypeId} {pos:String} {af:Array Edge} {g:Option (Nat × Bool)}
theorem Op1.val {o:Oper} {v:Value} {w':World} (h: ∀a,Agr n D ρ a→(execOp a.eval o).run P w=.ok (.value v) w') (hR:R v w'):Op1 P n D o ρ w R:=by
  intro a ha
  rw [h a ha]
  exact hR
theorem Op1.unit {o:Oper} {w':World} (h: ∀a,Agr n D ρ a→(execOp a.eval o).run P w=.ok .skip w') (hR:R undef w'):Op1 P n D o ρ w R:=by
  intro a ha
  rw [h a ha]
  exact hR
theorem OpRun.mono {r:Result Next} {R R':Value→World→Prop} (h:OpRun P r R) (hR: ∀v w',R v w'→R' v w'):OpRun P r R':=by
  cases r with
  | halt x w'=>exact h.elim
  | ok x w' =>
    cases x with
    | value v=>exact hR v w' h
    | skip=>exact hR undef w' h
    | enter f args=>exact Calls.mono h fun e w'' ⟨v,he,hv⟩=>⟨v,he,hR v w'' hv⟩
    | _=>exact h.elim
theorem Op1.mono {o:Oper} {R':Value→World→Prop} (h:Op1 P n D o ρ w R) (hR: ∀v w',R v w'→R' v w'):Op1 P n D o ρ w R' :=
  fun a ha=>(h a ha).mono hR
theorem op_move {x:Operand} {v:Value} (hx:ev ρ x=some v) (h:R v w):Op1 P n D ⟨dst,.move x,ty,pos,af,g⟩ ρ w R :=
  Op1.val (fun a ha=>by simp [execOp,ha.ev hx]) h
theorem op_assign {x:Operand} {v:Value} (hx:ev ρ x=some v) (h:R v w):Op1 P n D ⟨dst,.assign x,ty,pos,af,g⟩ ρ w R :=
  Op1.val (fun a ha=>by simp [execOp,ha.ev hx]) h
theorem op_pickT {c x y:Operand} {v:Value} {b:Bool} (hc:ev ρ c=some (.bool b)) (hb:b=true) (hx:ev ρ x=some v) (h:R v w):Op1 P n D ⟨dst,.pick c x y,ty,pos,af,g⟩ ρ w R:=by
  subst hb; exact Op1.val (fun a ha=>by simp [execOp,ha.ev hc,ha.ev hx,asBool]) h
theorem op_pickF {c x y:Operand} {v:Value} {b:Bool} (hc:ev ρ c=some (.bool b)) (hb:b=false) (hy:ev ρ y=some v) (h:R v w):Op1 P n D ⟨dst,.pick c x y,ty,pos,af,g⟩ ρ w R:=by
  subst hb; exact Op1.val (fun a ha=>by simp [execOp,ha.ev hc,ha.ev hy,asBool]) h
theorem op_extract {x:Operand} {k:Nat} {vs:Array Value} {v:Value} (hx:ev ρ x=some (.tuple vs)) (hv:vs.toList[k]?=some v) (h:R v w):Op1 P n D ⟨dst,.extract x k,ty,pos,af,g⟩ ρ w R :=
  Op1.val (fun a ha=>by
    have hv':vs[k]?=some v:=by simpa using hv
    simp [execOp,ha.ev hx,Instr.extract,hv']) h
theorem Agr.evA {a:Act} {args:Array Operand} {vs:List Value} (ha:Agr n D ρ a) (hv:Owl.evL ρ args.toList=some vs):args.map a.eval=vs.toArray:=by
  have h:=ha.evL hv
  apply Array.ext'
  rw [Array.toList_map,h]
theorem op_makeFunc {fn:Fn} {f c:Array Operand} {fs cs:List Value} (hf:evL ρ f.toList=some fs) (hc:evL ρ c.toList=some cs) (h:R (.func fn fs.toArray cs.toArray) w) :
    Op1 P n D ⟨dst,.makeFunc fn f c,ty,pos,af,g⟩ ρ w R :=
  Op1.val (fun a ha=>by
    have h1:=ha.evA hf
    have h2:=ha.evA hc
    simp [execOp,Instr.makeFunc,h1,h2]) h
theorem op_nilCheck {x:Operand} {ad:Addr} (hx:ev ρ x=some (.pointer (some ad))) (h:R (.pointer (some ad)) w):Op1 P n D ⟨dst,.nilCheck x,ty,pos,af,g⟩ ρ w R :=
  Op1.val (fun a ha=>by simp [execOp,ha.ev hx]) h
theorem op_not {t:TypeId} {x:Operand} {b:Bool} (hx:ev ρ x=some (.bool b)) (h:R (.bool !b) w):Op1 P n D ⟨dst,.unOp .not t x,ty,pos,af,g⟩ ρ w R :=
  Op1.val (fun a ha=>by simp [execOp,ha.ev hx,Op.unary]) h
theorem op_call {c:Operand} {args:Array Operand} {ats:Array TypeId} {f:FuncId} {fi ca vs:List Value} (hf:ev ρ c=some (.func (.func f) fi.toArray ca.toArray)) (hb:callB P f=true) (hv:evL ρ args.toList=some vs)
    (h:Calls P f (fi++vs++ca).toArray w (fun e w'=> ∃v,e=.returned v∧R v w')):Op1 P n D ⟨dst,.call { callee:=.value c,args:=args,argTypes:=ats },ty,pos,af,g⟩ ρ w R:=by
  intro a ha
  unfold callB at hb
  split at hb
  · rename_i fn hfn
    simp only [Bool.and_eq_true,Bool.not_eq_true'] at hb
    have h1:=ha.evA hv
    have hb1:fn.name ≠ "runtime.NumGoroutine" := by simpa using hb.1
    have hb2:¬fn.body=none:=by have:=hb.2; intro e; simp [e] at this
    have hr:(execOp a.eval ⟨dst,.call { callee:=.value c,args:=args,argTypes:=ats },ty,pos,af,g⟩).run P w=.ok (.enter f (fi++vs++ca).toArray) w:=by
      simp [execOp,resolve,h1,ha.ev hf,Deferred.ofValue,invoke,callFunc,hfn,hb1,hb2]
    rw [hr]
    exact h
  · cases hb
theorem op_callF {f:FuncId} {args:Array Operand} {ats:Array TypeId} {vs:List Value} (hb:callB P f=true) (hv:evL ρ args.toList=some vs)
    (h:Calls P f vs.toArray w (fun e w'=> ∃v,e=.returned v∧R v w')):Op1 P n D ⟨dst,.call { callee:=.value (.func f),args:=args,argTypes:=ats },ty,pos,af,g⟩ ρ w R :=
  op_call (f:=f) (fi:=[]) (ca:=[]) rfl hb hv (by simpa using h)
end
section
variable {P:Program} {n:Nat} {D:List Deferred} {ρ:Env} {w:World} {R:Value→World→Prop} {dst:Option Tmp} {ty:TypeId} {pos:String} {af:Array Edge} {g:Option (Nat × Bool)} {t t':TypeId} {x y:Operand}
theorem op_bin {op:BinOp} {k k':IntKind} {i j:Int} {v:Value} (hx:ev ρ x=some (.int k i)) (hy:ev ρ y=some (.int k' j)) (hb:(binOp op t (.int k i) (.int k' j)).run P w=.ok v w) (h:R v w) :
    Op1 P n D ⟨dst,.binOp op t x y t',ty,pos,af,g⟩ ρ w R :=
  Op1.val (fun a ha=>by
    have hg:(eqGuard op t x y (.int k i) (.int k' j)).run P w=.ok () w:=by
      unfold eqGuard
      cases op<;>rfl
    simp only [execOp,ha.ev hx,ha.ev hy,Sem.run_bind,hg,Result.andThen_ok,hb,Sem.run_pure]) h
theorem op_conv {i:Int} {k k':IntKind} {v:Value} (hs:P.underlying t=some (.int k)) (hd:P.underlying t'=some (.int k')) (hx:ev ρ x=some (.int k i)) (hv:v=.int k' (k'.wrap i)) (h:R v w) :
    Op1 P n D ⟨dst,.convert t t' x,ty,pos,af,g⟩ ρ w R :=
  Op1.val (fun a ha=>by subst hv; simp [execOp,ha.ev hx,convert,run_underlying hs,run_underlying hd,Conv.intToInt]) h
theorem run_and {k:IntKind} {i j r:Int} (hr:k.wrap ((BitVec.ofInt k.bits i &&& BitVec.ofInt k.bits j).toNat)=r):(binOp .and t (.int k i) (.int k j)).run P w=.ok (.int k r) w:=by
  subst hr; simp [binOp,Op.intBits]
theorem run_or {k:IntKind} {i j r:Int} (hr:k.wrap ((BitVec.ofInt k.bits i ||| BitVec.ofInt k.bits j).toNat)=r):(binOp .or t (.int k i) (.int k j)).run P w=.ok (.int k r) w:=by
  subst hr; simp [binOp,Op.intBits]
theorem run_xor {k:IntKind} {i j r:Int} (hr:k.wrap ((BitVec.ofInt k.bits i ^^^ BitVec.ofInt k.bits j).toNat)=r):(binOp .xor t (.int k i) (.int k j)).run P w=.ok (.int k r) w:=by
  subst hr; simp [binOp,Op.intBits]
theorem run_andNot {k:IntKind} {i j r:Int} (hr:k.wrap ((BitVec.ofInt k.bits i &&& ~~~BitVec.ofInt k.bits j).toNat)=r):(binOp .andNot t (.int k i) (.int k j)).run P w=.ok (.int k r) w:=by
  subst hr; simp [binOp,Op.intBits]
theorem run_shl {k k':IntKind} {i r:Int} {s:Nat} (hr:k.wrap (i * 2^(min s k.bits))=r):(binOp .shl t (.int k i) (.int k' (s:Int))).run P w=.ok (.int k r) w:=by
  have h0:¬((s:Int)<0):=by omega
  subst hr; simp [binOp,Op.shift,h0]
theorem run_shr {k k':IntKind} {i r:Int} {s:Nat} (hr:i.fdiv (2^(min s k.bits))=r):(binOp .shr t (.int k i) (.int k' (s:Int))).run P w=.ok (.int k r) w:=by
  have h0:¬((s:Int)<0):=by omega
  subst hr; simp [binOp,Op.shift,h0]
theorem run_quo {k:IntKind} {i j r:Int} (hj:j≠0) (hr:k.wrap (i.tdiv j)=r):(binOp .quo t (.int k i) (.int k j)).run P w=.ok (.int k r) w:=by
  subst hr; simp [binOp,Op.intDiv,hj]
theorem run_rem {k:IntKind} {i j r:Int} (hj:j≠0) (hr:i.tmod j=r):(binOp .rem t (.int k i) (.int k j)).run P w=.ok (.int k r) w:=by
  subst hr; simp [binOp,Op.intDiv,hj]
theorem run_add {k:IntKind} {i j r:Int} (hr:k.wrap (i+j)=r):(binOp .add t (.int k i) (.int k j)).run P w=.ok (.int k r) w:=by
  subst hr; simp [binOp,Op.intArith]
theorem run_sub {k:IntKind} {i j r:Int} (hr:k.wrap (i-j)=r):(binOp .sub t (.int k i) (.int k j)).run P w=.ok (.int k r) w:=by
  subst hr; simp [binOp,Op.intArith]
theorem run_mul {k:IntKind} {i j r:Int} (hr:k.wrap (i * j)=r):(binOp .mul t (.int k i) (.int k j)).run P w=.ok (.int k r) w:=by
  subst hr; simp [binOp,Op.intArith]
theorem run_eql {k:IntKind} {i j:Int} {b:Bool} (hb:decide (i=j)=b):(binOp .eql t (.int k i) (.int k j)).run P w=.ok (.bool b) w:=by
  subst hb; simp [binOp,Op.intCmp]; rw [Bool.eq_iff_iff]; simp
theorem run_neq {k:IntKind} {i j:Int} {b:Bool} (hb:decide (i≠j)=b):(binOp .neq t (.int k i) (.int k j)).run P w=.ok (.bool b) w:=by
  subst hb; simp [binOp,Op.intCmp]; rw [Bool.eq_iff_iff]; simp
theorem run_lss {k:IntKind} {i j:Int} {b:Bool} (hb:decide (i<j)=b):(binOp .lss t (.int k i) (.int k j)).run P w=.ok (.bool b) w:=by
  subst hb; simp [binOp,Op.intCmp]
theorem run_leq {k:IntKind} {i j:Int} {b:Bool} (hb:decide (i≤j)=b):(binOp .leq t (.int k i) (.int k j)).run P w=.ok (.bool b) w:=by
  subst hb; simp [binOp,Op.intCmp]
theorem run_gtr {k:IntKind} {i j:Int} {b:Bool} (hb:decide (i>j)=b):(binOp .gtr t (.int k i) (.int k j)).run P w=.ok (.bool b) w:=by
  subst hb; simp [binOp,Op.intCmp]
theorem run_geq {k:IntKind} {i j:Int} {b:Bool} (hb:decide (i≥j)=b):(binOp .geq t (.int k i) (.int k j)).run P w=.ok (.bool b) w:=by
  subst hb; simp [binOp,Op.intCmp]
theorem wrapU8 {i:Int} (h:0≤i∧i<256):IntKind.u8.wrap i=i:=by
  unfold IntKind.wrap; simp only [IntKind.bits,IntKind.signed]; simp; omega
theorem wrapU8n (i:Nat):IntKind.u8.wrap (i:Int)=((UInt8.ofNat i).toNat:Int):=by
  unfold IntKind.wrap; simp only [IntKind.bits,IntKind.signed]; simp
theorem wrapU16n (i:Nat):IntKind.u16.wrap (i:Int)=((UInt16.ofNat i).toNat:Int):=by
  unfold IntKind.wrap; simp only [IntKind.bits,IntKind.signed]; simp
theorem wrapU32 {i:Int} (h:0≤i∧i<4294967296):IntKind.u32.wrap i=i:=by
  unfold IntKind.wrap; simp only [IntKind.bits,IntKind.signed]; simp; omega
theorem wrapU32n (i:Nat):IntKind.u32.wrap (i:Int)=((UInt32.ofNat i).toNat:Int):=by
  unfold IntKind.wrap; simp only [IntKind.bits,IntKind.signed]; simp
theorem wrapU64 {i:Int} (h:0≤i∧i<18446744073709551616):IntKind.u64.wrap i=i:=by
  unfold IntKind.wrap; simp only [IntKind.bits,IntKind.signed]; simp; omega
theorem wrapU64n (i:Nat):IntKind.u64.wrap (i:Int)=((UInt64.ofNat i).toNat:Int):=by
  unfold IntKind.wrap; simp only [IntKind.bits,IntKind.signed]; simp
theorem wrapI {i:Int} (h: -9223372036854775808≤i∧i≤9223372036854775807):IntKind.i64.wrap i=i:=by
  unfold IntKind.wrap; simp only [IntKind.bits,IntKind.signed]; simp; omega
theorem wrapN {i:Nat} (h:i≤9223372036854775807):IntKind.i64.wrap (i:Int)=i:=wrapI (by omega)
theorem op_subI {a b:Int} (hx:ev ρ x=some (vI a)) (hy:ev ρ y=some (vI b)) (hr: -9223372036854775808≤a-b∧a-b≤9223372036854775807) (h:R (vI (a-b)) w):Op1 P n D ⟨dst,.binOp .sub t x y t',ty,pos,af,g⟩ ρ w R :=
  op_bin hx hy (run_sub (wrapI hr)) h
theorem op_addN {a b:Nat} (hx:ev ρ x=some (vN a)) (hy:ev ρ y=some (vN b)) (hr:a+b≤9223372036854775807) (h:R (vN (a+b)) w):Op1 P n D ⟨dst,.binOp .add t x y t',ty,pos,af,g⟩ ρ w R :=
  op_bin hx hy (run_add (by rw [←Int.natCast_add,wrapN hr])) h
theorem op_mulN {a b:Nat} (hx:ev ρ x=some (vN a)) (hy:ev ρ y=some (vN b)) (hr:a * b≤9223372036854775807) (h:R (vN (a * b)) w):Op1 P n D ⟨dst,.binOp .mul t x y t',ty,pos,af,g⟩ ρ w R :=
  op_bin hx hy (run_mul (by rw [←Int.natCast_mul,wrapN hr])) h
theorem op_subN {a b:Nat} (hx:ev ρ x=some (vN a)) (hy:ev ρ y=some (vN b)) (hab:b≤a) (hr:a≤9223372036854775807) (h:R (vN (a-b)) w):Op1 P n D ⟨dst,.binOp .sub t x y t',ty,pos,af,g⟩ ρ w R :=
  op_bin hx hy (run_sub (by rw [←Int.natCast_sub hab,wrapN (Nat.le_trans (Nat.sub_le a b) hr)])) h
theorem op_quoN {a b:Nat} (hx:ev ρ x=some (vN a)) (hy:ev ρ y=some (vN b)) (hb:b≠0) (hr:a≤9223372036854775807) (h:R (vN (a / b)) w):Op1 P n D ⟨dst,.binOp .quo t x y t',ty,pos,af,g⟩ ρ w R :=
  op_bin hx hy (run_quo (by omega) (by rw [show ((a:Int).tdiv b)=((a / b:Nat):Int) from rfl,wrapN (Nat.le_trans (Nat.div_le_self a b) hr)])) h
theorem op_remN {a b:Nat} (hx:ev ρ x=some (vN a)) (hy:ev ρ y=some (vN b)) (hb:b≠0) (h:R (vN (a%b)) w):Op1 P n D ⟨dst,.binOp .rem t x y t',ty,pos,af,g⟩ ρ w R :=
  op_bin hx hy (run_rem (by omega) rfl) h
theorem op_eqlN {a b:Nat} (hx:ev ρ x=some (vN a)) (hy:ev ρ y=some (vN b)) (h:R (.bool (decide (a=b))) w):Op1 P n D ⟨dst,.binOp .eql t x y t',ty,pos,af,g⟩ ρ w R :=
  op_bin hx hy (run_eql (decide_eq_decide.2 (by omega))) h
theorem op_eqlI {a b:Int} (hx:ev ρ x=some (vI a)) (hy:ev ρ y=some (vI b)) (h:R (.bool (decide (a=b))) w):Op1 P n D ⟨dst,.binOp .eql t x y t',ty,pos,af,g⟩ ρ w R :=
  op_bin hx hy (run_eql rfl) h
theorem op_neqN {a b:Nat} (hx:ev ρ x=some (vN a)) (hy:ev ρ y=some (vN b)) (h:R (.bool (decide (a≠b))) w):Op1 P n D ⟨dst,.binOp .neq t x y t',ty,pos,af,g⟩ ρ w R :=
  op_bin hx hy (run_neq (decide_eq_decide.2 (by omega))) h
theorem op_lssN {a b:Nat} (hx:ev ρ x=some (vN a)) (hy:ev ρ y=some (vN b)) (h:R (.bool (decide (a<b))) w):Op1 P n D ⟨dst,.binOp .lss t x y t',ty,pos,af,g⟩ ρ w R :=
  op_bin hx hy (run_lss (decide_eq_decide.2 (by omega))) h
theorem op_lssI {a b:Int} (hx:ev ρ x=some (vI a)) (hy:ev ρ y=some (vI b)) (h:R (.bool (decide (a<b))) w):Op1 P n D ⟨dst,.binOp .lss t x y t',ty,pos,af,g⟩ ρ w R :=
  op_bin hx hy (run_lss rfl) h
theorem op_leqN {a b:Nat} (hx:ev ρ x=some (vN a)) (hy:ev ρ y=some (vN b)) (h:R (.bool (decide (a≤b))) w):Op1 P n D ⟨dst,.binOp .leq t x y t',ty,pos,af,g⟩ ρ w R :=
  op_bin hx hy (run_leq (decide_eq_decide.2 (by omega))) h
theorem op_gtrN {a b:Nat} (hx:ev ρ x=some (vN a)) (hy:ev ρ y=some (vN b)) (h:R (.bool (decide (a>b))) w):Op1 P n D ⟨dst,.binOp .gtr t x y t',ty,pos,af,g⟩ ρ w R :=
  op_bin hx hy (run_gtr (decide_eq_decide.2 (by omega))) h
theorem op_gtrI {a b:Int} (hx:ev ρ x=some (vI a)) (hy:ev ρ y=some (vI b)) (h:R (.bool (decide (a>b))) w):Op1 P n D ⟨dst,.binOp .gtr t x y t',ty,pos,af,g⟩ ρ w R :=
  op_bin hx hy (run_gtr rfl) h
theorem op_geqN {a b:Nat} (hx:ev ρ x=some (vN a)) (hy:ev ρ y=some (vN b)) (h:R (.bool (decide (a≥b))) w):Op1 P n D ⟨dst,.binOp .geq t x y t',ty,pos,af,g⟩ ρ w R :=
  op_bin hx hy (run_geq (decide_eq_decide.2 (by omega))) h
theorem op_geqI {a b:Int} (hx:ev ρ x=some (vI a)) (hy:ev ρ y=some (vI b)) (h:R (.bool (decide (a≥b))) w):Op1 P n D ⟨dst,.binOp .geq t x y t',ty,pos,af,g⟩ ρ w R :=
  op_bin hx hy (run_geq rfl) h
theorem toNatU8 (x:UInt8):x.toNat<256:=x.toNat_lt
def shrU8 (x:UInt8) (s:Nat):UInt8:=UInt8.ofNat (x.toNat >>> s)
theorem bvU8 (c:UInt8):BitVec.ofInt IntKind.u8.bits (c.toNat:Int)=c.toBitVec:=by
  apply BitVec.eq_of_toNat_eq; simp [IntKind.bits]; try (have:=toNatU8 c; omega)
theorem wbvU8 (r:BitVec 8):IntKind.u8.wrap (r.toNat:Int)=(r.toNat:Int):=wrapU8 ⟨Int.natCast_nonneg _,Int.ofNat_lt.2 r.isLt⟩
theorem op_andU8 {a b:UInt8} (hx:ev ρ x=some (vU8 a)) (hy:ev ρ y=some (vU8 b)) (h:R (vU8 (a &&& b)) w):Op1 P n D ⟨dst,.binOp .and t x y t',ty,pos,af,g⟩ ρ w R :=
  op_bin hx hy (run_and (by rw [bvU8,bvU8]; exact wbvU8 _)) h
theorem op_orU8 {a b:UInt8} (hx:ev ρ x=some (vU8 a)) (hy:ev ρ y=some (vU8 b)) (h:R (vU8 (a ||| b)) w):Op1 P n D ⟨dst,.binOp .or t x y t',ty,pos,af,g⟩ ρ w R :=
  op_bin hx hy (run_or (by rw [bvU8,bvU8]; exact wbvU8 _)) h
theorem op_xorU8 {a b:UInt8} (hx:ev ρ x=some (vU8 a)) (hy:ev ρ y=some (vU8 b)) (h:R (vU8 (a ^^^ b)) w):Op1 P n D ⟨dst,.binOp .xor t x y t',ty,pos,af,g⟩ ρ w R :=
  op_bin hx hy (run_xor (by rw [bvU8,bvU8]; exact wbvU8 _)) h
theorem op_eqlU8 {a b:UInt8} (hx:ev ρ x=some (vU8 a)) (hy:ev ρ y=some (vU8 b)) (h:R (.bool (decide (a=b))) w):Op1 P n D ⟨dst,.binOp .eql t x y t',ty,pos,af,g⟩ ρ w R :=
  op_bin hx hy (run_eql (decide_eq_decide.2 (by rw [←UInt8.toNat_inj]; omega))) h
theorem op_neqU8 {a b:UInt8} (hx:ev ρ x=some (vU8 a)) (hy:ev ρ y=some (vU8 b)) (h:R (.bool (decide (a≠b))) w):Op1 P n D ⟨dst,.binOp .neq t x y t',ty,pos,af,g⟩ ρ w R :=
  op_bin hx hy (run_neq (decide_eq_decide.2 (by rw [ne_eq,ne_eq,←UInt8.toNat_inj]; omega))) h
theorem op_gtrU8 {a b:UInt8} (hx:ev ρ x=some (vU8 a)) (hy:ev ρ y=some (vU8 b)) (h:R (.bool (decide (a>b))) w):Op1 P n D ⟨dst,.binOp .gtr t x y t',ty,pos,af,g⟩ ρ w R :=
  op_bin hx hy (run_gtr (decide_eq_decide.2 (by show _<_↔_<_; rw [UInt8.lt_iff_toNat_lt]; omega))) h
theorem op_convU8N {a:UInt8} (hs:P.underlying t=some (.int .u8)) (hd:P.underlying t'=some (.int .i64)) (hx:ev ρ x=some (vU8 a)) (h:R (vN a.toNat) w) :
    Op1 P n D ⟨dst,.convert t t' x,ty,pos,af,g⟩ ρ w R :=
  op_conv hs hd hx (by rw [wrapN (by have:=toNatU8 a; omega)]) h
theorem op_convU8U32 {a:UInt8} (hs:P.underlying t=some (.int .u8)) (hd:P.underlying t'=some (.int .u32)) (hx:ev ρ x=some (vU8 a)) (h:R (vU32 (UInt32.ofNat a.toNat)) w) :
    Op1 P n D ⟨dst,.convert t t' x,ty,pos,af,g⟩ ρ w R :=
  op_conv hs hd hx (by rw [wrapU32n]) h
theorem op_eqlU16 {a b:UInt16} (hx:ev ρ x=some (vU16 a)) (hy:ev ρ y=some (vU16 b)) (h:R (.bool (decide (a=b))) w):Op1 P n D ⟨dst,.binOp .eql t x y t',ty,pos,af,g⟩ ρ w R :=
  op_bin hx hy (run_eql (decide_eq_decide.2 (by rw [←UInt16.toNat_inj]; omega))) h
theorem op_lssU16 {a b:UInt16} (hx:ev ρ x=some (vU16 a)) (hy:ev ρ y=some (vU16 b)) (h:R (.bool (decide (a<b))) w):Op1 P n D ⟨dst,.binOp .lss t x y t',ty,pos,af,g⟩ ρ w R :=
  op_bin hx hy (run_lss (decide_eq_decide.2 (by rw [UInt16.lt_iff_toNat_lt]; omega))) h
theorem op_convU16U32 {a:UInt16} (hs:P.underlying t=some (.int .u16)) (hd:P.underlying t'=some (.int .u32)) (hx:ev ρ x=some (vU16 a)) (h:R (vU32 (UInt32.ofNat a.toNat)) w) :
    Op1 P n D ⟨dst,.convert t t' x,ty,pos,af,g⟩ ρ w R :=
  op_conv hs hd hx (by rw [wrapU32n]) h
theorem toNatU32 (x:UInt32):x.toNat<4294967296:=x.toNat_lt
def shlU32 (x:UInt32) (s:Nat):UInt32:=UInt32.ofNat (x.toNat <<< s)
def shrU32 (x:UInt32) (s:Nat):UInt32:=UInt32.ofNat (x.toNat >>> s)
theorem bvU32 (c:UInt32):BitVec.ofInt IntKind.u32.bits (c.toNat:Int)=c.toBitVec:=by
  apply BitVec.eq_of_toNat_eq; simp [IntKind.bits]; try (have:=toNatU32 c; omega)
theorem wbvU32 (r:BitVec 32):IntKind.u32.wrap (r.toNat:Int)=(r.toNat:Int):=wrapU32 ⟨Int.natCast_nonneg _,Int.ofNat_lt.2 r.isLt⟩
theorem divU32 (a b:UInt32):IntKind.u32.wrap ((a.toNat:Int).tdiv b.toNat)=((a / b).toNat:Int):=by
  have h0:((a.toNat:Int).tdiv b.toNat)=((a.toNat / b.toNat:Nat):Int):=rfl
  have h1:a.toNat / b.toNat<4294967296:=Nat.lt_of_le_of_lt (Nat.div_le_self _ _) (toNatU32 a)
  rw [h0,wrapU32 ⟨Int.natCast_nonneg _,Int.ofNat_lt.2 h1⟩,UInt32.toNat_div]
theorem subU32 (a b:UInt32):IntKind.u32.wrap ((a.toNat:Int)-(b.toNat:Int))=((a-b).toNat:Int):=by
  unfold IntKind.wrap; simp only [IntKind.bits,IntKind.signed]
  have h1:=toNatU32 a; have h2:=toNatU32 b
  rw [UInt32.toNat_sub]
  simp; omega
theorem shlwU32 (a:UInt32) (s:Nat):IntKind.u32.wrap ((a.toNat:Int) * 2^(min s 32))=((shlU32 a s).toNat:Int):=by
  have h1:((a.toNat:Int) * 2^(min s 32))=((a.toNat * 2^(min s 32):Nat):Int):=by simp
  rw [h1,wrapU32n]
  unfold shlU32
  rw [Nat.shiftLeft_eq]
  by_cases hs:s≤32
  · rw [Nat.min_eq_left hs]
  · rw [Nat.min_eq_right (by omega)]
    have h2:a.toNat * 2^s%2^32=0:=by
      obtain ⟨d,rfl⟩: ∃d,s=32+d:=⟨s-32,by omega⟩
      rw [Nat.pow_add,←Nat.mul_assoc,Nat.mul_comm (a.toNat),Nat.mul_assoc]
      exact Nat.mul_mod_right _ _
    simp only [UInt32.toNat_ofNat',h2]
    simp
theorem shrwU32 (a:UInt32) (s:Nat):(a.toNat:Int).fdiv (2^(min s 32))=((shrU32 a s).toNat:Int):=by
  have hl:=toNatU32 a
  have h1:(a.toNat:Int).fdiv (2^(min s 32))=((a.toNat / 2^(min s 32):Nat):Int):=by
    rw [Int.fdiv_eq_ediv_of_nonneg _ (by exact_mod_cast Nat.zero_le (2^(min s 32)))]; simp
  rw [h1]
  unfold shrU32
  rw [Nat.shiftRight_eq_div_pow]
  have h3:a.toNat / 2^s<4294967296:=Nat.lt_of_le_of_lt (Nat.div_le_self _ _) hl
  rw [UInt32.toNat_ofNat_of_lt' (by simpa [UInt32.size] using h3)]
  by_cases hs:s≤32
  · rw [Nat.min_eq_left hs]
  · rw [Nat.min_eq_right (by omega)]
    have h4:a.toNat / 2^32=0:=Nat.div_eq_of_lt (by omega)
    have h5:a.toNat / 2^s=0:=Nat.div_eq_of_lt (Nat.lt_of_lt_of_le (by omega:a.toNat<2^32) (Nat.pow_le_pow_right (by omega) (by omega)))
    rw [h4,h5]
theorem op_addU32 {a b:UInt32} (hx:ev ρ x=some (vU32 a)) (hy:ev ρ y=some (vU32 b)) (h:R (vU32 (a+b)) w):Op1 P n D ⟨dst,.binOp .add t x y t',ty,pos,af,g⟩ ρ w R :=
  op_bin hx hy (run_add (by rw [←Int.natCast_add,wrapU32n,UInt32.ofNat_add,UInt32.ofNat_toNat,UInt32.ofNat_toNat])) h
theorem op_mulU32 {a b:UInt32} (hx:ev ρ x=some (vU32 a)) (hy:ev ρ y=some (vU32 b)) (h:R (vU32 (a * b)) w):Op1 P n D ⟨dst,.binOp .mul t x y t',ty,pos,af,g⟩ ρ w R :=
  op_bin hx hy (run_mul (by rw [←Int.natCast_mul,wrapU32n,UInt32.ofNat_mul,UInt32.ofNat_toNat,UInt32.ofNat_toNat])) h
theorem op_subU32 {a b:UInt32} (hx:ev ρ x=some (vU32 a)) (hy:ev ρ y=some (vU32 b)) (h:R (vU32 (a-b)) w):Op1 P n D ⟨dst,.binOp .sub t x y t',ty,pos,af,g⟩ ρ w R :=
  op_bin hx hy (run_sub (subU32 a b)) h
theorem nzU32 {b:UInt32} (hb:b≠0):(b.toNat:Int)≠0:=fun e=>hb (UInt32.toNat_inj.1 (by simpa using e))
theorem op_quoU32 {a b:UInt32} (hx:ev ρ x=some (vU32 a)) (hy:ev ρ y=some (vU32 b)) (hb:b≠0) (h:R (vU32 (a / b)) w):Op1 P n D ⟨dst,.binOp .quo t x y t',ty,pos,af,g⟩ ρ w R :=
  op_bin hx hy (run_quo (nzU32 hb) (divU32 a b)) h
theorem op_remU32 {a b:UInt32} (hx:ev ρ x=some (vU32 a)) (hy:ev ρ y=some (vU32 b)) (hb:b≠0) (h:R (vU32 (a%b)) w):Op1 P n D ⟨dst,.binOp .rem t x y t',ty,pos,af,g⟩ ρ w R :=
  op_bin hx hy (run_rem (nzU32 hb) (by rw [UInt32.toNat_mod]; rfl)) h
theorem op_andU32 {a b:UInt32} (hx:ev ρ x=some (vU32 a)) (hy:ev ρ y=some (vU32 b)) (h:R (vU32 (a &&& b)) w):Op1 P n D ⟨dst,.binOp .and t x y t',ty,pos,af,g⟩ ρ w R :=
  op_bin hx hy (run_and (by rw [bvU32,bvU32]; exact wbvU32 _)) h
theorem op_orU32 {a b:UInt32} (hx:ev ρ x=some (vU32 a)) (hy:ev ρ y=some (vU32 b)) (h:R (vU32 (a ||| b)) w):Op1 P n D ⟨dst,.binOp .or t x y t',ty,pos,af,g⟩ ρ w R :=
  op_bin hx hy (run_or (by rw [bvU32,bvU32]; exact wbvU32 _)) h
theorem op_xorU32 {a b:UInt32} (hx:ev ρ x=some (vU32 a)) (hy:ev ρ y=some (vU32 b)) (h:R (vU32 (a ^^^ b)) w):Op1 P n D ⟨dst,.binOp .xor t x y t',ty,pos,af,g⟩ ρ w R :=
  op_bin hx hy (run_xor (by rw [bvU32,bvU32]; exact wbvU32 _)) h
theorem op_andNotU32 {a b:UInt32} (hx:ev ρ x=some (vU32 a)) (hy:ev ρ y=some (vU32 b)) (h:R (vU32 (a &&& ~~~b)) w):Op1 P n D ⟨dst,.binOp .andNot t x y t',ty,pos,af,g⟩ ρ w R :=
  op_bin hx hy (run_andNot (by rw [bvU32,bvU32]; exact wbvU32 _)) h
theorem op_shlU32 {a:UInt32} {k:IntKind} {s:Nat} (hx:ev ρ x=some (vU32 a)) (hy:ev ρ y=some (.int k (s:Int))) (h:R (vU32 (shlU32 a s)) w):Op1 P n D ⟨dst,.binOp .shl t x y t',ty,pos,af,g⟩ ρ w R :=
  op_bin hx hy (run_shl (shlwU32 a s)) h
theorem op_shrU32 {a:UInt32} {k:IntKind} {s:Nat} (hx:ev ρ x=some (vU32 a)) (hy:ev ρ y=some (.int k (s:Int))) (h:R (vU32 (shrU32 a s)) w):Op1 P n D ⟨dst,.binOp .shr t x y t',ty,pos,af,g⟩ ρ w R :=
  op_bin hx hy (run_shr (shrwU32 a s)) h
theorem op_eqlU32 {a b:UInt32} (hx:ev ρ x=some (vU32 a)) (hy:ev ρ y=some (vU32 b)) (h:R (.bool (decide (a=b))) w):Op1 P n D ⟨dst,.binOp .eql t x y t',ty,pos,af,g⟩ ρ w R :=
  op_bin hx hy (run_eql (decide_eq_decide.2 (by rw [←UInt32.toNat_inj]; omega))) h
theorem op_neqU32 {a b:UInt32} (hx:ev ρ x=some (vU32 a)) (hy:ev ρ y=some (vU32 b)) (h:R (.bool (decide (a≠b))) w):Op1 P n D ⟨dst,.binOp .neq t x y t',ty,pos,af,g⟩ ρ w R :=
  op_bin hx hy (run_neq (decide_eq_decide.2 (by rw [ne_eq,ne_eq,←UInt32.toNat_inj]; omega))) h
theorem op_lssU32 {a b:UInt32} (hx:ev ρ x=some (vU32 a)) (hy:ev ρ y=some (vU32 b)) (h:R (.bool (decide (a<b))) w):Op1 P n D ⟨dst,.binOp .lss t x y t',ty,pos,af,g⟩ ρ w R :=
  op_bin hx hy (run_lss (decide_eq_decide.2 (by rw [UInt32.lt_iff_toNat_lt]; omega))) h
theorem op_leqU32 {a b:UInt32} (hx:ev ρ x=some (vU32 a)) (hy:ev ρ y=some (vU32 b)) (h:R (.bool (decide (a≤b))) w):Op1 P n D ⟨dst,.binOp .leq t x y t',ty,pos,af,g⟩ ρ w R :=
  op_bin hx hy (run_leq (decide_eq_decide.2 (by rw [UInt32.le_iff_toNat_le]; omega))) h
theorem op_gtrU32 {a b:UInt32} (hx:ev ρ x=some (vU32 a)) (hy:ev ρ y=some (vU32 b)) (h:R (.bool (decide (a>b))) w):Op1 P n D ⟨dst,.binOp .gtr t x y t',ty,pos,af,g⟩ ρ w R :=
  op_bin hx hy (run_gtr (decide_eq_decide.2 (by show _<_↔_<_; rw [UInt32.lt_iff_toNat_lt]; omega))) h
theorem op_geqU32 {a b:UInt32} (hx:ev ρ x=some (vU32 a)) (hy:ev ρ y=some (vU32 b)) (h:R (.bool (decide (a≥b))) w):Op1 P n D ⟨dst,.binOp .geq t x y t',ty,pos,af,g⟩ ρ w R :=
  op_bin hx hy (run_geq (decide_eq_decide.2 (by show _≤_↔_≤_; rw [UInt32.le_iff_toNat_le]; omega))) h
theorem op_convU32N {a:UInt32} (hs:P.underlying t=some (.int .u32)) (hd:P.underlying t'=some (.int .i64)) (hx:ev ρ x=some (vU32 a)) (h:R (vN a.toNat) w) :
    Op1 P n D ⟨dst,.convert t t' x,ty,pos,af,g⟩ ρ w R :=
  op_conv hs hd hx (by rw [wrapN (by have:=toNatU32 a; omega)]) h
theorem op_convNU32 {a:Nat} (hs:P.underlying t=some (.int .i64)) (hd:P.underlying t'=some (.int .u32)) (hx:ev ρ x=some (vN a)) (h:R (vU32 (UInt32.ofNat a)) w) :
    Op1 P n D ⟨dst,.convert t t' x,ty,pos,af,g⟩ ρ w R :=
  op_conv hs hd hx (by rw [wrapU32n]) h
theorem op_convU32U8 {a:UInt32} (hs:P.underlying t=some (.int .u32)) (hd:P.underlying t'=some (.int .u8)) (hx:ev ρ x=some (vU32 a)) (h:R (vU8 (UInt8.ofNat a.toNat)) w) :
    Op1 P n D ⟨dst,.convert t t' x,ty,pos,af,g⟩ ρ w R :=
  op_conv hs hd hx (by rw [wrapU8n]) h
theorem op_convU32U16 {a:UInt32} (hs:P.underlying t=some (.int .u32)) (hd:P.underlying t'=some (.int .u16)) (hx:ev ρ x=some (vU32 a)) (h:R (vU16 (UInt16.ofNat a.toNat)) w) :
    Op1 P n D ⟨dst,.convert t t' x,ty,pos,af,g⟩ ρ w R :=
  op_conv hs hd hx (by rw [wrapU16n]) h
theorem op_convU32U64 {a:UInt32} (hs:P.underlying t=some (.int .u32)) (hd:P.underlying t'=some (.int .u64)) (hx:ev ρ x=some (vU32 a)) (h:R (vU64 (UInt64.ofNat a.toNat)) w) :
    Op1 P n D ⟨dst,.convert t t' x,ty,pos,af,g⟩ ρ w R :=
  op_conv hs hd hx (by rw [wrapU64n]) h
theorem toNatU64 (x:UInt64):x.toNat<18446744073709551616:=x.toNat_lt
def shlU64 (x:UInt64) (s:Nat):UInt64:=UInt64.ofNat (x.toNat <<< s)
def shrU64 (x:UInt64) (s:Nat):UInt64:=UInt64.ofNat (x.toNat >>> s)
theorem bvU64 (c:UInt64):BitVec.ofInt IntKind.u64.bits (c.toNat:Int)=c.toBitVec:=by
  apply BitVec.eq_of_toNat_eq; simp [IntKind.bits]; try (have:=toNatU64 c; omega)
theorem wbvU64 (r:BitVec 64):IntKind.u64.wrap (r.toNat:Int)=(r.toNat:Int):=wrapU64 ⟨Int.natCast_nonneg _,Int.ofNat_lt.2 r.isLt⟩
theorem divU64 (a b:UInt64):IntKind.u64.wrap ((a.toNat:Int).tdiv b.toNat)=((a / b).toNat:Int):=by
  have h0:((a.toNat:Int).tdiv b.toNat)=((a.toNat / b.toNat:Nat):Int):=rfl
  have h1:a.toNat / b.toNat<18446744073709551616:=Nat.lt_of_le_of_lt (Nat.div_le_self _ _) (toNatU64 a)
  rw [h0,wrapU64 ⟨Int.natCast_nonneg _,Int.ofNat_lt.2 h1⟩,UInt64.toNat_div]
theorem subU64 (a b:UInt64):IntKind.u64.wrap ((a.toNat:Int)-(b.toNat:Int))=((a-b).toNat:Int):=by
  unfold IntKind.wrap; simp only [IntKind.bits,IntKind.signed]
  have h1:=toNatU64 a; have h2:=toNatU64 b
  rw [UInt64.toNat_sub]
  simp; omega
theorem shlwU64 (a:UInt64) (s:Nat):IntKind.u64.wrap ((a.toNat:Int) * 2^(min s 64))=((shlU64 a s).toNat:Int):=by
  have h1:((a.toNat:Int) * 2^(min s 64))=((a.toNat * 2^(min s 64):Nat):Int):=by simp
  rw [h1,wrapU64n]
  unfold shlU64
  rw [Nat.shiftLeft_eq]
  by_cases hs:s≤64
  · rw [Nat.min_eq_left hs]
  · rw [Nat.min_eq_right (by omega)]
    have h2:a.toNat * 2^s%2^64=0:=by
      obtain ⟨d,rfl⟩: ∃d,s=64+d:=⟨s-64,by omega⟩
      rw [Nat.pow_add,←Nat.mul_assoc,Nat.mul_comm (a.toNat),Nat.mul_assoc]
      exact Nat.mul_mod_right _ _
    simp only [UInt64.toNat_ofNat',h2]
    simp
theorem shrwU64 (a:UInt64) (s:Nat):(a.toNat:Int).fdiv (2^(min s 64))=((shrU64 a s).toNat:Int):=by
  have hl:=toNatU64 a
  have h1:(a.toNat:Int).fdiv (2^(min s 64))=((a.toNat / 2^(min s 64):Nat):Int):=by
    rw [Int.fdiv_eq_ediv_of_nonneg _ (by exact_mod_cast Nat.zero_le (2^(min s 64)))]; simp
  rw [h1]
  unfold shrU64
  rw [Nat.shiftRight_eq_div_pow]
  have h3:a.toNat / 2^s<18446744073709551616:=Nat.lt_of_le_of_lt (Nat.div_le_self _ _) hl
  rw [UInt64.toNat_ofNat_of_lt' (by simpa [UInt64.size] using h3)]
  by_cases hs:s≤64
  · rw [Nat.min_eq_left hs]
  · rw [Nat.min_eq_right (by omega)]
    have h4:a.toNat / 2^64=0:=Nat.div_eq_of_lt (by omega)
    have h5:a.toNat / 2^s=0:=Nat.div_eq_of_lt (Nat.lt_of_lt_of_le (by omega:a.toNat<2^64) (Nat.pow_le_pow_right (by omega) (by omega)))
    rw [h4,h5]
theorem op_addU64 {a b:UInt64} (hx:ev ρ x=some (vU64 a)) (hy:ev ρ y=some (vU64 b)) (h:R (vU64 (a+b)) w):Op1 P n D ⟨dst,.binOp .add t x y t',ty,pos,af,g⟩ ρ w R :=
  op_bin hx hy (run_add (by rw [←Int.natCast_add,wrapU64n,UInt64.ofNat_add,UInt64.ofNat_toNat,UInt64.ofNat_toNat])) h
theorem op_mulU64 {a b:UInt64} (hx:ev ρ x=some (vU64 a)) (hy:ev ρ y=some (vU64 b)) (h:R (vU64 (a * b)) w):Op1 P n D ⟨dst,.binOp .mul t x y t',ty,pos,af,g⟩ ρ w R :=
  op_bin hx hy (run_mul (by rw [←Int.natCast_mul,wrapU64n,UInt64.ofNat_mul,UInt64.ofNat_toNat,UInt64.ofNat_toNat])) h
theorem op_subU64 {a b:UInt64} (hx:ev ρ x=some (vU64 a)) (hy:ev ρ y=some (vU64 b)) (h:R (vU64 (a-b)) w):Op1 P n D ⟨dst,.binOp .sub t x y t',ty,pos,af,g⟩ ρ w R :=
  op_bin hx hy (run_sub (subU64 a b)) h
theorem nzU64 {b:UInt64} (hb:b≠0):(b.toNat:Int)≠0:=fun e=>hb (UInt64.toNat_inj.1 (by simpa using e))
theorem op_quoU64 {a b:UInt64} (hx:ev ρ x=some (vU64 a)) (hy:ev ρ y=some (vU64 b)) (hb:b≠0) (h:R (vU64 (a / b)) w):Op1 P n D ⟨dst,.binOp .quo t x y t',ty,pos,af,g⟩ ρ w R :=
  op_bin hx hy (run_quo (nzU64 hb) (divU64 a b)) h
theorem op_andU64 {a b:UInt64} (hx:ev ρ x=some (vU64 a)) (hy:ev ρ y=some (vU64 b)) (h:R (vU64 (a &&& b)) w):Op1 P n D ⟨dst,.binOp .and t x y t',ty,pos,af,g⟩ ρ w R :=
  op_bin hx hy (run_and (by rw [bvU64,bvU64]; exact wbvU64 _)) h
theorem op_xorU64 {a b:UInt64} (hx:ev ρ x=some (vU64 a)) (hy:ev ρ y=some (vU64 b)) (h:R (vU64 (a ^^^ b)) w):Op1 P n D ⟨dst,.binOp .xor t x y t',ty,pos,af,g⟩ ρ w R :=
  op_bin hx hy (run_xor (by rw [bvU64,bvU64]; exact wbvU64 _)) h
theorem op_shlU64 {a:UInt64} {k:IntKind} {s:Nat} (hx:ev ρ x=some (vU64 a)) (hy:ev ρ y=some (.int k (s:Int))) (h:R (vU64 (shlU64 a s)) w):Op1 P n D ⟨dst,.binOp .shl t x y t',ty,pos,af,g⟩ ρ w R :=
  op_bin hx hy (run_shl (shlwU64 a s)) h
theorem op_shrU64 {a:UInt64} {k:IntKind} {s:Nat} (hx:ev ρ x=some (vU64 a)) (hy:ev ρ y=some (.int k (s:Int))) (h:R (vU64 (shrU64 a s)) w):Op1 P n D ⟨dst,.binOp .shr t x y t',ty,pos,af,g⟩ ρ w R :=
  op_bin hx hy (run_shr (shrwU64 a s)) h
theorem op_lssU64 {a b:UInt64} (hx:ev ρ x=some (vU64 a)) (hy:ev ρ y=some (vU64 b)) (h:R (.bool (decide (a<b))) w):Op1 P n D ⟨dst,.binOp .lss t x y t',ty,pos,af,g⟩ ρ w R :=
  op_bin hx hy (run_lss (decide_eq_decide.2 (by rw [UInt64.lt_iff_toNat_lt]; omega))) h
theorem op_leqU64 {a b:UInt64} (hx:ev ρ x=some (vU64 a)) (hy:ev ρ y=some (vU64 b)) (h:R (.bool (decide (a≤b))) w):Op1 P n D ⟨dst,.binOp .leq t x y t',ty,pos,af,g⟩ ρ w R :=
  op_bin hx hy (run_leq (decide_eq_decide.2 (by rw [UInt64.le_iff_toNat_le]; omega))) h
theorem op_gtrU64 {a b:UInt64} (hx:ev ρ x=some (vU64 a)) (hy:ev ρ y=some (vU64 b)) (h:R (.bool (decide (a>b))) w):Op1 P n D ⟨dst,.binOp .gtr t x y t',ty,pos,af,g⟩ ρ w R :=
  op_bin hx hy (run_gtr (decide_eq_decide.2 (by show _<_↔_<_; rw [UInt64.lt_iff_toNat_lt]; omega))) h
theorem op_geqU64 {a b:UInt64} (hx:ev ρ x=some (vU64 a)) (hy:ev ρ y=some (vU64 b)) (h:R (.bool (decide (a≥b))) w):Op1 P n D ⟨dst,.binOp .geq t x y t',ty,pos,af,g⟩ ρ w R :=
  op_bin hx hy (run_geq (decide_eq_decide.2 (by show _≤_↔_≤_; rw [UInt64.le_iff_toNat_le]; omega))) h
theorem op_convU64N {a:UInt64} (hs:P.underlying t=some (.int .u64)) (hd:P.underlying t'=some (.int .i64)) (hx:ev ρ x=some (vU64 a)) (hlt:a.toNat≤9223372036854775807) (h:R (vN a.toNat) w) :
    Op1 P n D ⟨dst,.convert t t' x,ty,pos,af,g⟩ ρ w R :=
  op_conv hs hd hx (by rw [wrapN hlt]) h
theorem op_convNU64 {a:Nat} (hs:P.underlying t=some (.int .i64)) (hd:P.underlying t'=some (.int .u64)) (hx:ev ρ x=some (vN a)) (h:R (vU64 (UInt64.ofNat a)) w) :
    Op1 P n D ⟨dst,.convert t t' x,ty,pos,af,g⟩ ρ w R :=
  op_conv hs hd hx (by rw [wrapU64n]) h
theorem op_convU64U8 {a:UInt64} (hs:P.underlying t=some (.int .u64)) (hd:P.underlying t'=some (.int .u8)) (hx:ev ρ x=some (vU64 a)) (h:R (vU8 (UInt8.ofNat a.toNat)) w) :
    Op1 P n D ⟨dst,.convert t t' x,ty,pos,af,g⟩ ρ w R :=
  op_conv hs hd hx (by rw [wrapU8n]) h
theorem op_convU64U32 {a:UInt64} (hs:P.underlying t=some (.int .u64)) (hd:P.underlying t'=some (.int .u32)) (hx:ev ρ x=some (vU64 a)) (h:R (vU32 (UInt32.ofNat a.toNat)) w) :
    Op1 P n D ⟨dst,.convert t t' x,ty,pos,af,g⟩ ρ w R :=
  op_conv hs hd hx (by rw [wrapU32n]) h
end
end Go.Owl
namespace Go.Owl
section
variable {P:Program} {n:Nat} {D:List Deferred} {ρ:Env} {w w0:World} {R:Value→World→Prop} {dst:Option Tmp} {ty:TypeId} {pos:String} {af:Array Edge} {g:Option (Nat × Bool)}
variable {S:List Nat} {L:List Ent} {i:Nat} {t t' T:TypeId} {x y:Operand} {z:List Value} {sz by_:Nat} {d:TypeDesc}
theorem run_isAgg (hu:P.underlying T=some d):(isAgg T).run P w=.ok (!scal d) w:=by
  simp only [isAgg,Sem.run_bind,run_underlying hu,Result.andThen_ok]
  cases d<;>rfl
theorem run_sizeOf (hz:tiB P T=some (z,sz,by_)):(sizeOf T).run P w=.ok sz w:=by
  obtain ⟨i,v,hi,hv,hc,hs,hb⟩:=tiB_spec hz
  simp [sizeOf,typeInfo,hi,hs]
theorem run_sizeOf' {i:TypeInfo} (hz:P.info? T=some i):(sizeOf T).run P w=.ok i.size w:=by
  simp [sizeOf,typeInfo,hz]
theorem op_alloc (H:Own S w0 w L) (hz:tiB P T=some (z,sz,by_)) (h: ∀b w',Own S w0 w' (L++[.blk b z T])→R (ptr b 0) w') :
    Op1 P n D ⟨dst,.alloc T,ty,pos,af,g⟩ ρ w R:=by
  obtain ⟨i,v,hi,hv,hc,hs,hb⟩:=tiB_spec hz
  have hc':v.cells=z.toArray:=by rw [←hc]
  refine Op1.val (w':=w.alloc (.cells z.toArray T)) (v:=ptr w.heap.size 0) (fun a ha=>?_) (h _ _ (H.alloc z T))
  simp [execOp,Instr.alloc,zeroValue,typeInfo,hi,hv,newVar,newRow,hc']
theorem op_box {v:Value} {cs:List Value} (H:Own S w0 w L) (hx:ev ρ x=some v) (hc:v.cells.toList=cs) (h: ∀b w',Own S w0 w' (L++[.blk b cs T])→R (ptr b 0) w') :
    Op1 P n D ⟨dst,.box T x,ty,pos,af,g⟩ ρ w R:=by
  have hc':v.cells=cs.toArray:=by rw [←hc]
  refine Op1.val (w':=w.alloc (.cells cs.toArray T)) (v:=ptr w.heap.size 0) (fun a ha=>?_) (h _ _ (H.alloc cs T))
  simp [execOp,Instr.box,newVar,newRow,ha.ev hx,hc']
theorem op_load {ad:Addr} {v:Value} (hx:ev ρ x=some (.pointer (some ad))) (hc:w.cell? ad=some v) (hu:P.underlying T=some d) (hs:scal d=true) (h:R v w) :
    Op1 P n D ⟨dst,.load T x,ty,pos,af,g⟩ ρ w R :=
  Op1.val (fun a ha=>by simp [execOp,Instr.loadAt,Instr.sureAddr,ha.ev hx,loadVar,run_isAgg hu,hs,hc]) h
theorem run_loadVarS {b off:Nat} {vs:List Value} (hc: ∀j u,vs[j]?=some u→w.cell? ⟨b,off+j,none⟩=some u) (hu:P.underlying T=some d) (hs:scal d=false) (hz:tiB P T=some (z,sz,by_))
    (hl:vs.length=sz):(loadVar T ⟨b,off,none⟩).run P w=.ok (.agg vs.toArray) w:=by
  have h1:=run_loadCells_list (P:=P) w ⟨b,off,none⟩ vs (fun j u hj=>by rw [Addr.add_at]; exact hc j u hj)
  simp [loadVar,run_isAgg hu,hs,run_sizeOf hz,←hl,h1]
theorem op_loadS {b off:Nat} {vs:List Value} (hx:ev ρ x=some (ptr b off)) (hc: ∀j u,vs[j]?=some u→w.cell? ⟨b,off+j,none⟩=some u) (hu:P.underlying T=some d) (hs:scal d=false)
    (hz:tiB P T=some (z,sz,by_)) (hl:vs.length=sz) (h:R (.agg vs.toArray) w):Op1 P n D ⟨dst,.load T x,ty,pos,af,g⟩ ρ w R :=
  Op1.val (fun a ha=>by simp [execOp,Instr.loadAt,Instr.sureAddr,ha.ev hx,run_loadVarS hc hu hs hz hl]) h
theorem Own.cell {b off:Nat} {cs:List Value} {v:Value} (H:Own S w0 w L) (hi:L[i]?=some (Ent.blk b cs t)) (hc:cs[off]?=some v):w.cell? ⟨b,off,none⟩=some v:=by
  rw [(H.blk hi).cell]; exact hc
theorem Own.cells {b off:Nat} {cs vs:List Value} (H:Own S w0 w L) (hi:L[i]?=some (Ent.blk b cs t)) (hc:(cs.drop off).take vs.length=vs): ∀j u,vs[j]?=some u→w.cell? ⟨b,off+j,none⟩=some u:=by
  intro j u hj
  rw [(H.blk hi).cell]
  rw [←hc,List.getElem?_take] at hj
  split at hj
  · rw [List.getElem?_drop] at hj; exact hj
  · cases hj
theorem Arr.at {v u:Value} {m k:Nat} {xs:List Value} (hA:Arr w v sz m xs) (hc:xs[k]?=some u):w.cell? (sp v k)=some u:=by
  have hk:k<xs.length:=(List.getElem?_eq_some_iff.1 hc).1
  rw [hA.cell k hk]; exact hc
theorem Arr.ats {v:Value} {m k:Nat} {xs vs:List Value} (hA:Arr w v sz m xs) (hc:(xs.drop k).take vs.length=vs): ∀j u,vs[j]?=some u→w.cell? ⟨sBlk v,sOff v+k+j,none⟩=some u:=by
  intro j u hj
  rw [←hc,List.getElem?_take] at hj
  split at hj
  · rw [List.getElem?_drop] at hj
    have:=hA.at hj
    rw [sp,←Nat.add_assoc] at this; exact this
  · cases hj
theorem Own.arr {v:Value} {m:Nat} {xs:List Value} (H:Own [] w0 w L) (hA:Arr w0 v sz m xs):Arr w v sz m xs:=hA.fr H.fr (by simp)
theorem Own.arrR {v:Value} {m:Nat} {xs:List Value} (H:Own S w0 w L) (hi:L[i]?=some (Ent.row v t sz m xs)):Arr w v sz m xs:=(H.row hi).arr
theorem run_storeB {b off:Nat} {cs:List Value} {v:Value} (hb:Blk w b cs t) (ho:off<cs.length) (h1:v.oneCell'=true) (hz:tiB P T=some (z,1,by_)) :
    (Instr.storeAt T (ptr b off) v).run P w=.ok () (w.setRow b (cs.set off v).toArray):=by
  have hv:v.cells=#[v]:=by cases v<;>first | rfl | (simp [Value.oneCell'] at h1)
  have hst:=run_storeCells_blk P b off t [v] 0 cs w hb (by simp; omega) (by simpa using h1)
  have e:cs.take (off+0)++[v]++cs.drop (off+0+ [v].length)=cs.set off v:=by
    rw [List.set_eq_take_append_cons_drop]
    simp [ho]
  rw [e] at hst
  simp [Instr.storeAt,Instr.sureAddr,storeVar,run_sizeOf hz,hv,hst]
theorem run_storeBS {b off:Nat} {cs vs:List Value} (hb:Blk w b cs t) (ho:off+vs.length≤cs.length) (h1:vs.all (·.oneCell')=true) (hz:tiB P T=some (z,vs.length,by_)) :
    (Instr.storeAt T (ptr b off) (.agg vs.toArray)).run P w=.ok () (w.setRow b (cs.take off++vs++cs.drop (off+vs.length)).toArray):=by
  have hst:=run_storeCells_blk P b off t vs 0 cs w hb (by omega) (by simpa using h1)
  simp only [Nat.add_zero] at hst
  simp [Instr.storeAt,Instr.sureAddr,storeVar,run_sizeOf hz,Value.cells,hst]
theorem op_storeB {b off:Nat} {cs:List Value} {v:Value} (H:Own S w0 w L) (hx:ev ρ x=some (ptr b off)) (hy:ev ρ y=some v) (hi:L[i]?=some (Ent.blk b cs t)) (ho:Nat.blt off cs.length=true)
    (h1:v.oneCell'=true) (hz:tiB P T=some (z,1,by_)) (h: ∀w',Own S w0 w' (L.set i (.blk b (cs.set off v) t))→R undef w'):Op1 P n D ⟨dst,.store T x y,ty,pos,af,g⟩ ρ w R :=
  Op1.unit (fun a ha=>by simp only [execOp,ha.ev hx,ha.ev hy,Sem.run_bind,run_storeB (H.blk hi) (by simpa [Nat.blt_eq] using ho) h1 hz,Result.andThen_ok,Sem.run_pure]) (h _ (H.setBlk hi _ (by simp)))
theorem op_storeBS {b off:Nat} {cs vs:List Value} (H:Own S w0 w L) (hx:ev ρ x=some (ptr b off)) (hy:ev ρ y=some (.agg vs.toArray)) (hi:L[i]?=some (Ent.blk b cs t)) (ho:Nat.ble (off+vs.length) cs.length=true)
    (h1:vs.all (·.oneCell')=true) (hz:tiB P T=some (z,vs.length,by_)) (h: ∀w',Own S w0 w' (L.set i (.blk b (cs.take off++vs++cs.drop (off+vs.length)) t))→R undef w') :
    Op1 P n D ⟨dst,.store T x y,ty,pos,af,g⟩ ρ w R :=
  have ho':off+vs.length≤cs.length:=by simpa [Nat.ble_eq] using ho
  Op1.unit (fun a ha=>by simp only [execOp,ha.ev hx,ha.ev hy,Sem.run_bind,run_storeBS (H.blk hi) ho' h1 hz,Result.andThen_ok,Sem.run_pure]) (h _ (H.setBlk hi _ (by simp; omega)))
theorem op_storeBW {b:Nat} {cs vs:List Value} (H:Own S w0 w L) (hx:ev ρ x=some (ptr b 0)) (hy:ev ρ y=some (.agg vs.toArray)) (hi:L[i]?=some (Ent.blk b cs t)) (ho:Nat.beq vs.length cs.length=true)
    (h1:vs.all (·.oneCell')=true) (hz:tiB P T=some (z,vs.length,by_)) (h: ∀w',Own S w0 w' (L.set i (.blk b vs t))→R undef w'):Op1 P n D ⟨dst,.store T x y,ty,pos,af,g⟩ ρ w R:=by
  have ho':vs.length=cs.length:=by simpa using ho
  refine op_storeBS H hx hy hi (by simp [Nat.ble_eq,ho']) h1 hz (fun w' H'=>h w' ?_)
  simpa [ho'] using H'
theorem RowOK.set {v u:Value} {m k:Nat} {xs:List Value} (hr:RowOK w v t sz m xs) (hk:k<xs.length) (h1:u.oneCell'=true) (hz:tiB P T=some (z,1,by_)) :
    ∃w',(Instr.storeAt T (.pointer (some (sp v k))) u).run P w=.ok () w'∧RowOK w' v t sz m (xs.set k u)∧Fr v.ownBlock.toList w w':=by
  obtain ⟨hl,⟨rfl,rfl⟩ | ⟨gb,cap,pre,junk,rfl,hb,hn,hc,hj⟩⟩:=hr
  · simp at hl; subst hl; simp at hk
  · refine ⟨_,run_storeB (off:=pre.length+k) hb (by simp; omega) h1 hz,⟨by simpa using hl,.inr ⟨gb,cap,pre,junk,rfl,?_,hn,hc,by simpa using hj⟩⟩,Fr.setRow _ _ _⟩
    have e:(pre++(xs++junk)).set (pre.length+k) u=pre++(xs.set k u++junk):=by
      rw [List.set_append_right _ _ (by omega),Nat.add_sub_cancel_left,List.set_append_left _ _ hk]
    rw [e]
    exact hb.setRow _ (by simp)
theorem op_storeR {v u:Value} {m k:Nat} {xs:List Value} (H:Own S w0 w L) (hx:ev ρ x=some (.pointer (some (sp v k)))) (hy:ev ρ y=some u) (hi:L[i]?=some (Ent.row v t sz m xs)) (hk:k<xs.length)
    (h1:u.oneCell'=true) (hz:tiB P T=some (z,1,by_)) (h: ∀w',Own S w0 w' (L.set i (.row v t sz m (xs.set k u)))→R undef w'):Op1 P n D ⟨dst,.store T x y,ty,pos,af,g⟩ ρ w R:=by
  obtain ⟨w',h2,h3,h4⟩:=(H.row hi).set (P:=P) hk h1 hz
  refine Op1.unit (w':=w') (fun a ha=>by simp only [execOp,ha.ev hx,ha.ev hy,Sem.run_bind,h2,Result.andThen_ok,Sem.run_pure]) (h _ (H.upd hi h4 (fun b hb=>?_) h3 (fun b hb=>.inl hb)))
  simpa [Ent.Owns] using hb
theorem run_fieldAt {s k off o:Nat} {fb:Nat} {bb:Bool} (hf:faB P s k=some (o,sz,bb)):(Instr.fieldAt s (.pointer (some ⟨fb,off,none⟩)) k).run P w=.ok (ptr fb (off+o)) w:=by
  obtain ⟨fs,f,i,d,h1,h2,h3,_,h4,h5,h6,_⟩:=faB_spec hf
  simp [Instr.fieldAt,run_underlying h1,h2,Instr.sureAddr,fieldPlace,run_sizeOf' h3,h4,h5,h6,Addr.add_at]
theorem op_fieldAddr {s k off o b:Nat} {bb:Bool} (hx:ev ρ x=some (ptr b off)) (hf:faB P s k=some (o,sz,bb)) (h:R (ptr b (off+o)) w):Op1 P n D ⟨dst,.fieldAddr s x k,ty,pos,af,g⟩ ρ w R :=
  Op1.val (fun a ha=>by simp only [execOp,ha.ev hx,Sem.run_bind,run_fieldAt hf,Result.andThen_ok,Sem.run_pure]) h
theorem op_indexAddr {v:Value} {e:TypeId} {k:IntKind} {m q:Nat} {xs:List Value} (hu:P.underlying t=some (.slice e)) (hz:tiB P e=some (z,sz,by_)) (hx:ev ρ x=some v) (hA:Arr w v sz q xs)
    (hi:ev ρ y=some (.int k (m:Int))) (hm:m<q) (h:R (.pointer (some (sp v (m * sz)))) w):Op1 P n D ⟨dst,.indexAddr t x y,ty,pos,af,g⟩ ρ w R:=by
  obtain ⟨a0,cap,rfl,hn,hc,ha0,hsp⟩:=hA.form
  cases a0 with
  | none=>have:=(ha0 rfl).1; omega
  | some ad =>
    have hs0:=hsp (by omega) ad rfl
    refine Op1.val (fun a ha=>?_) h
    have e1:ad.add (m * sz)=sp (.slice (some ad) q cap) (m * sz):=by
      obtain ⟨b,o,s⟩:=ad; simp at hs0; subst hs0; rw [Addr.add_at]; rfl
    have h1:((0:Int)≤(m:Int)∧(m:Int)<(q:Int)):=by omega
    simp [execOp,ha.ev hx,ha.ev hi,Instr.indexAt,asIntOf,run_underlying hu,h1,hm,run_sizeOf hz,e1]
theorem op_indexAddrA {len off b m:Nat} {e:TypeId} {k:IntKind} (hu:P.underlying t=some (.array len e)) (hz:tiB P e=some (z,sz,by_)) (hx:ev ρ x=some (ptr b off))
    (hi:ev ρ y=some (.int k (m:Int))) (hm:m<len) (h:R (ptr b (off+m * sz)) w):Op1 P n D ⟨dst,.indexAddr t x y,ty,pos,af,g⟩ ρ w R :=
  Op1.val (fun a ha=>by simp [execOp,ha.ev hx,ha.ev hi,Instr.indexAt,asIntOf,run_underlying hu,hm,run_sizeOf hz,Instr.sureAddr,Addr.add_at]) h
theorem op_indexA {len m:Nat} {e:TypeId} {k:IntKind} {cs:Array Value} {v:Value} (hu:P.underlying t=some (.array len e)) (hz:tiB P e=some (z,sz,by_)) (hd:P.underlying e=some d) (hs:scal d=true)
    (hx:ev ρ x=some (.agg cs)) (hi:ev ρ y=some (.int k (m:Int))) (hm:m<len) (hc:cs.toList[m * sz]?=some v) (h:R v w):Op1 P n D ⟨dst,.index t x y,ty,pos,af,g⟩ ρ w R :=
  Op1.val (fun a ha=>by
    have hc':cs[m * sz]?=some v:=by simpa using hc
    simp [execOp,ha.ev hx,ha.ev hi,Instr.index,asIntOf,run_underlying hu,hm,run_sizeOf hz,part,run_isAgg hd,hs,hc']) h
theorem op_indexStr {m:Nat} {k:IntKind} {l:List UInt8} {c:UInt8} (hu:P.underlying t=some .string) (hx:ev ρ x=some (str l)) (hi:ev ρ y=some (.int k (m:Int))) (hc:l[m]?=some c) (h:R (vU8 c) w) :
    Op1 P n D ⟨dst,.index t x y,ty,pos,af,g⟩ ρ w R :=
  Op1.val (fun a ha=>by
    have hm:m<l.length:=(List.getElem?_eq_some_iff.1 hc).1
    have hcm:l[m]=c:=(List.getElem?_eq_some_iff.1 hc).2
    have hsz:(ByteArray.mk l.toArray).size=l.length:=by simp [ByteArray.size]
    have hc':(ByteArray.mk l.toArray)[m]?=some c:=by
      rw [ByteArray.getElem?_lt' _ _ (by rw [hsz]; exact hm)]
      exact congrArg some hcm
    simp [execOp,ha.ev hx,ha.ev hi,Instr.index,asIntOf,run_underlying hu,hc']) h
theorem op_indexStrD {m:Nat} {k:IntKind} {l:List UInt8} (hu:P.underlying t=some .string) (hx:ev ρ x=some (str l)) (hi:ev ρ y=some (.int k (m:Int))) (hm:m<l.length) (h:R (vU8 (l.getD m 0)) w) :
    Op1 P n D ⟨dst,.index t x y,ty,pos,af,g⟩ ρ w R :=
  op_indexStr hu hx hi (c:=l.getD m 0) (by simp [List.getD,hm]) h
theorem get_map {α β:Type} (f:α→β) {l:List α} {m:Nat} (d:α) (hm:m<l.length):(l.map f)[m]?=some (f (l.getD m d)):=by simp [List.getD,hm]
theorem size_str (l:List UInt8):(ByteArray.mk l.toArray).size=l.length:=by simp [ByteArray.size]
theorem op_addStr {a b:List UInt8} (hx:ev ρ x=some (str a)) (hy:ev ρ y=some (str b)) (hl:a.length+b.length≤9223372036854775807) (h:R (str (a++b)) w):Op1 P n D ⟨dst,.binOp .add t x y t',ty,pos,af,g⟩ ρ w R :=
  Op1.val (fun c ha=>by
    have hg:(eqGuard .add t x y (str a) (str b)).run P w=.ok () w:=rfl
    have h1:¬(((a.length+b.length:Nat):Int)>IntKind.i64.max):=by
      have:IntKind.i64.max=9223372036854775807:=by decide
      omega
    have e:ByteArray.mk a.toArray++ByteArray.mk b.toArray=ByteArray.mk (a++b).toArray:=by
      apply ByteArray.ext; simp [ByteArray.data_append]
    have h2:(Op.stringOp .add ⟨a.toArray⟩ ⟨b.toArray⟩).run P w=.ok (str (a++b)) w:=by
      simp only [Op.stringOp,size_str]
      rw [if_neg h1,e]; rfl
    simp only [execOp,ha.ev hx,ha.ev hy,Sem.run_bind,hg,Result.andThen_ok,binOp_string_add,h2,Sem.run_pure]) h
theorem op_eqlStr {a b:List UInt8} (hx:ev ρ x=some (str a)) (hy:ev ρ y=some (str b)) (h:R (.bool (decide (a=b))) w):Op1 P n D ⟨dst,.binOp .eql t x y t',ty,pos,af,g⟩ ρ w R :=
  Op1.val (fun c ha=>by
    have hg:(eqGuard .eql t x y (str a) (str b)).run P w=.ok () w:=rfl
    have e:(a==b)=decide (a=b):=by rw [Bool.eq_iff_iff]; simp
    simp only [execOp,ha.ev hx,ha.ev hy,Sem.run_bind,hg,Result.andThen_ok,binOp_string_eql,ByteArray.toList_mk,Sem.run_pure,e]) h
theorem op_neqStr {a b:List UInt8} (hx:ev ρ x=some (str a)) (hy:ev ρ y=some (str b)) (h:R (.bool (decide (a≠b))) w):Op1 P n D ⟨dst,.binOp .neq t x y t',ty,pos,af,g⟩ ρ w R :=
  Op1.val (fun c ha=>by
    have hg:(eqGuard .neq t x y (str a) (str b)).run P w=.ok () w:=rfl
    have e:(!(a==b))=decide (a≠b):=by rw [Bool.eq_iff_iff]; simp
    simp only [execOp,ha.ev hx,ha.ev hy,Sem.run_bind,hg,Result.andThen_ok,binOp_string_neq,ByteArray.toList_mk,Sem.run_pure,e]) h
theorem run_sliceBoundN {k:IntKind} {a q:Nat} {code:BoundsCode} (h:a≤q):(Instr.sliceBound (.int k (a:Int)) q code).run P w=.ok a w:=by
  have h1:((0:Int)≤(a:Int)∧(a:Int)≤(q:Int)):=by omega
  simp [Instr.sliceBound,asIntOf,h1]
theorem op_sliceStr {k k':IntKind} {lo hi:Operand} {a b:Nat} {l:List UInt8} (hu:P.underlying t=some .string) (hx:ev ρ x=some (str l)) (ha:ev ρ lo=some (.int k (a:Int))) (hb:ev ρ hi=some (.int k' (b:Int)))
    (hab:a≤b) (hbl:b≤l.length) (h:R (str ((l.drop a).take (b-a))) w):Op1 P n D ⟨dst,.slice t x (some lo) (some hi) none,ty,pos,af,g⟩ ρ w R :=
  Op1.val (fun c hc=>by
    simp [execOp,hc.ev hx,hc.ev ha,hc.ev hb,Instr.sliceAt,Instr.slice,run_underlying hu,Instr.sliceBounds,size_str,run_sliceBoundN hab,run_sliceBoundN hbl,ByteArray.extract_mk]) h
theorem op_sliceStrLo {k:IntKind} {lo:Operand} {a:Nat} {l:List UInt8} (hu:P.underlying t=some .string) (hx:ev ρ x=some (str l)) (ha:ev ρ lo=some (.int k (a:Int)))
    (hab:a≤l.length) (h:R (str (l.drop a)) w):Op1 P n D ⟨dst,.slice t x (some lo) none none,ty,pos,af,g⟩ ρ w R :=
  Op1.val (fun c hc=>by
    have e:List.take (l.length-a) (List.drop a l)=List.drop a l:=by rw [List.take_of_length_le]; simp
    simp [execOp,hc.ev hx,hc.ev ha,Instr.sliceAt,Instr.slice,run_underlying hu,Instr.sliceBounds,size_str,run_sliceBoundN hab,ByteArray.extract_mk,e]) h
theorem op_sliceStrHi {k':IntKind} {hi:Operand} {b:Nat} {l:List UInt8} (hu:P.underlying t=some .string) (hx:ev ρ x=some (str l)) (hb:ev ρ hi=some (.int k' (b:Int)))
    (hbl:b≤l.length) (h:R (str (l.take b)) w):Op1 P n D ⟨dst,.slice t x none (some hi) none,ty,pos,af,g⟩ ρ w R :=
  Op1.val (fun c hc=>by
    simp [execOp,hc.ev hx,hc.ev hb,Instr.sliceAt,Instr.slice,run_underlying hu,Instr.sliceBounds,size_str,run_sliceBoundN hbl,ByteArray.extract_mk]) h
theorem op_lenStr {l:List UInt8} {at_:TypeId} (hu:P.underlying at_=some .string) (hx:ev ρ x=some (str l)) (h:R (vN l.length) w):Op1 P n D ⟨dst,.call { callee:=.builtin .len,args:=#[x],argTypes:=#[at_] },ty,pos,af,g⟩ ρ w R :=
  Op1.val (fun c hc=>by simp [execOp,resolve,invoke,builtin,hc.ev hx,run_len_string w at_ ty _ hu,goInt,size_str]) h
theorem op_lenA {v:Value} {m:Nat} {xs:List Value} {at_ e:TypeId} (hu:P.underlying at_=some (.slice e)) (hx:ev ρ x=some v) (hA:Arr w v sz m xs) (h:R (vN m) w) :
    Op1 P n D ⟨dst,.call { callee:=.builtin .len,args:=#[x],argTypes:=#[at_] },ty,pos,af,g⟩ ρ w R:=by
  obtain ⟨a0,cap,rfl,hn,hc,ha0,hsp⟩:=hA.form
  exact Op1.val (fun c hc=>by simp [execOp,resolve,invoke,builtin,hc.ev hx,Builtin.len_,run_underlying hu,goInt]) h
end
end Go.Owl
namespace Go.Owl
def fillL (place:Nat→Option (Nat × Nat)):List Value→List (Nat × Value)→Option (List Value)
  | cells,[]=>some cells
  | cells,(i,v)::rest =>
    match place i with
    | none=>none
    | some (off,size) =>
      if Nat.beq v.cells.size size&&Nat.ble (off+size) cells.length then fillL place (cells.take off++(v.cells.toList++cells.drop (off+size))) rest else none
theorem foldl_sets (off:Nat): ∀(vs:List Value) (k:Nat) (arr:Array Value),off+k+vs.length≤arr.size →
    (vs.zipIdx k).foldl (fun (cs:Array Value) (p:Value × Nat)=>cs.setIfInBounds (off+p.2) p.1) arr=(arr.toList.take (off+k)++(vs++arr.toList.drop (off+k+vs.length))).toArray
  | [],k,arr,_=>by simp
  | v::vs,k,arr,h=>by
    simp only [List.length_cons] at h
    simp only [List.zipIdx_cons,List.foldl_cons]
    rw [foldl_sets off vs (k+1) _ (by simp; omega)]
    apply Array.ext'
    have hl:off+k<arr.toList.length:=by simp; omega
    simp only [Array.toList_setIfInBounds]
    have e1:List.take (off+(k+1)) (arr.toList.set (off+k) v)=List.take (off+k) arr.toList++[v]:=by
      rw [←Nat.add_assoc,List.take_add_one,List.take_set_of_le (by omega)]
      simp at hl; simp [hl]
    have e2:List.drop (off+(k+1)+vs.length) (arr.toList.set (off+k) v)=List.drop (off+k+(v::vs).length) arr.toList:=by
      rw [List.drop_set_of_lt (by omega)]
      congr 1
      simp; omega
    rw [e1,e2]
    simp
theorem fill_of {place:Nat→Option (Nat × Nat)}: ∀ {parts:List (Nat × Value)} {cells cs:List Value},fillL place cells parts=some cs→Instr.fill place cells.toArray parts=some cs.toArray
  | [],cells,cs,h=>by simp only [fillL,Option.some.injEq] at h; subst h; rfl
  | (i,v)::rest,cells,cs,h=>by
    simp only [fillL] at h
    simp only [Instr.fill]
    cases hp:place i with
    | none=>rw [hp] at h; cases h
    | some os =>
      obtain ⟨off,size⟩:=os
      rw [hp] at h
      simp only at h ⊢
      split at h
      · rename_i hc
        rw [Bool.and_eq_true,Nat.ble_eq] at hc
        have hc0:v.cells.size=size:=Nat.eq_of_beq_eq_true hc.1
        have hc:v.cells.size=size∧off+size≤cells.length:=⟨hc0,hc.2⟩
        have h1:¬(v.cells.size≠size||decide (off+v.cells.size>cells.toArray.size))=true:=by simp [hc.1]; omega
        rw [if_neg h1]
        have h2:=foldl_sets off v.cells.toList 0 cells.toArray (by simp [hc.1]; omega)
        have h3:(v.cells.zipIdx.foldl (fun (cs:Array Value) (p:Value × Nat)=>cs.setIfInBounds (off+p.2) p.1) cells.toArray)=(cells.take off++(v.cells.toList++cells.drop (off+size))).toArray:=by
          rw [←Array.foldl_toList]
          simp only [Array.toList_zipIdx]
          rw [h2]
          simp [hc.1]
        rw [h3]
        exact fill_of h
      · cases h
def plB (P:Program) (t:TypeId):Option (List (Nat × Nat)) :=
  match P.underlying t with
  | some (.struct fs)=>fs.toList.mapM fun f=>match P.info? f.type with
    | some i=>some (f.offset,i.size)
    | none=>none
  | _=>none
def evP (ρ:Env):List (Nat × Operand)→Option (List (Nat × Value))
  | []=>some []
  | (i,x)::l=>match ev ρ x,evP ρ l with
    | some v,some vs=>some ((i,v)::vs)
    | _,_=>none
section
variable {P:Program} {n:Nat} {D:List Deferred} {ρ:Env} {w w0:World} {R:Value→World→Prop} {dst:Option Tmp} {ty:TypeId} {pos:String} {af:Array Edge} {g:Option (Nat × Bool)}
variable {S:List Nat} {L:List Ent} {i:Nat} {t t' T:TypeId} {x y:Operand} {z:List Value} {sz by_:Nat} {d:TypeDesc}
theorem Agr.evP {a:Act} (h:Agr n D ρ a): ∀ {l:List (Nat × Operand)} {vs:List (Nat × Value)},Owl.evP ρ l=some vs→l.map (fun (p:Nat × Operand)=>(p.1,a.eval p.2))=vs
  | [],vs,hx=>by simp [Owl.evP] at hx; simp [←hx]
  | (i,x)::l,vs,hx=>by
    simp only [Owl.evP] at hx
    split at hx
    · rename_i v ws h1 h2
      injection hx with hx
      rw [←hx,List.map_cons,h.ev h1,h.evP h2]
    · cases hx
theorem run_zeroValue (hz:tiB P T=some (z,sz,by_)): ∃v,(zeroValue T).run P w=.ok v w∧v.cells.toList=z:=by
  obtain ⟨i,v,hi,hv,hc,hs,hb⟩:=tiB_spec hz
  exact ⟨v,by simp [zeroValue,typeInfo,hi,hv],hc⟩
theorem mapM_places {fs:List Field}: ∀ {pl:List (Nat × Nat)},(fs.mapM fun f=>match P.info? f.type with
    | some i=>some (f.offset,i.size)
    | none=>none)=some pl→(List.mapM (m:=Sem) (fun (f:Field)=>do pure (f.offset,←sizeOf f.type)) fs).run P w=.ok pl w:=by
  induction fs with
  | nil=>intro pl h; simp at h; subst h; simp
  | cons f fs ih =>
    intro pl h
    simp only [List.mapM_cons] at h
    cases hi:P.info? f.type with
    | none=>simp [hi] at h
    | some i =>
      simp only [hi] at h
      cases hr:(fs.mapM fun f=>match P.info? f.type with
        | some i=>some (f.offset,i.size)
        | none=>none) with
      | none=>simp [hr] at h
      | some pl' =>
        simp [hr] at h
        subst h
        have:=ih hr
        simp only [List.mapM_cons,Sem.run_bind,run_sizeOf' hi,Result.andThen_ok,Sem.run_pure,this]
theorem op_build {parts:Array (Nat × Operand)} {pl:List (Nat × Nat)} {pvs:List (Nat × Value)} {cs:List Value} (hz:tiB P T=some (z,sz,by_)) (hp:plB P T=some pl) (hv:evP ρ parts.toList=some pvs)
    (hf:fillL (pl[·]?) z pvs=some cs) (h:R (.agg cs.toArray) w):Op1 P n D ⟨dst,.build T parts,ty,pos,af,g⟩ ρ w R:=by
  unfold plB at hp
  split at hp
  · rename_i fs hu
    refine Op1.val (fun a ha=>?_) h
    obtain ⟨v,h1,h2⟩:=run_zeroValue (P:=P) (w:=w) hz
    have h3:(parts.map fun (p:Nat × Operand)=>(p.1,a.eval p.2)).toList=pvs:=by rw [Array.toList_map]; exact ha.evP hv
    have h4:Instr.fill (pl[·]?) v.cells pvs=some cs.toArray:=by
      have:v.cells=z.toArray:=by rw [←h2]
      rw [this]; exact fill_of hf
    have h5:(fs.mapM (m:=Sem) fun (f:Field)=>do pure (f.offset,←sizeOf f.type)).run P w=.ok pl.toArray w:=by
      have e:fs=fs.toList.toArray:=by simp
      rw [e,List.mapM_toArray,Sem.run_map,mapM_places hp]
      rfl
    have h6:(Instr.build T (parts.map fun (p:Nat × Operand)=>(p.1,a.eval p.2))).run P w=.ok (.agg cs.toArray) w:=by
      unfold Instr.build
      simp only [Sem.run_bind,h1,Result.andThen_ok,run_underlying hu,h5,h3]
      have h7:Instr.fill (fun (x:Nat)=>pl.toArray[x]?) v.cells pvs=some cs.toArray:=by
        have:(fun (x:Nat)=>pl.toArray[x]?)=(fun (x:Nat)=>pl[x]?):=by funext x; simp
        rw [this]; exact h4
      simp only [h7]
      rfl
    simp only [execOp,Sem.run_bind,Sem.run_pure]
    exact (congrArg (fun r=>Result.andThen r _) h6)
  · cases hp
theorem op_buildA {parts:Array (Nat × Operand)} {len:Nat} {e:TypeId} {z':List Value} {sz' by':Nat} {pvs:List (Nat × Value)} {cs:List Value} (hz:tiB P T=some (z,sz,by_)) (hu:P.underlying T=some (.array len e))
    (he:tiB P e=some (z',sz',by')) (hv:evP ρ parts.toList=some pvs)
    (hf:fillL (fun i=>some (i * sz',sz')) z pvs=some cs) (h:R (.agg cs.toArray) w):Op1 P n D ⟨dst,.build T parts,ty,pos,af,g⟩ ρ w R:=by
  refine Op1.val (fun a ha=>?_) h
  obtain ⟨v,h1,h2⟩:=run_zeroValue (P:=P) (w:=w) hz
  have h3:(parts.map fun (p:Nat × Operand)=>(p.1,a.eval p.2)).toList=pvs:=by rw [Array.toList_map]; exact ha.evP hv
  have h4:Instr.fill (fun i=>some (i * sz',sz')) v.cells pvs=some cs.toArray:=by
    have:v.cells=z.toArray:=by rw [←h2]
    rw [this]; exact fill_of hf
  have h6:(Instr.build T (parts.map fun (p:Nat × Operand)=>(p.1,a.eval p.2))).run P w=.ok (.agg cs.toArray) w:=by
    unfold Instr.build
    simp only [Sem.run_bind,h1,Result.andThen_ok,run_underlying hu,run_sizeOf he,h3,h4]
    rfl
  simp only [execOp,Sem.run_bind,Sem.run_pure]
  exact (congrArg (fun r=>Result.andThen r _) h6)
def zeros (z:List Value):Nat→List Value
  | 0=>[]
  | k+1=>z++zeros z k
theorem zeros_length (z:List Value): ∀k,(zeros z k).length=k * z.length
  | 0=>by simp [zeros]
  | k+1=>by simp [zeros,zeros_length z k,Nat.add_mul]; omega
theorem zeros_get (z:List Value): ∀k j,j<k * z.length→(zeros z k)[j]?=z[j%z.length]?
  | 0,j,h=>by simp at h
  | k+1,j,h=>by
    simp only [zeros]
    by_cases hj:j<z.length
    · rw [List.getElem?_append_left hj,Nat.mod_eq_of_lt hj]
    · rw [List.getElem?_append_right (by omega),zeros_get z k (j-z.length) (by rw [Nat.add_mul] at h; omega)]
      congr 1
      exact (Nat.mod_eq_sub_mod (by omega)).symm
theorem range_zeros (zc:Array Value) (k q:Nat) (hq:q=k * zc.size):(Array.range q).map (fun i=>zc[i%zc.size]!)=(zeros zc.toList k).toArray:=by
  subst hq
  apply Array.ext'
  apply List.ext_getElem?
  intro j
  simp only [Array.toList_map,Array.toList_range,List.getElem?_map]
  by_cases hj:j<k * zc.size
  · rw [List.getElem?_range hj,zeros_get _ _ _ (by simpa using hj)]
    have hs:j%zc.size<zc.size:=Nat.mod_lt _ (Nat.pos_of_ne_zero (by intro e; rw [e] at hj; simp at hj))
    simp [hs]
  · have h1:(List.range (k * zc.size))[j]?=none:=by rw [List.getElem?_eq_none]; simp; omega
    have h2:(zeros zc.toList k)[j]?=none:=by rw [List.getElem?_eq_none]; rw [zeros_length]; simp; omega
    rw [h1]; simp [h2]
theorem op_buildSlice {len:Nat} {parts:Array (Nat × Operand)} {e:TypeId} {pvs:List (Nat × Value)} {cs:List Value} (H:Own S w0 w L) (hu:P.underlying T=some (.slice e)) (hz:tiB P e=some (z,sz,by_)) (hzl:z.length=sz)
    (hv:evP ρ parts.toList=some pvs) (hf:fillL (fun i=>some (i * sz,sz)) (zeros z len) pvs=some cs) (hcl:cs.length=len * sz) (hle:len * sz≤16777216) (hlen:len≤16777216)
    (h: ∀b w',Own S w0 w' (L++[.row (.slice (some ⟨b,0,none⟩) len len) e sz len cs])→R (.slice (some ⟨b,0,none⟩) len len) w'):Op1 P n D ⟨dst,.buildSlice T len parts,ty,pos,af,g⟩ ρ w R:=by
  refine Op1.val (w':=w.alloc (.cells cs.toArray e)) (v:=.slice (some ⟨w.heap.size,0,none⟩) len len) (fun a ha=>?_) (h _ _ ?_)
  · have h3:(parts.map fun (p:Nat × Operand)=>(p.1,a.eval p.2)).toList=pvs:=by rw [Array.toList_map]; exact ha.evP hv
    obtain ⟨v,h1,h2⟩:=run_zeroValue (P:=P) (w:=w) hz
    have hvs:v.cells.size=sz:=by rw [←hzl,←h2]; simp
    have h4: ∀zc:Array Value,(if len * sz=0 then zc=#[] else zc=v.cells)→Instr.fill (fun i=>some (i * sz,sz)) ((Array.range (len * sz)).map (fun i=>zc[i%zc.size]!)) pvs=some cs.toArray:=by
      intro zc hzc
      by_cases h0:len * sz=0
      · have e0:zeros z len=[]:=List.eq_nil_of_length_eq_zero (by rw [zeros_length,hzl]; exact h0)
        rw [e0] at hf
        simp only [h0]
        have h9:(Array.range 0).map (fun i=>zc[i%zc.size]!)=([]:List Value).toArray:=by apply Array.ext'; simp [Array.range]
        rw [h9]
        exact fill_of hf
      · rw [if_neg h0] at hzc
        subst hzc
        rw [range_zeros v.cells len (len * sz) (by rw [hvs]),h2]
        exact fill_of hf
    have h6:(Instr.buildSlice T len (parts.map fun (p:Nat × Operand)=>(p.1,a.eval p.2))).run P w=.ok (.slice (some ⟨w.heap.size,0,none⟩) len len) (w.alloc (.cells cs.toArray e)):=by
      unfold Instr.buildSlice
      have hle':¬(len * sz>2^24):=by omega
      simp only [Sem.run_bind,run_underlying hu,Result.andThen_ok,run_sizeOf hz,hle',if_false,h3]
      by_cases h0:len * sz=0
      · have h4':=h4 #[] (by simp [h0])
        simp only [h0,if_true]
        rw [h0] at h4'
        simp only [h4',Sem.run_bind,Sem.run_pure,newRow,run_newObj,Result.andThen_ok]
        rfl
      · have h4':=h4 v.cells (by simp [h0])
        simp only [h0,if_false,Sem.run_bind,h1,Sem.run_pure,Result.andThen_ok]
        simp only [h4',Sem.run_bind,Sem.run_pure,newRow,run_newObj,Result.andThen_ok]
        rfl
    simp only [execOp,Sem.run_bind,Sem.run_pure]
    exact (congrArg (fun r=>Result.andThen r _) h6)
  · refine H.new (Fr.alloc _ _) ⟨by simpa using hcl,.inr ⟨w.heap.size,len,[],[],rfl,?_,Nat.le_refl _,by unfold maxLen; omega,by simp [hcl]⟩⟩ (fun b hb=>?_)
    · simpa using Blk.alloc w cs e
    · simp only [Ent.Owns,Value.ownBlock,Option.some.injEq] at hb; omega
end
end Go.Owl
namespace Go.Owl
section
variable {P:Program} {n:Nat} {D:List Deferred} {ρ:Env} {w w0:World} {R:Value→World→Prop} {dst:Option Tmp} {ty:TypeId} {pos:String} {af:Array Edge} {g:Option (Nat × Bool)}
variable {S:List Nat} {L:List Ent} {i:Nat} {t t' T T':TypeId} {x y:Operand} {z:List Value} {sz by_:Nat} {d:TypeDesc}
structure Src (P:Program) (w:World) (T:TypeId) (sz:Nat) (u:Value) (m:Nat) (ys:List Value):Prop where
  und: ∃d,P.underlying T=some d∧(∀k,d≠.int k)
  len: ∀w',(Builtin.lenOf u).run P w'=.ok m w'
  size:ys.length=m * sz
  cells: ∀w':World,w'.heap=w.heap→(Builtin.firstCells sz m u).run P w'=.ok ys.toArray w'
theorem Src.ofArr {u:Value} {m:Nat} {ys:List Value} {e:TypeId} (hu:P.underlying T=some (.slice e)) (hA:Arr w u sz m ys):Src P w T sz u m ys:=by
  obtain ⟨a0,cap,rfl,hn,hc,ha0,hsp⟩:=hA.form
  refine ⟨⟨_,hu,fun k h=>by cases h⟩,fun w'=>by simp [Builtin.lenOf],hA.len,fun w' hw=>?_⟩
  cases a0 with
  | none =>
    have:ys=[]:=List.eq_nil_of_length_eq_zero (by rw [hA.len,(ha0 rfl).1]; simp)
    subst this
    simp [Builtin.firstCells]
  | some ad =>
    by_cases hm0:m=0
    · subst hm0
      have:ys=[]:=List.eq_nil_of_length_eq_zero (by rw [hA.len]; simp)
      subst this
      exact run_firstCells_some w' sz 0 ad 0 cap [] (by simp) (fun j v hj=>by simp at hj)
    have hs0:=hsp hm0 ad rfl
    obtain ⟨b,o,s⟩:=ad
    simp at hs0; subst hs0
    refine run_firstCells_some w' sz m ⟨b,o,none⟩ m cap ys hA.len (fun j v hj=>?_)
    rw [Addr.add_at]
    have hj':j<ys.length:=(List.getElem?_eq_some_iff.1 hj).1
    have h1:=hA.cell j hj'
    rw [←hj,←h1]
    exact World.cell?_of_block (w:=w) (by rw [hw])
theorem Src.ofStr {l:List UInt8} (hu:P.underlying T=some .string):Src P w T 1 (str l) l.length (l.map vU8):=by
  refine ⟨⟨_,hu,fun k h=>by cases h⟩,fun w'=>by simp [Builtin.lenOf,size_str],by simp,fun w' _=>?_⟩
  simp only [Builtin.firstCells,ByteArray.extract_mk]
  simp
theorem notInt {d:TypeDesc} (h: ∀k,d≠.int k):(match d with | TypeDesc.int _=>true | _=>false)=false:=by
  cases d<;>first | rfl | exact absurd rfl (h _)
theorem run_append_row {v u:Value} {q m:Nat} {xs ys:List Value} (hu:P.underlying T=some (.slice t)) (hz:tiB P t=some (z,sz,by_)) (hzl:z.length=sz) (hr:RowOK w v t sz q xs) (hs:Src P w T' sz u m ys)
    (h1: ∀c∈ys,c.oneCell'=true) (h63:q+m≤maxLen) (hby:(q+m) * by_≤140737488355328) :
    ∃v' w',(Builtin.append_ #[T,T'] ty #[v,u]).run P w=.ok v' w'∧RowOK w' v' t sz (q+m) (xs++ys)∧Fr v.ownBlock.toList w w'∧(∀b,v'.ownBlock=some b→v.ownBlock=some b∨w.heap.size≤b):=by
  obtain ⟨ti,zv,hti,htz,hcz,htsz,htby⟩:=tiB_spec hz
  obtain ⟨dd,hdd,hni⟩:=hs.und
  have hint:=notInt hni
  have hlen:(xs++ys).length=(q+m) * sz:=by rw [List.length_append,hr.1,hs.size,Nat.add_mul]
  have hmx:(q+m:Nat)≤9223372036854775807:=by unfold maxLen at h63; omega
  have hzs:zv.cells.size=sz:=by rw [←hzl,←hcz]; simp
  have key: ∀base cap,v=.slice base q cap→(base=none→q=0∧cap=0) →
      (q+m≤cap→∀a,base=some a→∃w',(storeCells (a.add (q * sz)) ys).run P w=.ok () w'∧RowOK w' (.slice base (q+m) cap) t sz (q+m) (xs++ys)∧Fr v.ownBlock.toList w w') →
      (Builtin.firstCells sz q v).run P w.drew=.ok xs.toArray w.drew →
      ∃v' w',(Builtin.append_ #[T,T'] ty #[v,u]).run P w=.ok v' w'∧RowOK w' v' t sz (q+m) (xs++ys)∧Fr v.ownBlock.toList w w'∧(∀b,v'.ownBlock=some b→v.ownBlock=some b∨w.heap.size≤b):=by
    intro base cap hv hbase hroom hold
    subst hv
    have hl0:=hs.len w
    by_cases hc:q+m≤cap
    · cases base with
      | none =>
        have:=hbase rfl
        have hq:q=0:=this.1
        have hm:m=0:=by omega
        subst hq; subst hm
        have hxs:xs=[]:=List.eq_nil_of_length_eq_zero (by rw [hr.1]; simp)
        have hys:ys=[]:=List.eq_nil_of_length_eq_zero (by rw [hs.size]; simp)
        subst hxs; subst hys
        refine ⟨.slice none 0 cap,w,?_,by simpa using hr,Fr.refl _ _,fun b hb=>.inl hb⟩
        simp [Builtin.append_,run_underlying hu,run_underlying hdd,run_sizeOf hz,hl0,hs.cells w rfl]
      | some a =>
        obtain ⟨w',h2,h3,h4⟩:=hroom hc a rfl
        refine ⟨_,w',?_,h3,h4,fun b hb=>.inl hb⟩
        simp [Builtin.append_,run_underlying hu,run_underlying hdd,run_sizeOf hz,hl0,hs.cells w rfl,hc,h2]
    · have hge:=grownCap_ge w (q+m) cap t
      have hcm:grownCap w (q+m) cap t≤maxLen:=grownCap_le_maxLen w (q+m) cap t h63
      have hfit:¬(281474976710656<Builtin.nextslicecap (q+m) cap * ti.bytes):=by
        have:=growslice_fits (need:=q+m) (old:=cap) (bytes:=ti.bytes) (by omega) (by rw [htby]; exact hby)
        omega
      have h63':¬(9223372036854775807<((q:Int)+(m:Int))):=by omega
      have hn:=hs.cells w.drew rfl
      refine ⟨.slice (some ⟨w.heap.size,0,none⟩) (q+m) (grownCap w (q+m) cap t),w.drew.alloc (.cells (xs.toArray++ys.toArray++Builtin.zeroCells zv.cells (grownCap w (q+m) cap t-(q+m))) t),?_,?_,?_,?_⟩
      · simp [Builtin.append_,run_underlying hu,run_underlying hdd,run_sizeOf hz,hl0,hc,h63',typeInfo,zeroValue,hti,htz,hfit,Question.forced,hold,hn,newRow,grownCap]
        refine congrArg (fun c=>World.alloc w.drew (Obj.cells c t)) ?_
        apply Array.ext'; simp
      · refine ⟨hlen,.inr ⟨w.heap.size,_,[],(Builtin.zeroCells zv.cells (grownCap w (q+m) cap t-(q+m))).toList,rfl,?_,hge,hcm,?_⟩⟩
        · have hb:=Blk.alloc w.drew (xs++ys++(Builtin.zeroCells zv.cells (grownCap w (q+m) cap t-(q+m))).toList) t
          have e:(xs++ys++(Builtin.zeroCells zv.cells (grownCap w (q+m) cap t-(q+m))).toList).toArray=xs.toArray++ys.toArray++Builtin.zeroCells zv.cells (grownCap w (q+m) cap t-(q+m)):=by
            apply Array.ext'; simp
          rw [e] at hb
          simpa using hb
        · have h9:(Builtin.zeroCells zv.cells (grownCap w (q+m) cap t-(q+m))).toList.length=(grownCap w (q+m) cap t-(q+m)) * sz:=by
            rw [Array.length_toList,size_zeroCells,hzs]
          rw [h9,hlen,←Nat.add_mul]
          exact Nat.le_of_eq (congrArg (· * sz) (by omega))
      · exact ((Fr.drew w).trans (Fr.alloc _ _)).nil
      · intro b hb
        simp only [Value.ownBlock,Option.some.injEq] at hb
        right; omega
  rcases hr.2 with ⟨rfl,rfl⟩ | ⟨gb,cap,pre,junk,rfl,hb,hn,hc,hj⟩
  · have hxs:xs=[]:=List.eq_nil_of_length_eq_zero (by rw [hr.1]; simp)
    subst hxs
    exact key none 0 rfl (fun _=>⟨rfl,rfl⟩) (fun _ a ha=>by cases ha) (by simp [Builtin.firstCells])
  · refine key (some ⟨gb,pre.length,none⟩) cap rfl (fun h=>by cases h) (fun hroom a ha=>?_) ?_
    · injection ha with ha; subst ha
      have hfit:(q+m) * sz≤xs.length+junk.length:=Nat.le_trans (Nat.mul_le_mul_right _ hroom) hj
      have hys:ys.length≤junk.length:=by rw [Nat.add_mul,←hr.1,←hs.size] at hfit; omega
      have hst:=run_storeCells_blk P gb (pre.length+q * sz) t ys 0 _ w hb (by simp; rw [←hr.1]; omega) h1
      rw [←Addr.add_at] at hst
      have e:List.take (pre.length+q * sz+0) (pre++(xs++junk))++ys++List.drop (pre.length+q * sz+0+ys.length) (pre++(xs++junk))=pre++((xs++ys)++junk.drop ys.length):=by
        rw [←hr.1,Nat.add_zero,Nat.add_assoc]
        rw [List.take_length_add_append,List.drop_length_add_append,List.take_left',List.drop_append]
        · simp
        · rfl
      rw [e] at hst
      refine ⟨_,hst,⟨hlen,.inr ⟨gb,cap,pre,junk.drop ys.length,rfl,hb.setRow _ (by simp; omega),hroom,hc,?_⟩⟩,Fr.setRow _ _ _⟩
      simp only [List.length_append,List.length_drop]; omega
    · refine run_firstCells_some w.drew sz q ⟨gb,pre.length,none⟩ q cap xs hr.1 (fun j u hj=>?_)
      have hA:=hr.arr.at hj
      rw [Addr.add_at]
      exact hA
theorem op_append {v u:Value} {q m:Nat} {xs ys:List Value} (H:Own S w0 w L) (hu:P.underlying T=some (.slice t)) (hz:tiB P t=some (z,sz,by_)) (hzl:z.length=sz) (hx:ev ρ x=some v) (hy:ev ρ y=some u)
    (hi:L[i]?=some (Ent.row v t sz q xs)) (hs:Src P w T' sz u m ys) (h1: ∀c∈ys,c.oneCell'=true) (h63:q+m≤9223372036854775807) (hby:(q+m) * by_≤140737488355328)
    (h: ∀v' w',Own S w0 w' (L.set i (.row v' t sz (q+m) (xs++ys)))→R v' w'):Op1 P n D ⟨dst,.call { callee:=.builtin .append,args:=#[x,y],argTypes:=#[T,T'] },ty,pos,af,g⟩ ρ w R:=by
  obtain ⟨v',w',h2,h3,h4,h5⟩:=run_append_row (ty:=ty) hu hz hzl (H.row hi) hs h1 (by unfold maxLen; omega) hby
  refine Op1.val (w':=w') (v:=v') (fun a ha=>?_) (h _ _ (H.upd hi h4 (fun b hb=>by simpa [Ent.Owns] using hb) h3 h5))
  simp [execOp,resolve,invoke,builtin,ha.ev hx,ha.ev hy,h2]
theorem op_bytesStr {v:Value} {m:Nat} {xs:List Value} {l:List UInt8} {e:TypeId} (hu:P.underlying t=some (.slice e)) (he:P.underlying e=some (.int .u8)) (hd:P.underlying t'=some .string) (hx:ev ρ x=some v)
    (hA:Arr w v 1 m xs) (hl:xs=l.map vU8) (h:R (str l) w):Op1 P n D ⟨dst,.convert t t' x,ty,pos,af,g⟩ ρ w R:=by
  obtain ⟨a0,cap,rfl,hn,hc,ha0,hsp⟩:=hA.form
  refine Op1.val (fun a ha=>?_) h
  cases a0 with
  | none =>
    have h0:xs=[]:=List.eq_nil_of_length_eq_zero (by rw [hA.len,(ha0 rfl).1])
    have hl0:l=[]:=by
      rw [h0] at hl
      exact List.map_eq_nil_iff.1 hl.symm
    subst hl0
    have e1:(convert t t' (.slice none m cap)).run P w=.ok (str []) w:=by
      rw [run_convert_bytes_string w t t' e none m cap hu he hd]
      simp only [Conv.bytesToString,Sem.run_pure]
      rfl
    simp [execOp,ha.ev hx,e1]
  | some ad =>
    by_cases hm0:m=0
    · subst hm0
      have h0:xs=[]:=List.eq_nil_of_length_eq_zero (by rw [hA.len])
      have hl0:l=[]:=by
        rw [h0] at hl
        exact List.map_eq_nil_iff.1 hl.symm
      subst hl0
      have h1:(loadCells ad 0).run P w=.ok (([]:List Int).map (Value.int .u8)).toArray w:=run_loadCells_list (P:=P) w ad [] (fun j u hj=>by simp at hj)
      have e1:(convert t t' (.slice (some ad) 0 cap)).run P w=.ok (str []) w:=by
        rw [run_convert_bytes_string w t t' e _ 0 cap hu he hd,run_bytesToString w _ 0 cap _ h1,foldl_push_bytes]
        rfl
      simp [execOp,ha.ev hx,e1]
    have hs0:=hsp hm0 ad rfl
    obtain ⟨b,o,s⟩:=ad
    simp at hs0; subst hs0
    have hm:m=l.length:=by have:=hA.len; rw [hl] at this; simpa using this.symm
    have h1:(loadCells ⟨b,o,none⟩ m).run P w=.ok ((l.map fun c=>(c.toNat:Int)).map (Value.int .u8)).toArray w:=by
      have h2:=run_loadCells_list (P:=P) w ⟨b,o,none⟩ xs (fun j u hj=>by rw [Addr.add_at]; exact hA.at hj)
      rw [hA.len,Nat.mul_one] at h2
      rw [h2,hl]; simp [Function.comp_def]
    have e1:(convert t t' (.slice (some ⟨b,o,none⟩) m cap)).run P w=.ok (str l) w:=by
      rw [run_convert_bytes_string w t t' e _ m cap hu he hd,run_bytesToString w _ m cap _ h1,foldl_push_bytes]
      simp only [List.map_map]
      have e2:((fun n:Int=>UInt8.ofNat n.toNat) ∘ fun c:UInt8=>(c.toNat:Int))=id:=by funext c; simp
      rw [e2]
      simp
    simp [execOp,ha.ev hx,e1]
theorem op_strBytes {l:List UInt8} {e:TypeId} (H:Own S w0 w L) (hu:P.underlying t=some .string) (he:P.underlying e=some (.int .u8)) (hd:P.underlying t'=some (.slice e)) (hx:ev ρ x=some (str l)) (hl:l.length≤9223372036854775807)
    (h: ∀v w',Own S w0 w' (L++[.row v e 1 l.length (l.map vU8)])→R v w'):Op1 P n D ⟨dst,.convert t t' x,ty,pos,af,g⟩ ρ w R:=by
  have hcap:=grownCap_ge w l.length 0 e
  have hcm:=grownCap_le_maxLen w l.length 0 e (by unfold maxLen; omega)
  let cs:List Value:=l.map vU8++List.replicate (grownCap w l.length 0 e-l.length) (.int .u8 0)
  have hcs:cs.length=grownCap w l.length 0 e:=by simp only [cs,List.length_append,List.length_map,List.length_replicate]; omega
  let w':World:=(w.drew.alloc (.cells cs.toArray e)).freeze ⟨w.heap.size,cs.length,none⟩ 1
  have hheap: ∀k,w'.heap[k]?=if k=w.heap.size then some (.cells cs.toArray e (cs.length,cs.length+1)) else w.heap[k]?:=by
    intro k
    have h1:(w.drew.alloc (.cells cs.toArray e)).heap=w.heap.push (.cells cs.toArray e):=rfl
    simp only [w',World.freeze,Nat.one_ne_zero,if_false,h1,Array.getElem?_modify]
    by_cases hk:k=w.heap.size
    · subst hk; simp
    · rw [if_neg (fun e=>hk e.symm),if_neg hk,Array.getElem?_push,if_neg hk]
  have hsize:w'.heap.size=w.heap.size+1:=by
    simp [w',World.freeze]
  have hf:Fr [] w w':=by
    refine ⟨by simp only [w',World.freeze,Nat.one_ne_zero,if_false]; rfl,by simp only [w',World.freeze,Nat.one_ne_zero,if_false]; rfl,by simp only [w',World.freeze,Nat.one_ne_zero,if_false]; rfl,by omega,fun k hk _=>by rw [hheap,if_neg (by omega)]⟩
  refine Op1.val (w':=w') (v:=.slice (some ⟨w.heap.size,0,none⟩) l.length (grownCap w l.length 0 e)) (fun a ha=>?_) (h _ _ (H.new hf ⟨by simp,.inr ⟨w.heap.size,_,[],List.replicate (grownCap w l.length 0 e-l.length) (.int .u8 0),rfl,⟨(cs.length,cs.length+1),.inr (Nat.le_of_eq (by simp [cs])),by rw [hheap,if_pos rfl]; rfl⟩,hcap,hcm,by simp; omega⟩⟩ (fun b hb=>?_)))
  · have e1:(convert t t' (str l)).run P w=.ok (.slice (some ⟨w.heap.size,0,none⟩) l.length (grownCap w l.length 0 e)) w':=by
      have e3:(Array.map (fun b:UInt8=>Value.int .u8 (b.toNat:Int)) l.toArray)++Array.replicate (grownCap w l.length 0 e-l.length) (.int .u8 0)=cs.toArray:=by apply Array.ext'; simp [cs]
      have e2:(Conv.stringToBytes e ⟨l.toArray⟩).run P w=.ok (.slice (some ⟨w.heap.size,0,none⟩) l.length (grownCap w l.length 0 e)) w':=by
        unfold Conv.stringToBytes
        have hsh:(w.drew.alloc (.cells cs.toArray e)).shape? w.heap.size=some (e,cs.length):=by
          have:=heap_alloc_new w.drew (.cells cs.toArray e)
          have h5:(w.drew.alloc (.cells cs.toArray e)).heap[w.heap.size]?=some (.cells cs.toArray e):=this
          unfold World.shape?
          rw [h5]
          rfl
        simp only [size_str,Sem.run_bind,run_choose,Question.forced,Bool.false_eq_true,if_false,Result.andThen_ok,newRow,run_newObj,Sem.run_pure]
        have e4:(Question.appendCap l.length 0 e).cut (w.tape w.drawn (Question.appendCap l.length 0 e))=grownCap w l.length 0 e:=rfl
        simp only [e4]
        rw [e3]
        have h7:(markStringish ⟨w.heap.size,0,none⟩).run P (w.drew.alloc (.cells cs.toArray e))=.ok () w':=by
          simp only [markStringish,Sem.run_bind,run_shape,hsh,Result.andThen_ok,run_freeze]
          rfl
        exact (congrArg (fun r=>Result.andThen r _) h7)
      simp [convert,run_underlying hu,run_underlying hd,run_underlying he,e2]
    simp [execOp,ha.ev hx,e1]
  · simp only [Ent.Owns,Value.ownBlock,Option.some.injEq] at hb; omega
end
end Go.Owl
namespace Go.Owl
abbrev Fp:=Nat × Value
inductive Sp where
  | det (v:Value) (dp:Option Nat)
  | flt (mk:Fp→Value) (ent:Fp→Ent)
def Sp.val:Sp→Fp→Value
  | .det v _,_=>v
  | .flt m _,b=>m b
def entAt (sp:List Sp) (β:Nat→Fp) (i:Nat):Ent:=match sp[i]? with
  | some (.flt _ e)=>e (β i)
  | _=>.obj 0 (.map #[] 0)
def Sp.isF:Sp→Bool
  | .flt _ _=>true
  | .det _ _=>false
def Sp.dep:Sp→Option Nat
  | .det _ dp=>dp
  | .flt _ _=>none
def Sp.mark (s:Sp):Bool × Option Nat:=(s.isF,s.dep)
structure Fl1 where
  idx:Nat
  dst:Option Tmp
  mk':Fp→Value
  ent:Fp→Ent
section
variable {P:Program} {n:Nat} {D:List Deferred} {ρ:Env} {w w0:World} {S:List Nat} {L:List Ent} {ops:Array Oper} {Q:Exit→Act→World→Prop}
def DetAt (P:Program) (n:Nat) (D:List Deferred) (S:List Nat) (w0:World) (L:List Ent) (o:Oper) (ρ:Env) (v:Value):Prop :=
  ∀w1,Own S w0 w1 L→Op1 P n D o ρ w1 (fun u w2=>u=v∧Fr [] w1 w2)
def FltAt (P:Program) (n:Nat) (D:List Deferred) (S:List Nat) (w0:World) (L:List Ent) (o:Oper) (ρ:Env) (mk:Fp→Value) (ent:Fp→Ent):Prop :=
  ∀w1,Own S w0 w1 L→Op1 P n D o ρ w1 (fun u w2=> ∃b,u=mk b∧Own [] w1 w2 [ent b]∧(ent b).solid)
def FltG (P:Program) (n:Nat) (D:List Deferred) (ops:Array Oper) (S:List Nat) (w0:World) (L:List Ent) (o:Oper) (ρ:Env) (mk:Fp→Value) (ent:Fp→Ent):Prop :=
  match o.guard with
  | none=>FltAt P n D S w0 L o ρ mk ent
  | some (j,want)=> ∃t u,(ops[j]?).bind (·.dst)=some t∧Env.get ρ t=some u∧sees u=some want∧FltAt P n D S w0 L o ρ mk ent
def DetG (P:Program) (n:Nat) (D:List Deferred) (ops:Array Oper) (S:List Nat) (w0:World) (L:List Ent) (o:Oper) (ρ:Env) (v:Value):Prop :=
  match o.guard with
  | none=>DetAt P n D S w0 L o ρ v
  | some (j,want)=> ∃t u,(ops[j]?).bind (·.dst)=some t∧Env.get ρ t=some u∧((sees u=some want∧DetAt P n D S w0 L o ρ v)∨(sees u≠some want∧v=undef))
def DetD (P:Program) (n:Nat) (D:List Deferred) (ops:Array Oper) (S:List Nat) (w0:World) (L:List Ent) (Γ:List Fl1) (o:Oper) (ρ:Env) (v:Value) (dp:Option Nat):Prop :=
  match dp with
  | none=>DetG P n D ops S w0 L o ρ v
  | some j=> ∃f∈Γ,f.idx=j∧∀b,DetG P n D ops S w0 (L++[f.ent b]) o (ext ρ f.dst (f.mk' b)) v
def HW (P:Program) (n:Nat) (D:List Deferred) (ops:Array Oper) (S:List Nat) (w0:World) (L:List Ent):Nat→List Fl1→List Oper→List Sp→Env→Prop
  | _,_,[],[],_=>True
  | i,Γ,o::l,.det v dp::sp,ρ=>(dp=some i∨DetD P n D ops S w0 L Γ o ρ v dp)∧HW P n D ops S w0 L (i+1) Γ l sp (ext ρ o.dst v)
  | i,Γ,o::l,.flt mk ent::sp,ρ=>FltG P n D ops S w0 L o ρ mk ent∧HW P n D ops S w0 L (i+1) (⟨i,o.dst,mk,ent⟩::Γ) l sp ρ
  | _,_,_,_,_=>False
section
variable {i:Nat} {Γ:List Fl1}
theorem HW.nil:HW P n D ops S w0 L i Γ [] [] ρ:=trivial
theorem HW.op {o l v sp} (hg:o.guard=none) (h:DetAt P n D S w0 L o ρ v) (k:HW P n D ops S w0 L (i+1) Γ l sp (ext ρ o.dst v)):HW P n D ops S w0 L i Γ (o::l) (.det v none::sp) ρ :=
  ⟨.inr (by unfold DetD DetG; rw [hg]; exact h),k⟩
theorem HW.old {o l v sp} (k:HW P n D ops S w0 L (i+1) Γ l sp (ext ρ o.dst v)):HW P n D ops S w0 L i Γ (o::l) (.det v (some i)::sp) ρ:=⟨.inl rfl,k⟩
theorem HW.yes {o l v sp} {j t:Nat} {want b:Bool} (hg:o.guard=some (j,want)) (hj:(ops[j]?).bind (·.dst)=some t) (hv:Env.get ρ t=some (.bool b)) (hb:b=want)
    (h:DetAt P n D S w0 L o ρ v) (k:HW P n D ops S w0 L (i+1) Γ l sp (ext ρ o.dst v)):HW P n D ops S w0 L i Γ (o::l) (.det v none::sp) ρ :=
  ⟨.inr (by unfold DetD DetG; rw [hg]; exact ⟨t,_,hj,hv,.inl ⟨by simp [sees,hb],h⟩⟩),k⟩
theorem HW.no {o l sp} {j t:Nat} {want b:Bool} (hg:o.guard=some (j,want)) (hj:(ops[j]?).bind (·.dst)=some t) (hv:Env.get ρ t=some (.bool b)) (hb:b= !want)
    (k:HW P n D ops S w0 L (i+1) Γ l sp (ext ρ o.dst undef)):HW P n D ops S w0 L i Γ (o::l) (.det undef none::sp) ρ :=
  ⟨.inr (by unfold DetD DetG; rw [hg]; exact ⟨t,_,hj,hv,.inr ⟨by subst hb; cases want<;>simp [sees],rfl⟩⟩),k⟩
theorem HW.non {o l sp} {j t:Nat} {want:Bool} (hg:o.guard=some (j,want)) (hj:(ops[j]?).bind (·.dst)=some t) (hv:Env.get ρ t=some undef)
    (k:HW P n D ops S w0 L (i+1) Γ l sp (ext ρ o.dst undef)):HW P n D ops S w0 L i Γ (o::l) (.det undef none::sp) ρ :=
  ⟨.inr (by unfold DetD DetG; rw [hg]; exact ⟨t,_,hj,hv,.inr ⟨by simp [sees,undef],rfl⟩⟩),k⟩
theorem HW.flt {o l mk ent sp} (hg:o.guard=none) (h:FltAt P n D S w0 L o ρ mk ent) (k:HW P n D ops S w0 L (i+1) (⟨i,o.dst,mk,ent⟩::Γ) l sp ρ):HW P n D ops S w0 L i Γ (o::l) (.flt mk ent::sp) ρ:=⟨by unfold FltG; rw [hg]; exact h,k⟩
end
def dets:List Oper→List Sp→Env→Env
  | o::l,.det v _::sp,ρ=>dets l sp (ext ρ o.dst v)
  | _::l,.flt _ _::sp,ρ=>dets l sp ρ
  | _,_,ρ=>ρ
def fenv:List Oper→List Sp→(Nat→Fp)→Nat→Env→Env
  | _::l,.det _ _::sp,β,i,ρ=>fenv l sp β (i+1) ρ
  | o::l,.flt mk _::sp,β,i,ρ=>fenv l sp β (i+1) (ext ρ o.dst (mk (β i)))
  | _,_,_,_,ρ=>ρ
def fents:List Sp→(Nat→Fp)→Nat→List Ent
  | .det _ _::sp,β,i=>fents sp β (i+1)
  | .flt _ ent::sp,β,i=>ent (β i)::fents sp β (i+1)
  | [],_,_=>[]
theorem HW.len: ∀ {i:Nat} {Γ:List Fl1} {l:List Oper} {sp:List Sp} {ρ:Env},HW P n D ops S w0 L i Γ l sp ρ→sp.length=l.length
  | _,_,[],[],_,_=>rfl
  | _,_,[],_::_,_,h=>h.elim
  | _,_,_::_,[],_,h=>h.elim
  | _,_,o::l,.det v dp::sp,ρ,h=>by simp [h.2.len]
  | _,_,o::l,.flt mk ent::sp,ρ,h=>by simp [h.2.len]
def GamOK (full:List Oper) (fsp:List Sp) (i:Nat) (Γ:List Fl1):Prop:= ∀f∈Γ,f.idx<i∧fsp[f.idx]?=some (.flt f.mk' f.ent)∧∃o,full[f.idx]?=some o∧o.dst=f.dst
theorem HW.at (full:List Oper) (fsp:List Sp): ∀ {i0:Nat} {Γ:List Fl1} {l:List Oper} {sp:List Sp} {ρ:Env},HW P n D ops S w0 L i0 Γ l sp ρ→GamOK full fsp i0 Γ→(∀j,l[j]?=full[i0+j]?)→(∀j,sp[j]?=fsp[i0+j]?) →
    ∀(i:Nat) (o:Oper) (s:Sp),l[i]?=some o→sp[i]?=some s →
    match s with
    | .det v dp=> ∃Γ',GamOK full fsp (i0+i) Γ'∧(dp=some (i0+i)∨DetD P n D ops S w0 L Γ' o (dets (l.take i) (sp.take i) ρ) v dp)
    | .flt mk ent=>FltG P n D ops S w0 L o (dets (l.take i) (sp.take i) ρ) mk ent
  | _,_,[],[],_,_,_,_,_,i,o,s,h1,_=>by simp at h1
  | _,_,[],_::_,_,h,_,_,_,_,_,_,_,_=>h.elim
  | _,_,_::_,[],_,h,_,_,_,_,_,_,_,_=>h.elim
  | i0,Γ,o::l,.det v dp::sp,ρ,h,hG,_,_,0,o',s,h1,h2=>by simp at h1 h2; subst h1; subst h2; exact ⟨Γ,hG,h.1⟩
  | i0,Γ,o::l,.flt mk ent::sp,ρ,h,_,_,_,0,o',s,h1,h2=>by simp at h1 h2; subst h1; subst h2; exact h.1
  | i0,Γ,o::l,.det v dp::sp,ρ,h,hG,hl,hs,i+1,o',s,h1,h2=>by
    have:=HW.at full fsp h.2 (fun f hf=>⟨by have:=(hG f hf).1; omega,(hG f hf).2⟩) (fun j=>by have:=hl (j+1); simpa [Nat.add_assoc,Nat.add_comm 1 j] using this)
      (fun j=>by have:=hs (j+1); simpa [Nat.add_assoc,Nat.add_comm 1 j] using this) i o' s (by simpa using h1) (by simpa using h2)
    rw [show i0+1+i=i0+(i+1) by omega] at this
    exact this
  | i0,Γ,o::l,.flt mk ent::sp,ρ,h,hG,hl,hs,i+1,o',s,h1,h2=>by
    have h0:fsp[i0]?=some (.flt mk ent):=by have:=hs 0; simpa using this.symm
    have h00:full[i0]?=some o:=by have:=hl 0; simpa using this.symm
    have:=HW.at full fsp h.2 (fun f hf=>by
        rcases List.mem_cons.1 hf with rfl | hf
        · exact ⟨by show i0<i0+1; omega,h0,o,h00,rfl⟩
        · exact ⟨by have:=(hG f hf).1; omega,(hG f hf).2⟩) (fun j=>by have:=hl (j+1); simpa [Nat.add_assoc,Nat.add_comm 1 j] using this)
      (fun j=>by have:=hs (j+1); simpa [Nat.add_assoc,Nat.add_comm 1 j] using this) i o' s (by simpa using h1) (by simpa using h2)
    rw [show i0+1+i=i0+(i+1) by omega] at this
    exact this
theorem dets_get: ∀(l:List Oper) (sp:List Sp) (ρ:Env) (t:Nat) (v:Value),Env.get (dets l sp ρ) t=some v →
    (∃(i:Nat) (o:Oper) (dp:Option Nat),l[i]?=some o∧sp[i]?=some (Sp.det v dp)∧o.dst=some t)∨(Env.get ρ t=some v∧∀(i:Nat) (o:Oper) (u:Value) (dp:Option Nat),l[i]?=some o→sp[i]?=some (Sp.det u dp)→o.dst≠some t)
  | [],_,ρ,t,v,h=>by right; exact ⟨by simpa [dets] using h,fun i o u dp h1=>by simp at h1⟩
  | o::l,[],ρ,t,v,h=>by right; exact ⟨by simpa [dets] using h,fun i o u dp _ h2=>by simp at h2⟩
  | o::l,.flt mk ent::sp,ρ,t,v,h=>by
    rcases dets_get l sp ρ t v h with ⟨i,o',dp,h1,h2,h3⟩ | ⟨h1,h2⟩
    · exact .inl ⟨i+1,o',dp,by simpa using h1,by simpa using h2,h3⟩
    · refine .inr ⟨h1,fun i o' u dp h3 h4=>?_⟩
      cases i with
      | zero=>simp at h4
      | succ i=>exact h2 i o' u dp (by simpa using h3) (by simpa using h4)
  | o::l,.det u d0::sp,ρ,t,v,h=>by
    rcases dets_get l sp (ext ρ o.dst u) t v h with ⟨i,o',dp,h1,h2,h3⟩ | ⟨h1,h2⟩
    · exact .inl ⟨i+1,o',dp,by simpa using h1,by simpa using h2,h3⟩
    · have hshift: ∀(i:Nat) (o':Oper) (u':Value) (dp:Option Nat),(o::l)[i+1]?=some o'→(Sp.det u d0::sp)[i+1]?=some (Sp.det u' dp)→o'.dst≠some t:=fun i o' u' dp h3 h4=>h2 i o' u' dp (by simpa using h3) (by simpa using h4)
      cases hd:o.dst with
      | none =>
        rw [hd] at h1
        refine .inr ⟨h1,fun i o' u' dp h3 h4=>?_⟩
        cases i with
        | zero=>simp at h3; subst h3; rw [hd]; simp
        | succ i=>exact hshift i o' u' dp h3 h4
      | some d =>
        rw [hd] at h1
        simp only [ext,Env.get] at h1
        split at h1
        · rename_i hb
          have:d=t:=by simpa using hb
          subst this
          injection h1 with h1; subst h1
          exact .inl ⟨0,o,d0,rfl,rfl,hd⟩
        · rename_i hb
          have hne:d≠t:=by simpa using hb
          refine .inr ⟨h1,fun i o' u' dp h3 h4=>?_⟩
          cases i with
          | zero=>simp at h3; subst h3; rw [hd]; simpa using hne
          | succ i=>exact hshift i o' u' dp h3 h4
def edge (ops:Array Oper) (i j:Nat):Bool:=match ops[i]? with
  | some o=>o.after.any fun e=>Region.binds .any e&&Nat.beq e.on j
  | none=>false
def chkLook (ops:Array Oper) (fl:List (Bool × Option Nat)) (_k i:Nat) (t:Tmp):Bool :=
  (List.range ops.size).all fun j=>match ops[j]? with
    | some o=>match o.dst with
      | some d=> !Nat.beq d t||(Nat.blt j i&&edge ops i j&&(!(fl.getD j (true,none)).1||(fl.getD i (true,none)).2==some j))||(Nat.blt i j&&edge ops j i)
      | none=>true
    | none=>true
def isSel:Op→Bool
  | .select _ _=>true
  | _=>false
def chkDep (ops:Array Oper) (fl:List (Bool × Option Nat)) (i:Nat):Bool:=match (fl.getD i (true,none)).2 with
  | some j=>Nat.beq j i||edge ops i j
  | none=>true
def chkOp (ops:Array Oper) (n:Nat) (fl:List (Bool × Option Nat)) (k i:Nat):Bool:=match ops[i]? with
  | some o=>chkDep ops fl i&& !isSel o.op&&dOK n o.dst&&(o.looksAt ops).all (chkLook ops fl k i)&&(o.after.all fun e=> !Region.binds .any e||Nat.blt e.on i) &&
      ((List.range k).all fun j=>Nat.beq j i||match o.dst,(ops[j]?).bind (·.dst) with
        | some d,some d'=> !Nat.beq d d'
        | _,_=>true)
  | none=>false
def chkTail (ops:Array Oper) (k:Nat):Bool :=
  Region.seqB .any ops (ops.size-k) k ((List.range ops.size).map (fun i=>Nat.blt i k)).toArray
def noOld (fl:List (Bool × Option Nat)) (k:Nat):Bool:=(List.range k).all fun i=> !((fl.getD i (true,none)).2==some i)
theorem noOld_spec {sp:List Sp} {k i:Nat} {v:Value} (h:noOld (sp.map Sp.mark) k=true) (hi:i<k) (hs:sp[i]?=some (.det v (some i))):False:=by
  have h1:=List.all_eq_true.1 h i (List.mem_range.2 hi)
  have e1:((sp.map Sp.mark).getD i (true,none)).2=some i:=by simp [List.getD,hs,Sp.mark,Sp.dep]
  rw [e1] at h1
  simp at h1
def chkDraw (ops:Array Oper) (n:Nat) (fl:List (Bool × Option Nat)) (k:Nat):Bool :=
  Nat.ble k ops.size&&(List.range k).all (chkOp ops n fl k)&&chkTail ops k&&noOld fl k&&(Nat.beq k ops.size||(Region.sinkB .any ops k&&Region.chainB .any ops k))
theorem Own.sub {L1 L2:List Ent} {w1:World} (H:Own S w0 w1 L1) (σ:Nat→Nat) (hσ: ∀i e,L2[i]?=some e→L1[σ i]?=some e) (hinj: ∀i j,i<L2.length→j<L2.length→σ i=σ j→i=j):Own S w0 w1 L2 :=
  ⟨H.fr,fun i e h=>H.ok (σ i) e (hσ i e h),fun i j e f hi hj hij b hb=>H.sep (σ i) (σ j) e f (hσ i e hi) (hσ j f hj) (fun h=>hij (hinj i j (List.getElem?_eq_some_iff.1 hi).1 (List.getElem?_eq_some_iff.1 hj).1 h)) b hb,
    fun i e h=>H.own (σ i) e (hσ i e h)⟩
theorem get_idxOf {l:List Nat} {x:Nat} (h:x∈l):l[l.idxOf x]?=some x:=by
  have h1:=List.idxOf_lt_length_of_mem h
  rw [List.getElem?_eq_getElem h1,List.getElem_idxOf h1]
theorem Own.perm {f:Nat→Ent} {w1:World} {A B:List Nat} (_hA:A.Nodup) (hB:B.Nodup) (hm: ∀i,i∈B→i∈A) (H:Own S w0 w1 (L++A.map f)):Own S w0 w1 (L++B.map f):=by
  refine H.sub (fun i=>if i<L.length then i else L.length+A.idxOf (B.getD (i-L.length) 0)) (fun i e h=>?_) (fun i j hi hj hij=>?_)
  · by_cases hil:i<L.length
    · simp only [if_pos hil]
      rw [List.getElem?_append_left hil] at h ⊢
      exact h
    · simp only [if_neg hil]
      rw [List.getElem?_append_right (by omega),List.getElem?_map] at h
      rw [List.getElem?_append_right (by omega),Nat.add_sub_cancel_left,List.getElem?_map]
      cases hb:B[i-L.length]? with
      | none=>rw [hb] at h; cases h
      | some x =>
        rw [hb] at h
        have hx:B.getD (i-L.length) 0=x:=by simp [List.getD,hb]
        have hxA:x∈A:=hm x (List.mem_of_getElem? hb)
        rw [hx,get_idxOf hxA]
        exact h
  · simp only [List.length_append,List.length_map] at hi hj
    by_cases hil:i<L.length
    · by_cases hjl:j<L.length
      · simpa [hil,hjl] using hij
      · simp only [if_pos hil,if_neg hjl] at hij; omega
    · by_cases hjl:j<L.length
      · simp only [if_neg hil,if_pos hjl] at hij; omega
      · simp only [if_neg hil,if_neg hjl,Nat.add_left_cancel_iff] at hij
        have hi':i-L.length<B.length:=by omega
        have hj':j-L.length<B.length:=by omega
        have e1:B.getD (i-L.length) 0=B[i-L.length]:=by simp [hi']
        have e2:B.getD (j-L.length) 0=B[j-L.length]:=by simp [hj']
        rw [e1,e2] at hij
        have m1:=hm _ (List.getElem_mem hi')
        have m2:=hm _ (List.getElem_mem hj')
        have:B[i-L.length]=B[j-L.length]:=by
          have h1:=get_idxOf m1
          have h2:=get_idxOf m2
          rw [hij] at h1
          exact Option.some.inj (h1.symm.trans h2)
        have:=(List.getElem_inj hB).1 this
        omega
structure Mid (P:Program) (n:Nat) (D:List Deferred) (ops:Array Oper) (S:List Nat) (w0:World) (L:List Ent) (k:Nat) (sp:List Sp) (ρ:Env) (listed:Array Bool) (β:Nat→Fp) (Fl:List Nat) (a:Act) (w1:World):Prop where
  size:a.tmps.size=n
  defers:a.defers=D
  inv:HeadInv .any ops k listed
  heap:Own S w0 w1 (L++Fl.map (entAt sp β))
  nodup:Fl.Nodup
  mem: ∀i,i∈Fl↔i<k∧listed.getD i false=true∧(sp[i]?).map Sp.isF=some true
  done: ∀(i:Nat) (o:Oper) (s:Sp) (d:Tmp),i<k→listed.getD i false=true→ops[i]?=some o→sp[i]?=some s→o.dst=some d →
    a.tmps.getD d undef=s.val (β i)
  rest: ∀t v,Env.get ρ t=some v→(∀(i:Nat) (o:Oper),i<k→listed.getD i false=true→ops[i]?=some o→o.dst≠some t)→a.tmps.getD t undef=v
  old: ∀(i:Nat) (v:Value),i<k→sp[i]?=some (.det v (some i))→listed.getD i false=true
theorem allRange {k:Nat} {p:Nat→Bool} (h:(List.range k).all p=true) {i:Nat} (hi:i<k):p i=true:=List.all_eq_true.1 h i (List.mem_range.2 hi)
theorem edge_spec {i j:Nat} (h:edge ops i j=true): ∃o,ops[i]?=some o∧∃e∈o.after,Region.binds .any e=true∧e.on=j:=by
  unfold edge at h
  split at h
  · rename_i o ho
    obtain ⟨e,he,hb⟩:=Array.any_eq_true'.1 h
    simp only [Bool.and_eq_true] at hb
    exact ⟨o,ho,e,he,hb.1,Nat.eq_of_beq_eq_true hb.2⟩
  · cases h
theorem ready_edge {i j:Nat} {listed:Array Bool} (hr:i∈Region.ready .any ops listed) (h:edge ops i j=true):listed.getD j false=true:=by
  obtain ⟨o,ho,e,he,hb,hon⟩:=edge_spec h
  obtain ⟨_,o',ho',hall⟩:=mem_ready.1 hr
  have:o'=o:=Option.some.inj (ho'.symm.trans ho)
  subst this
  rw [←hon]; exact hall e he hb
theorem stand {a:Act} {ρi:Env} (hs:a.tmps.size=n) (_hd:a.defers=D) (hb: ∀t v,Env.get ρi t=some v→n≤t→v=undef) :
    ∃b:Act,Agr n D ρi b∧∀t,(Env.get ρi t=none∨Env.get ρi t=some (a.tmps.getD t undef))→b.tmps.getD t undef=a.tmps.getD t undef:=by
  refine ⟨⟨(List.ofFn (n:=n) fun i=>(Env.get ρi i.val).getD (a.tmps.getD i.val undef)).toArray,D⟩,⟨by simp,rfl,fun t v hv=>?_⟩,fun t ht=>?_⟩
  · by_cases hl:t<n
    · simp [hl,hv]
    · rw [hb t v hv (by omega)]; simp [hl]
  · by_cases hl:t<n
    · rcases ht with ht | ht
      · simp [hl,ht]
      · simp only [Array.getD_eq_getD_getElem?] at ht ⊢
        simp [hl,ht]
    · have h1:a.tmps.size≤t:=by omega
      simp [hl,Array.getElem?_eq_none h1]
theorem eval_same {o:Oper} {a b:Act} (h: ∀t,t∈o.looksAt ops→b.tmps.getD t undef=a.tmps.getD t undef) (hsel:isSel o.op=false):execOp a.eval o=execOp b.eval o:=by
  refine execOp_congr o (fun cs bb e=>by rw [e] at hsel; simp [isSel] at hsel) fun x hx=>?_
  cases x with
  | tmp t =>
    have:t∈o.looksAt ops:=List.mem_append_left _ (List.mem_filterMap.2 ⟨.tmp t,by simpa using hx,rfl⟩)
    exact (h t this).symm
  | _=>rfl
theorem yielded_same {o:Oper} {a b:Act} {j:Nat} {want:Bool} (hg:o.guard=some (j,want)) (h: ∀t,t∈o.looksAt ops→b.tmps.getD t undef=a.tmps.getD t undef):yielded ops a.tmps j=yielded ops b.tmps j:=by
  unfold yielded
  cases ht:(ops[j]?).bind (·.dst) with
  | none=>rfl
  | some t =>
    have hm:t∈o.looksAt ops:=by simp [Oper.looksAt,hg,ht]
    have h1:=h t hm
    simp only [Option.bind_some]
    have key: ∀c:Array Value,(match c[t]? with | some (.bool b)=>some b | _=>none)=sees (c.getD t undef):=fun c=>by
      rcases Nat.lt_or_ge t c.size with hl | hl
      · simp [hl]; cases c[t]<;>rfl
      · simp [Array.getElem?_eq_none hl]; rfl
    exact (key a.tmps).trans ((congrArg sees h1.symm).trans (key b.tmps).symm)
theorem wpOp_of {i:Nat} {o:Oper} {a:Act} {w1:World} {K:Act→World→Prop} (ho:ops[i]?=some o) (h:if Region.wanted o (yielded ops a.tmps) then o.wp P a w1 K Q else K (a.put o.dst undef) w1):wpOp P ops Q i K a w1:=by
  unfold wpOp
  simp only [ho]
  split
  · rename_i hw; rw [if_pos hw] at h; exact .inl h
  · rename_i hw; rw [if_neg hw] at h; exact h
def xext (x:Option (Nat × Value)) (ρ:Env):Env:=match x with
  | some (t,v)=>(t,v)::ρ
  | none=>ρ
theorem Mid.step {k:Nat} {sp:List Sp} {listed:Array Bool} {β:Nat→Fp} {Fl:List Nat} {a:Act} {w1:World} {l:List Oper} {i:Nat} (hops:ops=l.toArray) (hW:HW P n D ops S w0 L 0 [] (l.take k) sp ρ)
    (hch: ∀i,i<k→chkOp ops n (sp.map Sp.mark) k i=true) (hk:k≤ops.size) (hbig: ∀t v,Env.get ρ t=some v→n≤t→v=undef)
    (M:Mid P n D ops S w0 L k sp ρ listed β Fl a w1) (hr:i∈Region.ready .any ops listed) (hik:i<k) {K:Act→World→Prop}
    (hK: ∀β' Fl' a' w2,Mid P n D ops S w0 L k sp ρ (listed.setIfInBounds i true) β' Fl' a' w2→K a' w2):wpOp P ops Q i K a w1:=by
  subst hops
  have hlen:=hW.len
  have htl:(l.take k).length=k:=by simp at hk ⊢; omega
  obtain ⟨hun,o,ho,hall⟩:=mem_ready.1 hr
  have hol:(l.take k)[i]?=some o:=by rw [List.getElem?_take,if_pos hik]; simpa using ho
  obtain ⟨s,hs⟩: ∃s,sp[i]?=some s:=⟨sp[i]'(by omega),by simp [show i<sp.length by omega]⟩
  have hc:=hch i hik
  unfold chkOp at hc
  rw [ho] at hc
  simp only [Bool.and_eq_true] at hc
  obtain ⟨⟨⟨⟨⟨hdep,hsel⟩,hdok⟩,hlook⟩,hedges⟩,hdst⟩:=hc
  have hsel':isSel o.op=false:=by simpa using hsel
  have hat:=hW.at (l.take k) sp (fun f hf=>by cases hf) (fun j=>by simp) (fun j=>by simp) i o s hol hs
  have hdj: ∀j oj,j<k→l.toArray[j]?=some oj→∀t:Nat,oj.dst=some t→t<n:=fun j oj hj h1 t h3=>by
    have hcj:=hch j hj
    unfold chkOp at hcj
    rw [h1] at hcj
    simp only [Bool.and_eq_true] at hcj
    have:=hcj.1.1.1.2
    rw [h3] at this
    simpa [dOK,Nat.blt_eq] using this
  let ρi:=dets ((l.take k).take i) (sp.take i) ρ
  have hρi: ∀t v,Env.get ρi t=some v→(∃(j:Nat) (oj:Oper) (dp:Option Nat),j<i∧l.toArray[j]?=some oj∧sp[j]?=some (Sp.det v dp)∧oj.dst=some t)∨(Env.get ρ t=some v∧∀(j:Nat) (oj:Oper) (u:Value) (dp:Option Nat),j<i→l.toArray[j]?=some oj→sp[j]?=some (Sp.det u dp)→oj.dst≠some t):=by
    intro t v hv
    rcases dets_get _ _ _ t v hv with ⟨j,oj,dp,h1,h2,h3⟩ | ⟨h1,h2⟩
    · have hji:j<i:=by
        rcases Nat.lt_or_ge j i with h | h
        · exact h
        · rw [List.getElem?_take,if_neg (by omega)] at h1; cases h1
      rw [List.getElem?_take,if_pos hji,List.getElem?_take,if_pos (by omega)] at h1
      rw [List.getElem?_take,if_pos hji] at h2
      exact .inl ⟨j,oj,dp,hji,by simpa using h1,h2,h3⟩
    · refine .inr ⟨h1,fun j oj u dp hj h3 h4=>h2 j oj u dp ?_ ?_⟩
      · rw [List.getElem?_take,if_pos hj,List.getElem?_take,if_pos (by omega)]; simpa using h3
      · rw [List.getElem?_take,if_pos hj]; exact h4
  have key: ∀(x:Option (Nat × Value)),(∀t v,x=some (t,v)→t<n∧a.tmps.getD t undef=v)→(∀t v j,x=some (t,v)→s.dep=some j→True) →
      (∀t,t∈o.looksAt l.toArray→(∀v,x≠some (t,v))→∀j oj,j<i→l.toArray[j]?=some oj→oj.dst=some t→edge l.toArray i j=true→(sp[j]?).map Sp.isF≠some true) →
      ∃b:Act,Agr n D (xext x ρi) b∧∀t,t∈o.looksAt l.toArray→b.tmps.getD t undef=a.tmps.getD t undef:=by
    intro x hx _ hxl
    obtain ⟨b,hb1,hb2⟩:=stand (a:=a) (D:=D) (ρi:=xext x ρi) M.size M.defers (fun t v hv hn=>by
      have hbase:Env.get ρi t=some v→v=undef:=fun hv=>by
        rcases hρi t v hv with ⟨j,oj,dp,hj,h1,h2,h3⟩ | ⟨h1,_⟩
        · have:=hdj j oj (by omega) h1 t h3; omega
        · exact hbig t v h1 hn
      cases x with
      | none=>exact hbase hv
      | some tv =>
        obtain ⟨t0,v0⟩:=tv
        simp only [xext,Env.get] at hv
        split at hv
        · rename_i hb
          have:t0=t:=by simpa using hb
          have:=(hx t0 v0 rfl).1; omega
        · exact hbase hv)
    refine ⟨b,hb1,fun t ht=>hb2 t ?_⟩
    have hbase:(∀v,x≠some (t,v))→(Env.get ρi t=none∨Env.get ρi t=some (a.tmps.getD t undef)):=by
      intro hxt
      cases hg:Env.get ρi t with
      | none=>exact .inl rfl
      | some v =>
        right
        have hcl:=List.all_eq_true.1 hlook t ht
        unfold chkLook at hcl
        rcases hρi t v hg with ⟨j,oj,dp,hj,h1,h2,h3⟩ | ⟨h1,h2⟩
        · have hjs:j<l.toArray.size:=(Array.getElem?_eq_some_iff.1 h1).1
          have:=allRange hcl hjs
          rw [h1] at this
          simp only [h3] at this
          simp only [Bool.or_eq_true,Bool.and_eq_true,Nat.blt_eq,Bool.not_eq_true'] at this
          rcases this with (h4 | ⟨⟨h4,h5⟩,h6⟩) | ⟨h4,h5⟩
          · simp at h4
          · rw [M.done j oj _ t (by omega) (ready_edge hr h5) h1 h2 h3]; rfl
          · omega
        · rw [M.rest t v h1 (fun j oj hj hlj hoj hdjt=>?_)]
          have hjs:j<l.toArray.size:=(Array.getElem?_eq_some_iff.1 hoj).1
          have:=allRange hcl hjs
          rw [hoj] at this
          simp only [hdjt] at this
          simp only [Bool.or_eq_true,Bool.and_eq_true,Nat.blt_eq,Bool.not_eq_true'] at this
          rcases this with (h4 | ⟨⟨h4,h5⟩,h6⟩) | ⟨h4,h5⟩
          · simp at h4
          · obtain ⟨sj,hsj⟩: ∃s,sp[j]?=some s:=⟨sp[j]'(by omega),by simp [show j<sp.length by omega]⟩
            cases sj with
            | det u dp=>exact h2 j oj u dp h4 hoj hsj hdjt
            | flt mk' ent=>exact hxl t ht hxt j oj h4 hoj hdjt h5 (by rw [hsj]; rfl)
          ·
            obtain ⟨oj',hoj',e,he,hbd,hon⟩:=edge_spec h5
            have h7:=M.inv.closed j oj' hoj' hlj e he hbd
            rw [hon,getD_both hun] at h7
            cases h7
    cases x with
    | none=>exact hbase (fun v h=>by cases h)
    | some tv =>
      obtain ⟨t0,v0⟩:=tv
      by_cases ht0:t0=t
      · subst ht0
        right
        simp only [xext,Env.get]
        rw [if_pos (by simp)]
        rw [(hx t0 v0 rfl).2]
      · have hne:¬(Nat.beq t0 t=true):=by simpa using ht0
        simp only [xext,Env.get]
        rw [if_neg hne]
        exact hbase (fun v h=>ht0 (by injection h with h; injection h))
  have hnoF:s.dep=none→∀t,t∈o.looksAt l.toArray→∀j oj,j<i→l.toArray[j]?=some oj→oj.dst=some t→edge l.toArray i j=true→(sp[j]?).map Sp.isF≠some true:=by
    intro hsd t ht j oj hj hoj hdjt hed hfl
    have hcl:=List.all_eq_true.1 hlook t ht
    unfold chkLook at hcl
    have hjs:j<l.toArray.size:=(Array.getElem?_eq_some_iff.1 hoj).1
    have:=allRange hcl hjs
    rw [hoj] at this
    simp only [hdjt] at this
    have e1:((sp.map Sp.mark).getD i (true,none)).2=none:=by simp [List.getD,hs,Sp.mark,hsd]
    have e2:((sp.map Sp.mark).getD j (true,none)).1=true:=by
      cases hsj:sp[j]? with
      | none=>rw [hsj] at hfl; cases hfl
      | some sj=>rw [hsj] at hfl; simp only [Option.map_some,Option.some.injEq] at hfl; simp [List.getD,hsj,Sp.mark,hfl]
    rw [e1,e2] at this
    simp at this
    omega
  have hrest: ∀(v:Value) (t:Nat) (u:Value),Env.get ρ t=some u→(∀(j:Nat) (oj:Oper),j<k→(listed.setIfInBounds i true).getD j false=true→l.toArray[j]?=some oj→oj.dst≠some t)→(a.put o.dst v).tmps.getD t undef=u:=by
    intro v t u hu hno
    have hil:i<listed.size:=by rw [M.inv.size]; exact (Array.getElem?_eq_some_iff.1 ho).1
    have hne:o.dst≠some t:=hno i o hik (by simp [hil]) ho
    have h1:=M.rest t u hu (fun j oj hj hl=>hno j oj hj (getD_set_true hl))
    cases hd:o.dst with
    | none=>exact h1
    | some d =>
      have:d≠t:=fun e=>hne (by rw [hd,e])
      simp only [Act.put,Array.getD_eq_getD_getElem?,Array.getElem?_setIfInBounds_ne this] at h1 ⊢
      exact h1
  have hdone: ∀(β':Nat→Fp) (v:Value),(∀j,j<k→listed.getD j false=true→β' j=β j)→(∀d,o.dst=some d→v=s.val (β' i)) →
      ∀(j:Nat) (oj:Oper) (sj:Sp) (d:Tmp),j<k→(listed.setIfInBounds i true).getD j false=true→l.toArray[j]?=some oj→sp[j]?=some sj→oj.dst=some d →
        (a.put o.dst v).tmps.getD d undef=sj.val (β' j):=by
    intro β' v hβ hv j oj sj d hj hl hoj hsj hdj
    by_cases hji:i=j
    · subst hji
      have:oj=o:=Option.some.inj (hoj.symm.trans ho)
      subst this
      have:sj=s:=Option.some.inj (hsj.symm.trans hs)
      subst this
      rw [hdj] at hdok ⊢
      have hd':d<n:=by simpa [dOK,Nat.blt_eq] using hdok
      rw [←hv d hdj]
      simp [Act.put,M.size,hd']
    · rw [getD_set_ne false hji] at hl
      have h1:=M.done j oj sj d hj hl hoj hsj hdj
      have h2:sj.val (β' j)=sj.val (β j):=by rw [hβ j hj hl]
      rw [h2,←h1]
      cases hd:o.dst with
      | none=>rfl
      | some d' =>
        have h3:=allRange hdst hj
        rw [hd] at h3
        have h4:(l.toArray[j]?).bind (·.dst)=some d:=by rw [hoj]; exact hdj
        rw [h4] at h3
        simp only [Bool.or_eq_true,Bool.not_eq_true'] at h3
        have:d'≠d:=by
          rcases h3 with h3 | h3
          · exact absurd (Nat.eq_of_beq_eq_true h3).symm hji
          · intro e; subst e; simp at h3
        simp [Act.put,Array.getElem?_setIfInBounds_ne this]
  have hsz: ∀v,(a.put o.dst v).tmps.size=n:=fun v=>by cases o.dst<;>simp [Act.put,M.size]
  have hdf: ∀v,(a.put o.dst v).defers=D:=fun v=>by cases o.dst<;>exact M.defers
  have hmem0: ∀j,j∈Fl→j≠i:=fun j hj e=>by
    have:=((M.mem j).1 hj).2.1
    rw [e,getD_both hun] at this; cases this
  have Hprefix:Own S w0 w1 L:=by
    have:=M.heap.take L.length
    simpa using this
  cases s with
  | det v dp =>
    have hnew: ∀w2,Fr [] w1 w2→Mid P n D l.toArray S w0 L k sp ρ (listed.setIfInBounds i true) β Fl (a.put o.dst v) w2:=fun w2 hf =>
      ⟨hsz v,hdf v,M.inv.set hr hik,M.heap.fr' hf,M.nodup,fun j=>by
        rw [M.mem j]
        by_cases hji:i=j
        · subst hji
          constructor
          · intro h; rw [getD_both hun] at h; cases h.2.1
          · intro h; rw [hs] at h; cases h.2.2
        · rw [getD_set_ne false hji],hdone β v (fun _ _ _=>rfl) (fun _ _=>rfl),hrest v,fun j u hj hsj=>getD_set_true (M.old j u hj hsj)⟩
    have fin: ∀(L':List Ent) (E:Env) (b:Act),Own S w0 w1 L'→Agr n D E b→(∀t,t∈o.looksAt l.toArray→b.tmps.getD t undef=a.tmps.getD t undef)→DetG P n D l.toArray S w0 L' o E v→wpOp P l.toArray Q i K a w1:=by
      intro L' E b hO hb1 hsame hat'
      have hex:=eval_same hsame hsel'
      unfold DetG at hat'
      refine wpOp_of ho ?_
      cases hg:o.guard with
      | none =>
        rw [hg] at hat'
        rw [if_pos (by simp [Region.wanted,hg])]
        have h1:=hat' w1 hO b hb1
        rw [←hex] at h1
        exact h1.wp fun u w2 ⟨hu,hf⟩=>by subst hu; exact hK _ _ _ _ (hnew w2 hf)
      | some gw =>
        obtain ⟨j,want⟩:=gw
        rw [hg] at hat'
        obtain ⟨t,u,hj,hu,hcase⟩:=hat'
        have hy:yielded l.toArray a.tmps j=sees u:=(yielded_same hg hsame).trans (yielded_of hb1 hj hu)
        rcases hcase with ⟨hsee,hdet⟩ | ⟨hsee,hv⟩
        · rw [if_pos (by simp [Region.wanted,hg,hy,hsee])]
          have h1:=hdet w1 hO b hb1
          rw [←hex] at h1
          exact h1.wp fun u w2 ⟨hu,hf⟩=>by subst hu; exact hK _ _ _ _ (hnew w2 hf)
        · rw [if_neg (by simp [Region.wanted,hg,hy,hsee])]
          subst hv
          exact hK _ _ _ _ (hnew w1 (Fr.refl _ _))
    obtain ⟨Γ',hΓ,hD⟩: ∃Γ',GamOK (l.take k) sp (0+i) Γ'∧DetD P n D l.toArray S w0 L Γ' o ρi v dp:=by
      obtain ⟨Γ',hΓ,hD⟩: ∃Γ',GamOK (l.take k) sp (0+i) Γ'∧(dp=some (0+i)∨DetD P n D l.toArray S w0 L Γ' o ρi v dp):=hat
      rcases hD with hD | hD
      · rw [Nat.zero_add] at hD
        subst hD
        have h1:=M.old i v hik hs
        rw [getD_both hun] at h1; cases h1
      · exact ⟨Γ',hΓ,hD⟩
    cases dp with
    | none =>
      obtain ⟨b,hb1,hb2⟩:=key none (fun t v h=>by cases h) (fun _ _ _ h=>by cases h) (fun t ht _=>hnoF rfl t ht)
      exact fin L ρi b Hprefix hb1 hb2 hD
    | some j =>
      obtain ⟨f,hf,hfj,hDet⟩:=hD
      obtain ⟨hji,hsj,oj,hoj0,hdjf⟩:=hΓ f hf
      rw [hfj] at hji hsj hoj0
      have hji':j<i:=by omega
      have hoj:l.toArray[j]?=some oj:=by rw [List.getElem?_take,if_pos (by omega)] at hoj0; simpa using hoj0
      have hedge:edge l.toArray i j=true:=by
        unfold chkDep at hdep
        have e1:((sp.map Sp.mark).getD i (true,none)).2=some j:=by simp [List.getD,hs,Sp.mark,Sp.dep]
        rw [e1] at hdep
        rcases Bool.or_eq_true _ _ ▸ hdep with h | h
        · have:=Nat.eq_of_beq_eq_true h; omega
        · exact h
      have hlj:=ready_edge hr hedge
      have hjF:j∈Fl:=(M.mem j).2 ⟨by omega,hlj,by rw [hsj]; rfl⟩
      have hO:Own S w0 w1 (L++[f.ent (β j)]):=by
        have h1:=Own.perm (A:=Fl) (B:=[j]) M.nodup (by simp) (fun x hx=>by simp at hx; subst hx; exact hjF) M.heap
        have e:entAt sp β j=f.ent (β j):=by simp [entAt,hsj]
        simpa [e] using h1
      obtain ⟨b,hb1,hb2⟩:=key (match f.dst with | some t=>some (t,f.mk' (β j)) | none=>none) (fun t v' h=>by
        cases hfd:f.dst with
        | none=>rw [hfd] at h; cases h
        | some t0 =>
          rw [hfd] at h
          simp only [Option.some.injEq,Prod.mk.injEq] at h
          obtain ⟨rfl,rfl⟩:=h
          exact ⟨hdj j oj (by omega) hoj t0 (by rw [hdjf,hfd]),by rw [M.done j oj _ t0 (by omega) hlj hoj hsj (by rw [hdjf,hfd])]; rfl⟩) (fun _ _ _ _ _=>trivial) (fun t ht hxt j' oj' hj' hoj' hdt hed' hfl'=>by
          have hcl:=List.all_eq_true.1 hlook t ht
          unfold chkLook at hcl
          have hjs:j'<l.toArray.size:=(Array.getElem?_eq_some_iff.1 hoj').1
          have:=allRange hcl hjs
          rw [hoj'] at this
          simp only [hdt] at this
          have e1:((sp.map Sp.mark).getD i (true,none)).2=some j:=by simp [List.getD,hs,Sp.mark,Sp.dep]
          have e2:((sp.map Sp.mark).getD j' (true,none)).1=true:=by
            cases hsj':sp[j']? with
            | none=>rw [hsj'] at hfl'; cases hfl'
            | some sj=>rw [hsj'] at hfl'; simp only [Option.map_some,Option.some.injEq] at hfl'; simp [List.getD,hsj',Sp.mark,hfl']
          rw [e1,e2] at this
          have hjj:j=j':=by
            rcases Nat.lt_trichotomy i j' with h | h | h
            · omega
            · omega
            · have hlt:¬i<j':=by omega
              simp [hlt] at this
              exact this.2
          subst hjj
          have:oj'=oj:=Option.some.inj (hoj'.symm.trans hoj)
          subst this
          exact hxt (f.mk' (β j)) (by rw [←hdjf,hdt]))
      refine fin (L++[f.ent (β j)]) (ext ρi f.dst (f.mk' (β j))) b hO ?_ hb2 (hDet (β j))
      cases hfd:f.dst with
      | none=>rw [hfd] at hb1; exact hb1
      | some t0=>rw [hfd] at hb1; exact hb1
  | flt mk ent =>
    have hfg:FltG P n D l.toArray S w0 L o ρi mk ent:=hat
    obtain ⟨b,hb1,hb2⟩:=key none (fun t v h=>by cases h) (fun _ _ _ h=>by cases h) (fun t ht _=>hnoF rfl t ht)
    have hex:=eval_same hb2 hsel'
    refine wpOp_of ho ?_
    obtain ⟨hwant,hflt⟩:Region.wanted o (yielded l.toArray a.tmps)=true∧FltAt P n D S w0 L o ρi mk ent:=by
      unfold FltG at hfg
      cases hg:o.guard with
      | none=>rw [hg] at hfg; exact ⟨by simp [Region.wanted,hg],hfg⟩
      | some gw =>
        obtain ⟨j,want⟩:=gw
        rw [hg] at hfg
        obtain ⟨t,u,hj,hu,hsee,hdet⟩:=hfg
        have hy:yielded l.toArray a.tmps j=sees u:=(yielded_same hg hb2).trans (yielded_of hb1 hj hu)
        exact ⟨by simp [Region.wanted,hg,hy,hsee],hdet⟩
    rw [if_pos hwant]
    have h1:=hflt w1 Hprefix b hb1
    rw [←hex] at h1
    refine h1.wp fun u w2 ⟨bb,hu,hown,hsol⟩=>?_
    subst hu
    let β':Nat→Fp:=fun j=>if j=i then bb else β j
    have hβ: ∀j,j≠i→β' j=β j:=fun j hj=>by simp [β',hj]
    have hβi:β' i=bb:=by simp [β']
    refine hK β' (Fl++[i]) _ w2 ⟨hsz _,hdf _,M.inv.set hr hik,?_,?_,fun j=>?_,hdone β' _ (fun j _ hl=>hβ j (fun e=>by rw [e,getD_both hun] at hl; cases hl)) (fun _ _=>by simp [Sp.val,hβi]),hrest _,fun j u hj hsj=>getD_set_true (M.old j u hj hsj)⟩
    · have e1:(Fl++[i]).map (entAt sp β') =
          Fl.map (entAt sp β)++[ent bb]:=by
        rw [List.map_append]
        congr 1
        · refine List.map_congr_left fun j hj=>?_
          simp only [entAt,hβ j (hmem0 j hj)]
        · simp [entAt,hs,hβi]
      rw [e1,←List.append_assoc]
      refine M.heap.new hown.fr (hown.ok 0 (ent bb) rfl) (fun b' hb'=>?_) ?_
      · rcases hown.own 0 (ent bb) rfl b' hb' with h | h
        · exact h
        · cases h
      · exact hsol
    · rw [List.nodup_append]
      exact ⟨M.nodup,by simp,fun x hx y hy=>by simp at hy; subst hy; exact hmem0 x hx⟩
    · rw [List.mem_append,M.mem j]
      by_cases hji:i=j
      · subst hji
        have hil:i<listed.size:=by rw [M.inv.size]; exact (Array.getElem?_eq_some_iff.1 ho).1
        simp [hs,Sp.isF,hik,hil]
      · rw [getD_set_ne false hji]
        constructor
        · rintro (h | h)
          · exact h
          · simp at h; exact absurd h.symm hji
        · exact fun h=>.inl h
def undone (k:Nat) (listed:Array Bool):Nat:=(List.range k).countP (fun i=> !listed.getD i false)
theorem undone_set {k i:Nat} {listed:Array Bool} (hik:i<k) (hun:listed.getD i true=false):undone k (listed.setIfInBounds i true)+1=undone k listed:=by
  have hil:i<listed.size:=by
    rcases Nat.lt_or_ge i listed.size with h | h
    · exact h
    · simp [Array.getElem?_eq_none h] at hun
  unfold undone
  have key: ∀(l:List Nat),l.Nodup→i∈l→l.countP (fun j=> !(listed.setIfInBounds i true).getD j false)+1=l.countP (fun j=> !listed.getD j false):=by
    intro l
    induction l with
    | nil=>intro _ h; cases h
    | cons x xs ih =>
      intro hnd hm
      rw [List.countP_cons,List.countP_cons]
      rw [List.nodup_cons] at hnd
      by_cases hxi:x=i
      · subst hxi
        have h1:(listed.setIfInBounds x true).getD x false=true:=by simp [hil]
        have h2:listed.getD x false=false:=getD_both hun
        have h3:xs.countP (fun j=> !(listed.setIfInBounds x true).getD j false)=xs.countP (fun j=> !listed.getD j false) :=
          List.countP_congr fun j hj=>by rw [getD_set_ne false (fun e=>hnd.1 (by rw [e]; exact hj))]
        simp only [h1,h2,h3]; simp
      · have hm':i∈xs:=by rcases List.mem_cons.1 hm with h | h; exact absurd h.symm hxi; exact h
        have h1:=ih hnd.2 hm'
        have h2:(listed.setIfInBounds i true).getD x false=listed.getD x false:=getD_set_ne false (fun e=>hxi e.symm)
        rw [h2]; omega
  exact key _ List.nodup_range (List.mem_range.2 hik)
theorem undone_zero {k:Nat} {listed:Array Bool} (h:undone k listed=0): ∀i,i<k→listed.getD i false=true:=by
  intro i hi
  unfold undone at h
  have:=(List.countP_eq_zero.1 h) i (List.mem_range.2 hi)
  simpa using this
theorem some_ready {k:Nat} {listed:Array Bool} {fl:List (Bool × Option Nat)} (hsz:listed.size=ops.size) (hk:k≤ops.size) (hch: ∀i,i<k→chkOp ops n fl k i=true): ∀i,i<k→listed.getD i false=false→∃j,j<k∧j∈Region.ready .any ops listed:=by
  intro i
  induction i using Nat.strongRecOn with
  | _ i ih =>
    intro hi hl
    by_cases hex: ∃j,j<i∧listed.getD j false=false
    · obtain ⟨j,hj,hlj⟩:=hex
      exact ih j hj (by omega) hlj
    · have hc:=hch i hi
      unfold chkOp at hc
      have hin:i<ops.size:=by omega
      have ho:ops[i]?=some ops[i]:=by simp [hin]
      rw [ho] at hc
      simp only [Bool.and_eq_true] at hc
      refine ⟨i,hi,mem_ready.2 ⟨getD_in (by rw [hsz]; exact hin) hl,ops[i],ho,fun e he hb=>?_⟩⟩
      have h1:=Array.all_eq_true'.1 hc.1.2 e he
      simp only [Bool.or_eq_true,Bool.not_eq_true',Nat.blt_eq] at h1
      rcases h1 with h1 | h1
      · rw [hb] at h1; cases h1
      · cases hle:listed.getD e.on false with
        | true=>rfl
        | false=>exact absurd ⟨e.on,h1,hle⟩ hex
def fidx:List Sp→Nat→List Nat
  | .det _ _::sp,i=>fidx sp (i+1)
  | .flt _ _::sp,i=>i::fidx sp (i+1)
  | [],_=>[]
theorem fidx_mem: ∀(sp:List Sp) (i j:Nat),j∈fidx sp i↔i≤j∧(sp[j-i]?).map Sp.isF=some true
  | [],i,j=>by simp [fidx]
  | .det v _::sp,i,j=>by
    simp only [fidx,fidx_mem sp (i+1) j]
    constructor
    · rintro ⟨h1,h2⟩
      refine ⟨by omega,?_⟩
      rw [show j-i=(j-(i+1))+1 by omega]; simpa using h2
    · rintro ⟨h1,h2⟩
      have hne:j≠i:=by intro e; subst e; simp [Sp.isF] at h2
      refine ⟨by omega,?_⟩
      rw [show j-i=(j-(i+1))+1 by omega] at h2; simpa using h2
  | .flt m e::sp,i,j=>by
    simp only [fidx,List.mem_cons,fidx_mem sp (i+1) j]
    constructor
    · rintro (h | ⟨h1,h2⟩)
      · subst h; simp [Sp.isF]
      · refine ⟨by omega,?_⟩
        rw [show j-i=(j-(i+1))+1 by omega]; simpa using h2
    · rintro ⟨h1,h2⟩
      by_cases hne:j=i
      · exact .inl hne
      · right
        refine ⟨by omega,?_⟩
        rw [show j-i=(j-(i+1))+1 by omega] at h2; simpa using h2
theorem fidx_nodup: ∀(sp:List Sp) (i:Nat),(fidx sp i).Nodup
  | [],i=>by simp [fidx]
  | .det v _::sp,i=>fidx_nodup sp (i+1)
  | .flt m e::sp,i=>by
    simp only [fidx,List.nodup_cons]
    refine ⟨fun h=>?_,fidx_nodup sp (i+1)⟩
    have:=(fidx_mem sp (i+1) i).1 h
    omega
theorem fents_eq (β:Nat→Fp): ∀(sp full:List Sp) (i:Nat),(∀j,sp[j]?=full[i+j]?)→fents sp β i=(fidx sp i).map (entAt full β)
  | [],full,i,_=>rfl
  | .det v _::sp,full,i,h=>by
    simp only [fents,fidx]
    exact fents_eq β sp full (i+1) (fun j=>by have:=h (j+1); simpa [Nat.add_assoc,Nat.add_comm 1 j] using this)
  | .flt m e::sp,full,i,h=>by
    simp only [fents,fidx,List.map_cons]
    have h0:full[i]?=some (.flt m e):=by have:=h 0; simpa using this.symm
    congr 1
    · simp [entAt,h0]
    · exact fents_eq β sp full (i+1) (fun j=>by have:=h (j+1); simpa [Nat.add_assoc,Nat.add_comm 1 j] using this)
theorem fenv_get (β:Nat→Fp): ∀(l:List Oper) (sp:List Sp) (i:Nat) (ρ:Env) (t:Nat) (v:Value),Env.get (fenv l sp β i ρ) t=some v →
    (∃(j:Nat) (o:Oper) (m:Fp→Value) (e:Fp→Ent),l[j]?=some o∧sp[j]?=some (Sp.flt m e)∧o.dst=some t∧v=m (β (i+j))) ∨
      (Env.get ρ t=some v∧∀(j:Nat) (o:Oper) (m:Fp→Value) (e:Fp→Ent),l[j]?=some o→sp[j]?=some (Sp.flt m e)→o.dst≠some t)
  | [],_,i,ρ,t,v,h=>.inr ⟨by simpa [fenv] using h,fun j o m e h1=>by simp at h1⟩
  | o::l,[],i,ρ,t,v,h=>.inr ⟨by simpa [fenv] using h,fun j o m e _ h2=>by simp at h2⟩
  | o::l,.det u _::sp,i,ρ,t,v,h=>by
    rcases fenv_get β l sp (i+1) ρ t v h with ⟨j,o',m,e,h1,h2,h3,h4⟩ | ⟨h1,h2⟩
    · exact .inl ⟨j+1,o',m,e,by simpa using h1,by simpa using h2,h3,by rw [h4]; congr 2; omega⟩
    · refine .inr ⟨h1,fun j o' m e h3 h4=>?_⟩
      cases j with
      | zero=>simp at h4
      | succ j=>exact h2 j o' m e (by simpa using h3) (by simpa using h4)
  | o::l,.flt mk ent::sp,i,ρ,t,v,h=>by
    rcases fenv_get β l sp (i+1) (ext ρ o.dst (mk (β i))) t v h with ⟨j,o',m,e,h1,h2,h3,h4⟩ | ⟨h1,h2⟩
    · exact .inl ⟨j+1,o',m,e,by simpa using h1,by simpa using h2,h3,by rw [h4]; congr 2; omega⟩
    · have hsh: ∀(j:Nat) (o':Oper) (m:Fp→Value) (e:Fp→Ent),(o::l)[j+1]?=some o'→(Sp.flt mk ent::sp)[j+1]?=some (Sp.flt m e)→o'.dst≠some t :=
        fun j o' m e h3 h4=>h2 j o' m e (by simpa using h3) (by simpa using h4)
      cases hd:o.dst with
      | none =>
        rw [hd] at h1
        refine .inr ⟨h1,fun j o' m e h3 h4=>?_⟩
        cases j with
        | zero=>simp at h3; subst h3; rw [hd]; simp
        | succ j=>exact hsh j o' m e h3 h4
      | some d =>
        rw [hd] at h1
        simp only [ext,Env.get] at h1
        split at h1
        · rename_i hb
          have:d=t:=by simpa using hb
          subst this
          injection h1 with h1
          exact .inl ⟨0,o,mk,ent,rfl,rfl,hd,by rw [←h1]; simp⟩
        · rename_i hb
          have hne:d≠t:=by simpa using hb
          refine .inr ⟨h1,fun j o' m e h3 h4=>?_⟩
          cases j with
          | zero=>simp at h3; subst h3; rw [hd]; simpa using hne
          | succ j=>exact hsh j o' m e h3 h4
theorem WC.draw {id:Nat} {l:List Oper} (k:Nat) {sp:List Sp} (hm:P.follows .mixedOrders=true) (H:Own S w0 w L) (h:HW P n D l.toArray S w0 L 0 [] (l.take k) sp ρ) (hchk:chkDraw l.toArray n (sp.map Sp.mark) k=true)
    (tail: ∀(β:Nat→Fp) w1,Own S w0 w1 (L++fents sp β 0)→WL P n D l.toArray Q (l.drop k) (fenv (l.take k) sp β 0 (dets (l.take k) sp ρ)) w1):WC P n D (.region id l.toArray true) Q ρ w:=by
  intro a ha
  unfold chkDraw at hchk
  simp only [Bool.and_eq_true,Nat.ble_eq] at hchk
  obtain ⟨⟨⟨⟨hk,hall⟩,htailB⟩,hnoOld⟩,hsink⟩:=hchk
  have hch: ∀i,i<k→chkOp l.toArray n (sp.map Sp.mark) k i=true:=fun i hi=>allRange hall hi
  have hbig: ∀t v,Env.get ρ t=some v→n≤t→v=undef:=fun t v hv hn=>by
    have:=ha.get t v hv
    rw [←this]
    have:a.tmps.size≤t:=by rw [ha.size]; exact hn
    simp [Array.getElem?_eq_none this]
  have hlen:=h.len
  have htl:(l.take k).length=k:=by simp at hk ⊢; omega
  have hspk:sp.length=k:=by omega
  refine wp_region_any hm ?_
  have H0:Own S w0 w.drew L:=H.fr' (Fr.drew w)
  have M0:Mid P n D l.toArray S w0 L k sp ρ (Array.replicate l.toArray.size false) (fun _=>(0,undef)) [] a w.drew :=
    ⟨ha.size,ha.defers,⟨by simp,fun j oj _ hl=>(by rw [getD_replicate_false] at hl; cases hl),fun t _ ht=>getD_in (by simpa using ht) (getD_replicate_false _ _)⟩,by simpa using H0,by simp,
      fun i=>by rw [getD_replicate_false]; simp,fun i o s d _ hl=>(by rw [getD_replicate_false] at hl; cases hl),fun t v hv _=>ha.get t v hv,fun i v hi hs=>(noOld_spec hnoOld hi hs).elim⟩
  have main: ∀f listed β Fl a' w1,undone k listed=f→Mid P n D l.toArray S w0 L k sp ρ listed β Fl a' w1→wpAny P .any l.toArray Q (f+(l.drop k).length) listed a' w1:=by
    intro f
    induction f with
    | zero =>
      intro listed β Fl a' w1 hf M
      have hdone:=undone_zero hf
      rw [Nat.zero_add]
      refine wpAny_of_seq (l.drop k) k listed a' w1 (fun j=>by simp) ?_ ?_
      · have hle:listed=((List.range l.toArray.size).map (fun i=>Nat.blt i k)).toArray:=by
          apply Array.ext
          · simp [M.inv.size]
          · intro i h1 h2
            have h3:i<l.toArray.size:=by rw [←M.inv.size]; exact h1
            have h4:(((List.range l.toArray.size).map (fun i=>Nat.blt i k)).toArray)[i]=Nat.blt i k:=by simp
            rw [h4]
            by_cases hik:i<k
            · have:=hdone i hik
              have h5:listed.getD i false=listed[i]:=by simp [h1]
              rw [h5] at this
              rw [this]; exact (by rw [Nat.blt_eq]; exact hik:Nat.blt i k=true).symm
            · have:=M.inv.tail i (by omega) h3
              have h5:listed.getD i true=listed[i]:=by simp [h1]
              rw [h5] at this
              rw [this]
              cases hb:Nat.blt i k with
              | false=>rfl
              | true=>rw [Nat.blt_eq] at hb; omega
        have e:(l.drop k).length=l.toArray.size-k:=by simp
        rw [hle,e]
        exact htailB
      · have hO:Own S w0 w1 (L++fents sp β 0):=by
          rw [fents_eq β sp sp 0 (fun j=>by simp)]
          refine M.heap.perm M.nodup (fidx_nodup sp 0) (fun i hi=>?_)
          have h1:=(fidx_mem sp 0 i).1 hi
          simp only [Nat.sub_zero] at h1
          have hik:i<k:=by
            rcases Nat.lt_or_ge i k with h | h
            · exact h
            · rw [List.getElem?_eq_none (by omega)] at h1; cases h1.2
          exact (M.mem i).2 ⟨hik,hdone i hik,h1.2⟩
        refine tail β w1 hO a' ⟨M.size,M.defers,fun t v hv=>?_⟩
        have hop: ∀(j:Nat) (o:Oper),(l.take k)[j]?=some o→j<k∧l.toArray[j]?=some o:=fun j o hj=>by
          have hjk:j<k:=by
            rcases Nat.lt_or_ge j k with h | h
            · exact h
            · rw [List.getElem?_take,if_neg (by omega)] at hj; cases hj
          rw [List.getElem?_take,if_pos hjk] at hj
          exact ⟨hjk,by simpa using hj⟩
        rcases fenv_get β _ sp 0 _ t v hv with ⟨j,o,m,e,h1,h2,h3,h4⟩ | ⟨hv,hnf⟩
        · obtain ⟨hjk,ho⟩:=hop j o h1
          rw [M.done j o _ t hjk (hdone j hjk) ho h2 h3,h4]
          simp [Sp.val]
        · rcases dets_get _ sp ρ t v hv with ⟨j,o,dp,h1,h2,h3⟩ | ⟨h1,h2⟩
          · obtain ⟨hjk,ho⟩:=hop j o h1
            rw [M.done j o _ t hjk (hdone j hjk) ho h2 h3]; rfl
          · by_cases hex: ∃(j:Nat) (o:Oper),j<k∧l.toArray[j]?=some o∧o.dst=some t
            · obtain ⟨j,o,hjk,ho,hd⟩:=hex
              obtain ⟨s,hs⟩: ∃s,sp[j]?=some s:=⟨sp[j]'(by omega),by simp [show j<sp.length by omega]⟩
              cases s with
              | det u dp=>exact absurd hd (h2 j o u dp (by rw [List.getElem?_take,if_pos hjk]; simpa using ho) hs)
              | flt m e=>exact absurd hd (hnf j o m e (by rw [List.getElem?_take,if_pos hjk]; simpa using ho) hs)
            · exact M.rest t v h1 (fun j o hj _ ho hd=>hex ⟨j,o,hj,ho,hd⟩)
    | succ f ih =>
      intro listed β Fl a' w1 hf M
      obtain ⟨i0,hi0,hl0⟩: ∃i,i<k∧listed.getD i false=false:=by
        rcases Classical.em (∃i,i<k∧listed.getD i false=false) with h | h
        · exact h
        · exfalso
          have:undone k listed=0:=by
            unfold undone
            refine List.countP_eq_zero.2 fun i hi=>?_
            have hi':=List.mem_range.1 hi
            cases hb:listed.getD i false with
            | true=>simp
            | false=>exact absurd ⟨i,hi',hb⟩ h
          omega
      obtain ⟨j0,hj0,hr0⟩:=some_ready (n:=n) M.inv.size hk hch i0 hi0 hl0
      rw [show f+1+(l.drop k).length=(f+(l.drop k).length)+1 by omega]
      refine ⟨fun h=>(by rw [h] at hr0; cases hr0),fun i hi=>?_⟩
      have hik:i<k:=by
        rcases Nat.lt_or_ge i k with h | h
        · exact h
        · exfalso
          have hin:i<l.toArray.size:=by
            obtain ⟨_,o,ho,_⟩:=mem_ready.1 hi
            exact (Array.getElem?_eq_some_iff.1 ho).1
          simp only [Bool.or_eq_true,Bool.and_eq_true] at hsink
          rcases hsink with h1 | ⟨h1,h2⟩
          · have:=Nat.eq_of_beq_eq_true h1; omega
          · exact tail_waits h1 h2 (by omega) M.inv _ i0 rfl hi0 (getD_in (by rw [M.inv.size]; omega) hl0) i h hi
      obtain ⟨hun,_⟩:=mem_ready.1 hi
      refine M.step rfl h hch hk hbig hi hik (fun β' Fl' a'' w2 M'=>ih _ β' Fl' a'' w2 ?_ M')
      have:=undone_set hik hun
      omega
  have e:l.toArray.size=undone k (Array.replicate l.toArray.size false)+(l.drop k).length:=by
    have h1:undone k (Array.replicate l.toArray.size false)=k:=by
      unfold undone
      have:(List.range k).countP (fun i=> !(Array.replicate l.toArray.size false).getD i false)=(List.range k).length:=List.countP_eq_length.2 fun i _=>by rw [getD_replicate_false]; rfl
      rw [this]; simp
    rw [h1]; simp at hk ⊢; omega
  have:=main _ _ _ _ _ _ rfl M0
  rw [←e] at this
  exact this
end
end Go.Owl
namespace Go.Owl
section
variable {P:Program} {n:Nat} {D:List Deferred} {ρ:Env} {w w0:World} {R:Value→World→Prop} {dst:Option Tmp} {ty:TypeId} {pos:String} {af:Array Edge} {g:Option (Nat × Bool)}
variable {S:List Nat} {L:List Ent} {i:Nat} {t t' T T':TypeId} {x y:Operand} {z:List Value} {sz by_:Nat} {d:TypeDesc}
theorem op_storeBV {b:Nat} {cs vs:List Value} (H:Own S w0 w L) (hx:ev ρ x=some (ptr b 0)) (hy:ev ρ y=some (.agg vs.toArray)) (hi:L[i]?=some (Ent.blk b cs t)) (ho:Nat.beq vs.length cs.length=true)
    (h1:vs.all (·.oneCell')=true) (hs:vs.length=sz) (hz:tiB P T=some (z,sz,by_)) (h: ∀w',Own S w0 w' (L.set i (.blk b vs t))→R undef w'):Op1 P n D ⟨dst,.store T x y,ty,pos,af,g⟩ ρ w R:=by
  subst hs; exact op_storeBW H hx hy hi ho h1 hz h
theorem Own.cellsW {b:Nat} {cs:List Value} (H:Own S w0 w L) (hi:L[i]?=some (Ent.blk b cs t)): ∀j u,cs[j]?=some u→w.cell? ⟨b,0+j,none⟩=some u :=
  H.cells hi (by simp)
end
end Go.Owl
namespace Go.Owl
def cutV (v:Value) (a b sz:Nat):Value:=match v with
  | .slice ad _ cap=>.slice (if cap=a then ad else ad.map (·.add (a * sz))) (b-a) (cap-a)
  | v=>v
def cutL (xs:List Value) (a b sz:Nat):List Value:=(xs.drop (a * sz)).take ((b-a) * sz)
section
variable {P:Program} {n:Nat} {D:List Deferred} {ρ:Env} {w w0:World} {R:Value→World→Prop} {dst:Option Tmp} {ty:TypeId} {pos:String} {af:Array Edge} {g:Option (Nat × Bool)}
variable {S:List Nat} {L:List Ent} {i:Nat} {t t' T T':TypeId} {x y:Operand} {z:List Value} {sz by_:Nat} {d:TypeDesc}
theorem cutL_length {xs:List Value} {q a b:Nat} (hl:xs.length=q * sz) (hab:a≤b) (hb:b≤q):(cutL xs a b sz).length=(b-a) * sz:=by
  unfold cutL
  rw [List.length_take,List.length_drop,hl]
  have h1:a * sz+(b-a) * sz≤q * sz:=by rw [←Nat.add_mul]; exact Nat.mul_le_mul_right _ (by omega)
  omega
theorem Arr.cut {v:Value} {q:Nat} {xs:List Value} (hA:Arr w v sz q xs) {a b:Nat} (hab:a≤b) (hb:b≤q):Arr w (cutV v a b sz) sz (b-a) (cutL xs a b sz):=by
  obtain ⟨a0,cap,rfl,hn,hc,ha0,hsp⟩:=hA.form
  have hlen:=cutL_length (sz:=sz) hA.len hab hb
  refine ⟨⟨_,_,rfl,by omega,by omega,fun h=>?_,fun hne ad h=>?_⟩,hlen,fun j hj=>?_⟩
  · by_cases hca:cap=a
    · rw [if_pos hca] at h; have:=ha0 h; omega
    · rw [if_neg hca] at h
      cases a0 with
      | none=>have:=ha0 rfl; omega
      | some ad=>cases h
  · by_cases hca:cap=a
    · rw [if_pos hca] at h; exact hsp (by omega) ad h
    · rw [if_neg hca] at h
      cases a0 with
      | none=>cases h
      | some ad0 =>
        obtain ⟨bb,oo,ss⟩:=ad0
        have:=hsp (by omega) _ rfl
        simp at this; subst this
        simp only [Option.map_some,Option.some.injEq] at h
        rw [←h,Addr.add_at]
  · rw [hlen] at hj
    have hjs:a * sz+j<xs.length:=by
      rw [hA.len]
      have h1:a * sz+(b-a) * sz≤q * sz:=by rw [←Nat.add_mul]; exact Nat.mul_le_mul_right _ (by omega)
      omega
    have hca:cap≠a:=by
      intro e
      have:b-a=0:=by omega
      rw [this] at hj; omega
    have h1:=hA.cell (a * sz+j) hjs
    have e:(cutL xs a b sz)[j]?=xs[a * sz+j]?:=by unfold cutL; rw [List.getElem?_take,if_pos hj,List.getElem?_drop]
    rw [e,←h1]
    cases a0 with
    | none =>
      have:=(ha0 rfl).1
      have:b-a=0:=by omega
      rw [this] at hj; omega
    | some ad0 =>
      obtain ⟨bb,oo,ss⟩:=ad0
      have hq0:q≠0:=by
        intro e; rw [hA.len,e,Nat.zero_mul] at hjs; omega
      have:=hsp hq0 _ rfl
      simp at this; subst this
      simp only [cutV,if_neg hca,Option.map_some,Addr.add_at,sp,sBlk,sOff,Nat.add_assoc]
theorem RowOK.cut {v:Value} {q:Nat} {xs:List Value} (hr:RowOK w v t sz q xs) {a b:Nat} (hab:a≤b) (hb:b≤q):RowOK w (cutV v a b sz) t sz (b-a) (cutL xs a b sz):=by
  have hlen:=cutL_length (sz:=sz) hr.1 hab hb
  obtain ⟨hl,⟨rfl,rfl⟩ | ⟨gb,cap,pre,junk,rfl,hk,hn,hc,hj⟩⟩:=hr
  · have ha:a=0:=by omega
    have hb':b=0:=by omega
    subst ha; subst hb'
    exact ⟨hlen,.inl ⟨rfl,rfl⟩⟩
  · refine ⟨hlen,.inr ?_⟩
    have h1:a * sz+(b-a) * sz≤q * sz:=by rw [←Nat.add_mul]; exact Nat.mul_le_mul_right _ (by omega)
    by_cases hca:cap=a
    · have e0:b-a=0:=by omega
      have ex:cutL xs a b sz=[]:=List.eq_nil_of_length_eq_zero (by rw [hlen,e0]; simp)
      refine ⟨gb,cap-a,pre,xs++junk,by simp [cutV,hca],by rw [ex]; simpa using hk,by omega,by omega,?_⟩
      rw [hca]; simp
    · refine ⟨gb,cap-a,pre++xs.take (a * sz),xs.drop (a * sz+(b-a) * sz)++junk,?_,?_,by omega,by omega,?_⟩
      · simp only [cutV,if_neg hca,Option.map_some,Addr.add_at]
        congr 3
        simp; omega
      · have e:pre++xs.take (a * sz)++(cutL xs a b sz++(xs.drop (a * sz+(b-a) * sz)++junk))=pre++(xs++junk):=by
          have e2:cutL xs a b sz++xs.drop (a * sz+(b-a) * sz)=xs.drop (a * sz):=by
            unfold cutL; rw [←List.drop_drop,List.take_append_drop]
          rw [List.append_assoc,←List.append_assoc (cutL xs a b sz),e2,←List.append_assoc (xs.take (a * sz)),List.take_append_drop]
        rw [e]; exact hk
      · have h2:(cap-a) * sz=cap * sz-a * sz:=Nat.sub_mul _ _ _
        rw [hlen,List.length_append,List.length_drop,h2]
        omega
theorem Own.cut {v:Value} {q:Nat} {xs:List Value} (H:Own S w0 w L) (hi:L[i]?=some (Ent.row v t sz q xs)) {a b:Nat} (hab:a≤b) (hb:b≤q):Own S w0 w (L.set i (.row (cutV v a b sz) t sz (b-a) (cutL xs a b sz))):=by
  refine H.upd hi (Fr.refl [] w) (fun b hb=>by cases hb) ((H.row hi).cut hab hb) (fun bb hbb=>.inl ?_)
  obtain ⟨hl,⟨rfl,rfl⟩ | ⟨gb,cap,pre,junk,rfl,hk,hn,hc,hj⟩⟩:=H.row hi
  · simp only [Ent.Owns,cutV] at hbb ⊢
    split at hbb<;>simp [Value.ownBlock] at hbb
  · simp only [Ent.Owns,cutV] at hbb ⊢
    split at hbb
    · simpa [Value.ownBlock] using hbb
    · simpa [Value.ownBlock,Addr.add_at] using hbb
theorem run_cut {v:Value} {q:Nat} {xs:List Value} {e:TypeId} (hu:P.underlying t=some (.slice e)) (hz:tiB P e=some (z,sz,by_)) (hA:Arr w v sz q xs) {lo hi:Option Value} {a b:Nat} (hab:a≤b) (hb:b≤q)
    (hlo:(lo=none∧a=0)∨∃k,lo=some (.int k (a:Int))) (hhi:(hi=none∧b=q)∨∃k,hi=some (.int k (b:Int))):(Instr.sliceAt t v lo hi none).run P w=.ok (cutV v a b sz) w:=by
  obtain ⟨a0,cap,rfl,hn,hc,ha0,hsp⟩:=hA.form
  have hbc:b≤cap:=by omega
  rcases hlo with ⟨rfl,rfl⟩ | ⟨k,rfl⟩<;>rcases hhi with ⟨rfl,rfl⟩ | ⟨k',rfl⟩ <;>
    simp [Instr.sliceAt,Instr.slice,run_underlying hu,Instr.sliceBounds,run_sliceBoundN hbc,run_sliceBoundN hab,run_sizeOf hz,cutV]
theorem op_cutLo {v:Value} {q:Nat} {xs:List Value} {e:TypeId} {k:IntKind} {lo:Operand} {a:Nat} (hu:P.underlying t=some (.slice e)) (hz:tiB P e=some (z,sz,by_)) (hx:ev ρ x=some v) (hA:Arr w v sz q xs)
    (ha:ev ρ lo=some (.int k (a:Int))) (hab:a≤q) (h:R (cutV v a q sz) w):Op1 P n D ⟨dst,.slice t x (some lo) none none,ty,pos,af,g⟩ ρ w R :=
  Op1.val (fun c hc=>by simp only [execOp,hc.ev hx,Option.map_some,Option.map_none,hc.ev ha,Sem.run_bind,run_cut hu hz hA hab (Nat.le_refl q) (.inr ⟨k,rfl⟩) (.inl ⟨rfl,rfl⟩),Result.andThen_ok,Sem.run_pure]) h
theorem op_cutHi {v:Value} {q:Nat} {xs:List Value} {e:TypeId} {k':IntKind} {hi:Operand} {b:Nat} (hu:P.underlying t=some (.slice e)) (hz:tiB P e=some (z,sz,by_)) (hx:ev ρ x=some v) (hA:Arr w v sz q xs)
    (hb:ev ρ hi=some (.int k' (b:Int))) (hbq:b≤q) (h:R (cutV v 0 b sz) w):Op1 P n D ⟨dst,.slice t x none (some hi) none,ty,pos,af,g⟩ ρ w R :=
  Op1.val (fun c hc=>by simp only [execOp,hc.ev hx,Option.map_some,Option.map_none,hc.ev hb,Sem.run_bind,run_cut hu hz hA (Nat.zero_le b) hbq (.inl ⟨rfl,rfl⟩) (.inr ⟨k',rfl⟩),Result.andThen_ok,Sem.run_pure]) h
theorem op_indexAddr1 {v:Value} {e:TypeId} {k:IntKind} {m q:Nat} {xs:List Value} (hu:P.underlying t=some (.slice e)) (hz:tiB P e=some (z,1,by_)) (hx:ev ρ x=some v) (hA:Arr w v 1 q xs)
    (hi:ev ρ y=some (.int k (m:Int))) (hm:m<q) (h:R (.pointer (some (sp v m))) w):Op1 P n D ⟨dst,.indexAddr t x y,ty,pos,af,g⟩ ρ w R :=
  op_indexAddr hu hz hx hA hi hm (by rw [Nat.mul_one]; exact h)
theorem op_indexAddrA1 {len off b m:Nat} {e:TypeId} {k:IntKind} (hu:P.underlying t=some (.array len e)) (hz:tiB P e=some (z,1,by_)) (hx:ev ρ x=some (ptr b off))
    (hi:ev ρ y=some (.int k (m:Int))) (hm:m<len) (h:R (ptr b (off+m)) w):Op1 P n D ⟨dst,.indexAddr t x y,ty,pos,af,g⟩ ρ w R :=
  op_indexAddrA hu hz hx hi hm (by rw [Nat.mul_one]; exact h)
theorem op_indexA1 {len m:Nat} {e:TypeId} {k:IntKind} {cs:List Value} {v:Value} (hu:P.underlying t=some (.array len e)) (hz:tiB P e=some (z,1,by_)) (hd:P.underlying e=some d) (hs:scal d=true)
    (hx:ev ρ x=some (.agg cs.toArray)) (hi:ev ρ y=some (.int k (m:Int))) (hm:m<len) (hc:cs[m]?=some v) (h:R v w):Op1 P n D ⟨dst,.index t x y,ty,pos,af,g⟩ ρ w R :=
  op_indexA hu hz hd hs hx hi hm (by rw [Nat.mul_one]; exact hc) h
theorem cutL_map {α:Type} (f:α→Value) (l:List α) (a b:Nat):cutL (l.map f) a b 1=((l.drop a).take (b-a)).map f:=by
  unfold cutL; simp [List.map_take,List.map_drop]
end
end Go.Owl
namespace Go.Owl
section
variable {P:Program} {n:Nat} {D:List Deferred} {ρ:Env} {w:World} {R:Value→World→Prop} {dst:Option Tmp} {ty:TypeId} {pos:String} {af:Array Edge} {g:Option (Nat × Bool)} {t t':TypeId} {x y:Operand}
end
end Go.Owl
namespace Go.Owl
theorem Own.nilRow {S:List Nat} {w0 w:World} {L:List Ent} (H:Own S w0 w L) (t:TypeId) (sz:Nat):Own S w0 w (L++[.row (.slice none 0 0) t sz 0 []]) :=
  H.new (Fr.refl _ _) (show RowOK w _ t sz 0 [] from ⟨by simp,.inl ⟨rfl,rfl⟩⟩) (fun _ hb=>by cases hb)
end Go.Owl
namespace Go.Owl
variable {S T:List Nat} {w0 w w1:World} {L:List Ent} {i j:Nat} {e f e' f':Ent}
section
variable {P:Program} {n:Nat} {D:List Deferred} {ρ:Env} {w:World} {R:Value→World→Prop} {dst:Option Tmp} {ty:TypeId} {pos:String} {af:Array Edge} {g:Option (Nat × Bool)} {t t':TypeId} {x y:Operand}
theorem op_eqlPN {a:Option Addr} (hu:P.underlying t=some (.pointer (P.pointee t))) (hx:ev ρ x=some (.pointer a)) (hy:ev ρ y=some (.pointer none)) (h:R (.bool a.isNone) w):Op1 P n D ⟨dst,.binOp .eql t x y t',ty,pos,af,g⟩ ρ w R :=
  Op1.val (fun c ha=>by
    have hg:(eqGuard .eql t x y (.pointer a) (.pointer none)).run P w=.ok () w:=rfl
    simp only [execOp,ha.ev hx,ha.ev hy,Sem.run_bind,hg,Result.andThen_ok,run_eql_pointer_nil w t a hu,Sem.run_pure]) h
end
end Go.Owl
namespace Go.Owl
variable {S T:List Nat} {w0 w w1:World} {L E F N:List Ent} {I:List Nat}
def picks (L:List Ent):List Nat→Option (List Ent)
  | []=>some []
  | i::I=>match L[i]?,picks L I with
    | some e,some l=>some (e::l)
    | _,_=>none
def puts (L:List Ent):List Nat→List Ent→List Ent
  | i::I,e::E=>puts (L.set i e) I E
  | _,_=>L
def blks (E:List Ent):List Nat:=E.flatMap Ent.owns
def nodupB:List Nat→Bool
  | []=>true
  | i::I=> !(I.any (Nat.beq i))&&nodupB I
theorem picks_get: ∀ {I:List Nat} {E:List Ent},picks L I=some E→E.length=I.length∧∀(m i:Nat),I[m]?=some i→∃e,E[m]?=some e∧L[i]?=some e
  | [],E,h=>by simp [picks] at h; subst h; simp
  | i::I,E,h=>by
    simp only [picks] at h
    split at h
    · rename_i e l h1 h2
      injection h with h; subst h
      obtain ⟨hl,ih⟩:=picks_get h2
      refine ⟨by simp [hl],fun m j hm=>?_⟩
      cases m with
      | zero=>simp at hm; subst hm; exact ⟨e,rfl,h1⟩
      | succ m=>simpa using ih m j (by simpa using hm)
    · cases h
theorem picks_of (h:picks L I=some E) {m:Nat} {e:Ent} (hm:E[m]?=some e): ∃i,I[m]?=some i∧L[i]?=some e:=by
  obtain ⟨hl,ih⟩:=picks_get h
  have hlt:m<I.length:=by rw [←hl]; exact (List.getElem?_eq_some_iff.1 hm).1
  obtain ⟨e',h1,h2⟩:=ih m I[m] (by simp [hlt])
  rw [hm] at h1; injection h1 with h1; subst h1
  exact ⟨I[m],by simp [hlt],h2⟩
theorem nodup_of: ∀ {I:List Nat},nodupB I=true→I.Nodup
  | [],_=>List.nodup_nil
  | i::I,h=>by
    simp only [nodupB,Bool.and_eq_true,Bool.not_eq_true',List.any_eq_false] at h
    refine List.nodup_cons.2 ⟨fun hm=>?_,nodup_of h.2⟩
    exact absurd (Nat.beq_refl i) (by simpa using h.1 i hm)
theorem mem_blks {b:Nat}:b∈blks E↔∃(m:Nat) (e:Ent),E[m]?=some e∧e.Owns b:=by
  simp only [blks,List.mem_flatMap]
  constructor
  · rintro ⟨e,he,hb⟩
    obtain ⟨m,hm,rfl⟩:=List.getElem_of_mem he
    exact ⟨m,_,by simp [hm],Ent.mem_owns.1 hb⟩
  · rintro ⟨m,e,he,hb⟩
    exact ⟨e,List.mem_of_getElem? he,Ent.mem_owns.2 hb⟩
theorem Own.part (H:Own S w0 w L) (I:List Nat) (hn:nodupB I=true) (hp:picks L I=some E):Own (blks E) w w E:=by
  have hnd:=nodup_of hn
  refine ⟨Fr.refl _ _,fun k x hk=>?_,fun k l x y hk hl hkl b hb=>?_,fun k x hk b hb=>.inr (mem_blks.2 ⟨k,x,hk,hb⟩)⟩
  · obtain ⟨i,_,h⟩:=picks_of hp hk
    exact H.ok i x h
  · obtain ⟨i,hi,h1⟩:=picks_of hp hk
    obtain ⟨j,hj,h2⟩:=picks_of hp hl
    refine H.sep i j x y h1 h2 (fun e=>hkl ?_) b hb
    subst e
    have hk':=List.getElem?_eq_some_iff.1 hi
    have hl':=List.getElem?_eq_some_iff.1 hj
    exact (List.getElem_inj hnd).1 (hk'.2.trans hl'.2.symm)
theorem Own.blks_own (H:Own S w0 w L) (hp:picks L I=some E) {b:Nat} (hb:b∈blks E):w0.heap.size≤b∨b∈S:=by
  obtain ⟨m,e,he,hb⟩:=mem_blks.1 hb
  obtain ⟨i,_,h⟩:=picks_of hp he
  exact H.own i e h b hb
theorem Own.frPart (H:Own S w0 w L) (hp:picks L I=some E) (R:Fr (blks E) w w1):Fr S w0 w1 :=
  ⟨R.os.trans H.fr.os,R.tape.trans H.fr.tape,R.output.trans H.fr.output,Nat.le_trans H.fr.size R.size,fun k hk hS =>
    have hkT:k ∉ blks E:=fun hm=>(H.blks_own hp hm).elim (fun h=>by omega) hS
    (R.block k (Nat.lt_of_lt_of_le hk H.fr.size) hkT).trans (H.fr.block k hk hS)⟩
theorem Own.stay (H:Own S w0 w L) (hp:picks L I=some E) {k:Nat} {e:Ent} (hk:L[k]?=some e) (hkI:I.any (Nat.beq k)=false) (R:Fr (blks E) w w1):e.ok w1:=by
  refine Ent.fr (H.ok k e hk) R fun b hb hT=>?_
  obtain ⟨m,f,hm,hfb⟩:=mem_blks.1 hT
  obtain ⟨i,hi,h⟩:=picks_of hp hm
  refine H.sep i k f e h hk (fun x=>?_) b hfb hb
  exact (List.any_eq_false.1 hkI i (List.mem_of_getElem? hi)) (by rw [x]; exact Nat.beq_refl _)
theorem Own.stayR {v:Value} {t:TypeId} {sz m:Nat} {xs:List Value} (H:Own S w0 w L) (hp:picks L I=some E) {k:Nat} (hk:L[k]?=some (Ent.row v t sz m xs)) (hkI:I.any (Nat.beq k)=false) :
    ∀w1,Fr (blks E) w w1→Arr w1 v sz m xs:=fun _ R=>RowOK.arr (H.stay hp hk hkI R)
theorem puts_get: ∀ {I:List Nat} {F L:List Ent} {k:Nat} {x:Ent},F.length=I.length→(puts L I F)[k]?=some x →
    (∃m:Nat,I[m]?=some k∧F[m]?=some x)∨(k ∉ I∧L[k]?=some x)
  | [],[],L,k,x,_,h=>.inr ⟨by simp,by simpa [puts] using h⟩
  | i::I,e::F,L,k,x,hl,h=>by
    simp only [puts] at h
    rcases puts_get (by simpa using hl) h with ⟨m,h1,h2⟩ | ⟨h1,h2⟩
    · exact .inl ⟨m+1,by simpa using h1,by simpa using h2⟩
    · rw [List.getElem?_set] at h2
      by_cases hik:i=k
      · subst hik
        rw [if_pos rfl] at h2
        split at h2
        · exact .inl ⟨0,rfl,by simpa using h2⟩
        · cases h2
      · rw [if_neg hik] at h2
        exact .inr ⟨by simp [h1,Ne.symm hik],h2⟩
  | [],_::_,_,_,_,hl,_=>by simp at hl
  | _::_,[],_,_,_,hl,_=>by simp at hl
theorem puts_length: ∀(I:List Nat) (F L:List Ent),(puts L I F).length=L.length
  | [],_,L=>by simp [puts]
  | i::I,[],L=>by simp [puts]
  | i::I,e::F,L=>by simp [puts,puts_length I F]
def Fits (w:World) (E l:List Ent):Prop:= ∀x∈l, ∀b∈x.foot,x.Owns b∨w.heap.size≤b∨∃(k:Nat) (e:Ent),E[k]?=some e∧b∈e.foot
theorem Fits.nil:Fits w E []:=fun x hx=>by cases hx
theorem Fits.cons {x:Ent} {l:List Ent} (h: ∀b∈x.foot,x.Owns b∨w.heap.size≤b∨∃(k:Nat) (e:Ent),E[k]?=some e∧b∈e.foot) (k:Fits w E l):Fits w E (x::l):=fun y hy=>by
  rcases List.mem_cons.1 hy with rfl | hy
  · exact h
  · exact k y hy
theorem Fits.solid {x:Ent} {l:List Ent} (h:x.solid) (k:Fits w E l):Fits w E (x::l):=k.cons (fun _ hb=>.inl (Ent.foot_solid h hb))
theorem Fits.same {x:Ent} {l:List Ent} {j:Nat} (h:E[j]?=some x) (k:Fits w E l):Fits w E (x::l):=k.cons (fun _ hb=>.inr (.inr ⟨j,x,h,hb⟩))
theorem Fits.fresh {x:Ent} {l:List Ent} (h: ∀b∈x.foot,w.heap.size≤b) (k:Fits w E l):Fits w E (x::l):=k.cons (fun _ hb=>.inr (.inl (h _ hb)))
theorem Own.splice (H:Own S w0 w L) (I:List Nat) (F N:List Ent) (hp:picks L I=some E) (hF:F.length=I.length) (R:Own (blks E) w w1 (F++N))
    (hff0:Fits w E (F++N)):Own S w0 w1 (puts L I F++N):=by
  have hff: ∀(m:Nat) (x:Ent),(F++N)[m]?=some x→∀b∈x.foot,w.heap.size≤b∨∃(k:Nat) (e:Ent),E[k]?=some e∧b∈e.foot:=fun m x hm b hb=>by
    rcases hff0 x (List.mem_of_getElem? hm) b hb with h | h | h
    · rcases R.own m x hm b h with h | h
      · exact .inl h
      · obtain ⟨m',e,he,hb'⟩:=mem_blks.1 h
        exact .inr ⟨m',e,he,Ent.block_foot hb'⟩
    · exact .inl h
    · exact .inr h
  have key: ∀k x,(puts L I F++N)[k]?=some x→(∃m:Nat,(F++N)[m]?=some x∧(if m<I.length then I[m]?=some k else k=L.length+(m-I.length)))∨(k ∉ I∧k<L.length∧L[k]?=some x):=fun k x hk=>by
    rcases Nat.lt_or_ge k L.length with hlt | hge
    · rw [List.getElem?_append_left (by rw [puts_length]; exact hlt)] at hk
      rcases puts_get hF hk with ⟨m,h1,h2⟩ | ⟨h1,h2⟩
      · have hm:=(List.getElem?_eq_some_iff.1 h1).1
        refine .inl ⟨m,?_,by rw [if_pos hm]; exact h1⟩
        rw [List.getElem?_append_left (by omega)]; exact h2
      · exact .inr ⟨h1,hlt,h2⟩
    · rw [List.getElem?_append_right (by rw [puts_length]; exact hge),puts_length] at hk
      refine .inl ⟨I.length+(k-L.length),?_,?_⟩
      · rw [List.getElem?_append_right (by omega),hF,Nat.add_sub_cancel_left]; exact hk
      · rw [if_neg (by omega)]; omega
  have inj: ∀(m m' k l:Nat),(if m<I.length then I[m]?=some k else k=L.length+(m-I.length))→(if m'<I.length then I[m']?=some l else l=L.length+(m'-I.length))→k≠l→m≠m':=fun m m' k l h1 h2 hkl e=>by
    subst e
    split at h1
    · rename_i h; rw [if_pos h] at h2; rw [h1] at h2; exact hkl (Option.some.inj h2)
    · rename_i h; rw [if_neg h] at h2; exact hkl (h1.trans h2.symm)
  have apart: ∀(m:Nat) (x:Ent),(F++N)[m]?=some x→∀(k:Nat) (g:Ent),k ∉ I→L[k]?=some g→∀b,x.Owns b→b ∉ g.foot:=fun m x hm k g hkI hk b hb hg=>by
    rcases R.own m x hm b hb with h | h
    · have:=Ent.ltF (H.ok k g hk) hg; omega
    · obtain ⟨m',e,he,hb'⟩:=mem_blks.1 h
      obtain ⟨i,hi,h⟩:=picks_of hp he
      exact H.sep i k e g h hk (fun x=>hkI (x ▸ List.mem_of_getElem? hi)) b hb' hg
  have apart': ∀(m:Nat) (x:Ent),(F++N)[m]?=some x→∀(k:Nat) (g:Ent),k ∉ I→L[k]?=some g→∀b,g.Owns b→b ∉ x.foot:=fun m x hm k g hkI hk b hb hg=>by
    rcases hff m x hm b hg with h | ⟨m',e,he,hb'⟩
    · have:=Ent.lt (H.ok k g hk) hb; omega
    · obtain ⟨i,hi,h⟩:=picks_of hp he
      exact H.sep k i g e hk h (fun x=>hkI (x ▸ List.mem_of_getElem? hi)) b hb hb'
  refine ⟨H.frPart hp R.fr,fun k x hk=>?_,fun k l x y hk hl hkl b hb=>?_,fun k x hk b hb=>?_⟩
  · rcases key k x hk with ⟨m,h1,_⟩ | ⟨h1,h2,h3⟩
    · exact R.ok m x h1
    · refine Ent.fr (H.ok k x h3) R.fr fun b hxb hbT=>?_
      obtain ⟨m',e,he,hb'⟩:=mem_blks.1 hbT
      obtain ⟨i,hi,h⟩:=picks_of hp he
      exact H.sep i k e x h h3 (fun x=>h1 (x ▸ List.mem_of_getElem? hi)) b hb' hxb
  · rcases key k x hk with ⟨m,h1,h2⟩ | ⟨h1,h2,h3⟩<;>rcases key l y hl with ⟨m',h1',h2'⟩ | ⟨h1',h2',h3'⟩
    · exact R.sep m m' x y h1 h1' (inj m m' k l h2 h2' hkl) b hb
    · exact apart m x h1 l y h1' h3' b hb
    · exact apart' m' y h1' k x h1 h3 b hb
    · exact H.sep k l x y h3 h3' hkl b hb
  · rcases key k x hk with ⟨m,h1,_⟩ | ⟨_,_,h3⟩
    · rcases R.own m x h1 b hb with h | h
      · left; have:=H.fr.size; omega
      · exact H.blks_own hp h
    · exact H.own k x h3 b hb
theorem Own.sel (H:Own S w0 w L) (I:List Nat) (hn:nodupB I=true) (hp:picks L I=some E):Own S w0 w E:=by
  have P:=H.part I hn hp
  exact ⟨H.fr,P.ok,P.sep,fun i e hi b hb=>by obtain ⟨j,_,h⟩:=picks_of hp hi; exact H.own j e h b hb⟩
def footA (v:Value) (xs:List Value):List Nat:=if xs.isEmpty then [] else [sBlk v]
theorem Arr.stable (v:Value) (sz n:Nat) (xs:List Value):Stable (fun w=>Arr w v sz n xs) (footA v xs) where
  lt:=fun w h b hb=>by
    cases xs with
    | nil=>simp [footA] at hb
    | cons x l =>
      simp [footA] at hb; subst hb
      have:=h.cell 0 (by simp)
      exact block_lt_of_cell (a:=sp v 0) (v:=x) (by simpa using this)
  fr:=fun T w w' hf hT h=>by
    cases xs with
    | nil=>exact ⟨h.form,h.len,fun j hj=>by simp at hj⟩
    | cons x l=>exact h.fr hf (hT _ (by simp [footA]))
def Ent.ar (v:Value) (sz n:Nat) (xs:List Value):Ent:=.ro (fun w=>Arr w v sz n xs) (footA v xs) (Arr.stable v sz n xs)
theorem Own.arrO {v:Value} {sz n i:Nat} {xs:List Value} (H:Own S w0 w L) (hi:L[i]?=some (Ent.ar v sz n xs)):Arr w v sz n xs:=H.ok i _ hi
theorem Own.freeze {i:Nat} {v:Value} {t:TypeId} {sz n:Nat} {xs:List Value} (H:Own S w0 w L) (hi:L[i]?=some (Ent.row v t sz n xs)):Own S w0 w (L.set i (Ent.ar v sz n xs)):=by
  refine H.upd' hi (Fr.refl [] w) (fun b hb=>by cases hb) (H.row hi).arr (fun b hb=>by cases hb) (fun b hb=>.inl ?_)
  obtain ⟨hl,⟨rfl,rfl⟩ | ⟨g,cap,pre,junk,rfl,hk,hr⟩⟩:=H.row hi
  · have hx:xs=[]:=List.eq_nil_of_length_eq_zero (by simpa using hl)
    subst hx
    simp [Ent.ar,Ent.foot,footA] at hb
  · simp only [Ent.ar,Ent.foot,footA] at hb
    split at hb
    · cases hb
    · simpa [Ent.foot,Value.ownBlock,sBlk] using hb
theorem Own.old {p:World→Prop} {Ft:List Nat} (st:Stable p Ft) (H:Own [] w0 w L) (h0:p w0):Own [] w0 w (L++[.ro p Ft st]) :=
  H.new' (Fr.refl _ _) (st.fr [] _ _ H.fr (fun _ _=>by simp) h0) (fun b hb=>by cases hb) (fun b hb j f hj hfb=>by
    have h1:=st.lt _ h0 b hb
    rcases H.own j f hj b hfb with h | h
    · omega
    · cases h)
theorem Arr.cutM {α:Type} {f:α→Value} {l:List α} {v:Value} {q:Nat} (hA:Arr w v 1 q (l.map f)) {a b:Nat} (hab:a≤b) (hb:b≤q):Arr w (cutV v a b 1) 1 (b-a) (((l.drop a).take (b-a)).map f):=by
  rw [←cutL_map]; exact hA.cut hab hb
theorem Own.cutM {α:Type} {f:α→Value} {l:List α} {v:Value} {q i:Nat} {t:TypeId} (H:Own S w0 w L) (hi:L[i]?=some (Ent.row v t 1 q (l.map f))) {a b:Nat} (hab:a≤b) (hb:b≤q) :
    Own S w0 w (L.set i (.row (cutV v a b 1) t 1 (b-a) (((l.drop a).take (b-a)).map f))):=by
  rw [←cutL_map]; exact H.cut hi hab hb
theorem Arr.mapLen {α:Type} {f:α→Value} {l:List α} {v:Value} {q:Nat} (hA:Arr w v 1 q (l.map f)):l.length=q:=by simpa using hA.len
theorem Arr.cutLoM {α:Type} {f:α→Value} {l:List α} {v:Value} {q:Nat} (hA:Arr w v 1 q (l.map f)) {a:Nat} (hab:a≤q):Arr w (cutV v a q 1) 1 (q-a) ((l.drop a).map f):=by
  have h:=hA.cutM hab (Nat.le_refl q)
  rwa [List.take_of_length_le (by rw [List.length_drop,hA.mapLen]; exact Nat.le_refl _)] at h
theorem Arr.cutHiM {α:Type} {f:α→Value} {l:List α} {v:Value} {q:Nat} (hA:Arr w v 1 q (l.map f)) {b:Nat} (hb:b≤q):Arr w (cutV v 0 b 1) 1 b ((l.take b).map f):=hA.cutM (Nat.zero_le b) hb
theorem Own.cutLoM {α:Type} {f:α→Value} {l:List α} {v:Value} {q i:Nat} {t:TypeId} (H:Own S w0 w L) (hi:L[i]?=some (Ent.row v t 1 q (l.map f))) {a:Nat} (hab:a≤q) :
    Own S w0 w (L.set i (.row (cutV v a q 1) t 1 (q-a) ((l.drop a).map f))):=by
  have h:=H.cutM hi hab (Nat.le_refl q)
  rwa [List.take_of_length_le (by rw [List.length_drop,(H.arrR hi).mapLen]; exact Nat.le_refl _)] at h
theorem Own.cutHiM {α:Type} {f:α→Value} {l:List α} {v:Value} {q i:Nat} {t:TypeId} (H:Own S w0 w L) (hi:L[i]?=some (Ent.row v t 1 q (l.map f))) {b:Nat} (hb:b≤q) :
    Own S w0 w (L.set i (.row (cutV v 0 b 1) t 1 b ((l.take b).map f))):=H.cutM hi (Nat.zero_le b) hb
theorem Arr.one {v:Value} {sz m:Nat} {xs:List Value} (h:Arr w v sz m xs):v.oneCell'=true:=by
  obtain ⟨a,cap,rfl,_⟩:=h.form
  rfl
theorem one_nil:([]:List Value).all (·.oneCell')=true:=rfl
theorem one_cons {v:Value} {l:List Value} (h:v.oneCell'=true) (k:l.all (·.oneCell')=true):(v::l).all (·.oneCell')=true:=by simp only [List.all_cons,h,k,Bool.and_self]
end Go.Owl
namespace Go.Owl
section
variable {P:Program} {n:Nat} {D:List Deferred} {ρ:Env} {w w0:World} {R:Value→World→Prop} {dst:Option Tmp} {ty:TypeId} {pos:String} {af:Array Edge} {g:Option (Nat × Bool)}
variable {S:List Nat} {L:List Ent} {i:Nat} {t t' T T':TypeId} {x y:Operand} {z:List Value} {sz by_:Nat} {d:TypeDesc}
theorem op_appendM {α:Type} {f:α→Value} {l l':List α} {v u:Value} {q m:Nat} (H:Own S w0 w L) (hu:P.underlying T=some (.slice t)) (hz:tiB P t=some (z,1,by_)) (hzl:z.length=1) (hx:ev ρ x=some v) (hy:ev ρ y=some u)
    (hi:L[i]?=some (Ent.row v t 1 q (l.map f))) (hs:Src P w T' 1 u m (l'.map f)) (h1: ∀c∈l'.map f,c.oneCell'=true) (h63:q+m≤9223372036854775807) (hby:(q+m) * by_≤140737488355328)
    (h: ∀v' w',Own S w0 w' (L.set i (.row v' t 1 (q+m) ((l++l').map f)))→R v' w'):Op1 P n D ⟨dst,.call { callee:=.builtin .append,args:=#[x,y],argTypes:=#[T,T'] },ty,pos,af,g⟩ ρ w R :=
  op_append H hu hz hzl hx hy hi hs h1 h63 hby (fun v' w' H'=>h v' w' (by rw [List.map_append]; exact H'))
theorem one_mapM {α:Type} {f:α→Value} (h: ∀a,(f a).oneCell'=true) {l:List α}: ∀c∈l.map f,c.oneCell'=true:=fun c hc=>by
  obtain ⟨a,_,rfl⟩:=List.mem_map.1 hc
  exact h a
theorem zeros_one (c:Value): ∀m,zeros [c] m=List.replicate m c
  | 0=>rfl
  | m+1=>by rw [zeros,zeros_one c m,List.replicate_succ]; rfl
theorem op_makeSlice {m:Nat} {k k':IntKind} (H:Own S w0 w L) (hu:P.underlying T=some (.slice t)) (hz:tiB P t=some (z,sz,by_)) (hzl:z.length=sz) (hx:ev ρ x=some (.int k (m:Int))) (hy:ev ρ y=some (.int k' (m:Int)))
    (hb:by_ * m≤281474976710656) (h63:m≤9223372036854775807) (h: ∀b w',Own S w0 w' (L++[.row (.slice (some ⟨b,0,none⟩) m m) t sz m (zeros z m)])→R (.slice (some ⟨b,0,none⟩) m m) w') :
    Op1 P n D ⟨dst,.makeSlice T x y,ty,pos,af,g⟩ ρ w R:=by
  obtain ⟨i,v,hi,hv,hc,hs,hby⟩:=tiB_spec hz
  have hvs:v.cells.size=sz:=by rw [←hzl,←hc]; simp
  have hr:=run_make (P:=P) w T t i v hu hi hv k k' m m (by omega) (Int.le_refl _) (by rw [hby]; omega) (by omega)
  simp only [Int.toNat_natCast] at hr
  have e:madeCells v.cells (m * i.size)=(zeros z m).toArray:=by
    rw [←hc]; exact range_zeros v.cells m (m * i.size) (by rw [hs,hvs])
  rw [e] at hr
  refine Op1.val (w':=w.alloc (.cells (zeros z m).toArray t)) (v:=.slice (some ⟨w.heap.size,0,none⟩) m m) (fun a ha=>?_) (h _ _ ?_)
  · simp only [execOp,ha.ev hx,ha.ev hy,Sem.run_bind,hr,Result.andThen_ok,Sem.run_pure]
  · refine H.new (Fr.alloc _ _) ⟨by rw [zeros_length,hzl],.inr ⟨w.heap.size,m,[],[],rfl,?_,Nat.le_refl _,by unfold maxLen; omega,by rw [zeros_length,hzl]; simp⟩⟩ (fun b hb=>?_)
    · simpa using Blk.alloc w (zeros z m) t
    · simp only [Ent.Owns,Value.ownBlock,Option.some.injEq] at hb; omega
theorem op_makeSliceM {α:Type} {f:α→Value} {c:α} {m:Nat} {k k':IntKind} (H:Own S w0 w L) (hu:P.underlying T=some (.slice t)) (hz:tiB P t=some ([f c],1,by_)) (hx:ev ρ x=some (.int k (m:Int))) (hy:ev ρ y=some (.int k' (m:Int)))
    (hb:by_ * m≤281474976710656) (h63:m≤9223372036854775807) (h: ∀b w',Own S w0 w' (L++[.row (.slice (some ⟨b,0,none⟩) m m) t 1 m ((List.replicate m c).map f)])→R (.slice (some ⟨b,0,none⟩) m m) w') :
    Op1 P n D ⟨dst,.makeSlice T x y,ty,pos,af,g⟩ ρ w R :=
  op_makeSlice H hu hz rfl hx hy hb h63 (fun b w' H'=>h b w' (by rw [zeros_one] at H'; rw [List.map_replicate]; exact H'))
theorem op_storeRM {α:Type} {f:α→Value} {l:List α} {c:α} {v:Value} {m k:Nat} (H:Own S w0 w L) (hx:ev ρ x=some (.pointer (some (sp v k)))) (hy:ev ρ y=some (f c)) (hi:L[i]?=some (Ent.row v t 1 m (l.map f))) (hk:k<m)
    (h1:(f c).oneCell'=true) (hz:tiB P T=some (z,1,by_)) (h: ∀w',Own S w0 w' (L.set i (.row v t 1 m ((l.set k c).map f)))→R undef w'):Op1 P n D ⟨dst,.store T x y,ty,pos,af,g⟩ ρ w R :=
  op_storeR H hx hy hi (by have:=(H.row hi).1; simp at this; simpa [this] using hk) h1 hz (fun w' H'=>h w' (by rw [List.map_set]; exact H'))
theorem map_len {α:Type} {f:α→Value} {l:List α} {v:Value} {m:Nat} (H:Own S w0 w L) (hi:L[i]?=some (Ent.row v t 1 m (l.map f))):l.length=m:=(H.arrR hi).mapLen
theorem Own.rowEq {α:Type} {f:α→Value} {l l':List α} {v:Value} {m:Nat} (H:Own S w0 w L) (hi:L[i]?=some (Ent.row v t 1 m (l.map f))) (e:l=l'):Own S w0 w (L.set i (.row v t 1 m (l'.map f))):=by
  subst e
  have h:=List.getElem?_eq_some_iff.1 hi
  have e:L.set i (.row v t 1 m (l.map f))=L:=by rw [←h.2]; exact List.set_getElem_self h.1
  rw [e]; exact H
theorem Own.rowEqN {α:Type} {f:α→Value} {l l':List α} {v:Value} {m m':Nat} (H:Own S w0 w L) (hi:L[i]?=some (Ent.row v t 1 m (l.map f))) (e:l=l') (en:m=m'):Own S w0 w (L.set i (.row v t 1 m' (l'.map f))):=by
  subst en; exact H.rowEq hi e
end
theorem Arr.ltM {α:Type} {f:α→Value} {l:List α} {w:World} {v:Value} {q k:Nat} (hA:Arr w v 1 q (l.map f)) (hk:k<q):k<l.length:=by rw [hA.mapLen]; exact hk
end Go.Owl
namespace Go.Owl
section
variable {P:Program} {n:Nat} {D:List Deferred} {ρ:Env} {w:World} {R:Value→World→Prop} {dst:Option Tmp} {ty:TypeId} {pos:String} {af:Array Edge} {g:Option (Nat × Bool)}
variable {t t':TypeId} {x y:Operand}
theorem run_min2 {k:IntKind} {a b:Int}:(Builtin.min_ #[t,t'] ty #[.int k a,.int k b]).run P w=.ok (.int k (if b<a then b else a)) w:=by
  simp [Builtin.min_,Builtin.min2]
theorem run_max2 {k:IntKind} {a b:Int}:(Builtin.max_ #[t,t'] ty #[.int k a,.int k b]).run P w=.ok (.int k (if a<b then b else a)) w:=by
  simp [Builtin.max_,Builtin.max2]
theorem op_min2 {k:IntKind} {a b:Int} (hx:ev ρ x=some (.int k a)) (hy:ev ρ y=some (.int k b)) (h:R (.int k (if b<a then b else a)) w):Op1 P n D ⟨dst,.call { callee:=.builtin .min,args:=#[x,y],argTypes:=#[t,t'] },ty,pos,af,g⟩ ρ w R :=
  Op1.val (fun c hc=>by simp [execOp,resolve,invoke,builtin,hc.ev hx,hc.ev hy,run_min2]) h
theorem op_max2 {k:IntKind} {a b:Int} (hx:ev ρ x=some (.int k a)) (hy:ev ρ y=some (.int k b)) (h:R (.int k (if a<b then b else a)) w):Op1 P n D ⟨dst,.call { callee:=.builtin .max,args:=#[x,y],argTypes:=#[t,t'] },ty,pos,af,g⟩ ρ w R :=
  Op1.val (fun c hc=>by simp [execOp,resolve,invoke,builtin,hc.ev hx,hc.ev hy,run_max2]) h
theorem op_minN {a b:Nat} (hx:ev ρ x=some (vN a)) (hy:ev ρ y=some (vN b)) (h:R (vN (min a b)) w):Op1 P n D ⟨dst,.call { callee:=.builtin .min,args:=#[x,y],argTypes:=#[t,t'] },ty,pos,af,g⟩ ρ w R :=
  op_min2 (a:=(a:Int)) (b:=(b:Int)) hx hy (by rw [show (if (b:Int)<(a:Int) then (b:Int) else (a:Int))=((min a b:Nat):Int) from by split<;>omega]; exact h)
theorem op_maxI {a b:Int} (hx:ev ρ x=some (vI a)) (hy:ev ρ y=some (vI b)) (h:R (vI (max a b)) w):Op1 P n D ⟨dst,.call { callee:=.builtin .max,args:=#[x,y],argTypes:=#[t,t'] },ty,pos,af,g⟩ ρ w R :=
  op_max2 hx hy (by rw [show (if a<b then b else a)=max a b from by split<;>omega]; exact h)
end
end Go.Owl
namespace Go.Owl
def cellsAt (w:World) (b:Nat) (cs:List Value):Prop:= ∀(j:Nat) (u:Value),cs[j]?=some u→w.cell? ⟨b,j,none⟩=some u
theorem cellsAt.lt {w:World} {b:Nat} {cs:List Value} (h:cellsAt w b cs) (hne:cs≠[]):b<w.heap.size:=by
  cases cs with
  | nil=>exact absurd rfl hne
  | cons c l=>exact block_lt_of_cell (a:=⟨b,0,none⟩) (h 0 c rfl)
theorem cellsAt.stable (b:Nat) (cs:List Value):Stable (fun w=>cellsAt w b cs) (if cs.isEmpty then [] else [b]) where
  lt:=fun w h b' hb=>by
    cases cs with
    | nil=>simp at hb
    | cons c l=>simp at hb; subst hb; exact cellsAt.lt h (by simp)
  fr:=fun T w w' hf hT h j u hu=>by
    cases cs with
    | nil=>simp at hu
    | cons c l =>
      have hb:=cellsAt.lt h (by simp)
      rw [←h j u hu]
      exact World.cell?_of_block (hf.block b hb (hT b (by simp)))
def Ent.bo (b:Nat) (cs:List Value):Ent:=.ro (fun w=>cellsAt w b cs) (if cs.isEmpty then [] else [b]) (cellsAt.stable b cs)
section
variable {S:List Nat} {w0 w:World} {L:List Ent} {i b:Nat} {cs vs:List Value} {t:TypeId}
theorem Own.cellO {off:Nat} {v:Value} (H:Own S w0 w L) (hi:L[i]?=some (Ent.bo b cs)) (hc:cs[off]?=some v):w.cell? ⟨b,off,none⟩=some v:=(H.ok i _ hi) off v hc
theorem Own.cellsO {off:Nat} (H:Own S w0 w L) (hi:L[i]?=some (Ent.bo b cs)) (hc:(cs.drop off).take vs.length=vs): ∀j u,vs[j]?=some u→w.cell? ⟨b,off+j,none⟩=some u:=by
  intro j u hj
  rw [←hc,List.getElem?_take] at hj
  split at hj
  · rw [List.getElem?_drop] at hj; exact (H.ok i _ hi) _ u hj
  · cases hj
theorem Own.cellsAt (H:Own S w0 w L) (hi:L[i]?=some (Ent.blk b cs t)):cellsAt w b cs:=fun _j _u hu=>H.cell hi hu
theorem Own.cellsAtO (H:Own S w0 w L) (hi:L[i]?=some (Ent.bo b cs)):Owl.cellsAt w b cs:=H.ok i _ hi
theorem Own.oldB (H:Own [] w0 w L) (h:Owl.cellsAt w0 b cs):Own [] w0 w (L++[Ent.bo b cs]):=H.old (cellsAt.stable b cs) h
theorem Own.oldA {v:Value} {sz n:Nat} {xs:List Value} (H:Own [] w0 w L) (h:Arr w0 v sz n xs):Own [] w0 w (L++[Ent.ar v sz n xs]):=H.old (Arr.stable v sz n xs) h
end
end Go.Owl
namespace Go.Owl
theorem Own.rest {S:List Nat} {w0 w w1:World} {L E F:List Ent} {I J:List Nat} (H:Own S w0 w L) (hp:picks L I=some E) (hJ:nodupB J=true) (hq:picks L J=some F) (hd:J.all (fun j=> !I.any (Nat.beq j))=true)
    (R:Fr (blks E) w w1):Own S w0 w1 F:=by
  have P:=H.sel J hJ hq
  refine ⟨H.frPart hp R,fun i e hi=>?_,P.sep,P.own⟩
  obtain ⟨j,hj,h⟩:=picks_of hq hi
  have:=List.all_eq_true.1 hd j (List.mem_of_getElem? hj)
  exact H.stay hp h (by simpa using this) R
section
variable {P:Program} {n:Nat} {D:List Deferred} {ρ:Env} {w w0:World} {R:Value→World→Prop} {dst:Option Tmp} {ty:TypeId} {pos:String} {af:Array Edge} {g:Option (Nat × Bool)}
variable {S:List Nat} {L:List Ent} {i b:Nat} {t t' u T0:TypeId} {x y:Operand} {cs:List Value}
theorem Own.shape (H:Own S w0 w L) (hi:L[i]?=some (Ent.blk b cs T0)):w.shape? b=some (T0,cs.length):=by
  obtain ⟨fr,_,h⟩:=H.blk hi
  simp [World.shape?,h]
theorem info_cells {k:Nat} (h:P.cellsOf t=k+1): ∃j,P.info? t=some j∧j.size=k+1:=by
  unfold Program.cellsOf at h
  cases hj:P.info? t with
  | none=>rw [hj] at h; simp at h
  | some j=>rw [hj] at h; exact ⟨j,rfl,by simpa using h⟩
theorem op_toUnsafe {off k:Nat} (H:Own S w0 w L) (hs:P.underlying t=some (.pointer u)) (hd:P.underlying t'=some .unsafePointer) (hz:P.cellsOf u=k+1) (hx:ev ρ x=some (ptr b off)) (hi:L[i]?=some (Ent.blk b cs T0)) (ho:Nat.blt off cs.length=true)
    (h:R (ptr b off) w):Op1 P n D ⟨dst,.convert t t' x,ty,pos,af,g⟩ ρ w R:=by
  obtain ⟨j,hj,hjs⟩:=info_cells hz
  have hr:=Lib.run_to_unsafe (P:=P) w ⟨b,off,none⟩ hs hd hj (by omega) (H.shape hi) (by simpa [Nat.blt_eq] using ho)
  exact Op1.val (fun a ha=>by simp only [execOp,ha.ev hx,Sem.run_bind,hr,Result.andThen_ok,Sem.run_pure]) h
theorem op_fromUnsafe {off k:Nat} (H:Own S w0 w L) (hs:P.underlying t=some .unsafePointer) (hd:P.underlying t'=some (.pointer u)) (hz:P.cellsOf u=k+1) (hx:ev ρ x=some (ptr b off)) (hi:L[i]?=some (Ent.blk b cs T0)) (hp:Nat.blt 0 cs.length=true) (hc:P.cellsOf T0=cs.length) (hl:liesAt P P.depth T0 1 off u 1=true)
    (h:R (ptr b off) w):Op1 P n D ⟨dst,.convert t t' x,ty,pos,af,g⟩ ρ w R:=by
  obtain ⟨j,hj,hjs⟩:=info_cells hz
  have hpos:0<cs.length:=by simpa [Nat.blt_eq] using hp
  have hr:=Lib.run_from_unsafe (P:=P) w ⟨b,off,none⟩ hs hd hj (H.shape hi) (by rw [hc,Nat.div_self hpos]; exact hl)
  exact Op1.val (fun a ha=>by simp only [execOp,ha.ev hx,Sem.run_bind,hr,Result.andThen_ok,Sem.run_pure]) h
theorem op_noEscape {f:FuncId} {fn:Func} {v:Value} {ats:Array TypeId} (hf:P.funcs[f]?=some fn) (hname:(fn.name == "runtime.NumGoroutine")=false) (hb:fn.body.isNone=true) (hn:Extern.findNext fn=none) (he:Extern.find fn=some Extern.AbiNoEscape.same)
    (hx:ev ρ x=some v) (h:R v w):Op1 P n D ⟨dst,.call { callee:=.value (.func f),args:=#[x],argTypes:=ats },ty,pos,af,g⟩ ρ w R:=by
  have hr:=run_callFunc_extern hf hname hb hn he #[v] w
  rw [Lib.run_noEscape] at hr
  refine Op1.val (fun a ha=>?_) h
  have e0:(execOp a.eval ⟨dst,.call { callee:=.value (.func f),args:=#[x],argTypes:=ats },ty,pos,af,g⟩).run P w=(callFunc f #[v]).run P w:=by
    have h1:(#[x]:Array Operand).map a.eval=#[v]:=ha.evA (vs:=[v]) (by simp [evL,hx])
    have h2:a.eval (.func f)=.func (.func f) #[] #[]:=rfl
    simp [execOp,resolve,h1,h2,Deferred.ofValue,invoke]
  rw [e0,hr]
  rfl
theorem op_neqPP {k:Nat} {ad:Addr} (hu:P.underlying t=some (.pointer u)) (hz:P.cellsOf u=k+1) (hx:ev ρ x=some (.pointer (some ad))) (hy:ev ρ y=some (.pointer (some ad))) (h:R (.bool false) w):Op1 P n D ⟨dst,.binOp .neq t x y t',ty,pos,af,g⟩ ρ w R:=by
  obtain ⟨j,hj,hjs⟩:=info_cells hz
  have hr:=Lib.run_neq_ptr_same (P:=P) w ad hu hj
  exact Op1.val (fun c ha=>by
    have hg:(eqGuard .neq t x y (.pointer (some ad)) (.pointer (some ad))).run P w=.ok () w:=rfl
    simp only [execOp,ha.ev hx,ha.ev hy,Sem.run_bind,hg,Result.andThen_ok,hr,Sem.run_pure]) h
theorem op_sliceData {a0:Option Addr} {q cap:Nat} {ats:TypeId} (hx:ev ρ x=some (.slice a0 q cap)) (hc:a0=none∨cap≠0) (h:R (.pointer a0) w) :
    Op1 P n D ⟨dst,.call { callee:=.builtin .unsafeSliceData,args:=#[x],argTypes:=#[ats] },ty,pos,af,g⟩ ρ w R:=by
  have hr:(Builtin.unsafeSliceData_ #[ats] ty #[.slice a0 q cap]).run P w=.ok (.pointer a0) w:=by
    cases a0 with
    | none=>exact Lib.run_unsafeSliceData_nil w _ _ _ _
    | some a=>exact Lib.run_unsafeSliceData_row w _ _ _ _ _ (hc.resolve_left (by simp))
  exact Op1.val (fun c hc=>by simp [execOp,resolve,invoke,builtin,hc.ev hx,hr]) h
theorem liesAt_bytes' {e:TypeId} (hc:P.cellsOf e=1) (count o m:Nat) (hn:o+m≤count):liesAt P P.depth e count o e m=true:=by
  have hd:P.depth=(2 * (P.types.size+Made.depth)+1)+1:=rfl
  rw [hd]
  simp only [liesAt,Bool.or_eq_true]
  left
  rw [hd]
  simp [rowAt,hc,hn,sameLayout,Nat.mod_one]
theorem run_unsafeString_at (pt it ty e:TypeId) (hp:P.underlying pt=some (.pointer e)) (hc:P.cellsOf e=1) (g o cells:Nat) (hsh:w.shape? g=some (e,cells)) (l:List UInt8) (h0:l≠[]) (hn:o+l.length≤cells) (h63:l.length≤9223372036854775807)
    (hcell: ∀j x,l[j]?=some x→w.cell? ((⟨g,o,none⟩:Addr).add j)=some (.int .u8 x.toNat)) :
    (Builtin.unsafeString_ #[pt,it] ty #[.pointer (some ⟨g,o,none⟩),.int .i64 l.length]).run P w=.ok (.string ⟨l.toArray⟩) (w.freeze ⟨g,o,none⟩ l.length):=by
  have hl:l.length≠0:=by simpa using h0
  have hlb:=Lib.run_loadBytes (P:=P) w l ⟨g,o,none⟩ .empty hcell
  have hlies:=liesAt_bytes' (P:=P) hc (cells / P.cellsOf e) o l.length (by rw [hc]; simpa using hn)
  have h63':¬(9223372036854775807:Int)<(l.length:Int):=by omega
  have hdef:Builtin.unsafeString_ #[pt,it] ty #[.pointer (some ⟨g,o,none⟩),.int .i64 l.length] =
      (do
        let n ←asInt (.int .i64 l.length)
        if n<0 then runtimePanic (.error "unsafe.String: len out of range")
        if n>IntKind.i64.max then unsupported (.unsafePointer "String: a length above the largest int")
        if n=0 then pure (.string .empty)
        else if ←variablesAt ⟨g,o,none⟩ (←elemOf pt) n.toNat then do
          let s ←loadBytes ⟨g,o,none⟩ .empty n.toNat
          freeze ⟨g,o,none⟩ n.toNat
          pure (.string s)
        else unsupported (.unsafePointer "String: not so many bytes at ptr")):=rfl
  rw [hdef]
  have hmax:IntKind.i64.max=9223372036854775807:=rfl
  have hneg:¬(l.length:Int)<0:=by omega
  simp [asInt,asIntOf,hmax,h63',hneg,hl,variablesAt,hsh,elemOf,run_underlying hp,hlies,hlb]
theorem Fr.freeze (w:World) (p:Addr) (m:Nat):Fr [p.block] w (w.freeze p m):=by
  unfold World.freeze
  split
  · exact Fr.refl _ _
  · refine ⟨rfl,rfl,rfl,by simp,fun k _ hn=>?_⟩
    simp only [Array.getElem?_modify]
    rw [if_neg (by intro e; subst e; simp at hn)]
theorem Own.rowForm {v:Value} {sz q:Nat} {xs:List Value} (H:Own S w0 w L) (hi:L[i]?=some (Ent.row v t sz q xs)) (hz:v=.slice none 0 0∨q≠0): ∃a0 cap,v=.slice a0 q cap∧(a0=none∨cap≠0):=by
  obtain ⟨hl,⟨rfl,rfl⟩ | ⟨g,cap,pre,junk,rfl,hb,hn,hc,hj⟩⟩:=H.row hi
  · exact ⟨none,0,rfl,.inl rfl⟩
  · refine ⟨_,cap,rfl,.inr ?_⟩
    rcases hz with h | h
    · cases h
    · omega
theorem op_unsafeString {a0:Option Addr} {q cap:Nat} {l:List UInt8} {e pt it:TypeId} (H:Own S w0 w L) (hi:L[i]?=some (Ent.row (.slice a0 q cap) e 1 q (l.map vU8))) (hp:P.underlying pt=some (.pointer e)) (hc:P.cellsOf e=1) (hx:ev ρ x=some (.pointer a0)) (hy:ev ρ y=some (vN q))
    (h: ∀w',Fr (blks [Ent.row (.slice a0 q cap) e 1 q (l.map vU8)]) w w'→R (str l) w'):Op1 P n D ⟨dst,.call { callee:=.builtin .unsafeString,args:=#[x,y],argTypes:=#[pt,it] },ty,pos,af,g⟩ ρ w R:=by
  have hr0:=H.row hi
  have hq:l.length=q:=by have:=hr0.1; simpa using this
  have hr: ∃w',Fr (blks [Ent.row (.slice a0 q cap) e 1 q (l.map vU8)]) w w'∧(Builtin.unsafeString_ #[pt,it] ty #[.pointer a0,vN q]).run P w=.ok (str l) w':=by
    by_cases h0:l=[]
    · subst h0
      simp at hq; subst hq
      exact ⟨w,Fr.refl _ _,Lib.run_unsafeString_none w pt it ty a0⟩
    · obtain ⟨hl,⟨hv,hq0⟩ | ⟨gb,cap',pre,junk,hv,hb,hn,hcm,hj⟩⟩:=hr0
      · exact absurd (List.eq_nil_of_length_eq_zero (by omega)) h0
      · injection hv with h1 h2 h3
        subst h1
        refine ⟨_,(Fr.freeze w ⟨gb,pre.length,none⟩ l.length).mono (fun x hx=>?_),?_⟩
        · simp at hx; subst hx; exact mem_blks.2 ⟨0,_,rfl,rfl⟩
        · have hsh:w.shape? gb=some (e,(pre++(l.map vU8++junk)).length):=by
            obtain ⟨fr,_,hh⟩:=hb
            simp [World.shape?,hh]
          rw [←hq]
          refine run_unsafeString_at pt it ty e hp hc gb pre.length _ hsh l h0 (by simp) (by unfold maxLen at hcm; omega) (fun j x hx=>?_)
          rw [Addr.add_at,hb.cell,List.getElem?_append_right (by omega),Nat.add_sub_cancel_left,List.getElem?_append_left (by simpa using (List.getElem?_eq_some_iff.1 hx).1),List.getElem?_map,hx]
          try rfl
  obtain ⟨w',hf,hrun⟩:=hr
  exact Op1.val (fun c hc=>by simp [execOp,resolve,invoke,builtin,hc.ev hx,hc.ev hy,hrun]) (h w' hf)
end
end Go.Owl
