/- General lemmas and walks: SpecSeal2, SpecLoad, SpecLda. No condition but what each theorem names. -/
import Derived.Test.YtbjhccnffacbcaaGreatQ0a1db9bb
import Derived.Test.YtbjhccnffacbcaaGreatQ2aadc3ab
import Derived.DeepKeys
namespace Go.Spec
open Go.Owl
section
variable {key s:List UInt8} {pg en:UInt32} {xs:List Xt} {ps:List UInt16} {c:Bool} {sg:List Sg}
theorem cut_tag (key b:List UInt8):(b++mac key b).length-32=b.length∧(b++mac key b).take ((b++mac key b).length-32)=b∧(b++mac key b).drop ((b++mac key b).length-32)=mac key b∧¬(b++mac key b).length<32:=by
  have hm:=mac_length key b
  have e:(b++mac key b).length-32=b.length:=by rw [List.length_append]; omega
  refine ⟨e,?_,?_,by rw [List.length_append]; omega⟩
  · rw [e,List.take_left]
  · rw [e,List.drop_left]
theorem seal_open (h:imE pg xs ps en sg=0) (hl: ∀x∈sg,x.b.length≤262144):opC key (slS key pg xs ps c en sg)=0∧opI key (slS key pg xs ps c en sg)=⟨pg,xs,ps,c,en,sg⟩:=by
  obtain ⟨_,h2,h3,h4⟩:=cut_tag key (imB pg xs ps c en sg)
  have hs:slS key pg xs ps c en sg=imB pg xs ps c en sg++mac key (imB pg xs ps c en sg):=if_pos h
  have hg:=op_get (key:=key) (s:=slS key pg xs ps c en sg) (by rw [hs]; exact h4) (by rw [hs,h2,h3])
  rw [hg.1,hg.2,hs,h2]
  exact put_get_same h hl
theorem open_seal (h:opC key s=0):imE (opI key s).pg (opI key s).xs (opI key s).ps (opI key s).en (opI key s).sg=0∧slS key (opI key s).pg (opI key s).xs (opI key s).ps (opI key s).c (opI key s).en (opI key s).sg=s∧imGE (s.take (s.length-32))=0:=by
  by_cases h1:s.length<32
  · rw [(op_short h1).2] at h; cases h
  · by_cases h2:s.drop (s.length-32)=mac key (s.take (s.length-32))
    · have hg:=op_get h1 h2
      rw [hg.2] at h
      obtain ⟨b1,b2⟩:=back_put h
      rw [hg.1]
      refine ⟨b1,?_,h⟩
      rw [slS,if_pos b1,b2,←h2,List.take_append_drop]
    · rw [(op_tag h1 h2).2] at h; cases h
theorem imB_38 (h:xs.length≤600∧ps.length≤600∧sg.length≤15∧∀x∈sg,x.b.length≤262144):(imB pg xs ps c en sg).length<2^37:=by
  rw [imB]
  split
  · have h1:=imP3_len pg xs ps c en sg; have h2:=putS_len h.2.2.2 sg.length
    rw [imS,List.length_append]; omega
  · show 0<_; decide
theorem op_bounds (h:opC key s=0) (hs:s.length<2^37):(opI key s).xs.length≤2^20∧(opI key s).ps.length≤2^20∧(opI key s).sg.length≤2^10∧(∀x∈(opI key s).sg,x.b.length≤2^30) ∧
    (imB (opI key s).pg (opI key s).xs (opI key s).ps (opI key s).c (opI key s).en (opI key s).sg).length<2^38:=by
  have hg0:=(open_seal h).2.2
  have e:opI key s=imG (s.take (s.length-32)):=by
    by_cases h1:s.length<32
    · rw [(op_short h1).2] at h; cases h
    · by_cases h2:s.drop (s.length-32)=mac key (s.take (s.length-32))
      · exact (op_get h1 h2).1
      · rw [(op_tag h1 h2).2] at h; cases h
  rw [e]
  have hb:=get_bounds hg0 (by rw [List.length_take]; omega)
  refine ⟨hb.1,hb.2.1,hb.2.2.1,hb.2.2.2,?_⟩
  rw [(back_put hg0).2,List.length_take]; omega
end
end Go.Spec
namespace Go.Spec
open Go.Owl
def imN (i:Im):Nat:=(if imE i.pg i.xs i.ps i.en i.sg=0 then pagesTo i.sg i.sg.length else []).length
def loadE (pg:UInt32) (he:List UInt32) (l:List Gr) (sl:List Slt) (i:Im):Nat:=grantE pg he l ((ffS sl:Nat):Int) i.pg i.xs i.ps (UInt32.ofNat (imN i))
def loadG (pg:UInt32) (he:List UInt32) (l:List Gr) (sl:List Slt) (i:Im):List Gr:=grantG pg he l ((ffS sl:Nat):Int) i.pg i.xs i.ps i.c (UInt32.ofNat (imN i))
def loadS (sl:List Slt) (i:Im) (a:Ev):List Slt:=sl.set (ffS sl) ⟨true,imN i,some a⟩
theorem loadS_len {sl:List Slt} {i:Im} {a:Ev} (h9:sl.length=9):(loadS sl i a).length=9:=by rw [loadS,List.length_set]; exact h9
end Go.Spec
namespace Go.Spec
open Go.Owl
section
variable {pg:UInt32} {he:List UInt32} {key:List UInt8} {L:List (List UInt8)} {m i:Nat} {sl sl2:List Slt}
def allI (key:List UInt8) (L:List (List UInt8)) (m:Nat):Im:=opI key (L.getD m [])
def allG (pg:UInt32) (he:List UInt32) (key:List UInt8) (L:List (List UInt8)):Nat→List Gr
  | 0=>[]
  | m+1=>grantG pg he (allG pg he key L m) ((m+1:Nat):Int) (allI key L m).pg (allI key L m).xs (allI key L m).ps (allI key L m).c (UInt32.ofNat (imN (allI key L m)))
def allC (pg:UInt32) (he:List UInt32) (key:List UInt8) (L:List (List UInt8)) (m:Nat):Nat :=
  if opC key (L.getD m [])≠0 then opC key (L.getD m []) else if m=8 then 4 else
    grantE pg he (allG pg he key L m) ((m+1:Nat):Int) (allI key L m).pg (allI key L m).xs (allI key L m).ps (UInt32.ofNat (imN (allI key L m)))
def allN (pg:UInt32) (he:List UInt32) (key:List UInt8) (L:List (List UInt8)):Nat:=(List.range L.length).findIdx fun m=>decide (allC pg he key L m≠0)
theorem allN_eq (hi:i≤L.length) (h: ∀j,j<i→allC pg he key L j=0) (h2:i=L.length∨allC pg he key L i≠0):allN pg he key L=i:=by
  rcases Nat.lt_or_ge i L.length with h3 | h3
  · rw [allN,List.findIdx_eq (by rw [List.length_range]; exact h3)]
    refine ⟨?_,fun j hj=>?_⟩
    · rw [List.getElem_range]
      exact decide_eq_true (h2.resolve_left (by omega))
    · rw [List.getElem_range]
      exact decide_eq_false (fun h4=>h4 (h j hj))
  · have e:i=L.length:=by omega
    rw [allN,List.findIdx_eq_length.2 ?_,List.length_range,e]
    intro x hx
    exact decide_eq_false (fun h4=>h4 (h x (by have:=List.mem_range.1 hx; omega)))
def upS (a m:Nat) (sl:List Slt):Prop:=sl.length=9∧∀j,1≤j→j<9→(sl.getD j Slt.zero).is=decide (a<j∧j≤m)
theorem upS.ff (h:upS 0 m sl) (hm:m≤8):ffS sl=m+1 :=
  ffS_of h.1 (by omega) (by omega) (fun j h1 h2=>by rw [h.2 j h1 (by omega)]; exact decide_eq_true (by omega)) (by
    rcases Nat.lt_or_ge m 8 with h1 | h1
    · exact .inr (by rw [h.2 _ (by omega) (by omega)]; exact decide_eq_false (by omega))
    · exact .inl (by omega))
theorem slt_get_set2 {sl:List Slt} {i j:Nat} {x:Slt} (hi:i<sl.length):(sl.set i x).getD j Slt.zero=if i=j then x else sl.getD j Slt.zero:=by
  rw [List.getD_eq_getElem?_getD,List.getD_eq_getElem?_getD,List.getElem?_set]
  split
  · rfl
  · rfl
theorem upS.load {k:Im} {a:Ev} (h:upS 0 m sl) (hm:m<8):upS 0 (m+1) (loadS sl k a):=by
  refine ⟨loadS_len h.1,fun j h1 h2=>?_⟩
  rw [loadS,h.ff (by omega),slt_get_set2 (by rw [h.1]; omega)]
  split
  · exact (decide_eq_true (by omega)).symm
  · rw [h.2 j h1 h2,decide_eq_decide]; omega
theorem upS.rel {a:Nat} (h:upS a m sl) (hm:m<9) (ha:a<m):upS (a+1) m (sl.set (a+1) Slt.zero):=by
  refine ⟨by rw [List.length_set]; exact h.1,fun j h1 h2=>?_⟩
  rw [slt_get_set2 (by rw [h.1]; omega)]
  split
  · exact (decide_eq_false (by omega)).symm
  · rw [h.2 j h1 h2,decide_eq_decide]; omega
theorem upS.zero:upS 0 0 (List.replicate 9 Slt.zero):=⟨rfl,fun j h1 h2=>by
  rw [List.getD_eq_getElem?_getD,List.getElem?_replicate,if_pos h2]
  exact (decide_eq_false (by omega)).symm⟩
theorem upS.has {a:Nat} (h:upS a m sl) (hm:m<9) (ha:a<m):hasS sl (a+1)=true:=by
  rw [hasS,decide_eq_true (show 1≤a+1 by omega),decide_eq_true (show a+1<9 by omega),h.2 (a+1) (by omega) (by omega)]
  exact decide_eq_true (by omega)
theorem upS.none (h:upS m m sl):upS 0 0 sl:=⟨h.1,fun j h1 h2=>by rw [h.2 j h1 h2,decide_eq_decide]; omega⟩
theorem allG_env: ∀(m:Nat), ∀g∈allG pg he key L m,1≤g.e∧g.e≤m
  | 0,g,h=>by cases h
  | m+1,g,h=>by
    rw [allG,grantG] at h
    split at h
    · rcases List.mem_append.1 h with h | h
      · have:=allG_env m g h; omega
      · cases List.mem_singleton.1 h
        exact ⟨show 1≤((m+1:Nat):Int).toNat by omega,show ((m+1:Nat):Int).toNat≤m+1 by omega⟩
    · have:=allG_env m g h; omega
def delG (l:List Gr) (a:Nat):List Gr:=l.filter fun g=>decide (a<g.e)
theorem delG_zero (m:Nat):delG (allG pg he key L m) 0=allG pg he key L m:=List.filter_eq_self.2 fun g hg=>decide_eq_true (allG_env m g hg).1
theorem delG_all (m:Nat):delG (allG pg he key L m) m=[]:=List.filter_eq_nil_iff.2 fun g hg=>by
  have:=(allG_env m g hg).2
  simp; omega
theorem delG_rel {l:List Gr} {a:Nat}:relG (delG l a) ((a+1:Nat):Int)=delG l (a+1):=by
  rw [relG,delG,delG,List.filter_filter]
  refine List.filter_congr fun g _=>?_
  rw [grIs,Bool.eq_iff_iff]
  simp only [Bool.and_eq_true,Bool.not_eq_true',decide_eq_false_iff_not,decide_eq_true_iff]
  omega
def gndC (fr:UInt32) (l:List Gr) (i:Nat):List Value:=vU32 fr::((List.range 9).map (fun j=>Value.bool (decide (1≤j∧j<i)&&hasE l ((j:Nat):Int)))++[vN 0])
theorem gndC_len (fr:UInt32) (l:List Gr) (i:Nat):(gndC fr l i).length=11:=rfl
theorem gndC_one (fr:UInt32) (l:List Gr) (i:Nat):(gndC fr l i).all (·.oneCell')=true:=rfl
theorem gndC_set {fr:UInt32} {l:List Gr} (h1:1≤i) (h9:i<9):(gndC fr l i).set (1+i) (.bool (hasE l ((i:Nat):Int)))=gndC fr l (i+1):=by
  have e: ∀j:Nat,j≠i→decide (1≤j∧j<i+1)=decide (1≤j∧j<i):=fun j hj=>by rw [decide_eq_decide]; omega
  rw [show 1+i=i+1 by omega,gndC,gndC,List.set_cons_succ,List.set_append_left _ _ (by simpa using h9)]
  congr 2
  refine List.ext_getElem (by simp) fun j h1' h2'=>?_
  rw [List.getElem_set]
  simp only [List.getElem_map,List.getElem_range]
  split
  · rename_i e1
    subst e1
    rw [decide_eq_true (show 1≤i∧i<i+1 by omega),Bool.true_and]
  · rename_i e1
    rw [e j (fun h=>e1 h.symm)]
def lenT (L:List (List UInt8)):Nat→Nat
  | 0=>0
  | i+1=>lenT L i+(L.getD i []).length
theorem lenT_le {b:Nat} (h: ∀s∈L,s.length≤b): ∀i,lenT L i≤i * b
  | 0=>by rw [lenT]; omega
  | i+1=>by
    have h1:=lenT_le h i
    have h2:(L.getD i []).length≤b:=by
      rcases Nat.lt_or_ge i L.length with h3 | h3
      · rw [List.getD_eq_getElem?_getD,List.getElem?_eq_getElem h3]; exact h _ (List.getElem_mem h3)
      · rw [List.getD_eq_getElem?_getD,List.getElem?_eq_none h3]; exact Nat.zero_le _
    rw [lenT,Nat.succ_mul]; omega
theorem lenT_mono {i:Nat}: ∀d,lenT L i≤lenT L (i+d)
  | 0=>Nat.le_refl _
  | d+1=>by rw [←Nat.add_assoc,lenT]; exact Nat.le_trans (lenT_mono d) (Nat.le_add_right _ _)
theorem lenT_get {i j:Nat} (h:i<j):(L.getD i []).length≤lenT L j:=by
  have h1:=lenT_mono (L:=L) (i:=i+1) (j-(i+1))
  rw [show i+1+(j-(i+1))=j by omega,lenT] at h1; omega
def large24 (he:List UInt32) (key:List UInt8) (L:List (List UInt8)):Bool:=decide (he.length>40)||(decide (L.length>12)||decide (key.length+lenT L (min L.length 40)>131072))
theorem large24_no (h:large24 he key L=false):he.length≤40∧L.length≤12∧key.length≤131072∧∀i,i<L.length→(L.getD i []).length≤131072:=by
  rw [large24,Bool.or_eq_false_iff,Bool.or_eq_false_iff] at h
  have h1:=of_decide_eq_false h.1
  have h2:=of_decide_eq_false h.2.1
  have h3:=of_decide_eq_false h.2.2
  refine ⟨by omega,by omega,by omega,fun i hi=>?_⟩
  have:=lenT_get (L:=L) (i:=i) (j:=min L.length 40) (by omega)
  omega
def upto (n:Nat):List Nat:=(List.range n).map (· + 1)
theorem upto_succ:upto i++[i+1]=upto (i+1):=by rw [upto,upto,List.range_succ,List.map_append]; rfl
theorem upto_get {j:Nat} (h:j<i):(upto i).getD j 0=j+1:=by
  rw [upto,List.getD_eq_getElem?_getD,List.getElem?_map,List.getElem?_range h]; rfl
def allM (pg:UInt32) (he:List UInt32) (key:List UInt8) (L:List (List UInt8)):Nat:=if allN pg he key L=L.length then L.length else 0
def allE (pg:UInt32) (he:List UInt32) (key:List UInt8) (L:List (List UInt8)):Nat:=if allN pg he key L=L.length then 0 else allC pg he key L (allN pg he key L)
theorem SltTo.mono {t:TypeId} {w w1:World} (h:SltTo t w1 sl sl2) (hs:w.heap.size≤w1.heap.size):SltTo t w sl sl2:=fun b hb=>(h b hb).imp (Nat.le_trans hs) id
theorem SltTo.trans {t:TypeId} {w:World} {sl3:List Slt} (h:SltTo t w sl sl2) (k:SltTo t w sl2 sl3):SltTo t w sl sl3:=fun b hb=>(k b hb).elim .inl (fun q=>h b q)
theorem SltTo.refl {t:TypeId} {w:World}:SltTo t w sl sl:=fun _ hb=>.inr hb
theorem capRnil:CapR [] 0 []:=CapR.nil 0
theorem DpTo.refl {w:World} {gs:List Gr}:DpTo w gs gs:=fun _ hb=>.inr hb
theorem allC_8 (h:allC pg he key L m=0):opC key (L.getD m [])=0∧m≠8:=by
  rw [allC] at h
  by_cases h1:opC key (L.getD m [])=0
  · rw [if_neg (fun h2=>h2 h1)] at h
    exact ⟨h1,fun h2=>by rw [if_pos h2] at h; cases h⟩
  · rw [if_pos h1] at h; exact absurd h h1
theorem allC_E (hU:upS 0 m sl) (hm:m≤8) (h1:opC key (L.getD m [])=0) (h2:m≠8):allC pg he key L m=loadE pg he (allG pg he key L m) sl (opI key (L.getD m [])):=by
  rw [allC,if_neg (fun h=>h h1),if_neg h2,loadE,hU.ff hm]; rfl
theorem allG_load (hU:upS 0 m sl) (hm:m≤8):loadG pg he (allG pg he key L m) sl (opI key (L.getD m []))=allG pg he key L (m+1):=by
  rw [loadG,hU.ff hm]; rfl
theorem allG_same (h:loadE pg he (allG pg he key L m) sl (opI key (L.getD m []))≠0):loadG pg he (allG pg he key L m) sl (opI key (L.getD m []))=allG pg he key L m:=by
  rw [loadG,grantG]; exact if_neg h
end
end Go.Spec
namespace Go.Owl
section
variable {P:Program} {n:Nat} {D:List Deferred} {ρ:Env} {w:World} {R:Value→World→Prop} {dst:Option Tmp} {ty:TypeId} {pos:String} {af:Array Edge} {g:Option (Nat × Bool)} {t t':TypeId} {x y:Operand}
def sameB (P:Program) (t:TypeId):Bool:=P.keyTypeAt 5 t&&((match P.underlying t with | some (.array _ _) | some (.struct _)=>true | _=>false)&& !P.eqGuardType P.depth t)
theorem run_same {xs:Array Value} (hk:sameB P t=true) (hl:(keyOf P t (.agg xs)).isSome=true):(Op.equalIn 10000 t (.agg xs) (.agg xs)).run P w=.ok true w:=by
  rw [sameB,Bool.and_eq_true,Bool.and_eq_true] at hk
  obtain ⟨l,hl⟩:=Option.isSome_iff_exists.1 hl
  obtain ⟨r,h1,h2⟩:=run_equal_deep (P:=P) w (m:=5) (by decide) hk.1 hk.2.1 hl hl
  rw [h2.2 rfl] at h1
  exact h1
theorem mapM_some {α β:Type} {f:α→Option β}: ∀ {l:List α},(∀x∈l,(f x).isSome=true)→(l.mapM f).isSome=true
  | [],_=>rfl
  | a::l,h=>by
    obtain ⟨x,hx⟩:=Option.isSome_iff_exists.1 (h a List.mem_cons_self)
    obtain ⟨y,hy⟩:=Option.isSome_iff_exists.1 (mapM_some (f:=f) (l:=l) fun z hz=>h z (List.mem_cons_of_mem _ hz))
    rw [List.mapM_cons,hx,hy]; rfl
theorem keyOf_some {fs:Array Field} {xs:Array Value} {a b c:Field} (hu:P.underlying t=some (.struct fs)) (hk:P.keyType t=true) (hc:xs.size=P.cellsOf t) (hn:fs.all (·.name != "_")=true) (hf:fs.toList=[a,b,c])
    (ha:(P.keyLits P.types.size a.type ((xs.toList.drop a.offset).take (P.cellsOf a.type))).isSome=true) (hb:(P.keyLits P.types.size b.type ((xs.toList.drop b.offset).take (P.cellsOf b.type))).isSome=true) (hd:(P.keyLits P.types.size c.type ((xs.toList.drop c.offset).take (P.cellsOf c.type))).isSome=true):(keyOf P t (.agg xs)).isSome=true:=by
  have h1:(P.keyLits (P.types.size+1) t xs.toList).isSome=true:=by
    unfold Program.keyLits
    rw [hu]
    show (if xs.toList.length=P.cellsOf t∧fs.all (·.name != "_")=true then (fs.toList.mapM fun f=>P.keyLits P.types.size f.type ((xs.toList.drop f.offset).take (P.cellsOf f.type))).map List.flatten else none).isSome=true
    rw [if_pos ⟨by rw [Array.length_toList]; exact hc,hn⟩,Option.isSome_map,hf]
    refine mapM_some fun x hx=>?_
    rcases List.mem_cons.1 hx with rfl | hx
    · exact ha
    · rcases List.mem_cons.1 hx with rfl | hx
      · exact hb
      · rw [List.mem_singleton.1 hx]; exact hd
  have h2:(Value.agg xs).formed P t=true:=by
    unfold Value.formed
    rw [hu]
    show (xs.size==P.cellsOf t)=true
    rw [hc]; exact beq_self_eq_true _
  unfold keyOf
  rw [hu]
  show (if P.keyType t&&(Value.agg xs).formed P t then (P.keyLits (P.types.size+1) t xs.toList).map fun ls=>Lit.string (keyBytes ls) else none).isSome=true
  rw [hk,h2,Bool.and_self,if_pos rfl,Option.isSome_map]
  exact h1
theorem key_u32 {m:Nat} {l:List Value} {v:UInt32} (hm:Nat.blt 0 m=true) (hu:P.underlying t=some (.int .u32)) (hl:l=[vU32 v]):(P.keyLits m t l).isSome=true:=by
  subst hl
  cases m with
  | zero=>cases hm
  | succ d =>
    unfold Program.keyLits
    rw [hu]
    show (if IntKind.u32=IntKind.u32∧(Lit.int .u32 (v.toNat:Int)).wf=true then some [Lit.int .u32 (v.toNat:Int)] else none).isSome=true
    have h:=v.toNat_lt
    have hw:(Lit.int .u32 (v.toNat:Int)).wf=true:=by
      show (decide ((0:Int)≤(v.toNat:Int))&&decide ((v.toNat:Int)≤4294967295))=true
      rw [decide_eq_true (by omega),decide_eq_true (by omega)]; rfl
    rw [if_pos ⟨rfl,hw⟩]; rfl
theorem op_eqlSame {xs ys:Array Value} (hk:sameB P t=true) (hl:(keyOf P t (.agg xs)).isSome=true) (he:ys=xs) (hx:ev ρ x=some (.agg xs)) (hy:ev ρ y=some (.agg ys)) (h:R (.bool true) w):Op1 P n D ⟨dst,.binOp .eql t x y t',ty,pos,af,g⟩ ρ w R:=by
  subst he
  have hg:P.eqGuardType P.depth t=false:=by rw [sameB,Bool.and_eq_true,Bool.and_eq_true,Bool.not_eq_true'] at hk; exact hk.2.2
  exact Op1.val (fun a ha=>by simp only [execOp,ha.ev hx,ha.ev hy,Sem.run_bind,run_eqGuard_agg w .eql t x y _ _ hg,Result.andThen_ok,run_eql_struct,run_same hk hl,Sem.run_pure]) h
theorem op_neqSame {xs ys:Array Value} (hk:sameB P t=true) (hl:(keyOf P t (.agg xs)).isSome=true) (he:ys=xs) (hx:ev ρ x=some (.agg xs)) (hy:ev ρ y=some (.agg ys)) (h:R (.bool false) w):Op1 P n D ⟨dst,.binOp .neq t x y t',ty,pos,af,g⟩ ρ w R:=by
  subst he
  have hg:P.eqGuardType P.depth t=false:=by rw [sameB,Bool.and_eq_true,Bool.and_eq_true,Bool.not_eq_true'] at hk; exact hk.2.2
  exact Op1.val (fun a ha=>by simp only [execOp,ha.ev hx,ha.ev hy,Sem.run_bind,run_eqGuard_agg w .neq t x y _ _ hg,Result.andThen_ok,run_neq_struct,run_same hk hl,Sem.run_pure,Bool.not_true]) h
end
end Go.Owl
