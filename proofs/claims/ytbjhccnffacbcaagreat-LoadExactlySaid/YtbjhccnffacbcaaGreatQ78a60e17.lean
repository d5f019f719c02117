/- General lemmas and walks. No condition but what each theorem names. -/
import Derived.Test.YtbjhccnffacbcaaGreatQdafcbbee
import Derived.Test.YtbjhccnffacbcaaGreatQf3aef562
import Derived.DeepKeys
set_option maxRecDepth 100000
set_option maxHeartbeats 8000000
namespace Go.Spec
open Go.Owl
section
variable {key s:List UInt8} {pg en:UInt32} {xs:List Xt} {ps:List UInt16} {c:Bool} {sg:List Sg}
theorem EO (key b:List UInt8):(b++mac key b).length-32=b.length∧(b++mac key b).take ((b++mac key b).length-32)=b∧(b++mac key b).drop ((b++mac key b).length-32)=mac key b∧¬(b++mac key b).length<32:=by
  have hm:=lI key b
  have e:(b++mac key b).length-32=b.length:=by rw [List.length_append]; omega
  refine ⟨e,?_,?_,by rw [List.length_append]; omega⟩
  · rw [e,List.take_left]
  · rw [e,List.drop_left]
theorem yZ (h:imE pg xs ps en sg=0) (hl: ∀x∈sg,x.b.length≤262144):opC key (slS key pg xs ps c en sg)=0∧opI key (slS key pg xs ps c en sg)=⟨pg,xs,ps,c,en,sg⟩:=by
  obtain ⟨_,h2,h3,h4⟩:=EO key (imB pg xs ps c en sg)
  have hs:slS key pg xs ps c en sg=imB pg xs ps c en sg++mac key (imB pg xs ps c en sg):=if_pos h
  have hg:=nB (key:=key) (s:=slS key pg xs ps c en sg) (by rw [hs]; exact h4) (by rw [hs,h2,h3])
  rw [hg.1,hg.2,hs,h2]
  exact uU h hl
theorem gV (h:opC key s=0):imE (opI key s).pg (opI key s).xs (opI key s).ps (opI key s).en (opI key s).sg=0∧slS key (opI key s).pg (opI key s).xs (opI key s).ps (opI key s).c (opI key s).en (opI key s).sg=s∧jS (s.take (s.length-32))=0:=by
  by_cases h1:s.length<32
  · rw [(lC h1).2] at h; cases h
  · by_cases h2:s.drop (s.length-32)=mac key (s.take (s.length-32))
    · have hg:=nB h1 h2
      rw [hg.2] at h
      obtain ⟨b1,b2⟩:=tQ h
      rw [hg.1]
      refine ⟨b1,?_,h⟩
      rw [slS,if_pos b1,b2,←h2,List.take_append_drop]
    · rw [(pH h1 h2).2] at h; cases h
theorem ja (h:opC key s=0) (hs:s.length<2^37):(opI key s).xs.length≤2^20∧(opI key s).ps.length≤2^20∧(opI key s).sg.length≤2^10∧(∀x∈(opI key s).sg,x.b.length≤2^30) ∧
    (imB (opI key s).pg (opI key s).xs (opI key s).ps (opI key s).c (opI key s).en (opI key s).sg).length<2^38:=by
  have hg0:=(gV h).2.2
  have e:opI key s=imG (s.take (s.length-32)):=by
    by_cases h1:s.length<32
    · rw [(lC h1).2] at h; cases h
    · by_cases h2:s.drop (s.length-32)=mac key (s.take (s.length-32))
      · exact (nB h1 h2).1
      · rw [(pH h1 h2).2] at h; cases h
  rw [e]
  have hb:=yk hg0 (by rw [List.length_take]; omega)
  refine ⟨hb.1,hb.2.1,hb.2.2.1,hb.2.2.2,?_⟩
  rw [(tQ hg0).2,List.length_take]; omega
end
end Go.Spec
namespace Go.Spec
open Go.Owl
def imN (i:Im):Nat:=(if imE i.pg i.xs i.ps i.en i.sg=0 then aT i.sg i.sg.length else []).length
def fH (pg:UInt32) (he:List UInt32) (l:List Gr) (sl:List Slt) (i:Im):Nat:=dt pg he l ((ffS sl:Nat):Int) i.pg i.xs i.ps (UInt32.ofNat (imN i))
def df (pg:UInt32) (he:List UInt32) (l:List Gr) (sl:List Slt) (i:Im):List Gr:=dQ pg he l ((ffS sl:Nat):Int) i.pg i.xs i.ps i.c (UInt32.ofNat (imN i))
def cO (sl:List Slt) (i:Im) (a:Ev):List Slt:=sl.set (ffS sl) ⟨true,imN i,some a⟩
theorem eT {sl:List Slt} {i:Im} {a:Ev} (h9:sl.length=9):(cO sl i a).length=9:=by rw [cO,List.length_set]; exact h9
end Go.Spec
namespace Go.Spec
open Go.Owl
section
variable {pg:UInt32} {he:List UInt32} {key:List UInt8} {L:List (List UInt8)} {m i:Nat} {sl sl2:List Slt}
theorem ip {sl:List Slt} {i j:Nat} {x:Slt} (hi:i<sl.length):(sl.set i x).getD j Slt.zero=if i=j then x else sl.getD j Slt.zero:=by
  rw [List.getD_eq_getElem?_getD,List.getD_eq_getElem?_getD,List.getElem?_set]
  split
  · rfl
  · rfl
def fa (fr:UInt32) (l:List Gr) (i:Nat):List Value:=aa fr::((List.range 9).map (fun j=>Value.bool (decide (1≤j∧j<i)&&ei l ((j:Nat):Int)))++[vN 0])
theorem fC (fr:UInt32) (l:List Gr) (i:Nat):(fa fr l i).length=11:=rfl
theorem oQ (fr:UInt32) (l:List Gr) (i:Nat):(fa fr l i).all (·.oneCell')=true:=rfl
theorem BN {fr:UInt32} {l:List Gr} (h1:1≤i) (h9:i<9):(fa fr l i).set (1+i) (.bool (ei l ((i:Nat):Int)))=fa fr l (i+1):=by
  have e: ∀j:Nat,j≠i→decide (1≤j∧j<i+1)=decide (1≤j∧j<i):=fun j hj=>by rw [decide_eq_decide]; omega
  rw [show 1+i=i+1 by omega,fa,fa,List.set_cons_succ,List.set_append_left _ _ (by simpa using h9)]
  congr 2
  refine List.ext_getElem (by simp) fun j h1' h2'=>?_
  rw [List.getElem_set]
  simp only [List.getElem_map,List.getElem_range]
  split
  · rename_i e1
    subst e1
    rw [decide_eq_true (show 1≤i∧i<i+1 by omega),Bool.true_and]
  · rename_i e1
    rw [e j (fun h=>e1 h.symm)]
def jQ (L:List (List UInt8)):Nat→Nat
  | 0=>0
  | i+1=>jQ L i+(L.getD i []).length
theorem vq {b:Nat} (h: ∀s∈L,s.length≤b): ∀i,jQ L i≤i * b
  | 0=>by rw [jQ]; omega
  | i+1=>by
    have h1:=vq h i
    have h2:(L.getD i []).length≤b:=by
      rcases Nat.lt_or_ge i L.length with h3 | h3
      · rw [List.getD_eq_getElem?_getD,List.getElem?_eq_getElem h3]; exact h _ (List.getElem_mem h3)
      · rw [List.getD_eq_getElem?_getD,List.getElem?_eq_none h3]; exact Nat.zero_le _
    rw [jQ,Nat.succ_mul]; omega
theorem rx {i:Nat}: ∀d,jQ L i≤jQ L (i+d)
  | 0=>Nat.le_refl _
  | d+1=>by rw [←Nat.add_assoc,jQ]; exact Nat.le_trans (rx d) (Nat.le_add_right _ _)
theorem BE {i j:Nat} (h:i<j):(L.getD i []).length≤jQ L j:=by
  have h1:=rx (L:=L) (i:=i+1) (j-(i+1))
  rw [show i+1+(j-(i+1))=j by omega,jQ] at h1; omega
def jd (he:List UInt32) (key:List UInt8) (L:List (List UInt8)):Bool:=decide (he.length>40)||(decide (L.length>12)||decide (key.length+jQ L (min L.length 40)>131072))
theorem xU (h:jd he key L=false):he.length≤40∧L.length≤12∧key.length≤131072∧∀i,i<L.length→(L.getD i []).length≤131072:=by
  rw [jd,Bool.or_eq_false_iff,Bool.or_eq_false_iff] at h
  have h1:=of_decide_eq_false h.1
  have h2:=of_decide_eq_false h.2.1
  have h3:=of_decide_eq_false h.2.2
  refine ⟨by omega,by omega,by omega,fun i hi=>?_⟩
  have:=BE (L:=L) (i:=i) (j:=min L.length 40) (by omega)
  omega
theorem SltTo.mono {t:TypeId} {w w1:World} (h:SltTo t w1 sl sl2) (hs:w.heap.size≤w1.heap.size):SltTo t w sl sl2:=fun b hb=>(h b hb).imp (Nat.le_trans hs) id
theorem SltTo.trans {t:TypeId} {w:World} {sl3:List Slt} (h:SltTo t w sl sl2) (k:SltTo t w sl2 sl3):SltTo t w sl sl3:=fun b hb=>(k b hb).elim .inl (fun q=>h b q)
theorem SltTo.refl {t:TypeId} {w:World}:SltTo t w sl sl:=fun _ hb=>.inr hb
theorem EV:CapR [] 0 []:=CapR.nil 0
theorem DpTo.refl {w:World} {gs:List Gr}:DpTo w gs gs:=fun _ hb=>.inr hb
end
end Go.Spec
namespace Go.Owl
section
variable {P:Program} {n:Nat} {D:List Deferred} {ρ:Env} {w:World} {R:Value→World→Prop} {dst:Option Tmp} {ty:TypeId} {pos:String} {af:Array Edge} {g:Option (Nat × Bool)} {t t':TypeId} {x y:Operand}
def se (P:Program) (t:TypeId):Bool:=P.keyTypeAt 5 t&&((match P.underlying t with | some (.array _ _) | some (.struct _)=>true | _=>false)&& !P.eqGuardType P.depth t)
theorem AQ {xs:Array Value} (hk:se P t=true) (hl:(keyOf P t (.agg xs)).isSome=true):(Op.equalIn 10000 t (.agg xs) (.agg xs)).run P w=.ok true w:=by
  rw [se,Bool.and_eq_true,Bool.and_eq_true] at hk
  obtain ⟨l,hl⟩:=Option.isSome_iff_exists.1 hl
  obtain ⟨r,h1,h2⟩:=run_equal_deep (P:=P) w (m:=5) (by decide) hk.1 hk.2.1 hl hl
  rw [h2.2 O] at h1
  exact h1
theorem rq {α β:Type} {f:α→Option β}: ∀ {l:List α},(∀x∈l,(f x).isSome=true)→(l.mapM f).isSome=true
  | [],_=>rfl
  | a::l,h=>by
    obtain ⟨x,hx⟩:=Option.isSome_iff_exists.1 (h a List.mem_cons_self)
    obtain ⟨y,hy⟩:=Option.isSome_iff_exists.1 (rq (f:=f) (l:=l) fun z hz=>h z (List.mem_cons_of_mem _ hz))
    rw [List.mapM_cons,hx,hy]; rfl
theorem xV {fs:Array Field} {xs:Array Value} {a b c:Field} (hu:P.underlying t=some (.struct fs)) (hk:P.keyType t=true) (hc:xs.size=P.cellsOf t) (hn:fs.all (·.name != "_")=true) (hf:fs.toList=[a,b,c])
    (ha:(P.keyLits P.types.size a.type ((xs.toList.drop a.offset).take (P.cellsOf a.type))).isSome=true) (hb:(P.keyLits P.types.size b.type ((xs.toList.drop b.offset).take (P.cellsOf b.type))).isSome=true) (hd:(P.keyLits P.types.size c.type ((xs.toList.drop c.offset).take (P.cellsOf c.type))).isSome=true):(keyOf P t (.agg xs)).isSome=true:=by
  have h1:(P.keyLits (P.types.size+1) t xs.toList).isSome=true:=by
    unfold Program.keyLits
    rw [hu]
    show (if xs.toList.length=P.cellsOf t∧fs.all (·.name != "_")=true then (fs.toList.mapM fun f=>P.keyLits P.types.size f.type ((xs.toList.drop f.offset).take (P.cellsOf f.type))).map List.flatten else none).isSome=true
    rw [if_pos ⟨by rw [Array.length_toList]; exact hc,hn⟩,Option.isSome_map,hf]
    refine rq fun x hx=>?_
    rcases List.mem_cons.1 hx with rfl | hx
    · exact ha
    · rcases List.mem_cons.1 hx with rfl | hx
      · exact hb
      · rw [List.mem_singleton.1 hx]; exact hd
  have h2:(Value.agg xs).formed P t=true:=by
    unfold Value.formed
    rw [hu]
    show (xs.size==P.cellsOf t)=true
    rw [hc]; exact beq_self_eq_true _
  unfold keyOf
  rw [hu]
  show (if P.keyType t&&(Value.agg xs).formed P t then (P.keyLits (P.types.size+1) t xs.toList).map fun ls=>Lit.string (keyBytes ls) else none).isSome=true
  rw [hk,h2,Bool.and_self,if_pos O,Option.isSome_map]
  exact h1
theorem El {m:Nat} {l:List Value} {v:UInt32} (hm:Nat.blt 0 m=true) (hu:P.underlying t=some (.int .u32)) (hl:l=[aa v]):(P.keyLits m t l).isSome=true:=by
  subst hl
  cases m with
  | zero=>cases hm
  | succ d =>
    unfold Program.keyLits
    rw [hu]
    show (if IntKind.u32=IntKind.u32∧(Lit.int .u32 (v.toNat:Int)).wf=true then some [Lit.int .u32 (v.toNat:Int)] else none).isSome=true
    have h:=v.toNat_lt
    have hw:(Lit.int .u32 (v.toNat:Int)).wf=true:=by
      show (decide ((0:Int)≤(v.toNat:Int))&&decide ((v.toNat:Int)≤4294967295))=true
      rw [decide_eq_true (by omega),decide_eq_true (by omega)]; rfl
    rw [if_pos ⟨rfl,hw⟩]; rfl
theorem jq {xs ys:Array Value} (hk:se P t=true) (hl:(keyOf P t (.agg xs)).isSome=true) (he:ys=xs) (hx:ev ρ x=some (.agg xs)) (hy:ev ρ y=some (.agg ys)) (h:R (.bool true) w):Op1 P n D ⟨dst,.binOp .eql t x y t',ty,pos,af,g⟩ ρ w R:=by
  subst he
  have hg:P.eqGuardType P.depth t=false:=by rw [se,Bool.and_eq_true,Bool.and_eq_true,Bool.not_eq_true'] at hk; exact hk.2.2
  exact Op1.val (fun a ha=>by simp only [execOp,ha.ev hx,ha.ev hy,Sem.run_bind,run_eqGuard_agg w .eql t x y _ _ hg,Result.andThen_ok,run_eql_struct,AQ hk hl,Sem.run_pure]) h
end
end Go.Owl
namespace Go.Spec
open Go.Owl
def pbc (p:Pb):List Value:=[aa p.1,vU8 p.2.1,str p.2.2]
def Bh (a:UInt32) (p:UInt8) (t:List UInt8):Pb:=(a,p,t)
def pbZ:Pb:=(0,0,[])
theorem Du {s:List UInt8} {k m:Nat} (h:m<256):(List.replicate 256 (0:UInt8)).getD m 0=if m<0 then s.getD (256 * k+m) 0 else 0:=by
  rw [if_neg (by omega),List.getD_eq_getElem?_getD,List.getElem?_replicate,if_pos h]; rfl
theorem AM {r s:List UInt8} {k j:Nat} (hr:r.length=256) (hj:j<256) (h: ∀m,m<256→r.getD m 0=if m<j then s.getD (256 * k+m) 0 else 0) :
    ∀m,m<256→(r.set j (s.getD (256 * k+j) 0)).getD m 0=if m<j+1 then s.getD (256 * k+m) 0 else 0:=fun m hm=>by
  by_cases e:m=j
  · subst e; rw [if_pos (by omega),List.getD_eq_getElem?_getD,List.getElem?_set_self (by omega)]; rfl
  · rw [List.getD_eq_getElem?_getD,List.getElem?_set_ne (by omega),←List.getD_eq_getElem?_getD,h m hm]
    by_cases h2:m<j
    · rw [if_pos h2,if_pos (by omega)]
    · rw [if_neg h2,if_neg (by omega)]
theorem uZ {r s:List UInt8} {k j:Nat} (hr:r.length=256) (h: ∀m,m<256→r.getD m 0=if m<j then s.getD (256 * k+m) 0 else 0) (he:j=256∨s.length≤256 * k+j) (_hj:j≤256):r=kF s k :=
  mQ hr (mC s k) fun m hm=>by
    rw [h m hm,rb s k hm]
    by_cases h2:m<j
    · rw [if_pos h2]
    · rw [if_neg h2,List.getD_eq_getElem?_getD,List.getElem?_eq_none (by omega)]; rfl
theorem qO (L:List Pb) (x:Sg) (k:Nat):(L++gC x k).length=L.length+k:=by rw [List.length_append,jD]
theorem yl {sg:List Sg} (h: ∀x∈sg,x.b.length≤2^30) (i:Nat):(sg.getD i Sg.zero).b.length≤2^30:=by
  rcases Nat.lt_or_ge i sg.length with hi | hi
  · rw [List.getD_eq_getElem?_getD,List.getElem?_eq_getElem hi]; exact h _ (List.getElem_mem hi)
  · rw [List.getD_eq_getElem?_getD,List.getElem?_eq_none hi]; exact Nat.zero_le _
end Go.Spec
namespace Go.Spec
open Go.Owl
theorem zM: ∀a b:UInt32,bO a b=false→bO b a=false→a=b:=fun a b h1 h2=>by
  have h1:=of_decide_eq_false h1
  have h2:=of_decide_eq_false h2
  rw [UInt32.lt_iff_toNat_lt] at h1 h2
  exact UInt32.toNat_inj.1 (by omega)
section
variable {pg en:UInt32} {xs:List Xt} {ps:List UInt16} {sg:List Sg}
theorem uL {x:Sg} (h:SgOK x): ∀n,n≤pgN x→((gC x n).map (·.1)).Pairwise (fun a b=>a<b)
  | 0,_=>List.Pairwise.nil
  | n+1,hn=>by
    rw [gC,List.map_append,List.pairwise_append]
    refine ⟨uL h n (by omega),List.pairwise_singleton _ _,fun a ha b hb=>?_⟩
    obtain ⟨p,hp,rfl⟩:=List.mem_map.1 ha
    obtain ⟨j,hj,rfl⟩:=lq hp
    rw [List.map_singleton,List.mem_singleton] at hb
    subst hb
    rw [UInt32.lt_iff_toNat_lt]
    show (x.a+UInt32.ofNat (256 * j)).toNat<(x.a+UInt32.ofNat (256 * n)).toNat
    rw [h.at (h.atN (show j<pgN x by omega)),h.at (h.atN (show n<pgN x by omega))]
    omega
theorem vu (h:imE pg xs ps en sg=0) (hB: ∀x∈sg,x.b.length≤2^47): ∀k,k≤sg.length→((dD sg k).map (·.1)).Pairwise (fun a b=>a<b)
  | 0,_=>List.Pairwise.nil
  | k+1,hk=>by
    obtain ⟨h1,h2⟩:=lP h hB (show k<sg.length by omega)
    rw [dD,List.map_append,List.pairwise_append]
    refine ⟨vu h hB k (by omega),uL h1 _ (Nat.le_refl _),fun a ha b hb=>?_⟩
    obtain ⟨p,hp,rfl⟩:=List.mem_map.1 ha
    obtain ⟨q,hq,rfl⟩:=List.mem_map.1 hb
    have h3:=(ix h hB k (by omega) p hp).1
    obtain ⟨j,hj,rfl⟩:=lq hq
    rw [UInt32.lt_iff_toNat_lt]
    show p.1.toNat<((sg.getD k Sg.zero).a+UInt32.ofNat (256 * j)).toNat
    rw [h1.at (h1.atN hj)]
    omega
theorem zn {qs:List Pg} {ks:List UInt32} (h:imE pg xs ps en sg=0) (hB: ∀x∈sg,x.b.length≤2^47) (hP:(qs.map Pg.bare).Perm (dD sg sg.length)) (hk:(qs.map Pg.a).Perm ks∧ks.Pairwise (fun x y=>bO y x=false)):ks=(dD sg sg.length).map (·.1):=by
  have e:qs.map Pg.a=(qs.map Pg.bare).map (·.1):=by rw [List.map_map]; rfl
  have h1:ks.Perm ((dD sg sg.length).map (·.1)):=hk.1.symm.trans (by rw [e]; exact hP.map _)
  exact og zM h1 hk.2 (zN (vu h hB sg.length (Nat.le_refl _)))
theorem Hl {qs:List Pg} {i:Nat} (h:imE pg xs ps en sg=0) (hB: ∀x∈sg,x.b.length≤2^47) (hP:(qs.map Pg.bare).Perm (dD sg sg.length)) (hi:i<(dD sg sg.length).length) :
    ∃g∈qs,g.bare=(dD sg sg.length).getD i pbZ∧(g.a.toNat%256=0∧inS g.a 256∧g.bs.length=256):=by
  have hm:(dD sg sg.length).getD i pbZ∈dD sg sg.length:=by
    rw [List.getD_eq_getElem?_getD,List.getElem?_eq_getElem hi]; exact List.getElem_mem hi
  obtain ⟨g,hg,e⟩:=List.mem_map.1 (hP.mem_iff.2 hm)
  rw [←e] at hm
  exact ⟨g,hg,e,(ix h hB sg.length (Nat.le_refl _) _ hm).2.1,zT h hB (Nat.le_refl _) _ hm,(ix h hB sg.length (Nat.le_refl _) _ hm).2.2⟩
theorem oS (l:List Pb) (i:Nat):(l.map (·.1)).getD i 0=(l.getD i pbZ).1:=by
  rw [List.getD_eq_getElem?_getD,List.getD_eq_getElem?_getD,List.getElem?_map]
  cases l[i]?<;>rfl
end
end Go.Spec
namespace Go.Spec
theorem ry (sg:List Sg) {i:Nat}: ∀d,(dD sg i).length≤(dD sg (i+d)).length
  | 0=>Nat.le_refl _
  | d+1=>by
    rw [←Nat.add_assoc,dD,List.length_append]
    exact Nat.le_trans (ry sg d) (Nat.le_add_right _ _)
theorem Ep {sg:List Sg} {i k:Nat} (hi:i<sg.length) (hk:k<pgN (sg.getD i Sg.zero)):(dD sg i++gC (sg.getD i Sg.zero) k).length<(dD sg sg.length).length:=by
  have h1:=ry sg (i:=i+1) (sg.length-(i+1))
  rw [show i+1+(sg.length-(i+1))=sg.length by omega,dD,List.length_append,jD] at h1
  rw [List.length_append,jD]; omega
end Go.Spec
namespace Go.Spec
open Go.Owl
def idB (x y:Xt):Bool:=decide (x.id=y.id)
def gt (ax:List Xt) (as:List UInt16) (bx:List Xt) (bs:List UInt16):Bool:=ax.any (fun x=>bx.any (idB x))||as.any (fun p=>bs.any (gG p))
theorem tS {α β:Type} {p:α→β→Bool} {l:List α} {m:List β}:l.any (fun x=>m.any (p x))=m.any (fun y=>l.any (fun x=>p x y)):=by
  rw [Bool.eq_iff_iff]
  simp only [List.any_eq_true]
  constructor
  · rintro ⟨x,hx,y,hy,h⟩; exact ⟨y,hy,x,hx,h⟩
  · rintro ⟨y,hy,x,hx,h⟩; exact ⟨x,hx,y,hy,h⟩
theorem zJ {g:Gr} {xs:List Xt} {ps:List UInt16}:gt g.xs g.ps xs ps=iR xs ps g:=by
  rw [gt,iR,Bool.or_comm,tS (l:=g.ps),tS (l:=g.xs)]
  congr 1
  refine congrArg (fun f=>ps.any f) (funext fun y=>?_)
  refine congrArg (fun f=>g.ps.any f) (funext fun x=>?_)
  rw [gG,gG,decide_eq_decide]; exact eq_comm
def eK (l:List Gr):Nat→List Mf
  | 0=>[]
  | i+1=>if ei l ((i+1:Nat):Int)=true then eK l i++[⟨(obs l ((i+1:Nat):Int)).pg,(obs l ((i+1:Nat):Int)).xs,(obs l ((i+1:Nat):Int)).ps,(obs l ((i+1:Nat):Int)).con⟩] else eK l i
def lK (he:List UInt32) (x:Xt):Bool:=decide (x.bl>he.getD x.id.toNat 0)
def mq (he:List UInt32) (free:UInt32) (ms:List Mf) (mp:UInt32) (xs:List Xt) (ps:List UInt16) (n:Nat):Nat :=
  if xs.any (jk he)=true then 3 else if xs.any (lK he)=true then 5 else if ms.any (fun m=>gt m.xs m.ps xs ps)=true then 190 else if mp.toNat+n>free.toNat then 4 else 0
section
variable {l:List Gr} {i:Nat}
theorem ie {en:Int}:ei l en=true↔∃g∈l,(g.e:Int)=en:=by
  rw [ei,List.any_eq_true]
  exact ⟨fun ⟨g,hg,h⟩=>⟨g,hg,of_decide_eq_true h⟩,fun ⟨g,hg,h⟩=>⟨g,hg,decide_eq_true h⟩⟩
theorem DQ {en:Int} (h:ei l en=true):obs l en∈l∧((obs l en).e:Int)=en:=by
  rw [obs]
  cases hf:l.find? (jr en) with
  | none =>
    obtain ⟨g,hg,he⟩:=ie.1 h
    exact absurd (decide_eq_true he) (List.find?_eq_none.1 hf g hg)
  | some g =>
    have h2:=List.find?_some hf
    refine ⟨List.mem_of_find?_eq_some hf,?_⟩
    show (g.e:Int)=en
    exact of_decide_eq_true h2
theorem sR {xs:List Xt} {ps:List UInt16} (hu: ∀g∈l, ∀g2∈l,g.e=g2.e→g=g2): ∀i,(eK l i).any (fun m=>gt m.xs m.ps xs ps)=true↔∃g∈l,1≤g.e∧g.e≤i∧iR xs ps g=true
  | 0=>by
    constructor
    · intro h; cases h
    · rintro ⟨g,_,h1,h2,_⟩; omega
  | i+1=>by
    have ih:=sR (xs:=xs) (ps:=ps) hu i
    rw [eK]
    split
    · rename_i h
      obtain ⟨h1,h2⟩:=DQ h
      have h2':(obs l ((i+1:Nat):Int)).e=i+1:=by omega
      rw [List.any_append,Bool.or_eq_true,ih]
      simp only [List.any_cons,List.any_nil,Bool.or_false,zJ]
      constructor
      · rintro (⟨g,a,b,c,d⟩ | h3)
        · exact ⟨g,a,b,by omega,d⟩
        · exact ⟨_,h1,by omega,by omega,h3⟩
      · rintro ⟨g,a,b,c,d⟩
        by_cases h3:g.e≤i
        · exact .inl ⟨g,a,b,h3,d⟩
        · have h4:=hu g a _ h1 (by omega)
          exact .inr (h4 ▸ d)
    · rename_i h
      rw [ih]
      constructor
      · rintro ⟨g,a,b,c,d⟩; exact ⟨g,a,b,by omega,d⟩
      · rintro ⟨g,a,b,c,d⟩
        refine ⟨g,a,b,?_,d⟩
        by_cases h3:g.e≤i
        · exact h3
        · exact absurd (ie.2 ⟨g,a,by omega⟩) h
end
end Go.Spec
namespace Go.Spec
open Go.Owl
theorem DY {w:World} {ms:List Mm} (h:MmD.list.ok w ms): ∀c∈List.flatMap mmc ms,c.oneCell'=true:=fun c hc=>by
  obtain ⟨x,hx,hc⟩:=List.mem_flatMap.1 hc
  have hx:=h x hx
  simp only [mmc,List.mem_cons,List.not_mem_nil,or_false] at hc
  rcases hc with rfl | rfl | rfl | rfl
  · rfl
  · exact Arr.one (yB hx)
  · exact Arr.one (yC hx)
  · rfl
theorem FH (X:Mm) {S:List Nat} {w0 w:World} {L:List Ent} {a b n1 n2:Nat} (H:Go.Owl.Own S w0 w L) (ha:L[a]?=some (Ent.ar X.ev 2 n1 (X.xs.flatMap xtc))) (hb:L[b]?=some (Ent.ar X.pv 1 n2 (X.ps.map bA))):Go.Owl.Own S w0 w (L++[Ent.dp MmD X]) :=
  H.join ha hb (fun h k=>Gi (Arr.lenF h (fun _=>rfl) (by decide)) (by have h2:=k.len; rw [List.length_map,Nat.mul_one] at h2; rw [h2]; exact k)) (fun b hb=>List.mem_append.1 hb)
theorem By {X:Mm} {m:List Mm} {s:Nat} (h: ∀b∈MmD.list.ft m,s≤b) (h1: ∀b∈eO X.ev (X.xs.flatMap xtc),s≤b) (h2: ∀b∈eO X.pv (X.ps.map bA),s≤b): ∀b∈MmD.list.ft (m++[X]),s≤b:=by
  intro b hb
  have hb':b∈(m++[X]).flatMap MmD.ft:=hb
  rw [List.flatMap_append,List.mem_append] at hb'
  rcases hb' with k | k
  · exact h b k
  · rw [List.flatMap_cons,List.flatMap_nil,List.append_nil] at k
    rcases List.mem_append.1 k with q | q
    · exact h1 b q
    · exact h2 b q
end Go.Spec
namespace Go.Spec
open Go.Owl
theorem tD {mp free:UInt32} {n:Nat} (h:n≤4096):(UInt64.ofNat mp.toNat+UInt64.ofNat n>UInt64.ofNat free.toNat)↔mp.toNat+n>free.toNat:=by
  have h1:=mp.toNat_lt
  have h2:=free.toNat_lt
  rw [gt_iff_lt,UInt64.lt_iff_toNat_lt,UInt64.toNat_add,UInt64.toNat_ofNat',UInt64.toNat_ofNat',UInt64.toNat_ofNat']
  omega
end Go.Spec
namespace Go.Spec
open Go.Owl
structure InvX (l:List Gr) (sl:List Slt):Prop where
  len:sl.length=9
  is: ∀j,1≤j→j<9→(sl.getD j Slt.zero).is=ei l ((j:Nat):Int)
  env: ∀g∈l,1≤g.e∧g.e≤8
  uni: ∀g∈l, ∀g2∈l,g.e=g2.e→g=g2
section
variable {l:List Gr} {sl:List Slt} {pg:UInt32} {he:List UInt32} {I:Im} {i:Nat}
theorem InvX.nil:InvX [] (List.replicate 9 Slt.zero):=by
  refine ⟨rfl,fun j _ h2=>?_,fun g h=>?_,fun g h=>?_⟩
  · rw [List.getD_eq_getElem?_getD,List.getElem?_replicate,if_pos h2]; rfl
  · cases h
  · cases h
theorem InvX.has (h:InvX l sl) (h1:1≤i) (h2:i<9):ic sl i=ei l ((i:Nat):Int):=by
  rw [ic,decide_eq_true h1,decide_eq_true h2,h.is i h1 h2]; rfl
theorem InvX.out (h:InvX l sl) (hi:¬(1≤i∧i<9)):ei l ((i:Nat):Int)=false:=by
  rw [Bool.eq_false_iff]; intro h2
  obtain ⟨g,hg,he⟩:=ie.1 h2
  have:=h.env g hg; omega
theorem InvX.free (h:InvX l sl) (hf:ffS sl≠9):ei l ((ffS sl:Nat):Int)=false:=by
  have h1:=eP h.len
  rw [←h.is _ (gj sl) (by omega)]
  exact Ca h.len hf
theorem InvX.first (h:InvX l sl) (h1:1≤i) (h2:i≤9) (ha: ∀j,1≤j→j<i→ei l ((j:Nat):Int)=true) (hf:i=9∨ei l ((i:Nat):Int)=false):ffS sl=i :=
  kx h.len h1 h2 (fun j a b=>by rw [h.is j a (by omega)]; exact ha j a b) (hf.elim .inl fun q=>by
    rcases Nat.lt_or_ge i 9 with h3 | h3
    · exact .inr (by rw [h.is i h1 h3]; exact q)
    · exact .inl (by omega))
theorem kp (h:fH pg he l sl I≠0):df pg he l sl I=l:=by rw [df,dQ]; exact if_neg h
def oI (sl:List Slt) (I:Im):Gr:=⟨ffS sl,0,0,I.pg,.slice none 0 0,I.xs,.slice none 0 0,I.ps,I.c,UInt32.ofNat (imN I),0⟩
theorem jO (h:fH pg he l sl I=0):df pg he l sl I=l++[oI sl I]:=by rw [df,dQ]; exact if_pos h
theorem oP {g:Gr} {en:Int}:ei (l++[g]) en=(ei l en||decide ((g.e:Int)=en)):=by
  rw [ei,ei,List.any_append,List.any_cons,List.any_nil,Bool.or_false]; rfl
theorem InvX.load {a:Ev} (h:InvX l sl) (hf:ffS sl≠9) (hw:fH pg he l sl I=0):InvX (df pg he l sl I) (cO sl I a):=by
  have h9:=eP h.len
  have h1:=gj sl
  have hn:=h.free hf
  have hno: ∀g∈l,g.e≠ffS sl:=fun g hg e=>by
    have:=ie.2 ⟨g,hg,show (g.e:Int)=((ffS sl:Nat):Int) by rw [e]⟩
    rw [hn] at this; cases this
  rw [jO hw]
  refine ⟨eT h.len,fun j a b=>?_,fun g hg=>?_,fun g hg g2 hg2 e=>?_⟩
  · rw [oP,cO,ip (by rw [h.len]; omega),←h.is j a b]
    by_cases hj:ffS sl=j
    · rw [if_pos hj,decide_eq_true (show ((oI sl I).e:Int)=(j:Int) by rw [←hj]; rfl),Bool.or_true]
    · rw [if_neg hj,decide_eq_false (p:=((oI sl I).e:Int)=(j:Int)) (fun q=>hj (by have q2:((ffS sl:Nat):Int)=j:=q; omega)),Bool.or_false]
  · rcases List.mem_append.1 hg with hg | hg
    · exact h.env g hg
    · rw [List.mem_singleton.1 hg]; exact ⟨h1,show ffS sl≤8 by omega⟩
  · rcases List.mem_append.1 hg with hg | hg<;>rcases List.mem_append.1 hg2 with hg2 | hg2
    · exact h.uni g hg g2 hg2 e
    · rw [List.mem_singleton.1 hg2] at e; exact absurd e (hno g hg)
    · rw [List.mem_singleton.1 hg] at e; exact absurd e.symm (hno g2 hg2)
    · rw [List.mem_singleton.1 hg,List.mem_singleton.1 hg2]
theorem iI {g:Gr}:g∈ly l ((i:Nat):Int)↔g∈l∧g.e≠i:=by
  rw [ly,List.mem_filter,jr,Bool.not_eq_true',decide_eq_false_iff_not]
  exact and_congr_right fun _=>not_congr (by omega)
theorem InvX.rel (h:InvX l sl) (hi:ic sl i=true):InvX (ly l ((i:Nat):Int)) (sl.set i Slt.zero):=by
  obtain ⟨h1,h9,_⟩:=je hi
  refine ⟨by rw [List.length_set]; exact h.len,fun j a b=>?_,fun g hg=>h.env g (iI.1 hg).1,fun g hg g2 hg2 e=>h.uni g (iI.1 hg).1 g2 (iI.1 hg2).1 e⟩
  rw [ip (by rw [h.len]; exact h9),Bool.eq_iff_iff,ie]
  split
  · rename_i e
    constructor
    · intro q; cases q
    · rintro ⟨g,hg,q⟩; exact absurd (by omega) (iI.1 hg).2
  · rename_i e
    rw [h.is j a b,ie]
    exact ⟨fun ⟨g,hg,q⟩=>⟨g,iI.2 ⟨hg,by omega⟩,q⟩,fun ⟨g,hg,q⟩=>⟨g,(iI.1 hg).1,q⟩⟩
theorem yy {α:Type} {p q:α→Bool} {xs:List α} (h: ∀x∈xs,p x=q x):xs.any p=xs.any q:=by
  rw [Bool.eq_iff_iff,List.any_eq_true,List.any_eq_true]
  exact ⟨fun ⟨x,hx,e⟩=>⟨x,hx,by rw [←h x hx]; exact e⟩,fun ⟨x,hx,e⟩=>⟨x,hx,by rw [h x hx]; exact e⟩⟩
theorem Bz {xs:List Xt} {ps:List UInt16} {en mp:UInt32} {sg:List Sg} (h:imE mp xs ps en sg=0):mfE mp xs ps=0:=by
  by_cases h1:mfE mp xs ps=0
  · exact h1
  · have h2:eW mp xs ps en sg=true:=by rw [eW,decide_eq_true h1]; rfl
    rw [iy h2] at h; cases h
theorem Ho {xs:List Xt} {ps:List UInt16} {mp:UInt32} (h:mfE mp xs ps=0):mp.toNat≤1024:=by
  have h1:dP mp xs ps=true:=by
    cases h2:dP mp xs ps with
    | true=>rfl
    | false=>rw [tf h2] at h; cases h
  simp only [dP,Bool.and_eq_true,Bool.not_eq_true',decide_eq_false_iff_not] at h1
  have h3:=h1.2.2.2.2.2
  have h4:¬(1024:UInt32).toNat<mp.toNat:=fun q=>h3 (UInt32.lt_iff_toNat_lt.2 q)
  have h5:(1024:UInt32).toNat=1024:=rfl
  omega
theorem zZ {mp:UInt32} {xs:List Xt} {ps:List UInt16} {n:Nat} (h:InvX l sl) (hf:ffS sl≠9) (hm:mfE mp xs ps=0) (hn:n≤4096) :
    mq he (cg pg l) (eK l 8) mp xs ps n=dt pg he l ((ffS sl:Nat):Int) mp xs ps (UInt32.ofNat n):=by
  have h9:=eP h.len
  have h1:=gj sl
  have hnn:(UInt32.ofNat n).toNat=n:=by rw [UInt32.toNat_ofNat']; omega
  have hg1:¬((((ffS sl:Nat):Int)<1∨((ffS sl:Nat):Int)>8)∨mfE mp xs ps≠0∨UInt32.ofNat n>4096):=by
    rintro ((q | q) | q | q)
    · omega
    · omega
    · exact q hm
    · have q2:=UInt32.lt_iff_toNat_lt.1 q
      rw [hnn,show (4096:UInt32).toNat=4096 from rfl] at q2; omega
  have hfr:¬ei l ((ffS sl:Nat):Int)=true:=by rw [h.free hf]; decide
  have n0:¬(0:Nat)≠0:=fun q=>q O
  rw [dt,if_neg hg1,if_neg hfr,iE,mq]
  by_cases hx:xs.any (jk he)=true
  · have e1:kJ he xs=3:=if_pos hx
    rw [if_pos hx,e1,if_pos (show (3:Nat)≠0 by decide)]
  · have e1:kJ he xs=0:=if_neg hx
    have hlong:xs.any (lK he)=xs.any (jN he):=yy fun x hx2=>by
      have h2:jk he x=false:=by
        cases h3:jk he x with
        | false=>rfl
        | true=>exact absurd (List.any_eq_true.2 ⟨x,hx2,h3⟩) hx
      have h4:¬x.id.toNat≥he.length:=of_decide_eq_false h2
      rw [lK,jN,decide_eq_true (show x.id.toNat<he.length by omega),Bool.true_and]
    rw [if_neg hx,e1,if_neg n0,hlong]
    by_cases hy:xs.any (jN he)=true
    · have e2:kK he xs=5:=if_pos hy
      rw [if_pos hy,e2,if_pos (show (5:Nat)≠0 by decide)]
    · have e2:kK he xs=0:=if_neg hy
      have hbus:(eK l 8).any (fun m=>gt m.xs m.ps xs ps)=l.any (iR xs ps):=by
        rw [Bool.eq_iff_iff,sR h.uni,List.any_eq_true]
        exact ⟨fun ⟨g,a,_,_,d⟩=>⟨g,a,d⟩,fun ⟨g,a,d⟩=>⟨g,a,(h.env g a).1,(h.env g a).2,d⟩⟩
      rw [if_neg hy,e2,if_neg n0,hbus]
      by_cases hz:l.any (iR xs ps)=true
      · have e3:iB l xs ps=190:=if_pos hz
        rw [if_pos hz,e3,if_pos (show (190:Nat)≠0 by decide)]
      · have e3:iB l xs ps=0:=if_neg hz
        rw [if_neg hz,e3,if_neg n0,jl]
        have hp:=Ho hm
        have e:(mp.toNat+n>(cg pg l).toNat)↔(mp+UInt32.ofNat n>cg pg l):=by
          rw [gt_iff_lt,gt_iff_lt,UInt32.lt_iff_toNat_lt,UInt32.toNat_add,hnn]
          omega
        by_cases hq:mp+UInt32.ofNat n>cg pg l
        · rw [if_pos (e.2 hq),if_pos hq]
        · rw [if_neg (fun q=>hq (e.1 q)),if_neg hq]
end
end Go.Spec
namespace Go.Spec
open Go.Owl
section
variable {l:List Gr} {sl:List Slt} {pg:UInt32} {he:List UInt32} {I:Im} {i n:Nat} {key s:List UInt8} {fr fr2:UInt32} {a:Ev}
theorem yz {a b c d:Bool} (h1:a=c) (h2:b=d):(a&&b)=(c&&d):=by rw [h1,h2]
theorem Gf {a c:Bool} (h1:a=c):(a&&true)=c:=by rw [h1]; cases c<;>rfl
def stE (pg:UInt32) (he:List UInt32) (l:List Gr) (sl:List Slt) (key s:List UInt8):Nat:=if opC key s≠0 then opC key s else if ffS sl=9 then 4 else fH pg he l sl (opI key s)
theorem qj (h:opC key s≠0):stE pg he l sl key s=opC key s:=if_pos h
theorem od (h:opC key s=0) (hf:ffS sl=9):stE pg he l sl key s=4:=by rw [stE,if_neg (fun q=>q h),if_pos hf]
theorem nc (h:opC key s=0) (hf:ffS sl≠9):stE pg he l sl key s=fH pg he l sl (opI key s):=by rw [stE,if_neg (fun q=>q h),if_neg hf]
theorem yj (h1:1≤i) (h9:i<9):(fa fr l 9)[1+i]?=some (Value.bool (ei l ((i:Nat):Int))):=by
  rw [show 1+i=i+1 by omega,fa,List.getElem?_cons_succ,List.getElem?_append_left (by simpa using h9),List.getElem?_map,List.getElem?_range h9,Option.map_some,decide_eq_true (show 1≤i∧i<9 from ⟨h1,h9⟩),Bool.true_and]
theorem BM {v:Value}:((fa fr l 9).set (1+n) v)[0]?=some (aa fr):=by
  rw [List.getElem?_set_ne (by omega)]; rfl
theorem DP {g:Gr} (h:ei l (g.e:Int)=false):obs (l++[g]) (g.e:Int)=g:=by
  have h1:l.find? (jr (g.e:Int))=none:=List.find?_eq_none.2 fun x hx q=>by
    have:=ie.2 ⟨x,hx,of_decide_eq_true q⟩
    rw [h] at this; cases this
  have h2:jr (g.e:Int) g=true:=decide_eq_true O
  rw [obs,List.find?_append,h1,List.find?_cons,h2]; rfl
theorem ia (h:InvX l sl) (hf:ffS sl≠9) (hw:fH pg he l sl I=0):obs (df pg he l sl I) ((ffS sl:Nat):Int)=oI sl I:=by
  rw [jO hw]; exact DP (g:=oI sl I) (h.free hf)
theorem jc (_h:InvX l sl) (_hf:ffS sl≠9) (hw:fH pg he l sl I=0):ei (df pg he l sl I) ((ffS sl:Nat):Int)=true:=by
  rw [jO hw,oP,decide_eq_true (show ((oI sl I).e:Int)=((ffS sl:Nat):Int) from rfl),Bool.or_true]
theorem rA (hw:fH pg he l sl I=0):cg pg (df pg he l sl I)+I.pg+UInt32.ofNat (imN I)=cg pg l:=by
  rw [jO hw,←pO,UInt32.add_assoc]
  exact UInt32.sub_add_cancel _ _
theorem vm (h:InvX l sl) (hf:ffS sl≠9) (hw:fH pg he l sl I=0) (hx:fr2=cg pg l):fa (cg pg l) l 9=((fa fr (df pg he l sl I) 9).set (1+ffS sl) (.bool false)).set 0 (aa fr2):=by
  subst hx
  have h9:=eP h.len
  have h1:=gj sl
  have hn:=h.free hf
  rw [fa,fa,show 1+ffS sl=ffS sl+1 by omega,List.set_cons_succ,List.set_cons_zero,List.set_append_left _ _ (by simp; omega)]
  congr 2
  refine List.ext_getElem (by simp) fun j h1' h2'=>?_
  rw [List.getElem_set]
  simp only [List.getElem_map,List.getElem_range]
  split
  · rename_i e
    rw [←e,hn,Bool.and_false]
  · rename_i e
    rw [jO hw,oP,decide_eq_false (p:=((oI sl I).e:Int)=((j:Nat):Int)) (fun q=>e (by have q2:((ffS sl:Nat):Int)=j:=q; omega)),Bool.or_false]
theorem xQ (h0:imE I.pg I.xs I.ps I.en I.sg=0) (hB: ∀x∈I.sg,x.b.length<2^47):fo I.pg I.xs I.ps I.en I.sg=true:=by
  rw [uR hB]
  cases h:kM I.pg I.xs I.ps I.en I.sg with
  | true=>rfl
  | false=>rw [imE,h] at h0; cases h0
theorem pM (h0:imE I.pg I.xs I.ps I.en I.sg=0) (hm:fo I.pg I.xs I.ps I.en I.sg=true):(if fo I.pg I.xs I.ps I.en I.sg=true then aT I.sg I.sg.length else []).length=imN I:=by
  rw [imN,if_pos hm,if_pos h0]
theorem vv (h0:imE I.pg I.xs I.ps I.en I.sg=0) (hB: ∀x∈I.sg,x.b.length≤2^47):imN I≤4096:=kL h0 hB
theorem BX (h:InvX l sl) (hf:ffS sl≠9) (h0:imE I.pg I.xs I.ps I.en I.sg=0) (hm:fo I.pg I.xs I.ps I.en I.sg=true) (hB: ∀x∈I.sg,x.b.length≤2^47) {ms:List Mm} (ho:ms.map Mm.f=eK l 8) :
    mq he (cg pg l) (ms.map Mm.f) I.pg I.xs I.ps (if fo I.pg I.xs I.ps I.en I.sg=true then aT I.sg I.sg.length else []).length=fH pg he l sl I:=by
  rw [ho,pM h0 hm,zZ h hf (Bz h0) (vv h0 hB)]; rfl
theorem jP (h:InvX l sl) (hf:ffS sl≠9):ic (cO sl I a) (ffS sl)=true:=by
  have h9:=eP h.len
  have h1:=gj sl
  rw [ic,decide_eq_true h1,decide_eq_true (show ffS sl<9 by omega),cO,ip (by rw [h.len]; omega),if_pos O]; rfl
theorem eS (h:InvX l sl) (hf:ffS sl≠9):((cO sl I a).getD (ffS sl) Slt.zero).ev=some a:=by
  have h9:=eP h.len
  rw [cO,ip (by rw [h.len]; omega),if_pos O]
end
end Go.Spec
