/- General lemmas and walks: SpecSeal2, SpecLoad, SpecPgs. No condition but what each theorem names. -/
import Derived.Test.YtbjhccnffacbcaaGreatQdac9a7d3
import Derived.Test.YtbjhccnffacbcaaGreatQf60173a0
namespace Go.Spec
open Go.Owl
section
variable {key s:List UInt8} {pg en:UInt32} {xs:List Xt} {ps:List UInt16} {c:Bool} {sg:List Sg}
theorem cut_tag (key b:List UInt8):(b++mac key b).length-32=b.length∧(b++mac key b).take ((b++mac key b).length-32)=b∧(b++mac key b).drop ((b++mac key b).length-32)=mac key b∧¬(b++mac key b).length<32:=by
  have hm:=mac_length key b
  have e:(b++mac key b).length-32=b.length:=by rw [List.length_append]; omega
  refine ⟨e,?_,?_,by rw [List.length_append]; omega⟩
  · rw [e,List.take_left]
  · rw [e,List.drop_left]
theorem seal_open (h:imE pg xs ps en sg=0) (hl: ∀x∈sg,x.b.length≤262144):opC key (slS key pg xs ps c en sg)=0∧opI key (slS key pg xs ps c en sg)=⟨pg,xs,ps,c,en,sg⟩:=by
  obtain ⟨_,h2,h3,h4⟩:=cut_tag key (imB pg xs ps c en sg)
  have hs:slS key pg xs ps c en sg=imB pg xs ps c en sg++mac key (imB pg xs ps c en sg):=if_pos h
  have hg:=op_get (key:=key) (s:=slS key pg xs ps c en sg) (by rw [hs]; exact h4) (by rw [hs,h2,h3])
  rw [hg.1,hg.2,hs,h2]
  exact put_get_same h hl
theorem open_seal (h:opC key s=0):imE (opI key s).pg (opI key s).xs (opI key s).ps (opI key s).en (opI key s).sg=0∧slS key (opI key s).pg (opI key s).xs (opI key s).ps (opI key s).c (opI key s).en (opI key s).sg=s∧imGE (s.take (s.length-32))=0:=by
  by_cases h1:s.length<32
  · rw [(op_short h1).2] at h; cases h
  · by_cases h2:s.drop (s.length-32)=mac key (s.take (s.length-32))
    · have hg:=op_get h1 h2
      rw [hg.2] at h
      obtain ⟨b1,b2⟩:=back_put h
      rw [hg.1]
      refine ⟨b1,?_,h⟩
      rw [slS,if_pos b1,b2,←h2,List.take_append_drop]
    · rw [(op_tag h1 h2).2] at h; cases h
theorem op_bounds (h:opC key s=0) (hs:s.length<2^37):(opI key s).xs.length≤2^20∧(opI key s).ps.length≤2^20∧(opI key s).sg.length≤2^10∧(∀x∈(opI key s).sg,x.b.length≤2^30) ∧
    (imB (opI key s).pg (opI key s).xs (opI key s).ps (opI key s).c (opI key s).en (opI key s).sg).length<2^38:=by
  have hg0:=(open_seal h).2.2
  have e:opI key s=imG (s.take (s.length-32)):=by
    by_cases h1:s.length<32
    · rw [(op_short h1).2] at h; cases h
    · by_cases h2:s.drop (s.length-32)=mac key (s.take (s.length-32))
      · exact (op_get h1 h2).1
      · rw [(op_tag h1 h2).2] at h; cases h
  rw [e]
  have hb:=get_bounds hg0 (by rw [List.length_take]; omega)
  refine ⟨hb.1,hb.2.1,hb.2.2.1,hb.2.2.2,?_⟩
  rw [(back_put hg0).2,List.length_take]; omega
end
end Go.Spec
namespace Go.Spec
open Go.Owl
def imN (i:Im):Nat:=(if imE i.pg i.xs i.ps i.en i.sg=0 then pagesTo i.sg i.sg.length else []).length
def loadE (pg:UInt32) (he:List UInt32) (l:List Gr) (sl:List Slt) (i:Im):Nat:=grantE pg he l ((ffS sl:Nat):Int) i.pg i.xs i.ps (UInt32.ofNat (imN i))
def loadG (pg:UInt32) (he:List UInt32) (l:List Gr) (sl:List Slt) (i:Im):List Gr:=grantG pg he l ((ffS sl:Nat):Int) i.pg i.xs i.ps i.c (UInt32.ofNat (imN i))
def loadS (sl:List Slt) (i:Im) (a:Ev):List Slt:=sl.set (ffS sl) ⟨true,imN i,some a⟩
theorem loadS_len {sl:List Slt} {i:Im} {a:Ev} (h9:sl.length=9):(loadS sl i a).length=9:=by rw [loadS,List.length_set]; exact h9
end Go.Spec
namespace Go.Spec
open Go.Owl
def pbc (p:Pb):List Value:=[vU32 p.1,vU8 p.2.1,str p.2.2]
def pbMk (a:UInt32) (p:UInt8) (t:List UInt8):Pb:=(a,p,t)
def pbZ:Pb:=(0,0,[])
theorem rep_get {s:List UInt8} {k m:Nat} (h:m<256):(List.replicate 256 (0:UInt8)).getD m 0=if m<0 then s.getD (256 * k+m) 0 else 0:=by
  rw [if_neg (by omega),List.getD_eq_getElem?_getD,List.getElem?_replicate,if_pos h]; rfl
theorem set_get8 {r s:List UInt8} {k j:Nat} (hr:r.length=256) (hj:j<256) (h: ∀m,m<256→r.getD m 0=if m<j then s.getD (256 * k+m) 0 else 0) :
    ∀m,m<256→(r.set j (s.getD (256 * k+j) 0)).getD m 0=if m<j+1 then s.getD (256 * k+m) 0 else 0:=fun m hm=>by
  by_cases e:m=j
  · subst e; rw [if_pos (by omega),List.getD_eq_getElem?_getD,List.getElem?_set_self (by omega)]; rfl
  · rw [List.getD_eq_getElem?_getD,List.getElem?_set_ne (by omega),←List.getD_eq_getElem?_getD,h m hm]
    by_cases h2:m<j
    · rw [if_pos h2,if_pos (by omega)]
    · rw [if_neg h2,if_neg (by omega)]
theorem page_of {r s:List UInt8} {k j:Nat} (hr:r.length=256) (h: ∀m,m<256→r.getD m 0=if m<j then s.getD (256 * k+m) 0 else 0) (he:j=256∨s.length≤256 * k+j) (hj:j≤256):r=pageB s k :=
  bytes_ext hr (pageB_len s k) fun m hm=>by
    rw [h m hm,pageB_get s k hm]
    by_cases h2:m<j
    · rw [if_pos h2]
    · rw [if_neg h2,List.getD_eq_getElem?_getD,List.getElem?_eq_none (by omega)]; rfl
theorem segP_len2 (L:List Pb) (x:Sg) (k:Nat):(L++segP x k).length=L.length+k:=by rw [List.length_append,segP_len]
theorem getS_mem30 {sg:List Sg} (h: ∀x∈sg,x.b.length≤2^30) (i:Nat):(sg.getD i Sg.zero).b.length≤2^30:=by
  rcases Nat.lt_or_ge i sg.length with hi | hi
  · rw [List.getD_eq_getElem?_getD,List.getElem?_eq_getElem hi]; exact h _ (List.getElem_mem hi)
  · rw [List.getD_eq_getElem?_getD,List.getElem?_eq_none hi]; exact Nat.zero_le _
end Go.Spec
namespace Go.Spec
open Go.Owl
theorem ltU32_tri: ∀a b:UInt32,ltU32 a b=false→ltU32 b a=false→a=b:=fun a b h1 h2=>by
  have h1:=of_decide_eq_false h1
  have h2:=of_decide_eq_false h2
  rw [UInt32.lt_iff_toNat_lt] at h1 h2
  exact UInt32.toNat_inj.1 (by omega)
section
variable {pg en:UInt32} {xs:List Xt} {ps:List UInt16} {sg:List Sg}
theorem seg_asc {x:Sg} (h:SgOK x): ∀n,n≤pgN x→((segP x n).map (·.1)).Pairwise (fun a b=>a<b)
  | 0,_=>List.Pairwise.nil
  | n+1,hn=>by
    rw [segP,List.map_append,List.pairwise_append]
    refine ⟨seg_asc h n (by omega),List.pairwise_singleton _ _,fun a ha b hb=>?_⟩
    obtain ⟨p,hp,rfl⟩:=List.mem_map.1 ha
    obtain ⟨j,hj,rfl⟩:=segP_mem hp
    rw [List.map_singleton,List.mem_singleton] at hb
    subst hb
    rw [UInt32.lt_iff_toNat_lt]
    show (x.a+UInt32.ofNat (256 * j)).toNat<(x.a+UInt32.ofNat (256 * n)).toNat
    rw [h.at (h.atN (show j<pgN x by omega)),h.at (h.atN (show n<pgN x by omega))]
    omega
theorem img_asc (h:imE pg xs ps en sg=0) (hB: ∀x∈sg,x.b.length≤2^47): ∀k,k≤sg.length→((imgP sg k).map (·.1)).Pairwise (fun a b=>a<b)
  | 0,_=>List.Pairwise.nil
  | k+1,hk=>by
    obtain ⟨h1,h2⟩:=img_ok h hB (show k<sg.length by omega)
    rw [imgP,List.map_append,List.pairwise_append]
    refine ⟨img_asc h hB k (by omega),seg_asc h1 _ (Nat.le_refl _),fun a ha b hb=>?_⟩
    obtain ⟨p,hp,rfl⟩:=List.mem_map.1 ha
    obtain ⟨q,hq,rfl⟩:=List.mem_map.1 hb
    have h3:=(img_low h hB k (by omega) p hp).1
    obtain ⟨j,hj,rfl⟩:=segP_mem hq
    rw [UInt32.lt_iff_toNat_lt]
    show p.1.toNat<((sg.getD k Sg.zero).a+UInt32.ofNat (256 * j)).toNat
    rw [h1.at (h1.atN hj)]
    omega
theorem pg_sorted {qs:List Pg} {ks:List UInt32} (h:imE pg xs ps en sg=0) (hB: ∀x∈sg,x.b.length≤2^47) (hP:(qs.map Pg.bare).Perm (imgP sg sg.length)) (hk:(qs.map Pg.a).Perm ks∧ks.Pairwise (fun x y=>ltU32 y x=false)):ks=(imgP sg sg.length).map (·.1):=by
  have e:qs.map Pg.a=(qs.map Pg.bare).map (·.1):=by rw [List.map_map]; rfl
  have h1:ks.Perm ((imgP sg sg.length).map (·.1)):=hk.1.symm.trans (by rw [e]; exact hP.map _)
  exact sorted_same ltU32_tri h1 hk.2 (ltU32_asc (img_asc h hB sg.length (Nat.le_refl _)))
theorem pg_at {qs:List Pg} {i:Nat} (h:imE pg xs ps en sg=0) (hB: ∀x∈sg,x.b.length≤2^47) (hP:(qs.map Pg.bare).Perm (imgP sg sg.length)) (hi:i<(imgP sg sg.length).length) :
    ∃g∈qs,g.bare=(imgP sg sg.length).getD i pbZ∧(g.a.toNat%256=0∧inS g.a 256∧g.bs.length=256):=by
  have hm:(imgP sg sg.length).getD i pbZ∈imgP sg sg.length:=by
    rw [List.getD_eq_getElem?_getD,List.getElem?_eq_getElem hi]; exact List.getElem_mem hi
  obtain ⟨g,hg,e⟩:=List.mem_map.1 (hP.mem_iff.2 hm)
  rw [←e] at hm
  exact ⟨g,hg,e,(img_low h hB sg.length (Nat.le_refl _) _ hm).2.1,img_bound h hB (Nat.le_refl _) _ hm,(img_low h hB sg.length (Nat.le_refl _) _ hm).2.2⟩
theorem getD_fst (l:List Pb) (i:Nat):(l.map (·.1)).getD i 0=(l.getD i pbZ).1:=by
  rw [List.getD_eq_getElem?_getD,List.getD_eq_getElem?_getD,List.getElem?_map]
  cases l[i]?<;>rfl
end
end Go.Spec
namespace Go.Spec
theorem imgP_mono (sg:List Sg) {i:Nat}: ∀d,(imgP sg i).length≤(imgP sg (i+d)).length
  | 0=>Nat.le_refl _
  | d+1=>by
    rw [←Nat.add_assoc,imgP,List.length_append]
    exact Nat.le_trans (imgP_mono sg d) (Nat.le_add_right _ _)
theorem img_pre {sg:List Sg} {i k:Nat} (hi:i<sg.length) (hk:k<pgN (sg.getD i Sg.zero)):(imgP sg i++segP (sg.getD i Sg.zero) k).length<(imgP sg sg.length).length:=by
  have h1:=imgP_mono sg (i:=i+1) (sg.length-(i+1))
  rw [show i+1+(sg.length-(i+1))=sg.length by omega,imgP,List.length_append,segP_len] at h1
  rw [List.length_append,segP_len]; omega
end Go.Spec
