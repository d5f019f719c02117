/- General lemmas and walks: SpecPgs, SpecLdi. No condition but what each theorem names. -/
import Derived.Test.YtbjhccnffacbcaaGreatQ65453c56
import Derived.Test.YtbjhccnffacbcaaGreatQ0bae0ea3
namespace Go.Spec
open Go.Owl
end Go.Spec
namespace Go.Spec
open Go.Owl
theorem ltU32_tri: ∀a b:UInt32,ltU32 a b=false→ltU32 b a=false→a=b:=fun a b h1 h2=>by
  have h1:=of_decide_eq_false h1
  have h2:=of_decide_eq_false h2
  rw [UInt32.lt_iff_toNat_lt] at h1 h2
  exact UInt32.toNat_inj.1 (by omega)
section
variable {pg en:UInt32} {xs:List Xt} {ps:List UInt16} {sg:List Sg}
theorem seg_asc {x:Sg} (h:SgOK x): ∀n,n≤pgN x→((segP x n).map (·.1)).Pairwise (fun a b=>a<b)
  | 0,_=>List.Pairwise.nil
  | n+1,hn=>by
    rw [segP,List.map_append,List.pairwise_append]
    refine ⟨seg_asc h n (by omega),List.pairwise_singleton _ _,fun a ha b hb=>?_⟩
    obtain ⟨p,hp,rfl⟩:=List.mem_map.1 ha
    obtain ⟨j,hj,rfl⟩:=segP_mem hp
    rw [List.map_singleton,List.mem_singleton] at hb
    subst hb
    rw [UInt32.lt_iff_toNat_lt]
    show (x.a+UInt32.ofNat (256 * j)).toNat<(x.a+UInt32.ofNat (256 * n)).toNat
    rw [h.at (h.atN (show j<pgN x by omega)),h.at (h.atN (show n<pgN x by omega))]
    omega
theorem img_asc (h:imE pg xs ps en sg=0) (hB: ∀x∈sg,x.b.length≤2^47): ∀k,k≤sg.length→((imgP sg k).map (·.1)).Pairwise (fun a b=>a<b)
  | 0,_=>List.Pairwise.nil
  | k+1,hk=>by
    obtain ⟨h1,h2⟩:=img_ok h hB (show k<sg.length by omega)
    rw [imgP,List.map_append,List.pairwise_append]
    refine ⟨img_asc h hB k (by omega),seg_asc h1 _ (Nat.le_refl _),fun a ha b hb=>?_⟩
    obtain ⟨p,hp,rfl⟩:=List.mem_map.1 ha
    obtain ⟨q,hq,rfl⟩:=List.mem_map.1 hb
    have h3:=(img_low h hB k (by omega) p hp).1
    obtain ⟨j,hj,rfl⟩:=segP_mem hq
    rw [UInt32.lt_iff_toNat_lt]
    show p.1.toNat<((sg.getD k Sg.zero).a+UInt32.ofNat (256 * j)).toNat
    rw [h1.at (h1.atN hj)]
    omega
theorem pg_sorted {qs:List Pg} {ks:List UInt32} (h:imE pg xs ps en sg=0) (hB: ∀x∈sg,x.b.length≤2^47) (hP:(qs.map Pg.bare).Perm (imgP sg sg.length)) (hk:(qs.map Pg.a).Perm ks∧ks.Pairwise (fun x y=>ltU32 y x=false)):ks=(imgP sg sg.length).map (·.1):=by
  have e:qs.map Pg.a=(qs.map Pg.bare).map (·.1):=by rw [List.map_map]; rfl
  have h1:ks.Perm ((imgP sg sg.length).map (·.1)):=hk.1.symm.trans (by rw [e]; exact hP.map _)
  exact sorted_same ltU32_tri h1 hk.2 (ltU32_asc (img_asc h hB sg.length (Nat.le_refl _)))
end
end Go.Spec
namespace Go.Spec
end Go.Spec
namespace Go.Spec
open Go.Owl
theorem slS_37 {key:List UInt8} {pg en:UInt32} {xs:List Xt} {ps:List UInt16} {c:Bool} {sg:List Sg} (h:xs.length≤600∧ps.length≤600∧sg.length≤15∧∀x∈sg,x.b.length≤262144):(slS key pg xs ps c en sg).length<2^37:=by
  have h1:(imB pg xs ps c en sg).length<2^36:=by
    rw [imB]
    split
    · have h1:=imP3_len pg xs ps c en sg; have h2:=putS_len h.2.2.2 sg.length
      rw [imS,List.length_append]; omega
    · show 0<_; decide
  rw [slS]
  split
  · rw [List.length_append,mac_length]; omega
  · show 0<_; decide
end Go.Spec
