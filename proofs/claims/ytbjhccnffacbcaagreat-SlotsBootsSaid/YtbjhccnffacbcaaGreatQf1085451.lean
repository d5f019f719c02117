/- General lemmas and walks: SpecSeal2, SpecLoad, SpecBt. No condition but what each theorem names. -/
import Derived.Test.YtbjhccnffacbcaaGreatQ17bab6b1
import Derived.Test.YtbjhccnffacbcaaGreatQfea131d1
namespace Go.Spec
open Go.Owl
section
variable {key s:List UInt8} {pg en:UInt32} {xs:List Xt} {ps:List UInt16} {c:Bool} {sg:List Sg}
theorem open_seal (h:opC key s=0):imE (opI key s).pg (opI key s).xs (opI key s).ps (opI key s).en (opI key s).sg=0∧slS key (opI key s).pg (opI key s).xs (opI key s).ps (opI key s).c (opI key s).en (opI key s).sg=s∧imGE (s.take (s.length-32))=0:=by
  by_cases h1:s.length<32
  · rw [(op_short h1).2] at h; cases h
  · by_cases h2:s.drop (s.length-32)=mac key (s.take (s.length-32))
    · have hg:=op_get h1 h2
      rw [hg.2] at h
      obtain ⟨b1,b2⟩:=back_put h
      rw [hg.1]
      refine ⟨b1,?_,h⟩
      rw [slS,if_pos b1,b2,←h2,List.take_append_drop]
    · rw [(op_tag h1 h2).2] at h; cases h
theorem imB_38 (h:xs.length≤600∧ps.length≤600∧sg.length≤15∧∀x∈sg,x.b.length≤262144):(imB pg xs ps c en sg).length<2^37:=by
  rw [imB]
  split
  · have h1:=imP3_len pg xs ps c en sg; have h2:=putS_len h.2.2.2 sg.length
    rw [imS,List.length_append]; omega
  · show 0<_; decide
theorem op_bounds (h:opC key s=0) (hs:s.length<2^37):(opI key s).xs.length≤2^20∧(opI key s).ps.length≤2^20∧(opI key s).sg.length≤2^10∧(∀x∈(opI key s).sg,x.b.length≤2^30) ∧
    (imB (opI key s).pg (opI key s).xs (opI key s).ps (opI key s).c (opI key s).en (opI key s).sg).length<2^38:=by
  have hg0:=(open_seal h).2.2
  have e:opI key s=imG (s.take (s.length-32)):=by
    by_cases h1:s.length<32
    · rw [(op_short h1).2] at h; cases h
    · by_cases h2:s.drop (s.length-32)=mac key (s.take (s.length-32))
      · exact (op_get h1 h2).1
      · rw [(op_tag h1 h2).2] at h; cases h
  rw [e]
  have hb:=get_bounds hg0 (by rw [List.length_take]; omega)
  refine ⟨hb.1,hb.2.1,hb.2.2.1,hb.2.2.2,?_⟩
  rw [(back_put hg0).2,List.length_take]; omega
end
end Go.Spec
namespace Go.Spec
open Go.Owl
def imN (i:Im):Nat:=(if imE i.pg i.xs i.ps i.en i.sg=0 then pagesTo i.sg i.sg.length else []).length
def loadE (pg:UInt32) (he:List UInt32) (l:List Gr) (sl:List Slt) (i:Im):Nat:=grantE pg he l ((ffS sl:Nat):Int) i.pg i.xs i.ps (UInt32.ofNat (imN i))
def loadG (pg:UInt32) (he:List UInt32) (l:List Gr) (sl:List Slt) (i:Im):List Gr:=grantG pg he l ((ffS sl:Nat):Int) i.pg i.xs i.ps i.c (UInt32.ofNat (imN i))
def loadS (sl:List Slt) (i:Im) (a:Ev):List Slt:=sl.set (ffS sl) ⟨true,imN i,some a⟩
end Go.Spec
namespace Go.Spec
open Go.Owl
def btE (pg:UInt32) (he:List UInt32) (l:List Gr) (sl:List Slt) (key s:List UInt8):Nat:=if opC key s≠0 then opC key s else loadE pg he l sl (opI key s)
def btN (pg:UInt32) (he:List UInt32) (l:List Gr) (sl:List Slt) (key s:List UInt8):Nat:=if btE pg he l sl key s=0 then ffS sl else 0
def btG (pg:UInt32) (he:List UInt32) (l:List Gr) (sl:List Slt) (key s:List UInt8):List Gr:=if opC key s≠0 then l else loadG pg he l sl (opI key s)
section
variable {w:World} {b:Nat} {cs cs':List Value}
theorem cells_pre (h:cellsAt w b cs) (k:Nat) (hk:cs.take k=cs'):cellsAt w b cs':=fun j u hu=>by
  subst hk
  rw [List.getElem?_take] at hu
  split at hu
  · exact h j u hu
  · cases hu
end
theorem im_small {pg en:UInt32} {xs:List Xt} {ps:List UInt16} {sg:List Sg} (h:imE pg xs ps en sg=0) (hB: ∀x∈sg,x.b.length≤2^47):xs.length≤600∧ps.length≤600∧sg.length≤15∧∀x∈sg,x.b.length≤262144:=by
  have h1:=im_facts h
  have h2:=mf_facts h1.1
  refine ⟨by omega,by omega,by omega,fun x hx=>?_⟩
  obtain ⟨j,hj,rfl⟩:=List.getElem_of_mem hx
  have h3:=(img_ok h hB hj).1.en
  rw [List.getD_eq_getElem?_getD,List.getElem?_eq_getElem hj] at h3
  have h4:sg[j].a.toNat+sg[j].b.length≤131072:=h3
  omega
end Go.Spec
namespace Go.Owl
section
variable {S:List Nat} {w0 w:World} {L E:List Ent} {I:List Nat} {g:Nat} {f:Ent} {b:Nat}
theorem Own.notOwnF (H:Owl.Own S w0 w L) (hp:picks L I=some E) (hg:L[g]?=some f) (hgI:I.any (Nat.beq g)=false) (hb:b∈f.foot): ∀(k:Nat) (x:Ent),E[k]?=some x→¬x.Owns b:=fun k x hk hx=>by
  obtain ⟨q,hq,h⟩:=picks_of hp hk
  refine H.sep q g x _ h hg (fun e=>?_) b hx hb
  exact (List.any_eq_false.1 hgI q (List.mem_of_getElem? hq)) (by rw [e]; exact Nat.beq_refl _)
end
end Go.Owl
