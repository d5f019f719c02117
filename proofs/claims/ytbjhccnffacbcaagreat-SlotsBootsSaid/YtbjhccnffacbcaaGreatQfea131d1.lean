/- General lemmas and walks: OwlXo, OwlFact. No condition but what each theorem names. -/
import Derived.Test.YtbjhccnffacbcaaGreatQ17bab6b1
import Derived.Test.YtbjhccnffacbcaaGreatQa8c57553
namespace Go.Spec
open Go.Owl
theorem xoC_len {k:Nat} {sl:List Slt} (h9:sl.length=9):(xoC k sl).length=29:=by
  have hl:=flatM_len sltc_len sl
  rw [xoC,List.length_cons,List.length_append,hl,h9]; rfl
theorem set_getD_self {sl:List Slt} {i:Nat}:sl.set i (sl.getD i Slt.zero)=sl:=by
  rcases Nat.lt_or_ge i sl.length with h | h
  · rw [List.getD_eq_getElem?_getD,List.getElem?_eq_getElem h]; exact List.set_getElem_self h
  · exact List.set_eq_of_length_le h
theorem xo_setEv {k:Nat} {sl:List Slt} {i:Nat} {e:Option Ev} (h9:sl.length=9) (hi:i<9):(xoC k sl).set (1+i * 3+2) (evPtr e)=xoC k (sl.set i { sl.getD i Slt.zero with ev:=e }):=by
  have h1:=xo_set (k:=k) (x:=sl.getD i Slt.zero) h9 hi
  rw [set_getD_self] at h1
  rw [←xo_set (x:={ sl.getD i Slt.zero with ev:=e }) h9 hi]
  have hl:=xoC_len (k:=k) h9
  have ht:((xoC k sl).take (1+i * 3)).length=1+i * 3:=by rw [List.length_take,hl]; omega
  conv=>lhs; rw [←h1]
  rw [List.set_append_right _ _ (by omega),ht,show 1+i * 3+2-(1+i * 3)=2 by omega]
  rfl
end Go.Spec
namespace Go.Owl
open Go.Spec
section
variable {P:Program} {n:Nat} {D:List Deferred} {ρ:Env} {w w0:World} {R:Value→World→Prop} {dst:Option Tmp} {ty:TypeId} {pos:String} {af:Array Edge} {g:Option (Nat × Bool)}
variable {S:List Nat} {L:List Ent} {j b:Nat} {t T:TypeId} {x y:Operand} {z:List Value} {by_:Nat}
theorem op_storeXo {k:Nat} {sl:List Slt} {i:Nat} {s:Slt} (H:Own S w0 w L) (h9:sl.length=9) (hi9:i<9) (hx:ev ρ x=some (ptr b (1+i * 3))) (hy:ev ρ y=some (.agg (sltc s).toArray)) (hi:L[j]?=some (Ent.blk b (xoC k sl) t))
    (hz:tiB P T=some (z,3,by_)) (h: ∀w',Own S w0 w' (L.set j (.blk b (xoC k (sl.set i s)) t))→R undef w'):Op1 P n D ⟨dst,.store T x y,ty,pos,af,g⟩ ρ w R:=by
  have hl:=xoC_len (k:=k) h9
  refine op_storeBS (vs:=sltc s) H hx hy hi (by rw [Nat.ble_eq,hl]; show 1+i * 3+3≤29; omega) ?_ hz (fun w' H'=>h w' ?_)
  · cases h2:s.ev<;>simp [sltc,evPtr,h2,Value.oneCell']
  · have:=xo_set (k:=k) (x:=s) h9 hi9
    rw [←List.append_assoc] at this
    rw [show (sltc s).length=3 from rfl,this] at H'
    exact H'
theorem op_storeXe {k:Nat} {sl:List Slt} {i:Nat} {a:Ev} (H:Own S w0 w L) (h9:sl.length=9) (hi9:i<9) (hx:ev ρ x=some (ptr b (1+i * 3+2))) (hy:ev ρ y=some (ptr a.e 0)) (hi:L[j]?=some (Ent.blk b (xoC k sl) t))
    (hz:tiB P T=some (z,1,by_)) (h: ∀w',Own S w0 w' (L.set j (.blk b (xoC k (sl.set i { sl.getD i Slt.zero with ev:=some a })) t))→R undef w'):Op1 P n D ⟨dst,.store T x y,ty,pos,af,g⟩ ρ w R:=by
  have hl:=xoC_len (k:=k) h9
  refine op_storeB H hx hy hi (by rw [Nat.blt_eq,hl]; omega) rfl hz (fun w' H'=>h w' ?_)
  have:=xo_setEv (k:=k) (e:=some a) h9 hi9
  rw [show evPtr (some a)=ptr a.e 0 from rfl] at this
  rw [this] at H'
  exact H'
end
end Go.Owl
namespace Go.Owl
def Ent.fact (p:Prop):Ent:=.ro (fun _=>p) [] ⟨(fun _ _ b hb=>by cases hb),(fun _ _ _ _ _ h=>h)⟩
section
variable {S:List Nat} {w0 w:World} {L:List Ent} {i:Nat} {p:Prop}
theorem Own.fact (H:Own S w0 w L) (hi:L[i]?=some (Ent.fact p)):p:=H.ok i _ hi
theorem Own.addFact (H:Own S w0 w L) (h:p):Own S w0 w (L++[Ent.fact p]) :=
  H.new' (e:=Ent.fact p) (Fr.refl _ _) h (fun b hb=>by cases hb) (fun b hb=>by cases hb)
end
section
variable {P:Program} {w:World} {T:TypeId} {ad:Addr} {v:Value} {d:TypeDesc}
theorem run_loadVar1 (hc:w.cell? ad=some v) (hu:P.underlying T=some d) (hs:scal d=true):(loadVar T ad).run P w=.ok v w:=by
  simp [loadVar,run_isAgg hu,hs,hc]
end
end Go.Owl
namespace Go.Spec
open Go.Owl
theorem segP_len (x:Sg): ∀k,(segP x k).length=k
  | 0=>rfl
  | k+1=>by rw [segP,List.length_append,segP_len x k]; rfl
theorem imgP_len (sg:List Sg): ∀k,(imgP sg k).length=(pagesTo sg k).length
  | 0=>rfl
  | k+1=>by rw [imgP,pagesTo,List.length_append,List.length_append,imgP_len sg k,segP_len,pgL_len]
section
variable {pg en:UInt32} {xs:List Xt} {ps:List UInt16} {sg:List Sg}
theorem img_n (h:imE pg xs ps en sg=0) (hB: ∀x∈sg,x.b.length≤2^47): ∀k,k≤sg.length→(pagesTo sg k).length≤512 * k
  | 0,_=>Nat.le_refl _
  | k+1,hk=>by
    have h1:=img_n h hB k (by omega)
    have h2:=(img_ok h hB (show k<sg.length by omega)).1
    rw [pagesTo,List.length_append,pgL_len]
    have h3:=h2.en
    rw [pgN]; omega
theorem img_N (h:imE pg xs ps en sg=0) (hB: ∀x∈sg,x.b.length≤2^47):(if imE pg xs ps en sg=0 then pagesTo sg sg.length else []).length≤4096:=by
  rw [if_pos h]
  have h1:=img_n h hB sg.length (Nat.le_refl _)
  have h2:=(im_facts h).2.1
  omega
theorem img_qn (h:imE pg xs ps en sg=0) {qs:List Pg} {c:Nat} (hR:SpR qs c (imgP sg sg.length)):qs.length=(if imE pg xs ps en sg=0 then pagesTo sg sg.length else []).length:=by
  rw [if_pos h,←imgP_len,←hR.bare,List.length_map]
end
theorem slt_get_set {sl:List Slt} {i:Nat} {x:Slt} (h:i<sl.length):(sl.set i x).getD i Slt.zero=x:=by
  rw [List.getD_eq_getElem?_getD,List.getElem?_set_self h]; rfl
theorem slt_hs {sl:List Slt} {i n:Nat} {v:Option Ev} (h9:sl.length=9) (h1:1≤i) (hi:i<9):hasS (sl.set i ⟨true,n,v⟩) i=true:=by
  rw [hasS,decide_eq_true h1,decide_eq_true hi,slt_get_set (by omega)]; rfl
theorem slt_set3 {sl:List Slt} {i n:Nat} {a:Ev} (h:i<sl.length):(sl.set i ⟨true,n,none⟩).set i { (sl.set i ⟨true,n,none⟩).getD i Slt.zero with ev:=some a }=sl.set i ⟨true,n,some a⟩:=by
  rw [slt_get_set h,List.set_set]
end Go.Spec
