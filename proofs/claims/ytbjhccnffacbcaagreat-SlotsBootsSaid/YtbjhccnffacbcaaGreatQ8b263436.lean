/- General lemmas and walks: SpecSort, SpecSort2, SpecSort3, SpecSort5. No condition but what each theorem names. -/
import Derived.Test.YtbjhccnffacbcaaGreatQa8c57553
import Derived.Test.YtbjhccnffacbcaaGreatQ36a60414
namespace Go.Spec
structure LtOK {α:Type} (lt:α→α→Bool):Prop where
  irr: ∀a,lt a a=false
  asym: ∀a b,lt a b=true→lt b a=false
  neg: ∀a b c,lt a b=false→lt b c=false→lt a c=false
def swapL {α:Type} (d:α) (l:List α) (i j:Nat):List α:=(l.set i (l.getD j d)).set j (l.getD i d)
inductive Sw {α:Type} (d:α) (a b:Nat):List α→List α→Prop
  | refl (l:List α):Sw d a b l l
  | step {l l':List α} {i j:Nat}:Sw d a b l l'→a≤i→i<b→a≤j→j<b→Sw d a b l (swapL d l' i j)
def SortS {α:Type} (lt:α→α→Bool) (d:α) (a b:Nat) (l:List α):Prop:= ∀p q,a≤p→p<q→q<b→lt (l.getD q d) (l.getD p d)=false
section
variable {α:Type} {d:α} {l l' l'':List α} {a b i j k:Nat} {lt:α→α→Bool}
theorem swapL_len:(swapL d l i j).length=l.length:=by simp [swapL]
theorem getD_set (l:List α) (i k:Nat) (x:α) (hi:i<l.length):(l.set i x).getD k d=if k=i then x else l.getD k d:=by
  simp only [List.getD,List.getElem?_set]
  by_cases h:i=k
  · subst h; simp [hi]
  · rw [if_neg h,if_neg (fun e=>h e.symm)]
theorem swap_get (hi:i<l.length) (hj:j<l.length) (k:Nat):(swapL d l i j).getD k d=if k=j then l.getD i d else if k=i then l.getD j d else l.getD k d:=by
  rw [swapL,getD_set _ _ _ _ (by simpa using hj),getD_set _ _ _ _ hi]
theorem ext_get (h:l.length=l'.length) (hg: ∀k,l.getD k d=l'.getD k d):l=l':=by
  apply List.ext_getElem h
  intro k h1 h2
  have:=hg k
  simpa [List.getD,h1,h2] using this
theorem swap_swap (hi:i<l.length) (hj:j<l.length):swapL d (swapL d l i j) i j=l:=by
  apply ext_get (d:=d) (by rw [swapL_len,swapL_len])
  intro k
  have hi':i<(swapL d l i j).length:=by rw [swapL_len]; exact hi
  have hj':j<(swapL d l i j).length:=by rw [swapL_len]; exact hj
  rw [swap_get hi' hj',swap_get hi hj,swap_get hi hj,swap_get hi hj]
  by_cases h1:k=j
  · subst h1
    by_cases h2:i=k
    · subst h2; simp
    · simp [h2]
  · by_cases h2:k=i
    · subst h2; simp [h1]
    · simp [h1,h2]
theorem Sw.len (h:Sw d a b l l'):l'.length=l.length:=by
  induction h with
  | refl=>rfl
  | step _ _ _ _ _ ih=>rw [swapL_len,ih]
theorem Sw.trans (h1:Sw d a b l l') (h2:Sw d a b l' l''):Sw d a b l l'':=by
  induction h2 with
  | refl=>exact h1
  | step _ h1 h2 h3 h4 ih=>exact Sw.step ih h1 h2 h3 h4
theorem Sw.mono {a' b':Nat} (ha:a'≤a) (hb:b≤b') (h:Sw d a b l l'):Sw d a' b' l l':=by
  induction h with
  | refl=>exact .refl _
  | step _ h1 h2 h3 h4 ih=>exact Sw.step ih (by omega) (by omega) (by omega) (by omega)
theorem Sw.one (hi:a≤i) (hi2:i<b) (hj:a≤j) (hj2:j<b):Sw d a b l (swapL d l i j):=Sw.step (.refl _) hi hi2 hj hj2
theorem Sw.symm (hb:b≤l.length) (h:Sw d a b l l'):Sw d a b l' l:=by
  induction h with
  | refl=>exact .refl _
  | step h h1 h2 h3 h4 ih =>
    rename_i l1 i j
    have hl:=h.len
    have h5:Sw d a b (swapL d l1 i j) (swapL d (swapL d l1 i j) i j):=Sw.one h1 h2 h3 h4
    rw [swap_swap (by omega) (by omega)] at h5
    exact h5.trans ih
theorem Sw.out (hb:b≤l.length) (h:Sw d a b l l') (hk:k<a∨b≤k):l'.getD k d=l.getD k d:=by
  induction h with
  | refl=>rfl
  | step h h1 h2 h3 h4 ih =>
    have hl:=h.len
    rw [swap_get (by omega) (by omega),if_neg (by omega),if_neg (by omega),ih]
theorem Sw.all {p:α→Prop} (hb:b≤l.length) (h:Sw d a b l l') (hp: ∀k,a≤k→k<b→p (l.getD k d)): ∀k,a≤k→k<b→p (l'.getD k d):=by
  induction h with
  | refl=>exact hp
  | step h h1 h2 h3 h4 ih =>
    have hl:=h.len
    intro k hk1 hk2
    rw [swap_get (by omega) (by omega)]
    split
    · exact ih _ h1 h2
    · split
      · exact ih _ h3 h4
      · exact ih _ hk1 hk2
theorem getDmem (hk:k<l.length):l.getD k d∈l:=by
  rw [show l.getD k d=l[k] by simp [List.getD,hk]]; exact List.getElem_mem hk
theorem mem_getD {x:α} (h:x∈l): ∃k,k<l.length∧l.getD k d=x:=by
  obtain ⟨k,hk,e⟩:=List.getElem_of_mem h
  exact ⟨k,hk,by simp [List.getD,hk,e]⟩
theorem Sw.sub (hb:b≤l.length) (h:Sw d a b l l'): ∀x,x∈l'→x∈l:=by
  intro x hx
  obtain ⟨k,hk,rfl⟩:=mem_getD (d:=d) hx
  rw [h.len] at hk
  by_cases hin:a≤k∧k<b
  · exact h.all (p:=fun y=>y∈l) hb (fun k h1 h2=>getDmem (by omega)) k hin.1 hin.2
  · rw [h.out hb (by omega)]; exact getDmem hk
theorem Sw.mem (hb:b≤l.length) (h:Sw d a b l l') (x:α):x∈l'↔x∈l :=
  ⟨h.sub hb x,(h.symm hb).sub (by rw [h.len]; exact hb) x⟩
theorem SortS.nil (h:b≤a+1):SortS lt d a b l:=fun p q h1 h2 h3=>by omega
def InsI (lt:α→α→Bool) (d:α) (a i j:Nat) (l:List α):Prop:= ∀p q,a≤p→p<q→q≤i→q≠j→lt (l.getD q d) (l.getD p d)=false
theorem ins_init (h:SortS lt d a i l):InsI lt d a i i l:=fun p q h1 h2 h3 h4=>h p q h1 h2 (by omega)
theorem ins_done (ok:LtOK lt) (h:InsI lt d a i j l) (hj:j≤a∨lt (l.getD j d) (l.getD (j-1) d)=false) (ha:a≤j):SortS lt d a (i+1) l:=by
  intro p q h1 h2 h3
  by_cases hq:q=j
  · subst hq
    rcases hj with hj | hj
    · omega
    · by_cases hp:p=q-1
      · rw [hp]; exact hj
      · exact ok.neg _ _ _ hj (h p (q-1) h1 (by omega) (by omega) (by omega))
  · exact h p q h1 h2 (by omega) hq
theorem ins_step (ok:LtOK lt) (hi:i<l.length) (h:InsI lt d a i j l) (ha:a<j) (hj:j≤i) (hlt:lt (l.getD j d) (l.getD (j-1) d)=true):InsI lt d a i (j-1) (swapL d l j (j-1)):=by
  intro p q h1 h2 h3 h4
  have hs:=swap_get (d:=d) (l:=l) (i:=j) (j:=j-1) (by omega) (by omega)
  rw [hs p,hs q,if_neg h4]
  by_cases hq:q=j
  · subst hq
    rw [if_pos rfl]
    by_cases hp:p=q-1
    · rw [if_pos hp]; exact ok.asym _ _ hlt
    · rw [if_neg hp,if_neg (by omega)]; exact h p (q-1) h1 (by omega) (by omega) (by omega)
  · rw [if_neg hq]
    by_cases hp:p=j-1
    · rw [if_pos hp]; exact h j q (by omega) (by omega) h3 hq
    · rw [if_neg hp]
      by_cases hp2:p=j
      · rw [if_pos hp2]; exact h (j-1) q (by omega) (by omega) h3 hq
      · rw [if_neg hp2]; exact h p q h1 h2 h3 hq
end
end Go.Spec
namespace Go.Spec
end Go.Spec
namespace Go.Spec
open Go.Owl
section
variable {α:Type} {d:α} {l l1 l2 l':List α} {a b i j k f lo hi x c n mid:Nat} {lt:α→α→Bool} {pv:α}
def HeapX (lt:α→α→Bool) (d:α) (lo hi f x:Nat) (l:List α):Prop:= ∀r c,lo≤r→r≠x→c<hi→(c=2 * r+1∨c=2 * r+2)→lt (l.getD (f+r) d) (l.getD (f+c) d)=false
def HeapG (lt:α→α→Bool) (d:α) (lo hi f x:Nat) (l:List α):Prop:= ∀y c,lo≤y→(x=2 * y+1∨x=2 * y+2)→c<hi→(c=2 * x+1∨c=2 * x+2)→lt (l.getD (f+y) d) (l.getD (f+c) d)=false
def HeapA (lt:α→α→Bool) (d:α) (lo hi f:Nat) (l:List α):Prop:= ∀r c,lo≤r→c<hi→(c=2 * r+1∨c=2 * r+2)→lt (l.getD (f+r) d) (l.getD (f+c) d)=false
def Och (lt:α→α→Bool) (d:α) (hi f x c:Nat) (l:List α):Prop:=c<hi∧(c=2 * x+1∨c=2 * x+2)∧∀o,o<hi→(o=2 * x+1∨o=2 * x+2)→lt (l.getD (f+c) d) (l.getD (f+o) d)=false
theorem sift_init (h:HeapA lt d (lo+1) hi f l):HeapX lt d lo hi f lo l∧HeapG lt d lo hi f lo l :=
  ⟨fun r c h1 h2 h3 h4=>h r c (by omega) h3 h4,fun y c h1 h2=>by omega⟩
theorem sift_leaf (h:HeapX lt d lo hi f x l) (hx:hi≤2 * x+1):HeapA lt d lo hi f l:=fun r c h1 h2 h3=>by
  by_cases e:r=x
  · subst e; omega
  · exact h r c h1 e h2 h3
theorem och_2 (ok:LtOK lt) (h:2 * x+1+1<hi) (hlt:lt (l.getD (f+(2 * x+1)) d) (l.getD (f+(2 * x+1)+1) d)=true):Och lt d hi f x (2 * x+1+1) l:=by
  refine ⟨h,.inr rfl,fun o h1 h2=>?_⟩
  rcases h2 with rfl | rfl
  · exact ok.asym _ _ hlt
  · exact ok.irr _
theorem och_1 (ok:LtOK lt) (h:2 * x+1<hi) (h2:¬2 * x+1+1<hi∨lt (l.getD (f+(2 * x+1)) d) (l.getD (f+(2 * x+1)+1) d)=false):Och lt d hi f x (2 * x+1) l:=by
  refine ⟨h,.inl rfl,fun o h3 h4=>?_⟩
  rcases h4 with rfl | rfl
  · exact ok.irr _
  · rcases h2 with h2 | h2
    · omega
    · exact h2
theorem sift_stop (ok:LtOK lt) (h:HeapX lt d lo hi f x l) (ho:Och lt d hi f x c l) (hlt:lt (l.getD (f+x) d) (l.getD (f+c) d)=false):HeapA lt d lo hi f l:=fun r o h1 h2 h3=>by
  by_cases e:r=x
  · subst e; exact ok.neg _ _ _ hlt (ho.2.2 o h2 h3)
  · exact h r o h1 e h2 h3
theorem sift_step (ok:LtOK lt) (hf:f+hi≤l.length) (h:HeapX lt d lo hi f x l) (hg:HeapG lt d lo hi f x l) (ho:Och lt d hi f x c l) (hx:lo≤x) (hlt:lt (l.getD (f+x) d) (l.getD (f+c) d)=true) :
    HeapX lt d lo hi f c (swapL d l (f+x) (f+c))∧HeapG lt d lo hi f c (swapL d l (f+x) (f+c)):=by
  obtain ⟨h1,h2,h3⟩:=ho
  have hs:=swap_get (d:=d) (l:=l) (i:=f+x) (j:=f+c) (by omega) (by omega)
  constructor
  · intro r o q1 q2 q3 q4
    rw [hs,hs,if_neg (by omega)]
    by_cases e:r=x
    · subst e
      rw [if_pos rfl]
      by_cases e2:o=c
      · subst e2; rw [if_pos rfl]; exact ok.asym _ _ hlt
      · rw [if_neg (by omega),if_neg (by omega)]; exact h3 o q3 q4
    · rw [if_neg (by omega)]
      by_cases e2:o=c
      · exfalso; omega
      · rw [if_neg (by omega)]
        by_cases e3:o=x
        · subst e3; rw [if_pos rfl]; exact hg r c q1 q4 h1 h2
        · rw [if_neg (by omega)]; exact h r o q1 e q3 q4
  · intro y o q1 q2 q3 q4
    have e:y=x:=by omega
    subst e
    rw [hs,hs,if_neg (by omega),if_pos rfl,if_neg (by omega),if_neg (by omega)]
    exact h c o (by omega) (by omega) q3 q4
theorem heap_max (ok:LtOK lt) (h:HeapA lt d 0 hi f l): ∀p,p<hi→lt (l.getD f d) (l.getD (f+p) d)=false:=by
  intro p
  induction p using Nat.strongRecOn with
  | _ p ih =>
    intro hp
    by_cases h0:p=0
    · subst h0; exact ok.irr _
    · have h1:=h ((p-1) / 2) p (Nat.zero_le _) hp (by omega)
      exact ok.neg _ _ _ (ih ((p-1) / 2) (by omega) (by omega)) h1
def HeapT (lt:α→α→Bool) (d:α) (a n k:Nat) (l:List α):Prop:=HeapA lt d 0 k a l∧∀p q,p<q→k≤q→q<n→lt (l.getD (a+q) d) (l.getD (a+p) d)=false
theorem heapT_init (h:HeapA lt d 0 n a l):HeapT lt d a n n l:=⟨h,fun p q h1 h2 h3=>by omega⟩
theorem heapT_pre (hn:a+n≤l.length) (hk:i<n) (h:HeapT lt d a n (i+1) l):HeapA lt d 1 i a (swapL d l a (a+i)):=fun r c h1 h2 h3=>by
  have hs:=swap_get (d:=d) (l:=l) (i:=a) (j:=a+i) (by omega) (by omega)
  rw [hs,hs,if_neg (by omega),if_neg (by omega),if_neg (by omega),if_neg (by omega)]
  exact h.1 r c (by omega) (by omega) h3
theorem heapT_step (ok:LtOK lt) (hn:a+n≤l.length) (hk:i<n) (h:HeapT lt d a n (i+1) l) (hw:Sw d a (a+i) (swapL d l a (a+i)) l2) (hh:HeapA lt d 0 i a l2):HeapT lt d a n i l2:=by
  refine ⟨hh,fun p q h1 h2 h3=>?_⟩
  have hs:=swap_get (d:=d) (l:=l) (i:=a) (j:=a+i) (by omega) (by omega)
  have hl:(swapL d l a (a+i)).length=l.length:=swapL_len
  have hout: ∀k,a+i≤k→l2.getD k d=(swapL d l a (a+i)).getD k d:=fun k hk2=>hw.out (by omega) (.inr hk2)
  have hmax:=heap_max ok h.1
  have hi2:l2.getD (a+i) d=l.getD a d:=by rw [hout _ (Nat.le_refl _),hs,if_pos rfl]
  by_cases e:q=i
  · subst e
    rw [hi2]
    have:=hw.all (p:=fun y=>lt (l.getD a d) y=false) (by omega) (fun k q1 q2=>by
      rw [hs,if_neg (by omega)]
      split
      · exact hmax q (by omega)
      · have:=hmax (k-a) (by omega)
        rw [show a+(k-a)=k by omega] at this; exact this) (a+p) (by omega) (by omega)
    exact this
  · have hq:l2.getD (a+q) d=l.getD (a+q) d:=by rw [hout _ (by omega),hs,if_neg (by omega),if_neg (by omega)]
    rw [hq]
    by_cases e2:p=i
    · subst e2; rw [hi2]
      have:=h.2 0 q (by omega) (by omega) h3
      exact this
    · by_cases e3:p<i
      · exact hw.all (p:=fun y=>lt (l.getD (a+q) d) y=false) (by omega) (fun k q1 q2=>by
          rw [hs,if_neg (by omega)]
          split
          · exact h.2 i q (by omega) (by omega) h3
          · have:=h.2 (k-a) q (by omega) (by omega) h3
            rw [show a+(k-a)=k by omega] at this; exact this) (a+p) (by omega) (by omega)
      · rw [hout _ (by omega),hs,if_neg (by omega),if_neg (by omega)]
        exact h.2 p q h1 (by omega) h3
theorem heapT_end (h:HeapT lt d a n 0 l) (hb:a+n=b):SortS lt d a b l:=fun p q h1 h2 h3=>by
  have:=h.2 (p-a) (q-a) (by omega) (by omega) (by omega)
  rw [show a+(q-a)=q by omega,show a+(p-a)=p by omega] at this; exact this
def PartI (lt:α→α→Bool) (d:α) (a b i j:Nat) (l:List α) (pv:α):Prop :=
  a+1≤i∧i≤j+1∧j+1≤b∧l.getD a d=pv∧(∀k,a+1≤k→k<i→lt (l.getD k d) pv=true)∧(∀k,j<k→k<b→lt (l.getD k d) pv=false)
def PartP (lt:α→α→Bool) (d:α) (a b mid:Nat) (l:List α):Prop :=
  a≤mid∧mid<b∧(∀k,a≤k→k<mid→lt (l.getD k d) (l.getD mid d)=true)∧(∀k,mid<k→k<b→lt (l.getD k d) (l.getD mid d)=false)
theorem part_init (h:a<b) (hv:l.getD a d=pv):PartI lt d a b (a+1) (b-1) l pv:=⟨Nat.le_refl _,by omega,by omega,hv,fun k h1 h2=>by omega,fun k h1 h2=>by omega⟩
theorem part_i (h:PartI lt d a b i j l pv) (hij:i≤j) (hlt:lt (l.getD i d) (l.getD a d)=true):PartI lt d a b (i+1) j l pv:=by
  obtain ⟨h1,h2,h3,h4,h5,h6⟩:=h
  rw [h4] at hlt
  refine ⟨by omega,by omega,h3,h4,fun k q1 q2=>?_,h6⟩
  by_cases e:k=i
  · subst e; exact hlt
  · exact h5 k q1 (by omega)
theorem part_j (h:PartI lt d a b i j l pv) (hij:i≤j) (hlt:lt (l.getD j d) (l.getD a d)=false):PartI lt d a b i (j-1) l pv:=by
  obtain ⟨h1,h2,h3,h4,h5,h6⟩:=h
  rw [h4] at hlt
  refine ⟨h1,by omega,by omega,h4,h5,fun k q1 q2=>?_⟩
  by_cases e:k=j
  · subst e; exact hlt
  · exact h6 k (by omega) q2
theorem part_swap (hl:b≤l.length) (h:PartI lt d a b i j l pv) (hij:i≤j) (hi:lt (l.getD i d) (l.getD a d)=false) (hj:lt (l.getD j d) (l.getD a d)=true):PartI lt d a b (i+1) (j-1) (swapL d l i j) pv:=by
  obtain ⟨h1,h2,h3,h4,h5,h6⟩:=h
  rw [h4] at hi hj
  have hne:i≠j:=fun e=>by subst e; rw [hi] at hj; cases hj
  have hs:=swap_get (d:=d) (l:=l) (i:=i) (j:=j) (by omega) (by omega)
  refine ⟨by omega,by omega,by omega,?_,fun k q1 q2=>?_,fun k q1 q2=>?_⟩
  · rw [hs,if_neg (by omega),if_neg (by omega)]; exact h4
  · rw [hs,if_neg (by omega)]
    split
    · exact hj
    · exact h5 k q1 (by omega)
  · rw [hs]
    split
    · exact hi
    · rw [if_neg (by omega)]; exact h6 k (by omega) q2
theorem part_done (hl:b≤l.length) (h:PartI lt d a b i j l pv) (hij:j<i):PartP lt d a b j (swapL d l j a):=by
  obtain ⟨h1,h2,h3,h4,h5,h6⟩:=h
  have hs:=swap_get (d:=d) (l:=l) (i:=j) (j:=a) (by omega) (by omega)
  have hm:(swapL d l j a).getD j d=pv:=by
    rw [hs]
    split
    · rename_i e; rw [e]; exact h4
    · rw [if_pos rfl]; exact h4
  refine ⟨by omega,by omega,fun k q1 q2=>?_,fun k q1 q2=>?_⟩
  · rw [hm,hs]
    split
    · exact h5 j (by omega) (by omega)
    · rw [if_neg (by omega)]; exact h5 k (by omega) (by omega)
  · rw [hm,hs,if_neg (by omega),if_neg (by omega)]; exact h6 k q1 q2
def EqI (lt:α→α→Bool) (d:α) (a b i j:Nat) (l:List α) (pv:α):Prop :=
  a+1≤i∧i≤j+1∧j+1≤b∧l.getD a d=pv∧(∀k,a+1≤k→k<i→lt pv (l.getD k d)=false)∧(∀k,j<k→k<b→lt pv (l.getD k d)=true)
def EqP (lt:α→α→Bool) (d:α) (a b mid:Nat) (l:List α) (pv:α):Prop:=a+1≤mid∧mid≤b∧(∀k,a≤k→k<mid→lt pv (l.getD k d)=false)
theorem eq_init (h:a<b) (hv:l.getD a d=pv):EqI lt d a b (a+1) (b-1) l pv:=⟨Nat.le_refl _,by omega,by omega,hv,fun k h1 h2=>by omega,fun k h1 h2=>by omega⟩
theorem eq_i (h:EqI lt d a b i j l pv) (hij:i≤j) (hlt:lt (l.getD a d) (l.getD i d)=false):EqI lt d a b (i+1) j l pv:=by
  obtain ⟨h1,h2,h3,h4,h5,h6⟩:=h
  rw [h4] at hlt
  refine ⟨by omega,by omega,h3,h4,fun k q1 q2=>?_,h6⟩
  by_cases e:k=i
  · subst e; exact hlt
  · exact h5 k q1 (by omega)
theorem eq_j (h:EqI lt d a b i j l pv) (hij:i≤j) (hlt:lt (l.getD a d) (l.getD j d)=true):EqI lt d a b i (j-1) l pv:=by
  obtain ⟨h1,h2,h3,h4,h5,h6⟩:=h
  rw [h4] at hlt
  refine ⟨h1,by omega,by omega,h4,h5,fun k q1 q2=>?_⟩
  by_cases e:k=j
  · subst e; exact hlt
  · exact h6 k (by omega) q2
theorem eq_swap (hl:b≤l.length) (h:EqI lt d a b i j l pv) (hij:i≤j) (hi:lt (l.getD a d) (l.getD i d)=true) (hj:lt (l.getD a d) (l.getD j d)=false):EqI lt d a b (i+1) (j-1) (swapL d l i j) pv:=by
  obtain ⟨h1,h2,h3,h4,h5,h6⟩:=h
  rw [h4] at hi hj
  have hne:i≠j:=fun e=>by subst e; rw [hi] at hj; cases hj
  have hs:=swap_get (d:=d) (l:=l) (i:=i) (j:=j) (by omega) (by omega)
  refine ⟨by omega,by omega,by omega,?_,fun k q1 q2=>?_,fun k q1 q2=>?_⟩
  · rw [hs,if_neg (by omega),if_neg (by omega)]; exact h4
  · rw [hs,if_neg (by omega)]
    split
    · exact hj
    · exact h5 k q1 (by omega)
  · rw [hs]
    split
    · exact hi
    · rw [if_neg (by omega)]; exact h6 k (by omega) q2
theorem eq_done (ok:LtOK lt) (h:EqI lt d a b i j l pv) (hij:j<i):EqP lt d a b i l pv:=by
  obtain ⟨h1,h2,h3,h4,h5,h6⟩:=h
  refine ⟨h1,by omega,fun k q1 q2=>?_⟩
  by_cases e:k=a
  · subst e; rw [h4]; exact ok.irr _
  · exact h5 k (by omega) q2
def OutS (lt:α→α→Bool) (d:α) (a b a' b':Nat) (l:List α):Prop:= ∀p q,a≤p→p<q→q<b→¬(a'≤p∧q<b')→lt (l.getD q d) (l.getD p d)=false
def PreS (lt:α→α→Bool) (d:α) (a b:Nat) (l:List α):Prop:=a=0∨∀x,a≤x→x<b→lt (l.getD x d) (l.getD (a-1) d)=false
variable {a' b':Nat}
theorem out_init:OutS lt d a b a b l:=fun p q h1 h2 h3 h4=>by omega
theorem out_done (h:OutS lt d a b a' b' l) (hs:SortS lt d a' b' l):SortS lt d a b l:=fun p q h1 h2 h3=>by
  by_cases e:a'≤p∧q<b'
  · exact hs p q e.1 h2 e.2
  · exact h p q h1 h2 h3 e
theorem out_sw (ha:a≤a') (hb':b'≤b) (hb:b'≤l.length) (h:OutS lt d a b a' b' l) (hw:Sw d a' b' l l'):OutS lt d a b a' b' l':=fun p q h1 h2 h3 h4=>by
  by_cases hp:a'≤p∧p<b'
  · rw [hw.out (k:=q) hb (by omega)]
    exact hw.all (p:=fun y=>lt (l.getD q d) y=false) hb (fun k q1 q2=>h k q (by omega) (by omega) h3 (by omega)) p hp.1 hp.2
  · rw [hw.out (k:=p) hb (by omega)]
    by_cases hq:a'≤q∧q<b'
    · exact hw.all (p:=fun y=>lt y (l.getD p d)=false) hb (fun k q1 q2=>h p k h1 (by omega) (by omega) (by omega)) q hq.1 hq.2
    · rw [hw.out (k:=q) hb (by omega)]; exact h p q h1 h2 h3 h4
theorem pre_sw (hb:b'≤l.length) (h:PreS lt d a' b' l) (hw:Sw d a' b' l l'):PreS lt d a' b' l':=by
  by_cases e:a'=0
  · exact .inl e
  · refine .inr ?_
    rw [hw.out (k:=a'-1) hb (by omega)]
    exact hw.all (p:=fun y=>lt y (l.getD (a'-1) d)=false) hb (fun k q1 q2=>(h.resolve_left e) k q1 q2)
theorem pre_left (h:PreS lt d a b l) (hm:mid≤b):PreS lt d a mid l:=h.imp id fun h x h1 h2=>h x h1 (by omega)
theorem pre_right (h:PartP lt d a b mid l):PreS lt d (mid+1) b l:=.inr fun x h1 h2=>h.2.2.2 x (by omega) h2
theorem part_left (ok:LtOK lt) (hl:b'≤l.length) (ha:a≤a') (ho:OutS lt d a b a' b' l) (hb':b'≤b) (h:PartP lt d a' b' mid l) (hw:Sw d a' mid l l') (hs:SortS lt d a' mid l'):OutS lt d a b (mid+1) b' l'∧PreS lt d (mid+1) b' l':=by
  obtain ⟨h1,h2,h3,h4⟩:=h
  have ho':=out_sw ha hb' hl ho (hw.mono (Nat.le_refl _) (by omega))
  have hm:l'.getD mid d=l.getD mid d:=hw.out (by omega) (.inr (Nat.le_refl _))
  have h3':=hw.all (p:=fun y=>lt y (l.getD mid d)=true) (by omega) h3
  have h4': ∀k,mid<k→k<b'→lt (l'.getD k d) (l.getD mid d)=false:=fun k q1 q2=>by rw [hw.out (by omega) (.inr (by omega))]; exact h4 k q1 q2
  refine ⟨fun p q q1 q2 q3 q4=>?_,.inr fun x q1 q2=>?_⟩
  · by_cases e:a'≤p∧q<b'
    · by_cases e1:q<mid
      · exact hs p q e.1 q2 e1
      · by_cases e2:q=mid
        · subst e2; rw [hm]; exact ok.asym _ _ (h3' p e.1 q2)
        · by_cases e3:p=mid
          · subst e3; rw [hm]; exact h4' q q2 e.2
          · exact ok.neg _ _ _ (h4' q (by omega) e.2) (ok.asym _ _ (h3' p e.1 (by omega)))
    · exact ho' p q q1 q2 q3 e
  · rw [Nat.add_sub_cancel,hm]; exact h4' x (by omega) q2
theorem part_right (ok:LtOK lt) (hl:b'≤l.length) (ha:a≤a') (ho:OutS lt d a b a' b' l) (hb':b'≤b) (h:PartP lt d a' b' mid l) (hw:Sw d (mid+1) b' l l') (hs:SortS lt d (mid+1) b' l'):OutS lt d a b a' mid l':=by
  obtain ⟨h1,h2,h3,h4⟩:=h
  have ho':=out_sw ha hb' hl ho (hw.mono (by omega) (Nat.le_refl _))
  have hm:l'.getD mid d=l.getD mid d:=hw.out hl (.inl (by omega))
  have h3': ∀k,a'≤k→k<mid→lt (l'.getD k d) (l.getD mid d)=true:=fun k q1 q2=>by rw [hw.out hl (.inl (by omega))]; exact h3 k q1 q2
  have h4':=hw.all (p:=fun y=>lt y (l.getD mid d)=false) hl (fun k q1 q2=>h4 k (by omega) q2)
  intro p q q1 q2 q3 q4
  by_cases e:a'≤p∧q<b'
  · by_cases e1:mid<p
    · exact hs p q (by omega) q2 e.2
    · by_cases e2:q=mid
      · subst e2; rw [hm]; exact ok.asym _ _ (h3' p e.1 q2)
      · by_cases e3:p=mid
        · subst e3; rw [hm]; exact h4' q (by omega) e.2
        · exact ok.neg _ _ _ (h4' q (by omega) e.2) (ok.asym _ _ (h3' p e.1 (by omega)))
  · exact ho' p q q1 q2 q3 e
theorem pre_right_sw (hl:b'≤l.length) (h:PreS lt d a' b' l) (hm:a'≤mid) (hm2:mid<b') (hw:Sw d (mid+1) b' l l'):PreS lt d a' mid l':=by
  by_cases e:a'=0
  · exact .inl e
  · refine .inr fun x h1 h2=>?_
    rw [hw.out hl (.inl (by omega)),hw.out hl (.inl (by omega))]
    exact (h.resolve_left e) x h1 (by omega)
theorem eq_left (ok:LtOK lt) (hl:b'≤l.length) (ha:a≤a') (ho:OutS lt d a b a' b' l) (hb':b'≤b) (hp:PreS lt d a' b' l) (h0:0<a') (hpv:lt (l.getD (a'-1) d) pv=false) (hw:Sw d a' b' l l') (h:EqP lt d a' b' mid l' pv):OutS lt d a b mid b' l'∧PreS lt d mid b' l':=by
  obtain ⟨h1,h2,h3⟩:=h
  have ho':=out_sw ha hb' hl ho hw
  have hmin:=hw.all (p:=fun y=>lt y pv=false) hl (fun k q1 q2=>ok.neg _ _ _ ((hp.resolve_left (by omega)) k q1 q2) hpv)
  refine ⟨fun p q q1 q2 q3 q4=>?_,.inr fun x q1 q2=>ok.neg _ _ _ (hmin x (by omega) q2) (h3 (mid-1) (by omega) (by omega))⟩
  by_cases e:a'≤p∧q<b'
  · exact ok.neg _ _ _ (hmin q (by omega) e.2) (h3 p e.1 (by omega))
  · exact ho' p q q1 q2 q3 e
theorem swap_fst (ha:i<l.length) (hp:j<l.length):(swapL d l i j).getD i d=l.getD j d:=by
  rw [swap_get ha hp]
  split
  · rename_i e; rw [e]
  · rw [if_pos rfl]
theorem pre_gt (hp:PreS lt d a b l) (haj:a≤j) (h1:1≤j) (hab:a<b) (hlt:lt (l.getD j d) (l.getD (j-1) d)=true):a<j:=by
  rcases Nat.lt_or_ge a j with h | h
  · exact h
  · have e:j=a:=by omega
    subst e
    rw [hp.resolve_left (by omega) j (Nat.le_refl _) hab] at hlt; cases hlt
theorem sort_snoc (ok:LtOK lt) (h:SortS lt d a i l) (hi:a<i) (hlt:lt (l.getD i d) (l.getD (i-1) d)=false):SortS lt d a (i+1) l:=fun p q h1 h2 h3=>by
  by_cases e:q=i
  · subst e
    by_cases e2:p=q-1
    · rw [e2]; exact hlt
    · exact ok.neg _ _ _ hlt (h p (q-1) h1 (by omega) (by omega))
  · exact h p q h1 h2 (by omega)
theorem sort_swap (hi:i<l.length) (ha:a<i) (h:SortS lt d a i l):SortS lt d a (i-1) (swapL d l i (i-1)):=fun p q h1 h2 h3=>by
  have hs:=swap_get (d:=d) (l:=l) (i:=i) (j:=i-1) hi (by omega)
  rw [hs,hs,if_neg (by omega),if_neg (by omega),if_neg (by omega),if_neg (by omega)]
  exact h p q h1 h2 (by omega)
theorem sort_keep (hb:b≤l.length) (h:SortS lt d a i l) (hw:Sw d i b l l'):SortS lt d a i l':=fun p q h1 h2 h3=>by
  rw [hw.out hb (.inl (by omega)),hw.out hb (.inl (by omega))]; exact h p q h1 h2 h3
end
def lenN (n:Nat):Nat:=if n=0 then 0 else Nat.log2 n+1
theorem lenN_shift {n k:Nat} (h:2^k≤n):lenN (n / 2^k)+k=lenN n:=by
  have hp:0<2^k:=Nat.two_pow_pos k
  have h1:n / 2^k≠0:=by
    have:=(Nat.le_div_iff_mul_le hp).2 (by rw [Nat.one_mul]; exact h)
    omega
  have hn:n≠0:=by omega
  rw [lenN,lenN,if_neg h1,if_neg hn]
  have e:Nat.log2 n=Nat.log2 (n / 2^k)+k:=by
    rw [Nat.log2_eq_iff hn]
    have h2:=(Nat.log2_eq_iff (k:=Nat.log2 (n / 2^k)) h1).1 rfl
    constructor
    · rw [Nat.pow_add]; exact (Nat.le_div_iff_mul_le hp).1 h2.1
    · rw [show Nat.log2 (n / 2^k)+k+1=(Nat.log2 (n / 2^k)+1)+k by omega,Nat.pow_add]; exact (Nat.div_lt_iff_lt_mul hp).1 h2.2
  omega
theorem lenN_pow {n:Nat} (h:0<n):2^lenN n≤2 * n:=by
  rw [lenN,if_neg (by omega),Nat.pow_succ]
  have:=(Nat.log2_eq_iff (k:=Nat.log2 n) (by omega:n≠0)).1 rfl
  omega
theorem lenN_le {n k:Nat} (h:n<2^k):lenN n≤k:=by
  unfold lenN
  split
  · omega
  · rename_i hn
    have:=(Nat.log2_lt hn).2 h
    omega
theorem vN_I {a:Nat} {z:Int} (h:(a:Int)=z):vN a=vI z:=by subst h; rfl
theorem vI_N {a:Nat} {z:Int} (h:z=(a:Int)):vI z=vN a:=by subst h; rfl
theorem brk_lt {y:UInt64} {n:Nat} (h:0<n) (hn:n<2^61):(y &&& (shlU64 1 (lenN (UInt64.ofNat n).toNat)-1)).toNat<2 * n:=by
  have e:(UInt64.ofNat n).toNat=n:=by rw [UInt64.toNat_ofNat',Nat.mod_eq_of_lt (by omega)]
  have h1:=lenN_pow h
  have h2:lenN n≤61:=lenN_le hn
  have h3:2^lenN n<2^64:=Nat.pow_lt_pow_right (by omega) (by omega)
  have h4:(shlU64 1 (lenN n)).toNat=2^lenN n:=by
    rw [shlU64,UInt64.toNat_ofNat',Nat.shiftLeft_eq,show (1:UInt64).toNat=1 from rfl,Nat.one_mul,Nat.mod_eq_of_lt h3]
  have h5:0<2^lenN n:=Nat.two_pow_pos _
  have h6:(shlU64 1 (lenN n)-1).toNat=2^lenN n-1:=by
    rw [UInt64.toNat_sub_of_le _ _ (by rw [UInt64.le_iff_toNat_le,h4]; exact h5),h4]; rfl
  rw [e,UInt64.toNat_and,h6]
  have:=Nat.and_le_right (n:=y.toNat) (m:=2^lenN n-1)
  omega
end Go.Spec
namespace Go.Spec
section
variable {α:Type} {lt:α→α→Bool} {d:α} {l l':List α} {n k:Nat}
variable [DecidableEq α]
end
section
variable {α:Type} {lt:α→α→Bool} {d:α} {k:Nat}
variable [DecidableEq α]
end
end Go.Spec
