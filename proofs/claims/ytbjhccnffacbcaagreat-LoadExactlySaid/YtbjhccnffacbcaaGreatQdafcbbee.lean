/- General lemmas and walks. No condition but what each theorem names. -/
import Derived.Test.YtbjhccnffacbcaaGreatQdd1b1567
import Derived.Test.YtbjhccnffacbcaaGreatQa576578f
import Derived.Test.YtbjhccnffacbcaaGreatQc70aff79
import Derived.Test.YtbjhccnffacbcaaGreatQ70044d33
set_option maxRecDepth 100000
set_option maxHeartbeats 8000000
namespace Go.Spec
open Go.Owl
def le4 (v:UInt32):List UInt8:=[UInt8.ofNat v.toNat,UInt8.ofNat (cF v 8).toNat,UInt8.ofNat (cF v 16).toNat,UInt8.ofNat (cF v 24).toNat]
def mM (s:List UInt8):Nat→UInt32
  | 0=>0
  | k+1=>mM s k ||| shlU32 (UInt32.ofNat (s.getD k 0).toNat) (8 * k)
def pN (s:List UInt8):Nat:=if s.length<1∨4<s.length then 2 else 0
def kw (s:List UInt8):UInt32:=if s.length<1∨4<s.length then 0 else mM s s.length
theorem FI {p:UInt8→Bool} (h:((List.range 256).all fun k=>p (UInt8.ofNat k))=true) (op:UInt8):p op=true:=by
  have:=List.all_eq_true.mp h op.toNat (List.mem_range.mpr op.toNat_lt)
  simpa using this
def rV (v:UInt32):Nat→UInt32
  | 0=>v
  | k+1=>rV v k / 256
def rB (v:UInt32):Nat→List UInt8
  | 0=>[]
  | k+1=>rB v k++[UInt8.ofNat (rV v k%256).toNat]
theorem gT (v:UInt32): ∀k,(rB v k).length=k
  | 0=>rfl
  | k+1=>by simp [rB,gT v k]
theorem rB4 (v:UInt32):rB v 4=le4 v:=by
  have hv:=v.toNat_lt
  simp only [rB,rV,le4,cF,List.nil_append,List.cons_append,List.cons.injEq,and_true]
  refine ⟨?_,?_,?_,?_⟩<;>(apply UInt8.toNat_inj.mp; simp [Nat.shiftRight_eq_div_pow]; try omega)
def gF:List UInt8→UInt32
  | []=>0
  | c::l=>256 * gF l+UInt32.ofNat c.toNat
theorem vx (s:List UInt8) (m:Nat) (h:m<s.length):gF (s.drop m)=256 * gF (s.drop (m+1))+UInt32.ofNat (s.getD m 0).toNat:=by
  rw [List.drop_eq_getElem_cons h]; simp [gF,List.getD,h]
def gFV (s:List UInt8):UInt32:=if s.length<1∨4<s.length then 0 else gF s
theorem b16 (b:UInt8):b%16=b &&& 15∧b / 16=AK b 4:=by
  have:=FI (p:=fun b=>b%16==b &&& 15&&b / 16==AK b 4) (by decide +kernel) b
  simpa using this
def rot (x:UInt32) (n:Nat):UInt32:=cF x n ||| shlU32 x (32-n)
structure St where
  a:UInt32
  b:UInt32
  c:UInt32
  d:UInt32
  e:UInt32
  f:UInt32
  g:UInt32
  h:UInt32
def St.vals (v:St):List UInt32:=[v.a,v.b,v.c,v.d,v.e,v.f,v.g,v.h]
def be4 (b:List UInt8) (t:Nat):UInt32:=((shlU32 (UInt32.ofNat (b.getD (4 * t) 0).toNat) 24 ||| shlU32 (UInt32.ofNat (b.getD (4 * t+1) 0).toNat) 16) ||| shlU32 (UInt32.ofNat (b.getD (4 * t+2) 0).toNat) 8) ||| UInt32.ofNat (b.getD (4 * t+3) 0).toNat
def mix (w:List UInt32) (t:Nat):UInt32 :=
  ((w.getD (t-16) 0+((rot (w.getD (t-15) 0) 7 ^^^ rot (w.getD (t-15) 0) 18) ^^^ cF (w.getD (t-15) 0) 3))+w.getD (t-7) 0)+((rot (w.getD (t-2) 0) 17 ^^^ rot (w.getD (t-2) 0) 19) ^^^ cF (w.getD (t-2) 0) 10)
def wl (b:List UInt8):Nat→List UInt32
  | 0=>[]
  | k+1=>wl b k++[if k<16 then be4 b k else mix (wl b k) k]
theorem fI (b:List UInt8): ∀k,(wl b k).length=k
  | 0=>rfl
  | k+1=>by simp [wl,fI b k]
def kT:List UInt32:=[
  0x428a2f98,0x71374491,0xb5c0fbcf,0xe9b5dba5,0x3956c25b,0x59f111f1,0x923f82a4,0xab1c5ed5,
  0xd807aa98,0x12835b01,0x243185be,0x550c7dc3,0x72be5d74,0x80deb1fe,0x9bdc06a7,0xc19bf174,
  0xe49b69c1,0xefbe4786,0x0fc19dc6,0x240ca1cc,0x2de92c6f,0x4a7484aa,0x5cb0a9dc,0x76f988da,
  0x983e5152,0xa831c66d,0xb00327c8,0xbf597fc7,0xc6e00bf3,0xd5a79147,0x06ca6351,0x14292967,
  0x27b70a85,0x2e1b2138,0x4d2c6dfc,0x53380d13,0x650a7354,0x766a0abb,0x81c2c92e,0x92722c85,
  0xa2bfe8a1,0xa81a664b,0xc24b8b70,0xc76c51a3,0xd192e819,0xd6990624,0xf40e3585,0x106aa070,
  0x19a4c116,0x1e376c08,0x2748774c,0x34b0bcb5,0x391c0cb3,0x4ed8aa4a,0x5b9cca4f,0x682e6ff3,
  0x748f82ee,0x78a5636f,0x84c87814,0x8cc70208,0x90befffa,0xa4506ceb,0xbef9a3f7,0xc67178f2]
def dK:St:=⟨0x6a09e667,0xbb67ae85,0x3c6ef372,0xa54ff53a,0x510e527f,0x9b05688c,0x1f83d9ab,0x5be0cd19⟩
def Fh (v:St) (k w:UInt32):UInt32:=(((v.h+((rot v.e 6 ^^^ rot v.e 11) ^^^ rot v.e 25))+((v.e &&& v.f) ^^^ (v.g &&& ~~~v.e)))+k)+w
def HP (v:St):UInt32:=((rot v.a 2 ^^^ rot v.a 13) ^^^ rot v.a 22)+(((v.a &&& v.b) ^^^ (v.a &&& v.c)) ^^^ (v.b &&& v.c))
def AG (v:St) (k w:UInt32):St:=⟨Fh v k w+HP v,v.a,v.b,v.c,v.d+Fh v k w,v.e,v.f,v.g⟩
def dr (h:St) (w:List UInt32):Nat→St
  | 0=>h
  | t+1=>AG (dr h w t) (kT.getD t 0) (w.getD t 0)
def Gh (v h:St):St:=⟨v.a+h.a,v.b+h.b,v.c+h.c,v.d+h.d,v.e+h.e,v.f+h.f,v.g+h.g,v.h+h.h⟩
def eI (h:St) (b:List UInt8):St:=Gh (dr h (wl b 64) 64) h
def gg (n:Nat):Nat:=(119-n%64)%64
def hb (x:UInt32):List UInt8:=[UInt8.ofNat (cF x 24).toNat,UInt8.ofNat (cF x 16).toNat,UInt8.ofNat (cF x 8).toNat,UInt8.ofNat x.toNat]
def wC (b:List UInt8) (k:Nat):List Value:=(wl b k).map aa++List.replicate (64-k) (aa 0)
theorem gN (b:List UInt8) (k:Nat) (h:k≤64):(wC b k).length=64:=by simp [wC,fI]; omega
theorem pw (b:List UInt8) {k j:Nat} (h:j<k):(wC b k)[0+j]?=some (aa ((wl b k).getD j 0)):=by
  rw [Nat.zero_add,wC,List.getElem?_append_left (by simpa [fI] using h)]
  simp [List.getD,fI,h]
theorem xj (b:List UInt8) {k:Nat} (h:k<64):wC b (k+1)=(wC b k).set (0+k) (aa (if k<16 then be4 b k else mix (wl b k) k)):=by
  rw [Nat.zero_add,wC,wC,List.set_append,List.length_map,fI,if_neg (Nat.lt_irrefl k),Nat.sub_self,show 64-k=(64-(k+1))+1 by omega,List.replicate_succ,List.set_cons_zero]
  simp [wl]
theorem xk (b:List UInt8):wC b 64=(wl b 64).map aa:=by simp [wC]
theorem ld (l:List UInt32):(l.map aa).all (·.oneCell')=true:=by simp [Value.oneCell']
theorem lR {α β:Type} (f:α→β) {l:List α} {m:Nat} (d:α) (hm:m<l.length):(l.map f)[0+m]?=some (f (l.getD m d)):=by rw [Nat.zero_add]; exact aR f d hm
def iC (v h:St) (k:Nat):List UInt32:=List.zipWith (· + ·) (v.vals.take k) (h.vals.take k)++v.vals.drop k
theorem fF (v h:St): ∀k,k≤8→(iC v h k).length=8:=fun k hk=>by simp [iC,St.vals]; omega
theorem rL (v h:St): ∀k,k<8→iC v h (k+1)=(iC v h k).set k ((iC v h k).getD k 0+h.vals.getD k 0):=fun k hk=>by
  rcases (by omega:k=0∨k=1∨k=2∨k=3∨k=4∨k=5∨k=6∨k=7) with rfl | rfl | rfl | rfl | rfl | rfl | rfl | rfl<;>rfl
theorem An (v h:St):iC v h 8=(Gh v h).vals:=rfl
theorem Am (v h:St) {k:Nat} (hk:k<8):(iC v h (k+1)).map aa=((iC v h k).map aa).set (0+k) (aa ((iC v h k).getD k 0+h.vals.getD k 0)):=by
  rw [rL v h k hk,Nat.zero_add,List.map_set]
theorem wQ:kT.length=64:=rfl
theorem nZ (h:St):h.vals.length=8:=rfl
def cA (d:List UInt8):Nat→List UInt8
  | 0=>d
  | j+1=>(cA d j).drop 64
def bst (h:St) (d:List UInt8):Nat→St
  | 0=>h
  | j+1=>eI (bst h d j) ((cA d j).take 64)
theorem mc (d:List UInt8): ∀j,cA d j=d.drop (64 * j)
  | 0=>by simp [cA]
  | j+1=>by rw [cA,mc d j,List.drop_drop]; congr 1
theorem fD (d:List UInt8) (j:Nat):(cA d j).length=d.length-64 * j:=by rw [mc,List.length_drop]
theorem qC (h:St) (d:List UInt8) (i:Nat): ∀j,bst h d (i+j)=bst (bst h d i) (cA d i) j∧cA d (i+j)=cA (cA d i) j
  | 0=>⟨rfl,rfl⟩
  | j+1=>by rw [←Nat.add_assoc,bst,cA,(qC h d i j).1,(qC h d i j).2]; exact ⟨rfl,rfl⟩
theorem nO (d e:List UInt8) (j:Nat) (hl:64 * j≤d.length):cA (d++e) j=cA d j++e:=by
  rw [mc,mc,List.drop_append_of_le_length hl]
theorem pS (h:St) (d e:List UInt8): ∀j,64 * j≤d.length→bst h (d++e) j=bst h d j
  | 0,_=>rfl
  | j+1,hl=>by
    rw [bst,bst,pS h d e j (by omega),nO d e j (by omega),List.take_append_of_le_length (by rw [fD]; omega)]
def hst (all:List UInt8):St:=bst dK all (all.length / 64)
def hrest (all:List UInt8):List UInt8:=cA all (all.length / 64)
theorem gi (all:List UInt8):(hrest all).length=all.length%64:=by unfold hrest; rw [fD]; omega
theorem FS (a s:List UInt8) (j:Nat) (h:(cA (hrest a++s) j).length<64) (hj:64 * j≤(hrest a).length+s.length):bst (hst a) (hrest a++s) j=hst (a++s)∧cA (hrest a++s) j=hrest (a++s):=by
  rw [fD,List.length_append,gi] at h
  rw [gi] at hj
  have e:(a++s).length / 64=a.length / 64+j:=by rw [List.length_append]; omega
  have hb:=qC dK (a++s) (a.length / 64) j
  have h1:=nO a s (a.length / 64) (by omega)
  have h2:=pS dK a s (a.length / 64) (by omega)
  constructor
  · unfold hst hrest; rw [e,hb.1,h1,h2]
  · unfold hrest; rw [e,hb.2,h1]
def acc (all:List UInt8) (ls:List (List UInt8)):Nat→List UInt8
  | 0=>all
  | k+1=>acc all ls k++ls.getD k []
theorem tV (all:List UInt8) (ls:List (List UInt8)): ∀k,k≤ls.length→acc all ls k=all++(ls.take k).flatten
  | 0,_=>by simp [acc]
  | k+1,h=>by
    have e:ls.take (k+1)=ls.take k++[ls[k]'(by omega)]:=by rw [List.take_add_one,List.getElem?_eq_getElem (by omega)]; rfl
    rw [acc,tV all ls k (by omega),e,List.flatten_append]
    simp [List.getD,show k<ls.length by omega, -List.take_append_getElem]
theorem vW (all:List UInt8) (ls:List (List UInt8)):acc all ls ls.length=all++ls.flatten:=by rw [tV _ _ _ (Nat.le_refl _),List.take_length]
theorem tW (all:List UInt8) (ls:List (List UInt8)) (k:Nat): ∀d,(acc all ls k).length≤(acc all ls (k+d)).length
  | 0=>Nat.le_refl _
  | d+1=>by
    have:=tW all ls k d
    rw [←Nat.add_assoc,acc,List.length_append]; omega
theorem vV (all:List UInt8) (ls:List (List UInt8)) (k:Nat) (h:k≤ls.length):(acc all ls k).length≤(all++ls.flatten).length:=by
  rw [←vW]
  have:=tW all ls k (ls.length-k)
  rwa [show k+(ls.length-k)=ls.length by omega] at this
theorem Cp (all:List UInt8) (ls:List (List UInt8)) (k:Nat) (h:k<ls.length):(acc all ls k).length+(ls.getD k []).length≤(all++ls.flatten).length:=by
  have:=vV all ls (k+1) h
  rwa [acc,List.length_append] at this
def fY (n:Nat):Nat→List UInt8
  | 0=>[]
  | j+1=>fY n j++[UInt8.ofNat (dN ((8:UInt64) * UInt64.ofNat n) (56-8 * j)).toNat]
theorem iw (n:Nat): ∀j,(fY n j).length=j
  | 0=>rfl
  | j+1=>by simp [fY,iw n j]
def bZ (n:Nat):List UInt8:=[128]++List.replicate (gg n) 0++fY n 8
theorem oB (n:Nat):(n+(bZ n).length)%64=0:=by
  simp [bZ,iw,gg]; omega
def jI (v:St):Nat→List UInt8
  | 0=>[]
  | k+1=>jI v k++hb (v.vals.getD k 0)
theorem nz (v:St): ∀k,(jI v k).length=4 * k
  | 0=>rfl
  | k+1=>by rw [jI,List.length_append,nz v k]; simp [hb]; omega
def sha (s:List UInt8):List UInt8:=jI (hst (s++bZ s.length)) 8
theorem dO (s:List UInt8):(sha s).length=32:=nz _ _
theorem Fi (all:List UInt8) (j:Nat) (h:(cA (hrest all++bZ all.length) j).length=0) (hj:64 * j≤(hrest all).length+(bZ all.length).length):bst (hst all) (hrest all++bZ all.length) j=hst (all++bZ all.length) :=
  (FS all (bZ all.length) j (by omega) hj).1
theorem vc (X:List UInt8) (k:Nat):X++[128]++List.replicate k 0++[0]=X++[128]++List.replicate (k+1) 0:=by
  rw [List.replicate_succ']; simp
theorem vr (X A:List UInt8) (n j:Nat):X++(A++fY n j)++[UInt8.ofNat (dN ((8:UInt64) * UInt64.ofNat n) (56-8 * j)).toNat]=X++(A++fY n (j+1)):=by
  simp [fY]
theorem FG (all:List UInt8):(hrest all++bZ all.length).length%64=0:=by
  have:=oB all.length
  rw [List.length_append,gi]; omega
def FP (ai bj o:UInt32) (c:UInt64):UInt64:=(UInt64.ofNat ai.toNat * UInt64.ofNat bj.toNat+UInt64.ofNat o.toNat)+c
def fX (ai:UInt32) (b:List UInt32) (i:Nat) (out:List UInt32):Nat→List UInt32 × UInt64
  | 0=>(out,0)
  | j+1 =>
    ((fX ai b i out j).1.set (i+j) (UInt32.ofNat (FP ai (b.getD j 0) ((fX ai b i out j).1.getD (i+j) 0) (fX ai b i out j).2%(4294967296:UInt64)).toNat),
      dN (FP ai (b.getD j 0) ((fX ai b i out j).1.getD (i+j) 0) (fX ai b i out j).2) 32)
def fA (a b:List UInt32):Nat→List UInt32
  | 0=>List.replicate (a.length+b.length) 0
  | i+1=>(fX (a.getD i 0) b i (fA a b i) b.length).1.set (i+b.length) (UInt32.ofNat (fX (a.getD i 0) b i (fA a b i) b.length).2.toNat)
def Bw (a b:List UInt32):List UInt32:=fA a b a.length
theorem nD (ai:UInt32) (b:List UInt32) (i:Nat) (out:List UInt32): ∀j,(fX ai b i out j).1.length=out.length
  | 0=>rfl
  | j+1=>by rw [fX,List.length_set,nD ai b i out j]
theorem mm (a b:List UInt32): ∀i,(fA a b i).length=a.length+b.length
  | 0=>by simp [fA]
  | i+1=>by rw [fA,List.length_set,nD,mm a b i]
def pe (a:List UInt32) (k m:Nat):Bool:=((a.drop k).take m).any (fun x=>decide (x≠0))
def iS (a:List UInt32) (p:UInt32) (n:Nat):Bool :=
  pe a (n+1) (a.length-(n+1))||(if a.length≤n∨a.getD n 0≠p then decide (a.length>n)&&decide (a.getD n 0>p) else pe a 0 n)
theorem tT (a:List UInt32) (k m i:Nat) (h1:k≤i) (h2:i<k+m) (h3:i<a.length) (h:a.getD i 0≠0):pe a k m=true:=by
  unfold pe
  rw [List.any_eq_true]
  refine ⟨a.getD i 0,?_,by simpa using h⟩
  rw [List.mem_iff_getElem?]
  refine ⟨i-k,?_⟩
  rw [List.getElem?_take,if_pos (by omega),List.getElem?_drop,show k+(i-k)=i by omega]
  simp [List.getD,h3]
theorem vT (a:List UInt32) (k m:Nat) (h: ∀i,k≤i→i<k+m→i<a.length→a.getD i 0=0):pe a k m=false:=by
  unfold pe
  rw [List.any_eq_false]
  intro x hx
  rw [List.mem_iff_getElem?] at hx
  obtain ⟨j,hj⟩:=hx
  rw [List.getElem?_take] at hj
  split at hj
  · rw [List.getElem?_drop] at hj
    have hl:k+j<a.length:=(List.getElem?_eq_some_iff.1 hj).1
    have:=h (k+j) (by omega) (by omega) hl
    rw [List.getD,hj] at this
    simpa using this
  · cases hj
def mB (one:List UInt32):Nat→List UInt32
  | 0=>one
  | k+1=>Bw (mB one k) one
def oG (y:UInt64):List UInt32:=[UInt32.ofNat (y%(4294967296:UInt64)).toNat,UInt32.ofNat (dN y 32).toNat]
def lw (x:UInt64) (j:Nat):UInt64:=x+dG 1 (UInt64.ofNat (36-j)).toNat
def du (p:UInt32) (n:Nat):Nat→UInt64
  | 0=>0
  | j+1=>if (!iS (mB (oG (lw (du p n j) j)) (n-1)) p n)=true then lw (du p n j) j else du p n j
def wu (p:UInt32) (n:Nat):UInt32:=UInt32.ofNat (du p n 37%(4294967296:UInt64)).toNat
def pL (l:List UInt32) (p:UInt32):Nat→Bool
  | 0=>true
  | k+1=>pL l p k&&decide (p%l.getD k 0≠0)
def prL:Nat→List UInt32
  | 0=>[]
  | j+1=>if pL (prL j) (2+UInt32.ofNat j) (prL j).length=true then prL j++[2+UInt32.ofNat j] else prL j
theorem lA (j:Nat): ∀d, ∃t,prL (j+d)=prL j++t
  | 0=>⟨[],by simp⟩
  | d+1=>by
    obtain ⟨t,ht⟩:=lA j d
    rw [←Nat.add_assoc,prL]
    split
    · exact ⟨t++[2+UInt32.ofNat (j+d)],by rw [ht,List.append_assoc]⟩
    · exact ⟨t,ht⟩
theorem DF:(prL 310).length=64:=by decide +kernel
theorem FB (j:Nat) (h:(prL j).length<64):j<310:=by
  rcases Nat.lt_or_ge j 310 with h1 | h1
  · exact h1
  · obtain ⟨t,ht⟩:=lA 310 (j-310)
    rw [show 310+(j-310)=j by omega] at ht
    rw [ht,List.length_append,DF] at h; omega
theorem DC (j:Nat) (h:j≤310):prL j=(prL 310).take (prL j).length:=by
  obtain ⟨t,ht⟩:=lA j (310-j)
  rw [show j+(310-j)=310 by omega] at ht
  rw [ht,List.take_left']
  rfl
theorem uW (j:Nat):(prL (j+1)).length≤(prL j).length+1:=by
  rw [prL]; split<;>simp
def prs (many:Nat):List UInt32:=(prL 310).take many
def jG (many n:Nat):Nat→List UInt32
  | 0=>[]
  | k+1=>jG many n k++[wu ((prs many).getD k 0) n]
theorem mY {m:Nat} (h:m<2^64):(UInt64.ofNat m).toNat=m:=by rw [UInt64.toNat_ofNat']; exact Nat.mod_eq_of_lt h
theorem Fe {m:Nat} (h:m≤32):((32:UInt64)-UInt64.ofNat m).toNat=32-m:=by
  rw [UInt64.toNat_sub_of_le,mY (by omega)]
  · rfl
  · rw [UInt64.le_iff_toNat_le,mY (by omega)]; exact h
theorem Cs {a:List UInt32} {p:UInt32} {n i:Nat} (h1:n<i) (h2:i<a.length) (h:a.getD i 0≠0):iS a p n=true:=by
  rw [iS,tT a (n+1) _ i (by omega) (by omega) h2 h,Bool.true_or]
theorem Cr {a:List UInt32} {p:UInt32} {n:Nat} (hz:pe a (n+1) (a.length-(n+1))=false) (hl:n<a.length) (h:a.getD n 0≠p):iS a p n=decide (a.getD n 0>p):=by
  rw [iS,hz,Bool.false_or,if_pos (.inr h)]; simp [hl]
theorem tX {a:List UInt32} {p:UInt32} {n:Nat} (hz:pe a (n+1) (a.length-(n+1))=false) (hl:n<a.length) (h:a.getD n 0=p):iS a p n=pe a 0 n:=by
  rw [iS,hz,Bool.false_or,if_neg (fun h'=>h'.elim (fun h1=>by omega) (fun h2=>h2 h))]
theorem FA: ∀x∈prL 310,x≠0:=by decide +kernel
theorem DD (j:Nat) (hj:j≤310) {k:Nat} (hk:k<(prL j).length):(prL j).getD k 0≠0:=by
  obtain ⟨t,ht⟩:=lA j (310-j)
  rw [show j+(310-j)=310 by omega] at ht
  refine FA _ ?_
  rw [ht,List.mem_append]; left
  rw [List.getD,List.getElem?_eq_getElem hk]
  exact List.getElem_mem hk
theorem rU (j:Nat):(2:UInt32)+UInt32.ofNat j+1=2+UInt32.ofNat (j+1):=by
  rw [UInt32.ofNat_add,UInt32.add_assoc]; rfl
theorem DE (j:Nat) (h:j≤310) {n:Nat} (hn:(prL j).length=n):prL j=prs n:=by
  have:=DC j h
  rw [hn] at this; exact this
theorem Dw (v:St) (k w:UInt32):[(v.h+((rot v.e 6 ^^^ rot v.e 11) ^^^ rot v.e 25)+((v.e &&& v.f) ^^^ (~~~v.e &&& v.g))+k+w)+(((rot v.a 2 ^^^ rot v.a 13) ^^^ rot v.a 22)+(((v.a &&& v.b) ^^^ (v.a &&& v.c)) ^^^ (v.b &&& v.c))),v.a,v.b,v.c,
    v.d+(v.h+((rot v.e 6 ^^^ rot v.e 11) ^^^ rot v.e 25)+((v.e &&& v.f) ^^^ (~~~v.e &&& v.g))+k+w),v.e,v.f,v.g]=(AG v k w).vals:=by
  rw [UInt32.and_comm (~~~v.e) v.g]; rfl
theorem Hd (b:List UInt8) {j:Nat} (h:j<16):wl b j++[be4 b j]=wl b (j+1):=by rw [wl,if_pos h]
theorem He (b:List UInt8) {t:Nat} (h:¬t<16):wl b t++[mix (wl b t) t]=wl b (t+1):=by rw [wl,if_neg h]
theorem BZ (X:List UInt8) (k:Nat):X++[128]++List.replicate k 0++[0]=X++[128]++List.replicate (k+1) 0:=vc X k
theorem BF (X A:List UInt8) (n j:Nat) (h:j<8):X++(A++fY n j)++[UInt8.ofNat (dN ((8:UInt64) * UInt64.ofNat n) (UInt64.ofNat (56-8 * j)).toNat).toNat]=X++(A++fY n (j+1)):=by
  rw [mY (by omega)]; exact vr X A n j
end Go.Spec
namespace Go.Spec
theorem Fu:jG 8 2 8=dK.vals:=by decide +kernel
theorem Dp:jG 64 3 64=kT:=by decide +kernel
end Go.Spec
namespace Go.Spec
open Go.Owl
def pK (key:List UInt8):List UInt8:=if key.length>64 then sha key else key
def bB (key:List UInt8):List UInt8:=pK key++List.replicate (64-(pK key).length) 0
theorem Em (key:List UInt8):(pK key).length≤64:=by
  unfold pK; split
  · rw [dO]; decide
  · omega
theorem cj (key:List UInt8):(bB key).length=64:=by
  have:=Em key
  unfold bB; rw [List.length_append,List.length_replicate]; omega
def ce (s:List UInt8) (c:UInt8):List UInt8:=s.map (fun x=>x ^^^ c)
theorem cz (s:List UInt8) (c:UInt8):(ce s c).length=s.length:=by simp [ce]
def iA (s:List UInt8) (c:UInt8) (k:Nat):List UInt8:=ce (s.take k) c++s.drop k
theorem yM (s:List UInt8) (c:UInt8) {k:Nat} (h:k<s.length):(iA s c k).getD k 0=s.getD k 0:=by
  rw [iA,List.getD,List.getElem?_append_right (by rw [cz,List.length_take]; omega),cz,List.length_take,List.getElem?_drop,List.getD]
  congr 2; omega
theorem xf (s:List UInt8) (c:UInt8) {k:Nat} (h:k<s.length):(iA s c k).set k ((iA s c k).getD k 0 ^^^ c)=iA s c (k+1):=by
  rw [yM s c h]
  have e:s.take (k+1)=s.take k++[s[k]]:=by rw [List.take_add_one,List.getElem?_eq_getElem h]; rfl
  have e2:s.drop k=s[k]::s.drop (k+1):=List.drop_eq_getElem_cons h
  have e3:s.getD k 0=s[k]:=by simp [List.getD,h]
  have hl:(ce (s.take k) c).length=k:=by rw [cz,List.length_take]; omega
  rw [iA,iA,e,e2,List.set_append_right _ _ (by omega),hl,Nat.sub_self,List.set_cons_zero,e3]
  simp [ce, -List.take_append_getElem]
theorem yN (s:List UInt8) (c:UInt8):iA s c s.length=ce s c:=by simp [iA]
def jo (s:List UInt8) (c:UInt8):Nat→List UInt8
  | 0=>[]
  | k+1=>jo s c k++[s.getD k 0 ^^^ c]
theorem qL (s:List UInt8) (c:UInt8): ∀k,k≤s.length→jo s c k=ce (s.take k) c
  | 0,_=>by simp [jo,ce]
  | k+1,h=>by
    have e:s.take (k+1)=s.take k++[s[k]]:=by rw [List.take_add_one,List.getElem?_eq_getElem (by omega)]; rfl
    rw [jo,qL s c k (by omega),e]
    simp [ce,List.getD,show k<s.length by omega, -List.take_append_getElem]
theorem xh (s:List UInt8) (c:UInt8):jo s c s.length=ce s c:=by rw [qL s c _ (Nat.le_refl _),List.take_length]
def mac (key text:List UInt8):List UInt8:=sha (ce (bB key) 92++sha (ce (bB key) 54++text))
theorem lI (key text:List UInt8):(mac key text).length=32:=dO _
def rd (s t:List UInt8):Nat→UInt8
  | 0=>0
  | k+1=>rd s t k ||| (s.getD k 0 ^^^ t.getD k 0)
theorem DH {a b:UInt8}:a ||| b=0↔a=0∧b=0:=by
  constructor
  · intro h
    have h1:=congrArg UInt8.toNat h
    rw [UInt8.toNat_or] at h1
    have h2:a.toNat≤a.toNat ||| b.toNat:=Nat.left_le_or
    have h3:b.toNat≤a.toNat ||| b.toNat:=Nat.right_le_or
    have h0:(0:UInt8).toNat=0:=rfl
    rw [h0] at h1
    exact ⟨UInt8.toNat_inj.1 (by rw [h0]; omega),UInt8.toNat_inj.1 (by rw [h0]; omega)⟩
  · rintro ⟨rfl,rfl⟩; rfl
theorem mD (s t:List UInt8): ∀k,rd s t k=0↔∀j,j<k→s.getD j 0=t.getD j 0
  | 0=>by simp [rd]
  | k+1=>by
    rw [rd,DH,mD s t k]
    constructor
    · rintro ⟨h1,h2⟩ j hj
      rcases Nat.lt_or_ge j k with h | h
      · exact h1 j h
      · have e:j=k:=by omega
        subst e
        exact UInt8.xor_eq_zero_iff.1 h2
    · intro h
      exact ⟨fun j hj=>h j (by omega),UInt8.xor_eq_zero_iff.2 (h k (by omega))⟩
theorem DI {s t:List UInt8} (hl:s.length=t.length):decide (rd s t t.length=0)=decide (s=t):=by
  refine decide_eq_decide.2 ⟨fun h=>?_,fun h=>?_⟩
  · have h1:=(mD s t t.length).1 h
    refine List.ext_getElem hl fun i h2 h3=>?_
    have:=h1 i h3
    simpa [List.getD,h2,h3] using this
  · subst h; exact (mD s s _).2 (fun j _=>rfl)
theorem vn {s t:List UInt8} (h:s.length≠t.length):decide (s=t)=false:=decide_eq_false (fun e=>h (by rw [e]))
end Go.Spec
namespace Go.Spec
theorem BO {ls:List (List UInt8)} {B:Nat} (h: ∀x∈ls,x.length≤B) (k:Nat):(ls.getD k []).length≤B:=by
  rw [List.getD]
  rcases Nat.lt_or_ge k ls.length with hk | hk
  · rw [List.getElem?_eq_getElem hk]; exact h _ (List.getElem_mem hk)
  · rw [List.getElem?_eq_none hk]; simp
def tk (ls:List (List UInt8)) (k:Nat):List UInt8:=(ls.take k).flatten
end Go.Spec
namespace Go.Spec
open Go.Owl
theorem gK (v:UInt32): ∀k,(rV v k).toNat=v.toNat / 256^k
  | 0=>by simp [rV]
  | k+1=>by
    rw [rV,UInt32.toNat_div,gK v k,Nat.pow_succ,←Nat.div_div_eq_div_mul]; rfl
theorem xr (v:UInt32) (s:Nat):(cF v s).toNat=v.toNat / 2^s:=by
  have h:=v.toNat_lt
  rw [cF,UInt32.toNat_ofNat',Nat.shiftRight_eq_div_pow,Nat.mod_eq_of_lt (Nat.lt_of_le_of_lt (Nat.div_le_self _ _) h)]
theorem sx (v:UInt32) (k:Nat):cF v (8 * k)=rV v k:=by
  apply UInt32.toNat_inj.1
  rw [gK,xr,Nat.pow_mul]
theorem Fw (v:UInt32):rV v 4=0:=by
  apply UInt32.toNat_inj.1
  rw [gK]
  exact Nat.div_eq_of_lt v.toNat_lt
theorem uS (v:UInt32) {k:Nat} (h:k≤4):(le4 v).take k=rB v k:=by
  rw [←rB4]
  rcases (by omega:k=0∨k=1∨k=2∨k=3∨k=4) with rfl | rfl | rfl | rfl | rfl<;>rfl
def ko (v:UInt32) (n:Int):Nat:=if n<1∨n>4 then 2 else if rV v n.toNat≠0 then 5 else 0
def bR (v:UInt32) (n:Int):List UInt8:=if ko v n=0 then rB v n.toNat else []
theorem cG (v:UInt32) (n:Int):(bR v n).length≤4:=by
  unfold bR; split
  · rename_i h
    rw [gT]
    unfold ko at h
    split at h
    · cases h
    · omega
  · simp
def eN:List UInt8→Nat
  | []=>0
  | c::l=>c.toNat+256 * eN l
theorem lH: ∀l:List UInt8,eN l<256^l.length
  | []=>by simp [eN]
  | c::l=>by
    have:=lH l; have:=c.toNat_lt
    rw [eN,List.length_cons,Nat.pow_succ]; omega
theorem lG (c:UInt8): ∀l:List UInt8,eN (l++[c])=eN l+256^l.length * c.toNat
  | []=>by simp [eN]
  | d::l=>by rw [List.cons_append,eN,lG c l,eN,List.length_cons,Nat.pow_succ,Nat.mul_add]; rw [Nat.mul_comm (256^l.length) 256,Nat.mul_assoc]; omega
theorem ym: ∀l:List UInt8,l.length≤4→(gF l).toNat=eN l
  | [],_=>rfl
  | c::l,h=>by
    have ih:=ym l (by simp at h; omega)
    have hb:=lH (c::l)
    have hc:=c.toNat_lt
    have h4:(256:Nat)^(c::l).length≤256^4:=Nat.pow_le_pow_right (by decide) h
    rw [eN] at hb ⊢
    rw [gF,UInt32.toNat_add,UInt32.toNat_mul,ih,UInt32.toNat_ofNat']
    show (256 * eN l%2^32+c.toNat%2^32)%2^32=_
    omega
theorem rz (s:List UInt8): ∀k,k≤s.length→k≤4→(mM s k).toNat=eN (s.take k)
  | 0,_,_=>by simp [mM,eN]
  | k+1,h,h4=>by
    have ih:=rz s k (by omega) (by omega)
    have hk:k<s.length:=by omega
    have e:s.take (k+1)=s.take k++[s[k]]:=by rw [List.take_add_one,List.getElem?_eq_getElem hk]; rfl
    have hl:(s.take k).length=k:=by rw [List.length_take]; omega
    have hb:=lH (s.take k)
    rw [hl] at hb
    have hg:s.getD k 0=s[k]:=by simp [List.getD,hk]
    rw [e,lG,hl,mM,UInt32.toNat_or,ih,hg]
    have hc:=(s[k]).toNat_lt
    generalize s[k]=c at *
    have e2:(shlU32 (UInt32.ofNat c.toNat) (8 * k)).toNat=c.toNat <<< (8 * k):=by
      rw [shlU32,UInt32.toNat_ofNat',UInt32.toNat_ofNat',Nat.mod_eq_of_lt (by omega:c.toNat<2^32)]
      refine Nat.mod_eq_of_lt ?_
      rw [Nat.shiftLeft_eq]
      calc c.toNat * 2^(8 * k)<2^8 * 2^(8 * k):=Nat.mul_lt_mul_of_pos_right hc (Nat.two_pow_pos _)
        _=2^(8+8 * k):=(Nat.pow_add 2 8 (8 * k)).symm
        _≤2^32:=Nat.pow_le_pow_right (by decide) (by omega)
    rw [e2]
    have e3:(256:Nat)^k=2^(8 * k):=by rw [Nat.pow_mul]
    rw [e3] at hb ⊢
    rw [Nat.or_comm,←Nat.shiftLeft_add_eq_or_of_lt hb,Nat.shiftLeft_eq,Nat.mul_comm (2^(8 * k))]
    omega
theorem oR {s:List UInt8} (h1:1≤s.length) (h4:s.length≤4):(kw s).toNat=eN s:=by
  rw [kw,if_neg (by omega),rz s _ (Nat.le_refl _) h4,List.take_length]
theorem BS (s:List UInt8):gFV s=kw s:=by
  by_cases h:s.length<1∨4<s.length
  · rw [gFV,kw,if_pos h,if_pos h]
  · apply UInt32.toNat_inj.1
    rw [oR (by omega) (by omega),gFV,if_neg h,ym s (by omega)]
theorem sZ (v:UInt32): ∀k,eN (rB v k)=v.toNat%256^k
  | 0=>by simp [rB,eN,Nat.mod_one]
  | k+1=>by
    rw [rB,lG,sZ v k,gT]
    have e:(UInt8.ofNat (rV v k%256).toNat).toNat=v.toNat / 256^k%256:=by
      rw [UInt8.toNat_ofNat',UInt32.toNat_mod,gK]
      exact Nat.mod_eq_of_lt (Nat.mod_lt _ (by decide))
    rw [e,Nat.pow_succ,Nat.mod_mul]
theorem AW: ∀(l:List UInt8) (v:UInt32),v.toNat=eN l→rB v l.length=l:=by
  intro l v h
  have key: ∀k,k≤l.length→rB v k=l.take k:=by
    intro k
    induction k with
    | zero=>intro _; rfl
    | succ k ih =>
      intro hk
      have hk':k<l.length:=hk
      have e:l.take (k+1)=l.take k++[l[k]]:=by rw [List.take_add_one,List.getElem?_eq_getElem hk']; rfl
      rw [rB,ih (by omega),e]
      congr 2
      apply UInt8.toNat_inj.1
      rw [UInt8.toNat_ofNat',UInt32.toNat_mod,gK,h]
      have h2: ∀(m:List UInt8) (j:Nat) (hj:j<m.length),eN m / 256^j%256=(m[j]).toNat:=by
        intro m
        induction m with
        | nil=>intro j hj; simp at hj
        | cons c m ihm =>
          intro j hj
          have hc:=c.toNat_lt
          cases j with
          | zero=>simp [eN]
          | succ j =>
            have:=ihm j (by simpa using hj)
            rw [eN,Nat.pow_succ',←Nat.div_div_eq_div_mul,show (c.toNat+256 * eN m) / 256=eN m by omega]
            simpa using this
      rw [show (256:UInt32).toNat=256 from rfl,h2 l k hk']
      exact Nat.mod_eq_of_lt (l[k]).toNat_lt
  rw [key _ (Nat.le_refl _),List.take_length]
structure Rd where
  s:List UInt8
  at_:Nat
  f:Nat
  h:at_≤s.length
def Rd.rest (r:Rd):List UInt8:=r.s.drop r.at_
def Rd.bad (r:Rd) (e:Nat):Rd:=⟨r.s,r.at_,e,r.h⟩
def Rd.on (r:Rd) (k:Nat) (hk:¬k>r.s.length-r.at_):Rd:=⟨r.s,r.at_+k,r.f,by have:=r.h; omega⟩
def cW (r:Rd) (n:Nat):(List UInt8 × Nat) × Rd:=if h:n>r.s.length-r.at_ then (([],6),r.bad 6) else ((r.rest.take n,0),r.on n h)
def bU (r:Rd) (n:Int):(List UInt8 × Nat) × Rd:=if r.f≠0 then (([],r.f),r) else if n<0 then (([],2),r.bad 2) else cW r n.toNat
def aK (r:Rd) (n:Int):(UInt32 × Nat) × Rd :=
  if r.f≠0 then ((0,r.f),r) else if n<1∨n>4 then ((0,2),r.bad 2) else if (cW r n.toNat).1.2≠0 then ((0,(cW r n.toNat).1.2),(cW r n.toNat).2) else ((kw (cW r n.toNat).1.1,0),(cW r n.toNat).2)
def qi (r:Rd):(List UInt8 × Nat) × Rd :=
  if (aK r 2).1.2≠0 then (([],(aK r 2).1.2),(aK r 2).2)
  else if (cW (aK r 2).2 (aK r 2).1.1.toNat).1.2≠0 then ((cW (aK r 2).2 (aK r 2).1.1.toNat).1,⟨r.s,r.at_,(cW (aK r 2).2 (aK r 2).1.1.toNat).2.f,r.h⟩)
  else cW (aK r 2).2 (aK r 2).1.1.toNat
def fc (r:Rd):Nat × Rd:=if r.f≠0 then (r.f,r) else if r.s.length-r.at_>0 then (7,r.bad 7) else (0,r)
theorem ns {r:Rd} {n:Nat} (h:n>r.s.length-r.at_):cW r n=(([],6),r.bad 6):=by unfold cW; rw [dif_pos h]
theorem ke {r:Rd} {n:Nat} (h:¬n>r.s.length-r.at_):cW r n=((r.rest.take n,0),r.on n h):=by unfold cW; rw [dif_neg h]
theorem su (r:Rd) (n:Nat):(cW r n).2.s=r.s:=by unfold cW; split<;>rfl
theorem sw {r:Rd} {n:Nat} (h:r.f=0):(cW r n).2.f=(cW r n).1.2:=by
  unfold cW; split
  · rfl
  · exact h
theorem Dx {r:Rd} {n:Nat} (h:(cW r n).1.2=0):(cW r n).2.at_=r.at_+n∧n≤r.s.length-r.at_:=by
  unfold cW at h ⊢; split at h
  · cases h
  · rename_i h1; rw [dif_neg h1]; exact ⟨rfl,by omega⟩
theorem AV {r:Rd} {n:Nat} (h:(cW r n).1.2≠0):(cW r n).2.at_=r.at_∧(cW r n).1.1=[]∧(cW r n).1.2=6:=by
  unfold cW at h ⊢; split at h
  · rename_i h1; rw [dif_pos h1]; exact ⟨rfl,rfl,rfl⟩
  · exact absurd O h
theorem ou {r:Rd} {n:Nat} (h:(cW r n).1.2=0):(cW r n).1.1.length=n:=by
  unfold cW at h ⊢; split at h
  · cases h
  · rename_i h1; rw [dif_neg h1]; show (r.rest.take n).length=n; rw [List.length_take,Rd.rest,List.length_drop]; omega
theorem uI (r:Rd) (n:Int):(bU r n).2.s=r.s:=by
  unfold bU; split
  · rfl
  · split
    · rfl
    · exact su _ _
theorem ba (r:Rd) (n:Int):(aK r n).2.s=r.s:=by
  unfold aK; split
  · rfl
  · split
    · rfl
    · split<;>exact su _ _
theorem xM {r:Rd} {n:Nat} (h:(aK r n).1.2=0):r.f=0∧1≤n∧n≤4∧(cW r n).1.2=0∧(aK r n).2=(cW r n).2∧(aK r n).1.1=kw (cW r n).1.1:=by
  unfold aK at h ⊢
  split at h
  · rename_i h1; exact absurd h h1
  · rename_i h1
    split at h
    · cases h
    · rename_i h2
      split at h
      · rename_i h3; exact absurd h h3
      · rename_i h3
        have e:((n:Int)).toNat=n:=rfl
        rw [e] at h3
        rw [if_neg h1,if_neg h2,e,if_neg h3]
        exact ⟨by omega,by omega,by omega,by omega,rfl,rfl⟩
theorem mZ {r:Rd} {n:Int} (h:r.f≠0):bU r n=(([],r.f),r):=by rw [bU,if_pos h]
theorem CW {r:Rd} {n:Int} (h:r.f=0) (hn:n<0):bU r n=(([],2),r.bad 2):=by rw [bU,if_neg (by omega),if_pos hn]
theorem jB {r:Rd} {n:Nat} (h:r.f=0):bU r n=cW r n:=by rw [bU,if_neg (by omega),if_neg (by omega)]; rfl
theorem sV {r:Rd} {n:Int} (h:r.f=0) (hn:n<1∨n>4):aK r n=((0,2),r.bad 2):=by rw [aK,if_neg (by omega),if_pos hn]
theorem rm {r:Rd} {n:Int} (h:r.f=0→¬(n<1∨n>4)):aK r n=((gF (bU r n).1.1,(bU r n).1.2),(bU r n).2):=by
  by_cases hf:r.f=0
  · have hn:=h hf
    obtain ⟨m,rfl⟩: ∃m:Nat,n=(m:Int):=⟨n.toNat,by omega⟩
    rw [aK,if_neg (by omega),if_neg hn,jB hf,Int.toNat_natCast]
    by_cases hr:(cW r m).1.2=0
    · rw [if_neg (by omega)]
      have hl:=ou hr
      rw [←BS,gFV,if_neg (by omega),hr]
    · rw [if_pos hr,(AV hr).2.1]; rfl
  · rw [aK,if_pos hf,mZ hf]; rfl
abbrev Rd.re (r:Rd):Rd:=⟨r.rest,0,r.f,Nat.zero_le _⟩
def Like (a b:Rd):Prop:=a.rest=b.rest∧a.f=b.f
theorem Like.re (r:Rd):Like r.re r:=⟨List.drop_zero,rfl⟩
theorem Like.left {a b:Rd} (h:Like a b):a.s.length-a.at_=b.s.length-b.at_:=by
  have:=congrArg List.length h.1
  rwa [Rd.rest,Rd.rest,List.length_drop,List.length_drop] at this
theorem Like.bad {a b:Rd} (h:Like a b) (e:Nat):Like (a.bad e) (b.bad e):=⟨h.1,rfl⟩
theorem Like.raw {a b:Rd} (h:Like a b) (n:Nat):(cW a n).1=(cW b n).1∧Like (cW a n).2 (cW b n).2:=by
  by_cases hn:n>a.s.length-a.at_
  · rw [ns hn,ns (by rw [←h.left]; exact hn)]
    exact ⟨rfl,h.bad 6⟩
  · rw [ke hn,ke (by rw [←h.left]; exact hn)]
    refine ⟨by rw [h.1],?_,h.2⟩
    have:=congrArg (List.drop n) h.1
    rwa [Rd.rest,Rd.rest,List.drop_drop,List.drop_drop] at this
theorem Like.take {a b:Rd} (h:Like a b) (n:Int):(bU a n).1=(bU b n).1∧Like (bU a n).2 (bU b n).2:=by
  unfold bU
  rw [h.2]
  split
  · exact ⟨rfl,h⟩
  · split
    · exact ⟨rfl,h.bad 2⟩
    · exact h.raw _
theorem Like.num {a b:Rd} (h:Like a b) (n:Int):(aK a n).1=(aK b n).1∧Like (aK a n).2 (aK b n).2:=by
  unfold aK
  rw [h.2,(h.raw _).1]
  split
  · exact ⟨rfl,h⟩
  · split
    · exact ⟨rfl,h.bad 2⟩
    · split
      · exact ⟨rfl,(h.raw _).2⟩
      · exact ⟨rfl,(h.raw _).2⟩
theorem Like.text {a b:Rd} (h:Like a b):(qi a).1=(qi b).1∧Like (qi a).2 (qi b).2:=by
  have h1:=h.num 2
  have h2:=h1.2.raw (aK b 2).1.1.toNat
  unfold qi
  rw [h1.1,h2.1]
  split
  · exact ⟨rfl,h1.2⟩
  · split
    · exact ⟨rfl,h.1,h2.2.2⟩
    · exact h2
theorem Like.end_ {a b:Rd} (h:Like a b):(fc a).1=(fc b).1∧Like (fc a).2 (fc b).2:=by
  unfold fc
  rw [h.2,h.left]
  split
  · exact ⟨rfl,h⟩
  · split
    · exact ⟨rfl,h.bad 7⟩
    · exact ⟨rfl,h⟩
theorem eh {r:Rd} {B:Nat} (h:r.s.length<B):r.rest.length<B:=by rw [Rd.rest,List.length_drop]; omega
theorem xB (r:Rd) (n:Nat):(cW r n).1.1.length≤r.s.length:=by
  unfold cW; split
  · exact Nat.zero_le _
  · show (r.rest.take n).length≤_; rw [List.length_take,Rd.rest,List.length_drop]; omega
theorem yP (r:Rd) (n:Int) {B:Nat} (h:r.s.length<B):(bU r n).1.1.length<B:=by
  unfold bU; split
  · exact Nat.lt_of_le_of_lt (Nat.zero_le _) h
  · split
    · exact Nat.lt_of_le_of_lt (Nat.zero_le _) h
    · exact Nat.lt_of_le_of_lt (xB _ _) h
theorem wv (S:List UInt8) (E:Nat) (h:0≤S.length):(Rd.mk S 0 E h).rest=S:=List.drop_zero
theorem rW {k:Nat} {n:UInt32} (hk:k<2^32):(UInt32.ofNat k<n)↔k<n.toNat:=by
  rw [UInt32.lt_iff_toNat_lt,UInt32.toNat_ofNat',Nat.mod_eq_of_lt hk]
theorem ob (k:Nat):UInt32.ofNat k+1=UInt32.ofNat (k+1):=by rw [UInt32.ofNat_add]; rfl
end Go.Spec
namespace Go.Owl
theorem Arr.lenM {β:Type} {f:β→Value} {w:World} {v:Value} {q:Nat} {l:List β} (hA:Arr w v 1 q (l.map f)):Arr w v 1 l.length (l.map f):=by
  have h:=hA.len
  rw [List.length_map,Nat.mul_one] at h
  rw [h]; exact hA
end Go.Owl
namespace Go.Spec
open Go.Owl
structure Xt where
  id:UInt32
  bl:UInt32
deriving DecidableEq
def Xt.zero:Xt:=⟨0,0⟩
def xtc (x:Xt):List Value:=[aa x.id,aa x.bl]
structure Sg where
  a:UInt32
  p:UInt8
  b:List UInt8
deriving DecidableEq
def Sg.zero:Sg:=⟨0,0,[]⟩
def sgc (x:Sg):List Value:=[aa x.a,vU8 x.p,str x.b]
section
variable {α:Type} {p:α→Bool} {l:List α} {d:α} {k:Nat} {r:α→α→Bool}
def gD (p:α→Bool) (l:List α):Int:=match l.findIdx? p with
  | some k=>(k:Int)
  | none=> -1
theorem eU (h:k<l.length):l.getD k d=l[k]:=by rw [List.getD,List.getElem?_eq_getElem h]; rfl
theorem lW (hk:k<l.length) (h: ∀j,j<k→p (l.getD j d)=false) (hp:p (l.getD k d)=true):gD p l=(k:Int):=by
  have e:l.findIdx? p=some k:=by
    rw [List.findIdx?_eq_some_iff_getElem]
    refine ⟨hk,by rw [eU hk] at hp; exact hp,fun j hj=>?_⟩
    have h1:=h j hj
    rw [eU (by omega)] at h1
    simp [h1]
  rw [gD,e]
theorem lg (h: ∀j,j<l.length→p (l.getD j d)=false):gD p l= -1:=by
  have e:l.findIdx? p=none:=by
    rw [List.findIdx?_eq_none_iff]
    intro x hx
    obtain ⟨j,hj,rfl⟩:=List.getElem_of_mem hx
    have h1:=h j hj
    rw [eU hj] at h1
    exact h1
  rw [gD,e]
theorem jV:decide (gD p l≥0)=l.any p:=by
  rw [←List.findIdx?_isSome,gD]
  cases l.findIdx? p with
  | none=>rfl
  | some k=>simp
def ris (r:α→α→Bool):List α→Bool
  | a::b::l=>r a b&&ris r (b::l)
  | _=>true
theorem nr: ∀ {l:List α} {k:Nat},k+1<l.length→r (l.getD k d) (l.getD (k+1) d)=false→ris r l=false
  | [],_,h,_=>by simp at h
  | [_],_,h,_=>by simp at h
  | a::b::l,0,_,h=>by
    have h1:r a b=false:=h
    rw [ris,h1]; rfl
  | a::b::l,k+1,hk,h=>by
    rw [ris,nr (l:=b::l) (k:=k) (by simpa using hk) h,Bool.and_false]
theorem la: ∀ {l:List α},(∀k,k+1<l.length→r (l.getD k d) (l.getD (k+1) d)=true)→ris r l=true
  | [],_=>rfl
  | [_],_=>rfl
  | a::b::l,h=>by
    have h1:r a b=true:=h 0 (by simp)
    rw [ris,h1,Bool.true_and]
    exact la (l:=b::l) fun k hk=>h (k+1) (by simpa using hk)
theorem ew (h: ∀j,j<l.length→p (l.getD j d)=false):l.any p=false:=by
  rw [←jV,lg h]; rfl
theorem eD (hk:k<l.length) (hp:p (l.getD k d)=true):l.any p=true:=by
  rw [List.any_eq_true]
  exact ⟨l[k],List.getElem_mem hk,by rw [eU hk] at hp; exact hp⟩
theorem cL {P:Nat→Prop} (h: ∀j,j<k→P j) (h2:P k): ∀j,j<k+1→P j:=fun j hj=>by
  rcases Nat.lt_or_ge j k with h3 | h3
  · exact h j h3
  · rw [show j=k by omega]; exact h2
end
def eV (x:Xt):Bool:=decide (x.id≥16)||(decide (x.bl<1)||decide (x.bl>1024))
def lh (x y:Xt):Bool:=decide (x.id<y.id)
def jy (x y:UInt16):Bool:=decide (x<y)
def gG (y x:UInt16):Bool:=decide (y=x)
def rT (y x:UInt8):Bool:=decide (y=x)
def dP (pg:UInt32) (xs:List Xt) (ps:List UInt16):Bool:= !(xs.any eV)&&(ris lh xs&&(ris jy ps&&(!(ps.any (gG 0))&&(!decide (ps.length>16)&& !decide (pg>1024)))))
def mfE (pg:UInt32) (xs:List Xt) (ps:List UInt16):Nat:=if dP pg xs ps then 0 else 2
theorem Ec {pg:UInt32} {xs:List Xt} {ps:List UInt16} (h:dP pg xs ps=true):mfE pg xs ps=0:=if_pos h
theorem tf {pg:UInt32} {xs:List Xt} {ps:List UInt16} (h:dP pg xs ps=false):mfE pg xs ps=2:=if_neg (by rw [h]; decide)
end Go.Spec
namespace Go.Spec
open Go.Owl
abbrev Tx:=List UInt8
def Hn (t:Tx):Tx:=t++List.replicate (64-t.length) 0
structure Sst where
  B:List Tx
  left:Int
def gx (pg:UInt32) (he:List UInt32):Nat:=if pg>4096∨he.length>16∨he.any (fun x=>decide (x>1024))=true then 2 else 0
theorem Ez {pg:UInt32} {he:List UInt32} (h:gx pg he≠0):gx pg he=2:=by
  unfold gx at h ⊢; split
  · rfl
  · rename_i h1; rw [if_neg h1] at h; exact absurd O h
end Go.Spec
namespace Go.Spec
open Go.Owl
def wB (B:List Tx):List (Nat × Tx)→List Tx
  | []=>B
  | p::l=>wB (B.set p.1 (Hn p.2)) l
section
variable {each n:Nat} {key t:Tx} {v:UInt32} {B:List Tx}
end
end Go.Spec
namespace Go.Spec
open Go.Owl
section
variable {each:Nat} {key t:Tx} {v:UInt32} {s:Sst}
end
end Go.Spec
namespace Go.Spec
open Go.Owl
abbrev KPt:=Nat × Nat × Nat
section
variable {f1 f2 f3 c3 c10 c13 at_ each k:Nat} {KP:List KPt} {key t:Tx} {v:UInt32} {c:Cl}
end
end Go.Spec
namespace Go.Owl
section
variable {S:List Nat} {w0 w:World} {L:List Ent} {i:Nat}
theorem Own.rowFresh {v:Value} {t:TypeId} {sz n:Nat} {xs:List Value} (H:Owl.Own [] w0 w L) (hi:L[i]?=some (Ent.row v t sz n xs)): ∀b∈eO v xs,w0.heap.size≤b:=by
  intro b hb
  obtain ⟨hl,⟨rfl,rfl⟩ | ⟨g,cap,pre,junk,rfl,hk,hr⟩⟩:=H.row hi
  · have hx:xs=[]:=List.eq_nil_of_length_eq_zero (by simpa using hl)
    subst hx; simp [eO] at hb
  · have hb':b=g:=by
      simp only [eO] at hb
      split at hb
      · cases hb
      · simpa [lu] using hb
    rcases H.own i _ hi g rfl with h | h
    · omega
    · cases h
end
end Go.Owl
namespace Go.Spec
open Go.Owl
theorem tm {α:Type} {d:α} {a b:List α} (hl:a.length=b.length) (h: ∀j,j<a.length→a.getD j d=b.getD j d):a=b:=by
  refine List.ext_getElem hl fun i h1 h2=>?_
  have:=h i h1
  rwa [eU h1,eU h2] at this
theorem Hc {x y:Xt} (h:(decide (x.id=y.id)&&decide (x.bl=y.bl))=true):x=y:=by
  simp only [Bool.and_eq_true,decide_eq_true_eq] at h
  cases x; cases y; simp_all
theorem Hb {x y:Xt} (h:(decide (x.id=y.id)&&decide (x.bl=y.bl))=false):x≠y:=by
  rintro rfl; simp at h
def sd (pg:UInt32) (c:Bool) (xs:List Xt) (ps:List UInt16) (pg':UInt32) (c':Bool) (xs':List Xt) (ps':List UInt16):Bool:=decide (pg=pg')&&((c==c')&&(decide (xs=xs')&&decide (ps=ps')))
section
variable {pg pg':UInt32} {c c':Bool} {xs xs':List Xt} {ps ps':List UInt16}
theorem gQ:sd pg c xs ps pg' c' xs' ps'=true↔pg=pg'∧c=c'∧xs=xs'∧ps=ps':=by simp [sd]
theorem iH (h:¬(pg=pg'∧c=c'∧xs=xs'∧ps=ps')):sd pg c xs ps pg' c' xs' ps'=false:=by
  rw [←gQ] at h; simpa using h
end
theorem qx {pg:UInt32} {xs:List Xt} {ps:List UInt16} {k:Nat} (hk:k<xs.length) (h:eV (xs.getD k Xt.zero)=true):dP pg xs ps=false:=by
  rw [dP,eD hk h]; rfl
theorem DZ {pg:UInt32} {xs:List Xt} {ps:List UInt16} {k:Nat} (hk:k<xs.length) (h0:0<k) (h:(xs.getD (k-1) Xt.zero).id≥(xs.getD k Xt.zero).id):dP pg xs ps=false:=by
  have h1:ris lh xs=false:=nr (d:=Xt.zero) (k:=k-1) (by omega) (by
    rw [show k-1+1=k by omega,lh]; simpa using h)
  rw [dP,h1,Bool.false_and,Bool.and_false]
theorem Eb {pg:UInt32} {xs:List Xt} {ps:List UInt16} {k:Nat} (hk:k<ps.length) (h:ps.getD k 0=0):dP pg xs ps=false:=by
  have h1:ps.any (gG 0)=true:=eD (d:=0) hk (by rw [h]; rfl)
  rw [dP,h1]; simp
theorem Ea {pg:UInt32} {xs:List Xt} {ps:List UInt16} {k:Nat} (hk:k<ps.length) (h0:0<k) (h:ps.getD (k-1) 0≥ps.getD k 0):dP pg xs ps=false:=by
  have h1:ris jy ps=false:=nr (d:=0) (k:=k-1) (by omega) (by
    rw [show k-1+1=k by omega,jy]; simpa using h)
  rw [dP,h1]; simp
theorem rp {pg:UInt32} {xs:List Xt} {ps:List UInt16} (hx: ∀j,j<xs.length→eV (xs.getD j Xt.zero)=false∧(0<j→¬(xs.getD (j-1) Xt.zero).id≥(xs.getD j Xt.zero).id))
    (hp: ∀j,j<ps.length→ps.getD j 0≠0∧(0<j→¬ps.getD (j-1) 0≥ps.getD j 0)):dP pg xs ps=(decide (pg≤1024)&&decide (ps.length≤16)):=by
  have h1:xs.any eV=false:=ew (d:=Xt.zero) fun j hj=>(hx j hj).1
  have h2:ris lh xs=true:=la (d:=Xt.zero) fun j hj=>by
    have:=(hx (j+1) hj).2 (by omega)
    rw [lh]; simpa using this
  have h3:ris jy ps=true:=la (d:=0) fun j hj=>by
    have:=(hp (j+1) hj).2 (by omega)
    rw [jy]; simpa using this
  have h4:ps.any (gG 0)=false:=ew (d:=0) fun j hj=>by
    have:=(hp j hj).1
    rw [gG]; simpa using fun h=>this h.symm
  rw [dP,h1,h2,h3,h4]
  rw [Bool.eq_iff_iff]
  simp [Nat.not_lt,UInt32.not_lt,and_comm]
end Go.Spec
namespace Go.Spec
open Go.Owl
structure Rl where
  off:UInt32
  kind:UInt8
  nm:List UInt8
  add:UInt32
deriving DecidableEq
def Rl.zero:Rl:=⟨0,0,[],0⟩
structure Nt where
  kind:UInt8
  n:UInt32
  m:UInt32
deriving DecidableEq
def Nt.zero:Nt:=⟨0,0,0⟩
structure Sy where
  nm:List UInt8
  bind:UInt8
  kind:UInt8
  size:UInt32
  b:List UInt8
  rv:Value
  rl:List Rl
  nv:Value
  nt:List Nt
def Sy.zero:Sy:=⟨[],0,0,0,[],.slice none 0 0,[],.slice none 0 0,[]⟩
structure Ob where
  nm:List UInt8
  sv:Value
  sy:List Sy
def Ob.zero:Ob:=⟨[],.slice none 0 0,[]⟩
section
variable {w:World} {x:Sy} {o:Ob}
end
section
variable {p:UInt8→Bool} {s t:List UInt8}
end
section
variable {s:List UInt8} {k:Nat}
end
end Go.Spec
namespace Go.Spec
open Go.Owl
section
variable {l:List Rl} {b e k:Nat} {x:Rl}
end
section
variable {x y:Sy}
def Sy.bare (x:Sy):Sy:={ x with rv:=.slice none 0 0,nv:=.slice none 0 0 }
end
section
variable {x:Rl} {b e:Nat} {l:List Rl} {k:Nat}
end
section
variable {x:Sy} {k:Nat}
end
end Go.Spec
namespace Go.Spec
open Go.Owl
structure Mf where
  pg:UInt32
  xs:List Xt
  ps:List UInt16
  con:Bool
deriving DecidableEq
def Mf.none:Mf:=⟨0,[],[],false⟩
section
variable {α:Type} {f:α→Nat} {l l':List α} {n:α} {b:Nat}
end
section
variable {l l' l2:List Nt} {m m':Mf} {n:Nt} {x y z:Xt}
end
section
variable {l l' l2:List Nt} {m m' u:Mf} {n:Nt} {x y z:Xt}
end
end Go.Spec
namespace Go.Owl
def Deep.arrM {β:Type} (g:β→Value):Deep (Value × List β) where
  ok:=fun w p=>Arr w p.1 1 p.2.length (p.2.map g)
  ft:=fun p=>eO p.1 (p.2.map g)
  lt:=fun w p=>(Arr.stable p.1 1 p.2.length (p.2.map g)).lt w
  fr:=fun T w w' p hf hT h=>(Arr.stable p.1 1 p.2.length (p.2.map g)).fr T w w' hf hT h
section
variable {w:World} {E l:List Ent} {j sz n m:Nat} {v v':Value} {xs xs':List Value}
def ArFit (w:World) (v':Value) (xs':List Value) (v:Value) (xs:List Value):Prop:= ∀b∈eO v' xs',w.heap.size≤b∨b∈eO v xs
theorem Fits.fit (j:Nat) {x:Ent} (h:E[j]?=some (Ent.ar v sz n xs)) (hx:x=Ent.ar v' sz m xs') (hf:ArFit w v' xs' v xs) (k:Fits w E l):Fits w E (x::l):=by
  subst hx
  refine k.cons fun b hb=>?_
  rcases hf b hb with h1 | h1
  · exact .inr (.inl h1)
  · exact .inr (.inr ⟨j,_,h,h1⟩)
theorem ArFit.refl:ArFit w v xs v xs:=fun _ hb=>.inr hb
theorem ArFit.new (h: ∀b∈eO v' xs',w.heap.size≤b):ArFit w v' xs' v xs:=fun b hb=>.inl (h b hb)
end
end Go.Owl
namespace Go.Spec
open Go.Owl
structure Mm where
  pg:UInt32
  ev:Value
  xs:List Xt
  pv:Value
  ps:List UInt16
  con:Bool
def Mm.zero:Mm:=⟨0,.slice none 0 0,[],.slice none 0 0,[],false⟩
def Mm.f (m:Mm):Mf:=⟨m.pg,m.xs,m.ps,m.con⟩
def mmc (x:Mm):List Value:=[aa x.pg,x.ev,x.pv,.bool x.con]
def MmD:Deep Mm:=((Deep.arr 2 xtc).on (fun x:Mm=>(x.ev,x.xs))).and ((Deep.arrM bA).on (fun x:Mm=>(x.pv,x.ps)))
section
variable {w:World} {x:Mm} {l:List Mm} {k:Nat}
theorem Gi (h:Arr w x.ev 2 x.xs.length (x.xs.flatMap xtc)) (k:Arr w x.pv 1 x.ps.length (x.ps.map bA)):MmD.ok w x:=⟨h,k⟩
theorem yB (h:MmD.ok w x):Arr w x.ev 2 x.xs.length (x.xs.flatMap xtc):=h.1
theorem yC (h:MmD.ok w x):Arr w x.pv 1 x.ps.length (x.ps.map bA):=h.2
theorem ua (w:World):MmD.ok w Mm.zero:=⟨Arr.nil w 2,Arr.nil w 1⟩
end
structure Ga where
  pg:UInt32
  bl:List UInt32
  ps:List UInt16
  con:Bool
def Ga.none:Ga:=⟨0,List.replicate 16 0,[],false⟩
section
variable {l:List Nt} {g:Ga} {n:Nt} {k:Nat} {bl:List UInt32}
end
end Go.Spec
namespace Go.Spec
open Go.Owl
structure Gr where
  e:Nat
  b:Nat
  r:Nat
  pg:UInt32
  ev:Value
  xs:List Xt
  pv:Value
  ps:List UInt16
  con:Bool
  pp:UInt32
  tk:UInt32
def Gr.cells (g:Gr):List Value:=[aa g.pg,g.ev,g.pv,.bool g.con,aa g.pp,aa g.tk]
def Gr.me (g:Gr):ME:=⟨g.e,g.b,g.r⟩
def grD:Deep Gr:=((Deep.arr 2 xtc).on (fun g=>(g.ev,g.xs))).and ((Deep.arrM bA).on (fun g=>(g.pv,g.ps)))
def jg:List UInt32→UInt32
  | []=>0
  | a::l=>a+jg l
theorem rZ: ∀(l m:List UInt32),jg (l++m)=jg l+jg m
  | [],m=>by rw [List.nil_append,jg,UInt32.zero_add]
  | a::l,m=>by rw [List.cons_append,jg,jg,rZ l m,UInt32.add_assoc]
theorem yR {l m:List UInt32} (h:l.Perm m):jg l=jg m:=by
  induction h with
  | nil=>rfl
  | cons a _ ih=>rw [jg,jg,ih]
  | swap a b l=>rw [jg,jg,jg,jg,←UInt32.add_assoc,←UInt32.add_assoc,UInt32.add_comm b a]
  | trans _ _ h1 h2=>exact h1.trans h2
def jh (gs:List Gr):UInt32:=jg (gs.map fun g=>g.pg+g.pp)
theorem xm (l:List Gr) (g:Gr):jh (l++[g])=jh l+(g.pg+g.pp):=by
  rw [jh,List.map_append,rZ]
  show jg _+(g.pg+g.pp+0)=_
  rw [UInt32.add_zero]; rfl
theorem xn {l m:List Gr} (h:l.Perm m):jh l=jh m:=yR (h.map _)
def cg (pg:UInt32) (gs:List Gr):UInt32:=pg-jh gs
theorem pO (pg:UInt32) (l:List Gr) (g:Gr):cg pg l-(g.pg+g.pp)=cg pg (l++[g]):=by
  rw [cg,cg,xm]
  apply UInt32.toNat_inj.1
  have h1:=(jh l).toNat_lt
  have h2:=pg.toNat_lt
  simp only [UInt32.toNat_sub,UInt32.toNat_add]
  omega
theorem zX (pg:UInt32):cg pg []=pg:=by
  show pg-0=pg
  rw [UInt32.sub_zero]
theorem yo {pg:UInt32} {l m:List Gr} (h:l.Perm m):cg pg l=cg pg m:=by rw [cg,cg,xn h]
end Go.Spec
namespace Go.Spec
open Go.Owl
def jk (he:List UInt32) (x:Xt):Bool:=decide (x.id.toNat≥he.length)
def kJ (he:List UInt32) (xs:List Xt):Nat:=if xs.any (jk he)=true then 3 else 0
def jN (he:List UInt32) (x:Xt):Bool:=decide (x.id.toNat<he.length)&&decide (x.bl>he.getD x.id.toNat 0)
def kK (he:List UInt32) (xs:List Xt):Nat:=if xs.any (jN he)=true then 5 else 0
def mR (g:Gr) (y:UInt16):Bool:=g.ps.any (gG y)
def pu (id:UInt32) (x:Xt):Bool:=decide (x.id=id)
def kv (xs:List Xt) (id:UInt32):Bool:=xs.any (pu id)
def wZ (g:Gr) (x:Xt):Bool:=kv g.xs x.id
def iR (xs:List Xt) (ps:List UInt16) (g:Gr):Bool:=ps.any (mR g)||xs.any (wZ g)
def iB (gs:List Gr) (xs:List Xt) (ps:List UInt16):Nat:=if gs.any (iR xs ps)=true then 190 else 0
def jl (pg:UInt32) (gs:List Gr) (mp pages:UInt32):Nat:=if mp+pages>cg pg gs then 4 else 0
section
variable {he:List UInt32} {xs:List Xt} {k:Nat}
theorem zH (hk:k<xs.length) (h:(xs.getD k Xt.zero).id.toNat≥he.length):kJ he xs=3:=if_pos (eD (d:=Xt.zero) hk (decide_eq_true h))
theorem Bu (h: ∀j,j<xs.length→¬(xs.getD j Xt.zero).id.toNat≥he.length):kJ he xs=0:=by
  rw [kJ,ew (d:=Xt.zero) (fun j hj=>decide_eq_false (h j hj))]; rfl
theorem zO (hk:k<xs.length) (h:jN he (xs.getD k Xt.zero)=true):kK he xs=5:=if_pos (eD (d:=Xt.zero) hk h)
theorem BC (h: ∀j,j<xs.length→jN he (xs.getD j Xt.zero)=false):kK he xs=0:=by
  rw [kK,ew (d:=Xt.zero) h]; rfl
end
theorem Co {α:Type} {p:α→Bool} {l m:List α} (h:l.Perm m):l.any p=m.any p:=by
  induction h with
  | nil=>rfl
  | cons a _ ih=>rw [List.any_cons,List.any_cons,ih]
  | swap a b l=>simp only [List.any_cons]; cases p a<;>cases p b<;>rfl
  | trans _ _ h1 h2=>exact h1.trans h2
end Go.Spec
namespace Go.Spec
open Go.Owl
def ig (xs:List Xt) (id:UInt32):Xt:=(xs.find? (pu id)).getD Xt.zero
theorem tG {xs:List Xt} {id:UInt32}: ∀ {k:Nat},k<xs.length→(∀j,j<k→pu id (xs.getD j Xt.zero)=false)→pu id (xs.getD k Xt.zero)=true→ig xs id=xs.getD k Xt.zero∧kv xs id=true:=fun {k} hk h1 h2=>by
  refine ⟨?_,eD (d:=Xt.zero) hk h2⟩
  induction xs generalizing k with
  | nil=>cases hk
  | cons x xs ih =>
    cases k with
    | zero =>
      have h3:pu id x=true:=h2
      rw [ig,List.find?_cons_of_pos h3]; rfl
    | succ k =>
      have h3:pu id x=false:=h1 0 (by omega)
      have h4:=ih (k:=k) (by simpa using hk) (fun j hj=>h1 (j+1) (by omega)) h2
      rw [ig,List.find?_cons_of_neg (by rw [h3]; decide)]; exact h4
theorem vG {xs:List Xt} {id:UInt32} (h: ∀j,j<xs.length→pu id (xs.getD j Xt.zero)=false):ig xs id=Xt.zero∧kv xs id=false:=by
  have h2:kv xs id=false:=ew (d:=Xt.zero) h
  refine ⟨?_,h2⟩
  rw [ig,List.find?_eq_none.2]
  · rfl
  · intro x hx hx2
    have:=List.any_eq_false.1 h2 x hx
    exact this hx2
theorem rI {gs:List Gr} {g:Gr} {xs:List Xt} {ps:List UInt16} (hg:g∈gs) (h:iR xs ps g=true):iB gs xs ps=190:=if_pos (List.any_eq_true.2 ⟨g,hg,h⟩)
theorem Ch {gs sn:List Gr} {xs:List Xt} {ps:List UInt16} (hp:gs.Perm sn) (h: ∀g∈sn,iR xs ps g=false):iB gs xs ps=0:=by
  rw [iB,Co hp,if_neg]
  intro h2
  obtain ⟨g,hg,h3⟩:=List.any_eq_true.1 h2
  rw [h g hg] at h3; cases h3
end Go.Spec
namespace Go.Spec
open Go.Owl
def iE (pg:UInt32) (he:List UInt32) (gs:List Gr) (mp:UInt32) (xs:List Xt) (ps:List UInt16) (pages:UInt32):Nat :=
  if kJ he xs≠0 then kJ he xs else if kK he xs≠0 then kK he xs else if iB gs xs ps≠0 then iB gs xs ps else jl pg gs mp pages
end Go.Spec
namespace Go.Spec
open Go.Owl
def Gr.bare (g:Gr):Gr:={ g with b:=0,r:=0,ev:=.slice none 0 0,pv:=.slice none 0 0 }
def Gr.no:Gr:=⟨0,0,0,0,.slice none 0 0,[],.slice none 0 0,[],false,0,0⟩
def jr (en:Int) (g:Gr):Bool:=decide ((g.e:Int)=en)
def ei (gs:List Gr) (en:Int):Bool:=gs.any (jr en)
def obs (gs:List Gr) (en:Int):Gr:=(gs.find? (jr en)).getD Gr.no
structure CapI (gs:List Gr) (cn:Nat):Prop where
  me:MEok (List.map Gr.me gs) cn
  fit: ∀g∈gs,g.ps.length<2^40∧g.xs.length<2^40
theorem CapI.nil (cn:Nat):CapI [] cn:=⟨MEok.nil cn,fun g h=>by cases h⟩
theorem iz {gs:List Gr} {en:Int} (h:ei gs en=false): ∀g∈gs,(g.e:Int)≠en:=fun g hg he=>by
  have:=List.any_eq_false.1 h g hg
  exact this (decide_eq_true he)
theorem xL {gs:List Gr} {en:Int} (h:ei gs en=false):obs gs en=Gr.no:=by
  rw [obs,List.find?_eq_none.2]
  · rfl
  · intro g hg h2; exact iz h g hg (of_decide_eq_true h2)
theorem nC {gs:List Gr} {en:Int} (h:ei gs en=true):obs gs en∈gs∧((obs gs en).e:Int)=en:=by
  obtain ⟨g,hg,h2⟩:=List.any_eq_true.1 h
  cases h3:gs.find? (jr en) with
  | none=>exact absurd h2 (by have:=List.find?_eq_none.1 h3 g hg; simpa using this)
  | some g' =>
    have e:obs gs en=g':=by rw [obs,h3]; rfl
    rw [e]
    exact ⟨List.mem_of_find?_eq_some h3,of_decide_eq_true (List.find?_some (p:=jr en) h3)⟩
theorem CapI.kn {gs:List Gr} {cn:Nat} (h:CapI gs cn):(gs.map Gr.e).Nodup:=by
  have:=h.me.kn
  rw [List.map_map] at this
  exact this
def dt (pg:UInt32) (he:List UInt32) (gs:List Gr) (en:Int) (mp:UInt32) (xs:List Xt) (ps:List UInt16) (pages:UInt32):Nat :=
  if (en<1∨en>8)∨mfE mp xs ps≠0∨pages>4096 then 2 else if ei gs en=true then 9 else iE pg he gs mp xs ps pages
def dQ (pg:UInt32) (he:List UInt32) (gs:List Gr) (en:Int) (mp:UInt32) (xs:List Xt) (ps:List UInt16) (con:Bool) (pages:UInt32):List Gr :=
  if dt pg he gs en mp xs ps pages=0 then gs++[⟨en.toNat,0,0,mp,.slice none 0 0,xs,.slice none 0 0,ps,con,pages,0⟩] else gs
def qU (gs:List Gr) (en:Int):Nat:=if ei gs en=true then 0 else 3
def ly (gs:List Gr) (en:Int):List Gr:=gs.filter (fun g=> !(jr en g))
section
variable {gs l1 l2:List Gr} {g:Gr} {cn:Nat} {en:Int}
theorem CapI.split (h:CapI (l1++g::l2) cn) (he:(g.e:Int)=en):(∀x∈l1,jr en x=false)∧(∀x∈l2,jr en x=false):=by
  have hk:=h.kn
  rw [List.map_append,List.map_cons,fL] at hk
  refine ⟨fun x hx=>decide_eq_false fun hx2=>hk.1 ?_,fun x hx=>decide_eq_false fun hx2=>hk.1 ?_⟩
  · rw [show g.e=x.e by omega]; exact List.mem_append.2 (.inl (List.mem_map.2 ⟨x,hx,rfl⟩))
  · rw [show g.e=x.e by omega]; exact List.mem_append.2 (.inr (List.mem_map.2 ⟨x,hx,rfl⟩))
theorem CapI.rel (h:CapI (l1++g::l2) cn) (he:(g.e:Int)=en):ly (l1++g::l2) en=l1++l2:=by
  obtain ⟨h1,h2⟩:=h.split he
  rw [ly,List.filter_append,List.filter_cons,if_neg (by rw [show jr en g=true from decide_eq_true he]; decide),List.filter_eq_self.2 (fun x hx=>by rw [h1 x hx]; rfl),List.filter_eq_self.2 (fun x hx=>by rw [h2 x hx]; rfl)]
theorem Dv (h:ei gs en=false):ly gs en=gs:=List.filter_eq_self.2 (fun x hx=>by rw [show jr en x=false from decide_eq_false (iz h x hx)]; rfl)
theorem mK:ei (gs.map Gr.bare) en=ei gs en:=by rw [ei,ei,List.any_map]; rfl
theorem tE {α β:Type} {f:α→β} {p:β→Bool} {q:α→Bool} (h: ∀a,p (f a)=q a): ∀(l:List α),(l.map f).find? p=(l.find? q).map f
  | []=>rfl
  | a::l=>by
    rw [List.map_cons]
    cases h2:q a with
    | true=>rw [List.find?_cons_of_pos (by rw [h,h2]),List.find?_cons_of_pos h2]; rfl
    | false=>rw [List.find?_cons_of_neg (by rw [h,h2]; decide),List.find?_cons_of_neg (by rw [h2]; decide)]; exact tE h l
theorem Br:obs (gs.map Gr.bare) en=(obs gs en).bare:=by
  rw [obs,tE (f:=Gr.bare) (p:=jr en) (q:=jr en) (fun a=>rfl),obs]
  cases gs.find? (jr en)<;>rfl
theorem px:jh (gs.map Gr.bare)=jh gs:=by rw [jh,jh,List.map_map]; rfl
theorem yO {pg:UInt32} {he:List UInt32} {mp:UInt32} {xs:List Xt} {ps:List UInt16} {pages:UInt32}:iE pg he (gs.map Gr.bare) mp xs ps pages=iE pg he gs mp xs ps pages:=by
  have h1:iB (gs.map Gr.bare) xs ps=iB gs xs ps:=by rw [iB,iB,List.any_map]; rfl
  have h2:jl pg (gs.map Gr.bare) mp pages=jl pg gs mp pages:=by rw [jl,jl,cg,cg,px]
  rw [iE,iE,h1,h2]
theorem kN {pg:UInt32} {he:List UInt32} {mp:UInt32} {xs:List Xt} {ps:List UInt16} {pages:UInt32}:dt pg he (gs.map Gr.bare) en mp xs ps pages=dt pg he gs en mp xs ps pages:=by
  rw [dt,dt,yO,mK]
theorem qT:ly (gs.map Gr.bare) en=(ly gs en).map Gr.bare:=by rw [ly,ly,List.filter_map]; rfl
theorem CapI.add {b:Nat} {mp:UInt32} {v1 v2:Value} {xs:List Xt} {ps:List UInt16} {con:Bool} {pages tk:UInt32} {k:Nat} (h:CapI gs cn) (hk: ∀g∈gs,g.e≠k) (hn:xs.length<2^40) (hm:ps.length<2^40):CapI (gs++[⟨k,b,cn,mp,v1,xs,v2,ps,con,pages,tk⟩]) (cn+1):=by
  refine ⟨?_,fun g hg=>?_⟩
  · rw [List.map_append]
    exact h.me.add (fun x hx=>by obtain ⟨g,hg,rfl⟩:=List.mem_map.1 hx; exact hk g hg)
  · rcases List.mem_append.1 hg with hg | hg
    · exact h.fit g hg
    · rw [List.mem_singleton] at hg; subst hg; exact ⟨hm,hn⟩
theorem CapI.del (h:CapI (l1++g::l2) cn):CapI (l1++l2) cn:=by
  refine ⟨?_,fun x hx=>h.fit x (by rcases List.mem_append.1 hx with hx | hx<;>simp [hx])⟩
  have:=h.me
  rw [List.map_append,List.map_cons] at this
  rw [List.map_append]
  exact this.del
theorem CapI.put {g':Gr} (h:CapI (l1++g::l2) cn) (hm:g'.me=g.me) (hp:g'.ps=g.ps) (hx:g'.xs=g.xs):CapI (l1++g'::l2) cn:=by
  refine ⟨?_,fun x hx2=>?_⟩
  · have:=h.me
    rw [List.map_append,List.map_cons] at this ⊢
    rw [hm]; exact this
  · rcases List.mem_append.1 hx2 with hx3 | hx3
    · exact h.fit x (by simp [hx3])
    · rcases List.mem_cons.1 hx3 with rfl | hx3
      · rw [hp,hx]; exact h.fit g (by simp)
      · exact h.fit x (by simp [hx3])
end
def CapR (gs:List Gr) (cn:Nat) (l:List Gr):Prop:=CapI gs cn∧gs.map Gr.bare=l
def DpTo (w:World) (gs gs':List Gr):Prop:= ∀b∈grD.list.ft gs',w.heap.size≤b∨b∈grD.list.ft gs
theorem DpTo.sub {w:World} {gs gs':List Gr} (h: ∀g∈gs',g∈gs):DpTo w gs gs':=fun b hb=>.inr (by
  obtain ⟨g,hg,hb⟩:=List.mem_flatMap.1 hb
  exact List.mem_flatMap.2 ⟨g,h g hg,hb⟩)
theorem DpTo.put {w:World} {l1 l2:List Gr} {g g':Gr} (h:grD.ft g'=grD.ft g):DpTo w (l1++g::l2) (l1++g'::l2):=fun b hb=>.inr (by
  obtain ⟨x,hx,hb2⟩:=List.mem_flatMap.1 hb
  rcases List.mem_append.1 hx with hx | hx
  · exact List.mem_flatMap.2 ⟨x,by simp [hx],hb2⟩
  · rcases List.mem_cons.1 hx with rfl | hx
    · exact List.mem_flatMap.2 ⟨g,by simp,by rw [←h]; exact hb2⟩
    · exact List.mem_flatMap.2 ⟨x,by simp [hx],hb2⟩)
theorem DpTo.add {w:World} {gs:List Gr} {g:Gr} (h: ∀b∈grD.ft g,w.heap.size≤b):DpTo w gs (gs++[g]):=fun b hb=>by
  obtain ⟨x,hx,hb2⟩:=List.mem_flatMap.1 hb
  rcases List.mem_append.1 hx with hx | hx
  · exact .inr (List.mem_flatMap.2 ⟨x,hx,hb2⟩)
  · rw [List.mem_singleton] at hx; subst hx; exact .inl (h b hb2)
section
variable {gs l:List Gr} {cn:Nat} {en:Int}
theorem CapR.nil (cn:Nat):CapR [] cn []:=⟨CapI.nil cn,rfl⟩
theorem CapR.has (h:CapR gs cn l):ei gs en=ei l en:=by rw [←h.2,mK]
theorem CapR.obs (h:CapR gs cn l):Go.Spec.obs l en=(Go.Spec.obs gs en).bare:=by rw [←h.2,Br]
theorem CapR.free {pg:UInt32} (h:CapR gs cn l):cg pg gs=cg pg l:=by rw [cg,cg,←h.2,px]
end
end Go.Spec
namespace Go.Spec
end Go.Spec
namespace Go.Spec
open Go.Owl
theorem DpTo.mono {gs gs2:List Gr} {w w1:World} (h:DpTo w1 gs gs2) (hs:w.heap.size≤w1.heap.size):DpTo w gs gs2:=fun b hb=>(h b hb).imp (fun q=>Nat.le_trans hs q) id
theorem DpTo.trans {gs gs2 gs3:List Gr} {w:World} (h:DpTo w gs gs2) (k:DpTo w gs2 gs3):DpTo w gs gs3:=fun b hb=>(k b hb).elim .inl (fun q=>h b q)
end Go.Spec
namespace Go.Spec
open Go.Owl
def fv (x:Sg):UInt64:=UInt64.ofNat x.a.toNat+UInt64.ofNat x.b.length
def kg (p:UInt8):Bool:=[1,3,5].any (rT p)
def ep (fr:UInt64) (x:Sg):Bool:= !(kg x.p)||(decide (x.a%256≠0)||(decide (UInt64.ofNat x.a.toNat<fr)||(decide (x.b=[])||decide (fv x>131072))))
def nf (x:Sg):UInt64:=(fv x+256-1) / 256 * 256
def sgBegins (en:UInt32) (x:Sg):Bool:=decide (x.p &&& 4≠0)&&(decide (en≥x.a)&&decide (UInt64.ofNat en.toNat+8≤fv x))
def eY (en:UInt32) (sg:List Sg):Nat→UInt64 × Bool
  | 0=>(256,false)
  | k+1=>(nf (sg.getD k Sg.zero),(eY en sg k).2||sgBegins en (sg.getD k Sg.zero))
theorem nM (en:UInt32) (sg:List Sg) (k:Nat):(eY en sg (k+1)).2=((eY en sg k).2||sgBegins en (sg.getD k Sg.zero)):=rfl
def eW (pg:UInt32) (xs:List Xt) (ps:List UInt16) (en:UInt32) (sg:List Sg):Bool:=decide (mfE pg xs ps≠0)||(decide (sg.length<1)||(decide (sg.length>8)||decide (en%8≠0)))
def kM (pg:UInt32) (xs:List Xt) (ps:List UInt16) (en:UInt32) (sg:List Sg):Bool :=
  !(eW pg xs ps en sg)&&((List.range sg.length).all (fun k=> !(ep (eY en sg k).1 (sg.getD k Sg.zero)))&&(eY en sg sg.length).2)
def imE (pg:UInt32) (xs:List Xt) (ps:List UInt16) (en:UInt32) (sg:List Sg):Nat:=if kM pg xs ps en sg then 0 else 2
section
variable {pg en:UInt32} {xs:List Xt} {ps:List UInt16} {sg:List Sg} {k:Nat}
theorem iy (h:eW pg xs ps en sg=true):imE pg xs ps en sg=2:=by
  rw [imE,kM,h]; rfl
theorem lQ (hk:k<sg.length) (h:ep (eY en sg k).1 (sg.getD k Sg.zero)=true):imE pg xs ps en sg=2:=by
  rw [imE,if_neg]
  intro hm
  rw [kM,Bool.and_eq_true,Bool.and_eq_true,List.all_eq_true] at hm
  have h1:=hm.2.1 k (List.mem_range.2 hk)
  rw [h] at h1; cases h1
theorem ya (h:eW pg xs ps en sg=false) (hb: ∀j,j<sg.length→ep (eY en sg j).1 (sg.getD j Sg.zero)=false):imE pg xs ps en sg=if (eY en sg sg.length).2 then 0 else 2:=by
  have ha:(List.range sg.length).all (fun k=> !(ep (eY en sg k).1 (sg.getD k Sg.zero)))=true:=by
    rw [List.all_eq_true]
    intro j hj
    rw [hb j (List.mem_range.1 hj)]; rfl
  rw [imE,kM,h,ha]; rfl
end
end Go.Spec
namespace Go.Spec
def On (r r':Rd) (n:Nat) (t:List UInt8):Prop:=r'.rest=t∧r'.f=0∧r'.s=r.s∧r'.at_=r.at_+n
theorem On.trans {a b c:Rd} {n m:Nat} {t u:List UInt8} (h:On a b n t) (k:On b c m u):On a c (n+m) u :=
  ⟨k.1,k.2.1,k.2.2.1.trans h.2.2.1,by rw [k.2.2.2,h.2.2.2,Nat.add_assoc]⟩
theorem ot (r:Rd):r.rest.length=r.s.length-r.at_:=by rw [Rd.rest,List.length_drop]
theorem Fx {v:UInt32} {n:Nat} (h1:1≤n) (h4:n≤4) (hv:rV v n=0):kw (rB v n)=v:=by
  apply UInt32.toNat_inj.1
  have h0:=congrArg UInt32.toNat hv
  rw [gK,show (0:UInt32).toNat=0 from rfl,Nat.div_eq_zero_iff_lt (Nat.pow_pos (by decide))] at h0
  rw [oR (by rw [gT]; exact h1) (by rw [gT]; exact h4),sZ,Nat.mod_eq_of_lt h0]
theorem xA {r:Rd} {x t:List UInt8} {n:Nat} (hf:r.f=0) (h:r.rest=x++t) (hn:x.length=n):(cW r n).1=(x,0)∧On r (cW r n).2 n t:=by
  have hl:=ot r
  rw [h,List.length_append] at hl
  rw [ke (by omega)]
  refine ⟨by rw [h,List.take_left' hn],?_,hf,rfl,rfl⟩
  show r.s.drop (r.at_+n)=t
  rw [←List.drop_drop]
  have e:r.s.drop r.at_=x++t:=h
  rw [e,List.drop_left' hn]
theorem FJ {r:Rd} {v:UInt32} {n:Nat} {t:List UInt8} (hf:r.f=0) (h:r.rest=rB v n++t) (h1:1≤n) (h4:n≤4) (hv:rV v n=0):(aK r n).1=(v,0)∧On r (aK r n).2 n t:=by
  have hr:=xA hf h (gT v n)
  rw [aK,if_neg (by omega),if_neg (by omega),Int.toNat_natCast,hr.1,if_neg (by simp),Fx h1 h4 hv]
  exact ⟨rfl,hr.2⟩
theorem uQ {r:Rd} {n:Nat} (hf:r.f=0) (h:(cW r n).1.2=0):r.rest=(cW r n).1.1++(cW r n).2.rest∧(cW r n).1.1.length=n∧On r (cW r n).2 n (cW r n).2.rest:=by
  have hl:=ou h
  have ha:=Dx h
  refine ⟨?_,hl,rfl,(sw hf).trans h,su _ _,ha.1⟩
  rw [ke (by omega)]
  show r.rest=r.rest.take n++r.s.drop (r.at_+n)
  rw [←List.drop_drop]; exact (List.take_append_drop n r.rest).symm
theorem DS {r:Rd} {n:Nat} (h:(aK r n).1.2=0):r.rest=rB (aK r n).1.1 n++(aK r n).2.rest∧On r (aK r n).2 n (aK r n).2.rest∧(aK r n).1.1.toNat<256^n:=by
  obtain ⟨hf,h1,h4,hr,e2,e1⟩:=xM h
  obtain ⟨k1,k2,k3⟩:=uQ hf hr
  have hn:(aK r n).1.1.toNat=eN (cW r n).1.1:=by rw [e1,oR (by omega) (by omega)]
  have hb:=AW _ _ hn
  rw [k2] at hb
  refine ⟨by rw [e2,hb]; exact k1,by rw [e2]; exact k3,?_⟩
  rw [hn]; have:=lH (cW r n).1.1; rwa [k2] at this
abbrev r0 (s:List UInt8):Rd:=⟨s,0,0,Nat.zero_le _⟩
end Go.Spec
namespace Go.Spec
open Go.Owl
theorem FY {r:Rd} (h:(fc r).1=0):r.f=0∧r.rest=[]:=by
  unfold fc at h
  split at h
  · rename_i h1; exact absurd h h1
  · rename_i h1
    split at h
    · cases h
    · rename_i h2
      refine ⟨by omega,List.eq_nil_of_length_eq_zero ?_⟩
      rw [ot]; omega
theorem EM {r:Rd} (hf:r.f=0) (h:r.rest=[]):(fc r).1=0:=by
  have:=ot r
  rw [h] at this
  simp at this
  rw [fc,if_neg (by omega),if_neg (by omega)]
theorem DT {r:Rd} {n:Int} (h:(aK r n).2.f=0):(aK r n).1.2=0∧r.f=0:=by
  unfold aK at h ⊢
  split at h
  · rename_i h1; exact absurd h h1
  · rename_i h1
    rw [if_neg h1]
    split at h
    · cases h
    · rename_i h2
      rw [if_neg h2]
      split at h
      · rename_i h3
        rw [if_pos h3]
        rw [sw (by omega)] at h
        exact ⟨h,by omega⟩
      · rename_i h3; rw [if_neg h3]; exact ⟨rfl,by omega⟩
theorem Like.trans {a b c:Rd} (h:Like a b) (k:Like b c):Like a c:=⟨h.1.trans k.1,h.2.trans k.2⟩
def fh (l:List UInt32) (n:Int):Nat→List UInt8
  | 0=>[]
  | k+1=>fh l n k++bR (l.getD k 0) n
theorem pJ (l:List UInt32) (n:Int): ∀k,(fh l n k).length≤4 * k
  | 0=>Nat.zero_le _
  | k+1=>by
    have h1:=pJ l n k; have h2:=cG (l.getD k 0) n
    rw [fh,List.length_append]; omega
def ez (xs:List Xt):Nat→List UInt8
  | 0=>[]
  | k+1=>(ez xs k++bR (xs.getD k Xt.zero).id 1)++bR (xs.getD k Xt.zero).bl 2
def dS (ps:List UInt16):Nat→List UInt8
  | 0=>[]
  | k+1=>dS ps k++bR (UInt32.ofNat (ps.getD k 0).toNat) 2
def dL (sg:List Sg):Nat→List UInt8
  | 0=>[]
  | k+1=>(((dL sg k++bR (sg.getD k Sg.zero).a 4)++bR (UInt32.ofNat (sg.getD k Sg.zero).p.toNat) 1)++bR (UInt32.ofNat (sg.getD k Sg.zero).b.length) 4)++(sg.getD k Sg.zero).b
theorem ow (xs:List Xt): ∀k,(ez xs k).length≤8 * k
  | 0=>Nat.zero_le _
  | k+1=>by
    have h1:=ow xs k; have h2:=cG (xs.getD k Xt.zero).id 1; have h3:=cG (xs.getD k Xt.zero).bl 2
    rw [ez,List.length_append,List.length_append]; omega
theorem oy (ps:List UInt16): ∀k,(dS ps k).length≤4 * k
  | 0=>Nat.zero_le _
  | k+1=>by
    have h1:=oy ps k; have h2:=cG (UInt32.ofNat (ps.getD k 0).toNat) 2
    rw [dS,List.length_append]; omega
theorem gy {l:List Sg} {B:Nat} (h: ∀x∈l,x.b.length≤B) (k:Nat):(l.getD k Sg.zero).b.length≤B:=by
  rcases Nat.lt_or_ge k l.length with hk | hk
  · rw [eU hk]; exact h _ (List.getElem_mem hk)
  · rw [List.getD,List.getElem?_eq_none hk]; exact Nat.zero_le _
theorem sH {sg:List Sg} {B:Nat} (h: ∀x∈sg,x.b.length≤B): ∀k,(dL sg k).length≤(B+12) * k
  | 0=>Nat.zero_le _
  | k+1=>by
    have h0:=sH h k; have h1:=cG (sg.getD k Sg.zero).a 4; have h2:=cG (UInt32.ofNat (sg.getD k Sg.zero).p.toNat) 1; have h3:=cG (UInt32.ofNat (sg.getD k Sg.zero).b.length) 4; have h4:=gy h k
    rw [dL,List.length_append,List.length_append,List.length_append,List.length_append,Nat.mul_succ]; omega
def fM (c:Bool):UInt32:=if c then 1 else 0
def gu (pg:UInt32) (xs:List Xt):List UInt8:=([65,73,77,49]++bR pg 4)++bR (UInt32.ofNat xs.length) 1
def fB (pg:UInt32) (xs:List Xt) (ps:List UInt16):List UInt8:=(gu pg xs++ez xs xs.length)++bR (UInt32.ofNat ps.length) 1
def fq (pg:UInt32) (xs:List Xt) (ps:List UInt16) (con:Bool) (en:UInt32) (sg:List Sg):List UInt8:=(((fB pg xs ps++dS ps ps.length)++bR (fM con) 1)++bR en 4)++bR (UInt32.ofNat sg.length) 1
def imS (pg:UInt32) (xs:List Xt) (ps:List UInt16) (con:Bool) (en:UInt32) (sg:List Sg):List UInt8:=fq pg xs ps con en sg++dL sg sg.length
def imB (pg:UInt32) (xs:List Xt) (ps:List UInt16) (con:Bool) (en:UInt32) (sg:List Sg):List UInt8:=if imE pg xs ps en sg=0 then imS pg xs ps con en sg else []
theorem oN (pg:UInt32) (xs:List Xt):(gu pg xs).length≤12:=by
  have h1:=cG pg 4; have h2:=cG (UInt32.ofNat xs.length) 1
  rw [gu,List.length_append,List.length_append]; show 4+_+_≤12; omega
theorem oM (pg:UInt32) (xs:List Xt) (ps:List UInt16):(fB pg xs ps).length≤16+8 * xs.length:=by
  have h1:=oN pg xs; have h2:=ow xs xs.length; have h3:=cG (UInt32.ofNat ps.length) 1
  rw [fB,List.length_append,List.length_append]; omega
theorem tu (pg:UInt32) (xs:List Xt) (ps:List UInt16) (con:Bool) (en:UInt32) (sg:List Sg):(fq pg xs ps con en sg).length≤28+8 * xs.length+4 * ps.length:=by
  have h1:=oM pg xs ps; have h2:=oy ps ps.length; have h3:=cG (fM con) 1; have h4:=cG en 4; have h5:=cG (UInt32.ofNat sg.length) 1
  rw [fq,List.length_append,List.length_append,List.length_append,List.length_append]; omega
theorem Er (pg:UInt32) (xs:List Xt) (ps:List UInt16) (con:Bool) (en:UInt32) (sg:List Sg) (x:List UInt8):(fq pg xs ps con en sg++x).length≠0:=by
  rw [fq,fB,gu]
  simp only [List.length_append]
  intro h
  have h4:([65,73,77,49]:List UInt8).length=4:=rfl
  omega
end Go.Spec
namespace Go.Spec
open Go.Owl
section
variable {pg pg' en en':UInt32} {c c':Bool} {xs xs':List Xt} {ps ps':List UInt16} {sg sg':List Sg}
end
end Go.Spec
namespace Go.Spec
open Go.Owl
def eZ (p:UInt8):Bool:=decide (p=1)||(decide (p=3)||decide (p=5))
def fP (x:Sg):Bool:=eZ x.p&&(decide (x.a%256=0)&&(decide (x.a≥256)&&(decide (x.a<131072)&&(decide (x.b.length≥1)&&decide ((x.b.length:Int)≤((131072:Nat):Int)-((x.a.toNat:Nat):Int))))))
def pgN (x:Sg):Nat:=(x.b.length+255) / 256
def pgL (x:Sg):Nat→List UInt32
  | 0=>[]
  | k+1=>pgL x k++[x.a+UInt32.ofNat (256 * k)]
theorem iu (x:Sg): ∀k,(pgL x k).length=k
  | 0=>rfl
  | k+1=>by rw [pgL,List.length_append,iu x k]; rfl
theorem uX (x:Sg) {j:Nat}: ∀ {k},j<k→(pgL x k).getD j 0=x.a+UInt32.ofNat (256 * j)
  | 0,h=>by omega
  | k+1,h=>by
    have hl:=iu x k
    rcases Nat.lt_or_ge j k with h1 | h1
    · have ih:=uX x h1
      rw [pgL,List.getD,List.getElem?_append_left (by omega)]; exact ih
    · have e:j=k:=by omega
      subst e
      rw [pgL,List.getD,List.getElem?_append_right (by omega),hl,Nat.sub_self]; rfl
def aT (sg:List Sg):Nat→List UInt32
  | 0=>[]
  | k+1=>aT sg k++pgL (sg.getD k Sg.zero) (pgN (sg.getD k Sg.zero))
theorem kE {sg:List Sg} (h: ∀x∈sg,x.b.length≤2^30): ∀k,(aT sg k).length≤4194305 * k
  | 0=>Nat.zero_le _
  | k+1=>by
    have h1:=kE h k; have h2:=gy h k
    rw [aT,List.length_append,iu,pgN]; omega
def oO (en:UInt32) (x:Sg):Bool:=decide (x.p=5)&&(decide (en≥x.a)&&decide (UInt64.ofNat en.toNat+8≤fv x))
def tJ (en:UInt32) (sg:List Sg):Bool:=sg.any (oO en)&&decide (en%8=0)
def kq (sg:List Sg):Nat→Int
  | 0=> -1
  | k+1=>(((pgL (sg.getD k Sg.zero) (pgN (sg.getD k Sg.zero))).getD (pgN (sg.getD k Sg.zero)-1) 0).toNat:Nat)
def eL (sg:List Sg) (j:Nat):Bool:=fP (sg.getD j Sg.zero)&& !decide (((sg.getD j Sg.zero).a.toNat:Int)≤kq sg j)
def fo (pg:UInt32) (xs:List Xt) (ps:List UInt16) (en:UInt32) (sg:List Sg):Bool :=
  (List.range sg.length).all (eL sg)&&(dP pg xs ps&&(decide (sg.length≥1)&&(decide (sg.length≤8)&&tJ en sg)))
theorem sc {x:Sg} (h:fP x=true):1≤pgN x∧x.b.length≤131072:=by
  simp only [fP,Bool.and_eq_true,decide_eq_true_eq] at h
  have h1:=h.2.2.2.2.1; have h2:=h.2.2.2.2.2
  unfold pgN
  omega
theorem qu {pg en:UInt32} {xs:List Xt} {ps:List UInt16} {sg:List Sg} {k:Nat} (hk:k<sg.length) (h:eL sg k=false):fo pg xs ps en sg=false:=by
  have h1:(List.range sg.length).all (eL sg)=false:=by
    rw [Bool.eq_false_iff]
    intro ha
    rw [List.all_eq_true] at ha
    have:=ha k (List.mem_range.2 hk)
    rw [h] at this; cases this
  rw [fo,h1]; rfl
theorem jH {pg en:UInt32} {xs:List Xt} {ps:List UInt16} {sg:List Sg} (h: ∀j,j<sg.length→eL sg j=true):fo pg xs ps en sg=(dP pg xs ps&&(decide (sg.length≥1)&&(decide (sg.length≤8)&&tJ en sg))):=by
  have h1:(List.range sg.length).all (eL sg)=true:=by
    rw [List.all_eq_true]
    exact fun j hj=>h j (List.mem_range.1 hj)
  rw [fo,h1]; rfl
theorem nF {pg en:UInt32} {xs:List Xt} {ps:List UInt16} {sg:List Sg} (h:imE pg xs ps en sg=0): ∀j,j<sg.length→ep (eY en sg j).1 (sg.getD j Sg.zero)=false:=by
  intro j hj
  rw [imE] at h
  split at h
  · rename_i hm
    rw [kM,Bool.and_eq_true,Bool.and_eq_true,List.all_eq_true] at hm
    have h1:=hm.2.1 j (List.mem_range.2 hj)
    simpa using h1
  · cases h
theorem kd {x:Sg} (hl:x.b.length<2^47):(fv x).toNat=x.a.toNat+x.b.length:=by
  have ha:=x.a.toNat_lt
  rw [fv,UInt64.toNat_add,UInt64.toNat_ofNat',UInt64.toNat_ofNat']
  rw [Nat.mod_eq_of_lt (a:=x.a.toNat) (by omega),Nat.mod_eq_of_lt (a:=x.b.length) (by omega),Nat.mod_eq_of_lt (by omega)]
theorem mA {f:UInt64} {x:Sg} (h:ep f x=false) (hl:x.b.length<2^47):x.a.toNat+x.b.length≤131072:=by
  simp only [ep,Bool.or_eq_false_iff,decide_eq_false_iff_not] at h
  have h1:=h.2.2.2.2
  rw [gt_iff_lt,UInt64.lt_iff_toNat_lt,kd hl,show (131072:UInt64).toNat=131072 from rfl] at h1
  omega
theorem Hj {f:UInt64} {x:Sg} {j:Nat} (h:ep f x=false) (hl:x.b.length<2^47) (hj:j≤pgN x):UInt64.ofNat (x.a.toNat+256 * j)<fv x↔256 * j<x.b.length:=by
  have h1:=mA h hl
  have h2:pgN x=(x.b.length+255) / 256:=rfl
  rw [UInt64.lt_iff_toNat_lt,kd hl,UInt64.toNat_ofNat',Nat.mod_eq_of_lt (by omega)]
  omega
theorem FE (x:Sg) (j:Nat):UInt64.ofNat (x.a.toNat+256 * j)+256=UInt64.ofNat (x.a.toNat+256 * (j+1)):=by
  rw [Nat.mul_succ,←Nat.add_assoc,UInt64.ofNat_add _ 256]; rfl
theorem FD {x:Sg} {j:Nat} (h:x.a.toNat+256 * j<2^60):UInt32.ofNat (UInt64.ofNat (x.a.toNat+256 * j)).toNat=x.a+UInt32.ofNat (256 * j):=by
  rw [UInt64.toNat_ofNat',Nat.mod_eq_of_lt (by omega),UInt32.ofNat_add,UInt32.ofNat_toNat]
def dn (r:Rd):Sg × Rd :=
  if (aK (aK (aK r 4).2 1).2 4).1.1≤131072 then
    (⟨(aK r 4).1.1,UInt8.ofNat (aK (aK r 4).2 1).1.1.toNat,(bU (aK (aK (aK r 4).2 1).2 4).2 ((aK (aK (aK r 4).2 1).2 4).1.1.toNat:Nat)).1.1⟩,(bU (aK (aK (aK r 4).2 1).2 4).2 ((aK (aK (aK r 4).2 1).2 4).1.1.toNat:Nat)).2)
  else (⟨(aK r 4).1.1,UInt8.ofNat (aK (aK r 4).2 1).1.1.toNat,[]⟩,(aK (aK (aK r 4).2 1).2 4).2)
theorem jC {r:Rd} (h:(aK (aK (aK r 4).2 1).2 4).1.1≤131072):dn r =
    (⟨(aK r 4).1.1,UInt8.ofNat (aK (aK r 4).2 1).1.1.toNat,(bU (aK (aK (aK r 4).2 1).2 4).2 ((aK (aK (aK r 4).2 1).2 4).1.1.toNat:Nat)).1.1⟩,(bU (aK (aK (aK r 4).2 1).2 4).2 ((aK (aK (aK r 4).2 1).2 4).1.1.toNat:Nat)).2):=if_pos h
theorem ni {r:Rd} (h:¬(aK (aK (aK r 4).2 1).2 4).1.1≤131072):dn r=(⟨(aK r 4).1.1,UInt8.ofNat (aK (aK r 4).2 1).1.1.toNat,[]⟩,(aK (aK (aK r 4).2 1).2 4).2):=if_neg h
def xsD (r:Rd):Nat→Rd
  | 0=>r
  | k+1=>(aK (aK (xsD r k) 1).2 2).2
def xsL (r:Rd):Nat→List Xt
  | 0=>[]
  | k+1=>xsL r k++[Xt.mk (aK (xsD r k) 1).1.1 (aK (aK (xsD r k) 1).2 2).1.1]
def psD (r:Rd):Nat→Rd
  | 0=>r
  | k+1=>(aK (psD r k) 2).2
def psL (r:Rd):Nat→List UInt16
  | 0=>[]
  | k+1=>psL r k++[UInt16.ofNat (aK (psD r k) 2).1.1.toNat]
def sgD (r:Rd):Nat→Rd
  | 0=>r
  | k+1=>(dn (sgD r k)).2
def sgL (r:Rd):Nat→List Sg
  | 0=>[]
  | k+1=>sgL r k++[(dn (sgD r k)).1]
theorem rP (r:Rd) (k:Nat):xsD r (k+1)=(aK (aK (xsD r k) 1).2 2).2:=rfl
theorem nX (r:Rd) (k:Nat):xsL r (k+1)=xsL r k++[Xt.mk (aK (xsD r k) 1).1.1 (aK (aK (xsD r k) 1).2 2).1.1]:=rfl
theorem sO (r:Rd) (k:Nat):psD r (k+1)=(aK (psD r k) 2).2:=rfl
theorem oz (r:Rd) (k:Nat):psL r (k+1)=psL r k++[UInt16.ofNat (aK (psD r k) 2).1.1.toNat]:=rfl
theorem sb (r:Rd) (k:Nat):sgD r (k+1)=(dn (sgD r k)).2:=rfl
theorem kD (r:Rd) (k:Nat):sgL r (k+1)=sgL r k++[(dn (sgD r k)).1]:=rfl
theorem Aq (r:Rd):xsD r 0=r:=rfl
theorem Bd (r:Rd):psD r 0=r:=rfl
theorem AL (r:Rd):sgD r 0=r:=rfl
theorem mW (r:Rd): ∀k,(xsL r k).length=k
  | 0=>rfl
  | k+1=>by rw [nX,List.length_append,mW r k]; rfl
theorem nx (r:Rd): ∀k,(psL r k).length=k
  | 0=>rfl
  | k+1=>by rw [oz,List.length_append,nx r k]; rfl
theorem kW (r:Rd): ∀k,(sgL r k).length=k
  | 0=>rfl
  | k+1=>by rw [kD,List.length_append,kW r k]; rfl
theorem Fq (r:Rd):(dn r).2.s=r.s:=by
  rw [dn]; split
  · show (bU _ _).2.s=_
    rw [uI,ba,ba,ba]
  · show (aK _ _).2.s=_
    rw [ba,ba,ba]
theorem bV (r:Rd): ∀k,(xsD r k).s=r.s
  | 0=>rfl
  | k+1=>by rw [rP,ba,ba,bV r k]
theorem cN (r:Rd): ∀k,(psD r k).s=r.s
  | 0=>rfl
  | k+1=>by rw [sO,ba,cN r k]
theorem bQ (r:Rd): ∀k,(sgD r k).s=r.s
  | 0=>rfl
  | k+1=>by rw [sb,Fq,bQ r k]
def g1 (s:List UInt8):(List UInt8 × Nat) × Rd:=bU (Rd.mk s 0 0 (Nat.zero_le _)) 4
def g2 (s:List UInt8):(UInt32 × Nat) × Rd:=aK (g1 s).2 4
def g3 (s:List UInt8):(UInt32 × Nat) × Rd:=aK (g2 s).2 1
def g4 (s:List UInt8):Rd:=xsD (g3 s).2 (g3 s).1.1.toNat
def gX (s:List UInt8):List Xt:=xsL (g3 s).2 (g3 s).1.1.toNat
def g5 (s:List UInt8):(UInt32 × Nat) × Rd:=aK (g4 s) 1
def g6 (s:List UInt8):Rd:=psD (g5 s).2 (g5 s).1.1.toNat
def gP (s:List UInt8):List UInt16:=psL (g5 s).2 (g5 s).1.1.toNat
def g7 (s:List UInt8):(UInt32 × Nat) × Rd:=aK (g6 s) 1
def g8 (s:List UInt8):(UInt32 × Nat) × Rd:=aK (g7 s).2 4
def g9 (s:List UInt8):(UInt32 × Nat) × Rd:=aK (g8 s).2 1
def g10 (s:List UInt8):Rd:=sgD (g9 s).2 (g9 s).1.1.toNat
def gS (s:List UInt8):List Sg:=sgL (g9 s).2 (g9 s).1.1.toNat
theorem tA (s:List UInt8):(gX s).length=(g3 s).1.1.toNat:=mW _ _
theorem tC (s:List UInt8):(gP s).length=(g5 s).1.1.toNat:=nx _ _
theorem lS (s:List UInt8):(gS s).length=(g9 s).1.1.toNat:=kW _ _
theorem ec (s:List UInt8):(g1 s).2.s=s:=by rw [g1,uI]
theorem ea (s:List UInt8):(g2 s).2.s=s:=by rw [g2,ba,ec]
theorem ct (s:List UInt8):(g3 s).2.s=s:=by rw [g3,ba,ea]
theorem dZ (s:List UInt8):(g4 s).s=s:=by rw [g4,bV,ct]
theorem dY (s:List UInt8):(g5 s).2.s=s:=by rw [g5,ba,dZ]
theorem dX (s:List UInt8):(g6 s).s=s:=by rw [g6,cN,dY]
theorem dW (s:List UInt8):(g7 s).2.s=s:=by rw [g7,ba,dX]
theorem dV (s:List UInt8):(g8 s).2.s=s:=by rw [g8,ba,dW]
theorem ci (s:List UInt8):(g9 s).2.s=s:=by rw [g9,ba,dV]
theorem cS (s:List UInt8):(g10 s).s=s:=by rw [g10,bQ,ci]
def eX (s:List UInt8):Bool:=decide ((fc (g10 s)).1≠0)||(decide ((g1 s).1.1≠[65,73,77,49])||(decide ((g7 s).1.1>1)||decide (imE (g2 s).1.1 (gX s) (gP s) (g8 s).1.1 (gS s)≠0)))
structure Im where
  pg:UInt32
  xs:List Xt
  ps:List UInt16
  c:Bool
  en:UInt32
  sg:List Sg
def Im.zero:Im:=⟨0,[],[],false,0,[]⟩
def imG (s:List UInt8):Im:=if eX s then Im.zero else ⟨(g2 s).1.1,gX s,gP s,decide ((g7 s).1.1=1),(g8 s).1.1,gS s⟩
def jS (s:List UInt8):Nat:=if eX s then 7 else 0
theorem dR {s:List UInt8} (h:eX s=true):imG s=Im.zero∧jS s=7:=by rw [imG,jS,h]; exact ⟨rfl,rfl⟩
theorem jT {s:List UInt8} (h:eX s=false):imG s=⟨(g2 s).1.1,gX s,gP s,decide ((g7 s).1.1=1),(g8 s).1.1,gS s⟩∧jS s=0:=by rw [imG,jS,h]; exact ⟨rfl,rfl⟩
theorem rX {n:UInt32} {k:Nat} (h:k≤n.toNat):n-UInt32.ofNat k>0↔k<n.toNat:=by
  have hn:=n.toNat_lt
  rw [gt_iff_lt,UInt32.lt_iff_toNat_lt,UInt32.toNat_sub_of_le _ _ (by rw [UInt32.le_iff_toNat_le,UInt32.toNat_ofNat']; omega),UInt32.toNat_ofNat',Nat.mod_eq_of_lt (by omega),show (0:UInt32).toNat=0 from rfl]
  omega
theorem qg {n:UInt32} {k:Nat} (h:k<n.toNat):n-UInt32.ofNat k-1=n-UInt32.ofNat (k+1):=by
  have hn:=n.toNat_lt
  have e1:(n-UInt32.ofNat k).toNat=n.toNat-k:=by
    rw [UInt32.toNat_sub_of_le _ _ (by rw [UInt32.le_iff_toNat_le,UInt32.toNat_ofNat']; omega),UInt32.toNat_ofNat',Nat.mod_eq_of_lt (by omega)]
  apply UInt32.toNat_inj.1
  rw [UInt32.toNat_sub_of_le _ _ (by rw [UInt32.le_iff_toNat_le,e1]; show 1≤_; omega),e1,UInt32.toNat_sub_of_le _ _ (by rw [UInt32.le_iff_toNat_le,UInt32.toNat_ofNat']; omega),UInt32.toNat_ofNat',Nat.mod_eq_of_lt (by omega)]
  show n.toNat-k-1=_
  omega
theorem oc (n:UInt32):n=n-UInt32.ofNat 0:=by rw [show UInt32.ofNat 0=0 from rfl,UInt32.sub_zero]
def At (r:Rd) (t:List UInt8):Prop:=r.f=0∧r.rest=t
theorem vl {v:UInt32} {n:Nat} (hv:rV v n=0) (h1:1≤n) (h4:n≤4):bR v (n:Int)=rB v n:=by
  have e:ko v (n:Int)=0:=by
    unfold ko; rw [if_neg (by omega),if_neg (by rw [Int.toNat_natCast,hv]; simp)]
  rw [bR,if_pos e,Int.toNat_natCast]
theorem tR {r:Rd} {v:UInt32} {t:List UInt8} {n:Nat} (h1:1≤n) (h4:n≤4) (hv:rV v n=0) (h:At r (bR v (n:Int)++t)):(aK r (n:Int)).1.1=v∧At (aK r (n:Int)).2 t:=by
  rw [vl hv h1 h4] at h
  have h2:=FJ h.1 h.2 h1 h4 hv
  exact ⟨by rw [h2.1],h2.2.2.1,h2.2.1⟩
theorem jZ {r:Rd} {v:UInt32} {t:List UInt8} (hv:rV v 1=0) (h:At r (bR v 1++t)):(aK r 1).1.1=v∧At (aK r 1).2 t:=tR (n:=1) (by decide) (by decide) hv h
theorem vS {r:Rd} {v:UInt32} {t:List UInt8} (hv:rV v 2=0) (h:At r (bR v 2++t)):(aK r 2).1.1=v∧At (aK r 2).2 t:=tR (n:=2) (by decide) (by decide) hv h
theorem nQ {r:Rd} {v:UInt32} {t:List UInt8} (h:At r (bR v 4++t)):(aK r 4).1.1=v∧At (aK r 4).2 t:=tR (n:=4) (by decide) (by decide) (Fw v) h
theorem vR {r:Rd} {x t:List UInt8} {n:Nat} (hn:x.length=n) (h:At r (x++t)):(bU r (n:Int)).1.1=x∧At (bU r (n:Int)).2 t:=by
  rw [jB h.1]
  have h2:=xA h.1 h.2 hn
  exact ⟨by rw [h2.1],h2.2.2.1,h2.2.1⟩
theorem qA {r:Rd} {t:List UInt8} {n:Nat} (h:At (aK r (n:Int)).2 t):At r (bR (aK r (n:Int)).1.1 (n:Int)++t)∧rV (aK r (n:Int)).1.1 n=0:=by
  obtain ⟨he,hf⟩:=DT h.1
  obtain ⟨k1,_,k3⟩:=DS he
  obtain ⟨_,b1,b4,_⟩:=xM he
  have hv:rV (aK r (n:Int)).1.1 n=0:=by
    apply UInt32.toNat_inj.1
    rw [gK]; exact Nat.div_eq_of_lt k3
  refine ⟨⟨hf,?_⟩,hv⟩
  rw [vl hv b1 b4,k1,h.2]
theorem iO {r:Rd} {t:List UInt8} (h:At (aK r 1).2 t):At r (bR (aK r 1).1.1 1++t)∧rV (aK r 1).1.1 1=0:=qA (n:=1) h
theorem tq {r:Rd} {t:List UInt8} (h:At (aK r 2).2 t):At r (bR (aK r 2).1.1 2++t)∧rV (aK r 2).1.1 2=0:=qA (n:=2) h
theorem lM {r:Rd} {t:List UInt8} (h:At (aK r 4).2 t):At r (bR (aK r 4).1.1 4++t):=(qA (n:=4) h).1
theorem tp {r:Rd} {t:List UInt8} {n:Nat} (h:At (bU r (n:Int)).2 t):At r ((bU r (n:Int)).1.1++t)∧(bU r (n:Int)).1.1.length=n:=by
  by_cases hf:r.f=0
  · rw [jB hf] at h ⊢
    have he:(cW r n).1.2=0:=(sw hf).symm.trans h.1
    obtain ⟨k1,k2,_⟩:=uQ hf he
    exact ⟨⟨hf,by rw [k1,h.2]⟩,k2⟩
  · rw [mZ hf] at h
    exact absurd h.1 hf
theorem nu {v:UInt32} (h:v.toNat<256):rV v 1=0:=by
  apply UInt32.toNat_inj.1; rw [gK]; exact Nat.div_eq_of_lt (by simpa using h)
theorem xC {v:UInt32} (h:v.toNat<65536):rV v 2=0:=by
  apply UInt32.toNat_inj.1; rw [gK]; exact Nat.div_eq_of_lt (by simpa using h)
theorem FU {v:UInt32} (h:rV v 1=0):v.toNat<256:=by
  have:=congrArg UInt32.toNat h
  rw [gK] at this
  have h2:v.toNat / 256=0:=this
  omega
theorem FT {v:UInt32} (h:rV v 2=0):v.toNat<65536:=by
  have:=congrArg UInt32.toNat h
  rw [gK] at this
  have h2:v.toNat / 65536=0:=this
  omega
theorem sF (xs:List Xt) (i:Nat): ∀d, ∃u,ez xs (i+d)=ez xs i++u
  | 0=>⟨[],by rw [List.append_nil]; rfl⟩
  | d+1=>by
    obtain ⟨u,hu⟩:=sF xs i d
    refine ⟨u++(bR (xs.getD (i+d) Xt.zero).id 1++bR (xs.getD (i+d) Xt.zero).bl 2),?_⟩
    show (ez xs (i+d)++bR (xs.getD (i+d) Xt.zero).id 1)++bR (xs.getD (i+d) Xt.zero).bl 2=_
    rw [hu]; simp only [List.append_assoc]
theorem AY (xs:List Xt) {i j:Nat} (h:i<j): ∃v,ez xs j=ez xs i++(bR (xs.getD i Xt.zero).id 1++(bR (xs.getD i Xt.zero).bl 2++v)):=by
  obtain ⟨v,hv⟩:=sF xs (i+1) (j-(i+1))
  rw [show i+1+(j-(i+1))=j by omega] at hv
  exact ⟨v,by rw [hv,ez]; simp only [List.append_assoc]⟩
theorem kb {α:Type} {l:List α} {k:Nat} {d:α} (h:k<l.length):l.take (k+1)=l.take k++[l.getD k d]:=by
  rw [List.take_add_one,List.getElem?_eq_getElem h,eU h]; rfl
theorem Cj {r:Rd} {xs:List Xt} {t:List UInt8} (hv: ∀j,j<xs.length→rV (xs.getD j Xt.zero).id 1=0∧rV (xs.getD j Xt.zero).bl 2=0) (h:At r (ez xs xs.length++t)) :
    ∀k,k≤xs.length→xsL r k=xs.take k∧∃u,ez xs xs.length=ez xs k++u∧At (xsD r k) (u++t)
  | 0,_=>⟨rfl,_,rfl,h⟩
  | k+1,hk=>by
    obtain ⟨ih,u,hu,hat⟩:=Cj hv h k (by omega)
    obtain ⟨v,hv1⟩:=AY xs (show k<xs.length by omega)
    have e:u=bR (xs.getD k Xt.zero).id 1++(bR (xs.getD k Xt.zero).bl 2++v):=List.append_cancel_left (hu.symm.trans hv1)
    rw [e,List.append_assoc,List.append_assoc] at hat
    have n1:=jZ (hv k (by omega)).1 hat
    have n2:=vS (hv k (by omega)).2 n1.2
    refine ⟨?_,v,?_,n2.2⟩
    · rw [nX,ih,n1.1,n2.1,kb (d:=Xt.zero) (by omega)]
    · rw [hv1,ez]; simp only [List.append_assoc]
theorem Ai {r:Rd} {xs:List Xt} {t:List UInt8} (hv: ∀j,j<xs.length→rV (xs.getD j Xt.zero).id 1=0∧rV (xs.getD j Xt.zero).bl 2=0) (h:At r (ez xs xs.length++t)):xsL r xs.length=xs∧At (xsD r xs.length) t:=by
  obtain ⟨h1,u,hu,h2⟩:=Cj hv h xs.length (Nat.le_refl _)
  have e:u=[]:=by simpa using hu
  rw [e] at h2
  exact ⟨by rw [h1,List.take_length],h2⟩
theorem sG (l m:List Xt): ∀k,k≤l.length→ez (l++m) k=ez l k
  | 0,_=>rfl
  | k+1,h=>by
    have e:(l++m).getD k Xt.zero=l.getD k Xt.zero:=by rw [List.getD,List.getD,List.getElem?_append_left (by omega)]
    rw [ez,ez,sG l m k (by omega),e]
theorem xW {r:Rd}: ∀(k:Nat) {t:List UInt8},At (xsD r k) t→At r (ez (xsL r k) k++t)
  | 0,_,h=>h
  | k+1,t,h=>by
    rw [rP] at h
    have h1:=iO (tq h).1
    have h2:=xW k h1.1
    have hl:=mW r k
    have e:(xsL r (k+1)).getD k Xt.zero=Xt.mk (aK (xsD r k) 1).1.1 (aK (aK (xsD r k) 1).2 2).1.1:=by
      rw [nX,List.getD,List.getElem?_append_right (by omega),hl,Nat.sub_self]; rfl
    rw [ez,e,nX,sG _ _ _ (by omega),List.append_assoc,List.append_assoc]
    exact h2
theorem sJ (ps:List UInt16) (i:Nat): ∀d, ∃u,dS ps (i+d)=dS ps i++u
  | 0=>⟨[],by rw [List.append_nil]; rfl⟩
  | d+1=>by
    obtain ⟨u,hu⟩:=sJ ps i d
    refine ⟨u++bR (UInt32.ofNat (ps.getD (i+d) 0).toNat) 2,?_⟩
    show dS ps (i+d)++bR (UInt32.ofNat (ps.getD (i+d) 0).toNat) 2=_
    rw [hu,List.append_assoc]
theorem Ba (ps:List UInt16) {i j:Nat} (h:i<j): ∃v,dS ps j=dS ps i++(bR (UInt32.ofNat (ps.getD i 0).toNat) 2++v):=by
  obtain ⟨v,hv⟩:=sJ ps (i+1) (j-(i+1))
  rw [show i+1+(j-(i+1))=j by omega] at hv
  exact ⟨v,by rw [hv,dS,List.append_assoc]⟩
theorem uF (p:UInt16):(UInt32.ofNat p.toNat).toNat=p.toNat:=by
  have:=p.toNat_lt
  rw [UInt32.toNat_ofNat',Nat.mod_eq_of_lt (by omega)]
theorem AC (p:UInt16):UInt16.ofNat (UInt32.ofNat p.toNat).toNat=p:=by rw [uF,UInt16.ofNat_toNat]
theorem Cn {r:Rd} {ps:List UInt16} {t:List UInt8} (h:At r (dS ps ps.length++t)): ∀k,k≤ps.length→psL r k=ps.take k∧∃u,dS ps ps.length=dS ps k++u∧At (psD r k) (u++t)
  | 0,_=>⟨rfl,_,rfl,h⟩
  | k+1,hk=>by
    obtain ⟨ih,u,hu,hat⟩:=Cn h k (by omega)
    obtain ⟨v,hv1⟩:=Ba ps (show k<ps.length by omega)
    have e:u=bR (UInt32.ofNat (ps.getD k 0).toNat) 2++v:=List.append_cancel_left (hu.symm.trans hv1)
    rw [e,List.append_assoc] at hat
    have hp:=(ps.getD k 0).toNat_lt
    have n1:=vS (xC (by rw [uF]; omega)) hat
    refine ⟨?_,v,?_,n1.2⟩
    · rw [oz,ih,n1.1,AC,kb (d:=0) (by omega)]
    · rw [hv1,dS,List.append_assoc]
theorem Ak {r:Rd} {ps:List UInt16} {t:List UInt8} (h:At r (dS ps ps.length++t)):psL r ps.length=ps∧At (psD r ps.length) t:=by
  obtain ⟨h1,u,hu,h2⟩:=Cn h ps.length (Nat.le_refl _)
  have e:u=[]:=by simpa using hu
  rw [e] at h2
  exact ⟨by rw [h1,List.take_length],h2⟩
theorem sK (l m:List UInt16): ∀k,k≤l.length→dS (l++m) k=dS l k
  | 0,_=>rfl
  | k+1,h=>by
    have e:(l++m).getD k 0=l.getD k 0:=by rw [List.getD,List.getD,List.getElem?_append_left (by omega)]
    rw [dS,dS,sK l m k (by omega),e]
theorem xY {r:Rd}: ∀(k:Nat) {t:List UInt8},At (psD r k) t→At r (dS (psL r k) k++t)
  | 0,_,h=>h
  | k+1,t,h=>by
    rw [sO] at h
    have h1:=tq h
    have h2:=xY k h1.1
    have hl:=nx r k
    have hv:=FT h1.2
    have e:(psL r (k+1)).getD k 0=UInt16.ofNat (aK (psD r k) 2).1.1.toNat:=by
      rw [oz,List.getD,List.getElem?_append_right (by omega),hl,Nat.sub_self]; rfl
    have e2:UInt32.ofNat (UInt16.ofNat (aK (psD r k) 2).1.1.toNat).toNat=(aK (psD r k) 2).1.1:=by
      rw [UInt16.toNat_ofNat',Nat.mod_eq_of_lt hv,UInt32.ofNat_toNat]
    rw [dS,e,e2,oz,sK _ _ _ (by omega),List.append_assoc]
    exact h2
theorem xp (p:UInt8):(UInt32.ofNat p.toNat).toNat=p.toNat:=by
  have:=p.toNat_lt
  rw [UInt32.toNat_ofNat',Nat.mod_eq_of_lt (by omega)]
def lz (x:Sg) (t:List UInt8):List UInt8:=bR x.a 4++(bR (UInt32.ofNat x.p.toNat) 1++(bR (UInt32.ofNat x.b.length) 4++(x.b++t)))
theorem Ge {r:Rd} {x:Sg} {t:List UInt8} (hb:x.b.length≤131072) (h:At r (lz x t)):(dn r).1=x∧At (dn r).2 t:=by
  have hp:=x.p.toNat_lt
  have n1:=nQ h
  have n2:=jZ (nu (by rw [xp]; omega)) n1.2
  have n3:=nQ n2.2
  have e:(UInt32.ofNat x.b.length).toNat=x.b.length:=by rw [UInt32.toNat_ofNat',Nat.mod_eq_of_lt (by omega)]
  have hle:(aK (aK (aK r 4).2 1).2 4).1.1≤131072:=by
    rw [n3.1,UInt32.le_iff_toNat_le,e]; exact hb
  have n4:=vR (n:=(aK (aK (aK r 4).2 1).2 4).1.1.toNat) (by rw [n3.1,e]) n3.2
  rw [jC hle]
  refine ⟨?_,n4.2⟩
  rw [n4.1,n1.1,n2.1,xp,UInt8.ofNat_toNat]
theorem Eo {r:Rd} {t:List UInt8} (hb:(dn r).1.b≠[]) (h:At (dn r).2 t):At r (lz (dn r).1 t):=by
  by_cases hle:(aK (aK (aK r 4).2 1).2 4).1.1≤131072
  · rw [jC hle] at h ⊢
    have t1:=tp h
    have t2:=lM t1.1
    have t3:=iO t2
    have t4:=lM t3.1
    have hv:=FU t3.2
    have e1:UInt32.ofNat (UInt8.ofNat (aK (aK r 4).2 1).1.1.toNat).toNat=(aK (aK r 4).2 1).1.1:=by
      rw [UInt8.toNat_ofNat',Nat.mod_eq_of_lt hv,UInt32.ofNat_toNat]
    rw [lz]
    show At r (bR (aK r 4).1.1 4++(bR (UInt32.ofNat (UInt8.ofNat (aK (aK r 4).2 1).1.1.toNat).toNat) 1++(bR (UInt32.ofNat (bU (aK (aK (aK r 4).2 1).2 4).2 ((aK (aK (aK r 4).2 1).2 4).1.1.toNat:Nat)).1.1.length) 4++_)))
    rw [e1,t1.2,UInt32.ofNat_toNat]
    exact t4
  · rw [ni hle] at hb
    exact absurd O hb
theorem pF (sg:List Sg) (k:Nat) (t:List UInt8):dL sg (k+1)++t=dL sg k++lz (sg.getD k Sg.zero) t:=by
  rw [dL,lz]; simp only [List.append_assoc]
theorem ox (sg:List Sg) (i:Nat): ∀d, ∃u,dL sg (i+d)=dL sg i++u
  | 0=>⟨[],by rw [List.append_nil]; rfl⟩
  | d+1=>by
    obtain ⟨u,hu⟩:=ox sg i d
    refine ⟨u++lz (sg.getD (i+d) Sg.zero) [],?_⟩
    have:=pF sg (i+d) []
    rw [List.append_nil] at this
    show dL sg (i+d+1)=_
    rw [this,hu,List.append_assoc]
theorem AZ (sg:List Sg) {i j:Nat} (h:i<j): ∃v,dL sg j=dL sg i++lz (sg.getD i Sg.zero) v:=by
  obtain ⟨v,hv⟩:=ox sg (i+1) (j-(i+1))
  rw [show i+1+(j-(i+1))=j by omega,pF] at hv
  exact ⟨v,hv⟩
theorem Bc (x:Sg) (v t:List UInt8):lz x v++t=lz x (v++t):=by
  rw [lz,lz]; simp only [List.append_assoc]
theorem Cm {r:Rd} {sg:List Sg} {t:List UInt8} (hb: ∀j,j<sg.length→(sg.getD j Sg.zero).b.length≤131072) (h:At r (dL sg sg.length++t)) :
    ∀k,k≤sg.length→sgL r k=sg.take k∧∃u,dL sg sg.length=dL sg k++u∧At (sgD r k) (u++t)
  | 0,_=>⟨rfl,_,rfl,h⟩
  | k+1,hk=>by
    obtain ⟨ih,u,hu,hat⟩:=Cm hb h k (by omega)
    obtain ⟨v,hv1⟩:=AZ sg (show k<sg.length by omega)
    have e:u=lz (sg.getD k Sg.zero) v:=List.append_cancel_left (hu.symm.trans hv1)
    rw [e,Bc] at hat
    have n1:=Ge (hb k (by omega)) hat
    refine ⟨?_,v,?_,n1.2⟩
    · rw [kD,ih,n1.1,kb (d:=Sg.zero) (by omega)]
    · rw [hv1,←pF]
theorem Aj {r:Rd} {sg:List Sg} {t:List UInt8} (hb: ∀j,j<sg.length→(sg.getD j Sg.zero).b.length≤131072) (h:At r (dL sg sg.length++t)):sgL r sg.length=sg∧At (sgD r sg.length) t:=by
  obtain ⟨h1,u,hu,h2⟩:=Cm hb h sg.length (Nat.le_refl _)
  have e:u=[]:=by simpa using hu
  rw [e] at h2
  exact ⟨by rw [h1,List.take_length],h2⟩
theorem sI (l m:List Sg): ∀k,k≤l.length→dL (l++m) k=dL l k
  | 0,_=>rfl
  | k+1,h=>by
    have e:(l++m).getD k Sg.zero=l.getD k Sg.zero:=by rw [List.getD,List.getD,List.getElem?_append_left (by omega)]
    rw [dL,dL,sI l m k (by omega),e]
theorem xX {r:Rd}: ∀(k:Nat) {t:List UInt8},(∀j,j<k→((sgL r k).getD j Sg.zero).b≠[])→At (sgD r k) t→At r (dL (sgL r k) k++t)
  | 0,_,_,h=>h
  | k+1,t,hb,h=>by
    have hl:=kW r k
    have e:(sgL r (k+1)).getD k Sg.zero=(dn (sgD r k)).1:=by
      rw [kD,List.getD,List.getElem?_append_right (by omega),hl,Nat.sub_self]; rfl
    have hb1:=hb k (by omega)
    rw [e] at hb1
    rw [sb] at h
    have h1:=Eo hb1 h
    have h2:=xX k (fun j hj=>by
      have:=hb j (by omega)
      rwa [kD,List.getD,List.getElem?_append_left (by omega)] at this) h1
    rw [pF,e,kD,sI _ _ _ (by omega)]
    exact h2
theorem xy {α:Type} {r:α→α→Bool} {d:α}: ∀ {l:List α},ris r l=true→∀ {k:Nat},k+1<l.length→r (l.getD k d) (l.getD (k+1) d)=true
  | [],_,k,h=>by simp at h
  | [_],_,k,h=>by simp at h
  | a::b::l,h,0,_=>by rw [ris,Bool.and_eq_true] at h; exact h.1
  | a::b::l,h,k+1,hk=>by
    rw [ris,Bool.and_eq_true] at h
    exact xy (l:=b::l) h.2 (k:=k) (by simpa using hk)
theorem yb {xs:List Xt} (h:ris lh xs=true): ∀k,k<xs.length→k≤(xs.getD k Xt.zero).id.toNat
  | 0,_=>Nat.zero_le _
  | k+1,hk=>by
    have h1:=yb h k (by omega)
    have h2:=xy (d:=Xt.zero) h hk
    rw [lh,decide_eq_true_eq,UInt32.lt_iff_toNat_lt] at h2
    omega
theorem Ap {xs:List Xt} (h:xs.any eV=false) {k:Nat} (hk:k<xs.length):(xs.getD k Xt.zero).id.toNat<16∧(xs.getD k Xt.zero).bl.toNat≤1024:=by
  have h1:eV (xs.getD k Xt.zero)=false:=by
    cases hb:eV (xs.getD k Xt.zero) with
    | false=>rfl
    | true=>rw [eD hk hb] at h; cases h
  simp only [eV,Bool.or_eq_false_iff,decide_eq_false_iff_not] at h1
  obtain ⟨a,_,c⟩:=h1
  rw [ge_iff_le,UInt32.le_iff_toNat_le,show (16:UInt32).toNat=16 from rfl] at a
  rw [gt_iff_lt,UInt32.lt_iff_toNat_lt,show (1024:UInt32).toNat=1024 from rfl] at c
  omega
theorem td {pg:UInt32} {xs:List Xt} {ps:List UInt16} (h:dP pg xs ps=true):xs.length≤16∧ps.length≤16∧∀j,j<xs.length→rV (xs.getD j Xt.zero).id 1=0∧rV (xs.getD j Xt.zero).bl 2=0:=by
  simp only [dP,Bool.and_eq_true,Bool.not_eq_true',decide_eq_false_iff_not] at h
  obtain ⟨h1,h2,_,_,h5,_⟩:=h
  refine ⟨?_,by omega,fun j hj=>?_⟩
  · rcases Nat.lt_or_ge xs.length 17 with hl | hl
    · omega
    · have a:=yb h2 16 (by omega); have b:=Ap h1 (k:=16) (by omega)
      omega
  · have b:=Ap h1 hj
    exact ⟨nu (by omega),xC (by omega)⟩
theorem oL {pg en:UInt32} {xs:List Xt} {ps:List UInt16} {sg:List Sg} (h:imE pg xs ps en sg=0):dP pg xs ps=true∧sg.length≤8∧∀j,j<sg.length→ep (eY en sg j).1 (sg.getD j Sg.zero)=false:=by
  refine ⟨?_,?_,nF h⟩
  · cases hm:dP pg xs ps with
    | true=>rfl
    | false =>
      have h1:eW pg xs ps en sg=true:=by rw [eW,tf hm]; rfl
      rw [iy h1] at h; cases h
  · rcases Nat.lt_or_ge sg.length 9 with hl | hl
    · omega
    · have h1:eW pg xs ps en sg=true:=by
        rw [eW,decide_eq_true (show sg.length>8 by omega)]; simp
      rw [iy h1] at h; cases h
theorem EQ (c:Bool):rV (fM c) 1=0:=by cases c<;>rfl
theorem iM {n:Nat} (h:n<256):(UInt32.ofNat n).toNat=n:=by rw [UInt32.toNat_ofNat',Nat.mod_eq_of_lt (by omega)]
theorem vD (s:List UInt8):bU (Rd.mk s 0 0 (Nat.zero_le _)) 4=g1 s:=rfl
theorem yn (s:List UInt8):aK (g1 s).2 4=g2 s:=rfl
theorem vC (s:List UInt8):aK (g2 s).2 1=g3 s:=rfl
theorem BU (s:List UInt8):xsD (g3 s).2 (g3 s).1.1.toNat=g4 s:=rfl
theorem BP (s:List UInt8):xsL (g3 s).2 (g3 s).1.1.toNat=gX s:=rfl
theorem vB (s:List UInt8):aK (g4 s) 1=g5 s:=rfl
theorem BT (s:List UInt8):psD (g5 s).2 (g5 s).1.1.toNat=g6 s:=rfl
theorem BR (s:List UInt8):psL (g5 s).2 (g5 s).1.1.toNat=gP s:=rfl
theorem vA (s:List UInt8):aK (g6 s) 1=g7 s:=rfl
theorem vz (s:List UInt8):aK (g7 s).2 4=g8 s:=rfl
theorem vy (s:List UInt8):aK (g8 s).2 1=g9 s:=rfl
theorem wR (s:List UInt8):sgD (g9 s).2 (g9 s).1.1.toNat=g10 s:=rfl
theorem tB (s:List UInt8):sgL (g9 s).2 (g9 s).1.1.toNat=gS s:=rfl
theorem Ck {r:Rd} {x t:List UInt8} (hn:x.length=4) (h:At r (x++t)):(bU r 4).1.1=x∧At (bU r 4).2 t:=vR (n:=4) hn h
theorem zS {r:Rd} {t:List UInt8} (h:At (bU r 4).2 t):At r ((bU r 4).1.1++t):=(tp (n:=4) h).1
theorem EB {pg en:UInt32} {xs:List Xt} {ps:List UInt16} {con:Bool} {sg:List Sg} (h:imE pg xs ps en sg=0) (hl: ∀x∈sg,x.b.length<2^47) :
    imG (imS pg xs ps con en sg)=⟨pg,xs,ps,con,en,sg⟩∧jS (imS pg xs ps con en sg)=0:=by
  obtain ⟨hm,hs8,hsb⟩:=oL h
  obtain ⟨hx16,hp16,hxv⟩:=td hm
  have hb: ∀j,j<sg.length→(sg.getD j Sg.zero).b.length≤131072:=fun j hj=>by
    have hmem:sg.getD j Sg.zero∈sg:=by rw [eU hj]; exact List.getElem_mem hj
    have:=mA (hsb j hj) (hl _ hmem)
    omega
  have hS:imS pg xs ps con en sg=[65,73,77,49]++(bR pg 4++(bR (UInt32.ofNat xs.length) 1++(ez xs xs.length++(bR (UInt32.ofNat ps.length) 1++(dS ps ps.length++(bR (fM con) 1++(bR en 4++(bR (UInt32.ofNat sg.length) 1++(dL sg sg.length++[]))))))))):=by
    rw [imS,fq,fB,gu]; simp only [List.append_assoc,List.append_nil]
  generalize imS pg xs ps con en sg=s at hS
  have a0:At (Rd.mk s 0 0 (Nat.zero_le _)) ([65,73,77,49]++(bR pg 4++(bR (UInt32.ofNat xs.length) 1++(ez xs xs.length++(bR (UInt32.ofNat ps.length) 1++(dS ps ps.length++(bR (fM con) 1++(bR en 4++(bR (UInt32.ofNat sg.length) 1++(dL sg sg.length++[])))))))))) :=
    ⟨rfl,(wv s 0 (Nat.zero_le _)).trans hS⟩
  have a1:=Ck O a0
  rw [vD] at a1
  have a2:=nQ a1.2
  rw [yn] at a2
  have a3:=jZ (nu (by rw [iM (by omega)]; omega)) a2.2
  rw [vC] at a3
  have b3:(g3 s).1.1.toNat=xs.length:=by rw [a3.1,iM (by omega)]
  have a4:=Ai hxv a3.2
  rw [←b3,BP,BU] at a4
  have a5:=jZ (nu (by rw [iM (by omega)]; omega)) a4.2
  rw [vB] at a5
  have b5:(g5 s).1.1.toNat=ps.length:=by rw [a5.1,iM (by omega)]
  have a6:=Ak a5.2
  rw [←b5,BR,BT] at a6
  have a7:=jZ (EQ con) a6.2
  rw [vA] at a7
  have a8:=nQ a7.2
  rw [vz] at a8
  have a9:=jZ (nu (by rw [iM (by omega)]; omega)) a8.2
  rw [vy] at a9
  have b9:(g9 s).1.1.toNat=sg.length:=by rw [a9.1,iM (by omega)]
  have a10:=Aj hb a9.2
  rw [←b9,tB,wR] at a10
  have hc1:¬fM con>1:=by cases con<;>decide
  have hB:eX s=false:=by
    simp only [eX,Bool.or_eq_false_iff,decide_eq_false_iff_not,Decidable.not_not]
    exact ⟨EM a10.2.1 a10.2.2,a1.1,by rw [a7.1]; exact hc1,by rw [a2.1,a4.1,a6.1,a8.1,a10.1]; exact h⟩
  have hcd:decide (fM con=1)=con:=by cases con<;>rfl
  rw [(jT hB).1,(jT hB).2,a2.1,a4.1,a6.1,a7.1,a8.1,a10.1,hcd]
  exact ⟨rfl,rfl⟩
theorem uV {s:List UInt8} (h:jS s=0):imE (imG s).pg (imG s).xs (imG s).ps (imG s).en (imG s).sg=0∧imS (imG s).pg (imG s).xs (imG s).ps (imG s).c (imG s).en (imG s).sg=s:=by
  have hB:eX s=false:=by
    cases hb:eX s with
    | false=>rfl
    | true=>rw [(dR hb).2] at h; cases h
  rw [(jT hB).1]
  dsimp only
  simp only [eX,Bool.or_eq_false_iff,decide_eq_false_iff_not,Decidable.not_not] at hB
  obtain ⟨he,hm,hc,hi⟩:=hB
  refine ⟨hi,?_⟩
  have hsb:=nF hi
  have c10:At (g10 s) []:=FY he
  have hbn: ∀j,j<(g9 s).1.1.toNat→((gS s).getD j Sg.zero).b≠[]:=fun j hj=>by
    have h1:=hsb j (by rw [lS]; exact hj)
    simp only [ep,Bool.or_eq_false_iff,decide_eq_false_iff_not] at h1
    exact h1.2.2.2.1
  rw [←tB] at hbn
  rw [←wR] at c10
  have c9:=xX _ hbn c10
  rw [tB,←vy] at c9
  have c8:=(iO c9).1
  rw [vy,←vz] at c8
  have c7:=lM c8
  rw [vz,←vA] at c7
  have c6:=(iO c7).1
  rw [vA,←BT] at c6
  have c5:=xY _ c6
  rw [BR,←vB] at c5
  have c4:=(iO c5).1
  rw [vB,←BU] at c4
  have c3:=xW _ c4
  rw [BP,←vC] at c3
  have c2:=(iO c3).1
  rw [vC,←yn] at c2
  have c1:=lM c2
  rw [yn,←vD] at c1
  have c0:=zS c1
  rw [vD,hm] at c0
  have hr:=c0.2
  rw [wv] at hr
  have hcon:fM (decide ((g7 s).1.1=1))=(g7 s).1.1:=by
    have hle:(g7 s).1.1.toNat≤1:=by
      rw [gt_iff_lt,UInt32.lt_iff_toNat_lt,show (1:UInt32).toNat=1 from rfl] at hc; omega
    by_cases h1:(g7 s).1.1=1
    · rw [h1]; rfl
    · have h0:(g7 s).1.1=0:=by
        apply UInt32.toNat_inj.1
        have h2:(g7 s).1.1.toNat≠1:=fun h=>h1 (UInt32.toNat_inj.1 h)
        rw [show (0:UInt32).toNat=0 from rfl]; omega
      rw [h0]; rfl
  rw [imS,fq,fB,gu]
  rw [hcon,tA,tC,lS,UInt32.ofNat_toNat,UInt32.ofNat_toNat,UInt32.ofNat_toNat]
  simp only [List.append_assoc]
  refine Eq.trans ?_ hr.symm
  rw [List.append_nil]
end Go.Spec
namespace Go.Spec
open Go.Owl
theorem yk {s:List UInt8} (h:jS s=0) (hs:s.length<2^47):(imG s).xs.length≤2^20∧(imG s).ps.length≤2^20∧(imG s).sg.length≤2^10∧∀x∈(imG s).sg,x.b.length≤2^30:=by
  obtain ⟨h1,h2⟩:=uV h
  obtain ⟨hm,hs8,hsb⟩:=oL h1
  obtain ⟨hx16,hp16, -⟩:=td hm
  refine ⟨by omega,by omega,by omega,fun x hx=>?_⟩
  obtain ⟨j,hj,rfl⟩:=List.getElem_of_mem hx
  have hlen:((imG s).sg[j]).b.length<2^47:=by
    have h3: ∀k,k≤(imG s).sg.length→(dL (imG s).sg k).length≤(imS (imG s).pg (imG s).xs (imG s).ps (imG s).c (imG s).en (imG s).sg).length:=fun k hk=>by
      obtain ⟨u,hu⟩:=ox (imG s).sg k ((imG s).sg.length-k)
      rw [show k+((imG s).sg.length-k)=(imG s).sg.length by omega] at hu
      rw [imS,List.length_append,hu,List.length_append]; omega
    have h4:=h3 (j+1) hj
    rw [h2,dL,List.length_append,eU hj] at h4
    omega
  have h5:=hsb j hj
  rw [eU hj] at h5
  have h6:=mA h5 hlen
  omega
section
variable {pg pg' en en':UInt32} {c c':Bool} {xs xs':List Xt} {ps ps':List UInt16} {sg sg':List Sg}
theorem uU (h:imE pg xs ps en sg=0) (hl: ∀x∈sg,x.b.length≤262144):jS (imB pg xs ps c en sg)=0∧imG (imB pg xs ps c en sg)=⟨pg,xs,ps,c,en,sg⟩:=by
  have h1:=EB (con:=c) h (fun x hx=>Nat.lt_of_le_of_lt (hl x hx) (by decide))
  rw [imB,if_pos h]
  exact ⟨h1.2,h1.1⟩
end
theorem tQ {s:List UInt8} (h:jS s=0):imE (imG s).pg (imG s).xs (imG s).ps (imG s).en (imG s).sg=0∧imB (imG s).pg (imG s).xs (imG s).ps (imG s).c (imG s).en (imG s).sg=s:=by
  obtain ⟨h1,h2⟩:=uV h
  exact ⟨h1,by rw [imB,if_pos h1]; exact h2⟩
end Go.Spec
namespace Go.Spec
open Go.Owl
theorem zs (p:UInt8):kg p=eZ p:=by
  simp only [kg,eZ,List.any_cons,List.any_nil,rT,Bool.or_false]
theorem xO (a:UInt32):a%256=0↔a.toNat%256=0:=by
  rw [←UInt32.toNat_inj,UInt32.toNat_mod]; exact Iff.rfl
theorem jp {x:Sg} (h:fP x=true):eZ x.p=true∧x.a.toNat%256=0∧256≤x.a.toNat∧1≤x.b.length∧x.a.toNat+x.b.length≤131072:=by
  simp only [fP,Bool.and_eq_true,decide_eq_true_eq] at h
  obtain ⟨h1,h2,h3,h4,h5,h6⟩:=h
  rw [xO] at h2
  rw [ge_iff_le,UInt32.le_iff_toNat_le,show (256:UInt32).toNat=256 from rfl] at h3
  exact ⟨h1,h2,h3,h5,by omega⟩
theorem xu {x:Sg} (h:fP x=true):(nf x).toNat=x.a.toNat+256 * pgN x:=by
  obtain ⟨_,h2,h3,h4,h5⟩:=jp h
  have he:=kd (x:=x) (by omega)
  have e1:(fv x+256).toNat=x.a.toNat+x.b.length+256:=by
    rw [UInt64.toNat_add,he,show (256:UInt64).toNat=256 from rfl,Nat.mod_eq_of_lt (by omega)]
  have e2:(fv x+256-1).toNat=x.a.toNat+x.b.length+255:=by
    rw [UInt64.toNat_sub_of_le _ _ (by rw [UInt64.le_iff_toNat_le,e1]; show 1≤_; omega),e1]
    show _-1=_; omega
  rw [nf,UInt64.toNat_mul,UInt64.toNat_div,e2,show (256:UInt64).toNat=256 from rfl,Nat.mod_eq_of_lt (by omega),pgN]
  omega
theorem BH {x:Sg} (h:fP x=true):((pgL x (pgN x)).getD (pgN x-1) 0).toNat+256=x.a.toNat+256 * pgN x:=by
  obtain ⟨_,h2,h3,h4,h5⟩:=jp h
  have hp:1≤pgN x:=(sc h).1
  have hpg:pgN x=(x.b.length+255) / 256:=rfl
  rw [uX x (by omega),UInt32.toNat_add,UInt32.toNat_ofNat',Nat.mod_eq_of_lt (a:=256 * (pgN x-1)) (by omega),Nat.mod_eq_of_lt (by omega)]
  omega
theorem CX {x:Sg} {fr:UInt64} {F:Nat} {last:Int} (hl:x.b.length<2^47) (hF:fr.toNat=F) (h256:F%256=0) (hge:256≤F) (hlast:(F=256∧last= -1)∨last=(F:Int)-256) :
    (fP x&& !decide ((x.a.toNat:Int)≤last))= !ep fr x:=by
  have he:=kd hl
  have ha:=x.a.toNat_lt
  rw [Bool.eq_iff_iff]
  simp only [fP,ep,Bool.and_eq_true,Bool.not_eq_true',Bool.or_eq_false_iff,decide_eq_true_eq,decide_eq_false_iff_not,zs,Bool.not_eq_false',Decidable.not_not]
  rw [xO,ge_iff_le,UInt32.le_iff_toNat_le,UInt32.lt_iff_toNat_lt,show (256:UInt32).toNat=256 from rfl,show (131072:UInt32).toNat=131072 from rfl,UInt64.lt_iff_toNat_lt,hF,UInt64.toNat_ofNat',Nat.mod_eq_of_lt (show x.a.toNat<2^64 by omega),gt_iff_lt,UInt64.lt_iff_toNat_lt,he,show (131072:UInt64).toNat=131072 from rfl]
  constructor
  · rintro ⟨⟨h1,h2,h3,h4,h5,h6⟩,h7⟩
    refine ⟨h1,h2,?_,?_,by omega⟩
    · rcases hlast with ⟨hf,_⟩ | hf<;>omega
    · intro h; rw [h] at h5; simp at h5
  · rintro ⟨h1,h2,h3,h4,h5⟩
    have h6:1≤x.b.length:=by
      rcases Nat.eq_zero_or_pos x.b.length with h | h
      · exact absurd (List.eq_nil_of_length_eq_zero h) h4
      · exact h
    refine ⟨⟨h1,h2,by omega,by omega,h6,by omega⟩,?_⟩
    rcases hlast with ⟨hf,hl⟩ | hf<;>omega
theorem nH {en:UInt32} {sg:List Sg}: ∀k,(∀j,j<k→eL sg j=true)→∃F,(eY en sg k).1.toNat=F∧F%256=0∧256≤F∧((F=256∧kq sg k= -1)∨kq sg k=(F:Int)-256)
  | 0,_=>⟨256,rfl,rfl,Nat.le_refl _,Or.inl ⟨rfl,rfl⟩⟩
  | k+1,h=>by
    have hs:=h k (by omega)
    rw [eL,Bool.and_eq_true] at hs
    have hn:=xu hs.1
    have hla:=BH hs.1
    obtain ⟨_,h2,h3,h4,h5⟩:=jp hs.1
    refine ⟨_,hn,by omega,by omega,Or.inr ?_⟩
    rw [kq]; omega
theorem Ah {en:UInt32} {x:Sg} (h:eZ x.p=true):sgBegins en x=oO en x:=by
  have e:decide (x.p &&& 4≠0)=decide (x.p=5):=by
    simp only [eZ,Bool.or_eq_true,decide_eq_true_eq] at h
    rcases h with h | h | h<;>rw [h]<;>rfl
  rw [sgBegins,oO,e]
theorem tM (en:UInt32) (sg:List Sg): ∀k,k≤sg.length→(eY en sg k).2=(sg.take k).any (sgBegins en)
  | 0,_=>rfl
  | k+1,h=>by
    rw [nM,tM en sg k (by omega),kb (d:=Sg.zero) (by omega),List.any_append]
    simp
theorem Al {α:Type} {l:List α} {p q:α→Bool} (h: ∀x∈l,p x=q x):l.any p=l.any q:=by
  induction l with
  | nil=>rfl
  | cons a l ih=>rw [List.any_cons,List.any_cons,h a (by simp),ih fun x hx=>h x (by simp [hx])]
theorem uR {pg en:UInt32} {xs:List Xt} {ps:List UInt16} {sg:List Sg} (hl: ∀x∈sg,x.b.length<2^47):fo pg xs ps en sg=kM pg xs ps en sg:=by
  have hstep: ∀k,k<sg.length→(∀j,j<k→eL sg j=true)→eL sg k= !ep (eY en sg k).1 (sg.getD k Sg.zero):=fun k hk h=>by
    obtain ⟨F,h1,h2,h3,h4⟩:=nH (en:=en) k h
    have hm:sg.getD k Sg.zero∈sg:=by rw [eU hk]; exact List.getElem_mem hk
    rw [eL]
    exact CX (hl _ hm) h1 h2 h3 h4
  by_cases hall: ∀j,j<sg.length→eL sg j=true
  · rw [jH hall]
    have hb: ∀j,j<sg.length→ep (eY en sg j).1 (sg.getD j Sg.zero)=false:=fun j hj=>by
      have h1:=hstep j hj (fun i hi=>hall i (by omega))
      rw [hall j hj] at h1
      simpa using h1.symm
    have ha:(List.range sg.length).all (fun k=> !(ep (eY en sg k).1 (sg.getD k Sg.zero)))=true:=by
      rw [List.all_eq_true]
      intro j hj
      rw [hb j (List.mem_range.1 hj)]; rfl
    have hbe:(eY en sg sg.length).2=sg.any (oO en):=by
      rw [tM en sg _ (Nat.le_refl _),List.take_length]
      refine Al fun x hx=>?_
      obtain ⟨j,hj,rfl⟩:=List.getElem_of_mem hx
      have h1:=hall j hj
      rw [eL,Bool.and_eq_true,eU hj] at h1
      exact Ah (jp h1.1).1
    rw [kM,ha,hbe,tJ,eW]
    cases hm:dP pg xs ps with
    | false=>rw [tf hm]; rfl
    | true =>
      rw [Ec hm,Bool.eq_iff_iff]
      simp only [Bool.true_and,Bool.and_eq_true,Bool.not_eq_true',Bool.or_eq_false_iff,decide_eq_true_eq,decide_eq_false_iff_not,Decidable.not_not]
      constructor
      · rintro ⟨a,b,c,d⟩; exact ⟨⟨by simp,by omega,by omega,d⟩,c⟩
      · rintro ⟨⟨_,a,b,d⟩,c⟩; exact ⟨by omega,by omega,c,d⟩
  ·
    have hex: ∃k,k<sg.length∧eL sg k=false∧∀j,j<k→eL sg j=true:=by
      have hne: ∃k,k<sg.length∧eL sg k=false:=by
        refine Classical.byContradiction fun hn=>hall fun j hj=>?_
        cases h:eL sg j with
        | true=>rfl
        | false=>exact absurd ⟨j,hj,h⟩ hn
      obtain ⟨k,hk⟩:=hne
      induction k using Nat.strongRecOn with
      | _ k ih =>
        by_cases hp: ∀j,j<k→eL sg j=true
        · exact ⟨k,hk.1,hk.2,hp⟩
        · have: ∃j,j<k∧eL sg j=false:=by
            refine Classical.byContradiction fun hn=>hp fun j hj=>?_
            cases h:eL sg j with
            | true=>rfl
            | false=>exact absurd ⟨j,hj,h⟩ hn
          obtain ⟨j,hj,hf⟩:=this
          exact ih j hj ⟨by omega,hf⟩
    obtain ⟨k,hk,hf,hp⟩:=hex
    rw [qu hk hf]
    have h1:=hstep k hk hp
    rw [hf] at h1
    have h2:ep (eY en sg k).1 (sg.getD k Sg.zero)=true:=by simpa using h1.symm
    have h3:=lQ (pg:=pg) (xs:=xs) (ps:=ps) hk h2
    rw [imE] at h3
    split at h3
    · cases h3
    · rename_i h4; simpa using h4
theorem AD (r:Rd) (n:Nat):(bU r (n:Int)).1.1.length≤n:=by
  by_cases hf:r.f=0
  · rw [jB hf]
    by_cases h:n>r.s.length-r.at_
    · rw [ns h]; exact Nat.zero_le _
    · rw [ke h]; show (r.rest.take n).length≤n; rw [List.length_take]; omega
  · rw [mZ hf]; exact Nat.zero_le _
theorem Dm (r:Rd):(dn r).1.b.length≤131072:=by
  by_cases hle:(aK (aK (aK r 4).2 1).2 4).1.1≤131072
  · rw [jC hle]
    have h1:=AD (aK (aK (aK r 4).2 1).2 4).2 (aK (aK (aK r 4).2 1).2 4).1.1.toNat
    rw [UInt32.le_iff_toNat_le,show (131072:UInt32).toNat=131072 from rfl] at hle
    exact Nat.le_trans h1 hle
  · rw [ni hle]; exact Nat.zero_le _
theorem qk (r:Rd) {j:Nat}: ∀ {k},j<k→(sgL r k).getD j Sg.zero=(dn (sgD r j)).1
  | 0,h=>by omega
  | k+1,h=>by
    have hl:=kW r k
    rcases Nat.lt_or_ge j k with h1 | h1
    · rw [kD,List.getD,List.getElem?_append_left (by omega)]; exact qk r h1
    · have e:j=k:=by omega
      subst e
      rw [kD,List.getD,List.getElem?_append_right (by omega),hl,Nat.sub_self]; rfl
theorem BQ (s:List UInt8): ∀x∈gS s,x.b.length≤131072:=fun x hx=>by
  obtain ⟨j,hj,rfl⟩:=List.getElem_of_mem hx
  have h1:=qk (g9 s).2 (j:=j) (k:=(g9 s).1.1.toNat) (by rw [lS] at hj; exact hj)
  rw [tB,eU hj] at h1
  rw [h1]; exact Dm _
theorem Hq (s:List UInt8): ∀x∈gS s,x.b.length≤2^30:=fun x hx=>Nat.le_trans (BQ s x hx) (by decide)
theorem Dl {s:List UInt8} {k:Nat} (hk:k<(g9 s).1.1.toNat) (h:¬(aK (aK (aK (sgD (g9 s).2 k) 4).2 1).2 4).1.1≤131072):eX s=true:=by
  cases hb:eX s with
  | true=>rfl
  | false =>
    have hB:=hb
    simp only [eX,Bool.or_eq_false_iff,decide_eq_false_iff_not,Decidable.not_not] at hB
    have hsb:=nF hB.2.2.2 k (by rw [lS]; exact hk)
    simp only [ep,Bool.or_eq_false_iff,decide_eq_false_iff_not] at hsb
    have h1:=qk (g9 s).2 hk
    rw [tB] at h1
    rw [h1,ni h] at hsb
    exact absurd O hsb.2.2.2.1
theorem le (s:List UInt8):decide (imE (g2 s).1.1 (gX s) (gP s) (g8 s).1.1 (gS s)≠0)= !fo (g2 s).1.1 (gX s) (gP s) (g8 s).1.1 (gS s):=by
  rw [uR (fun x hx=>Nat.lt_of_le_of_lt (BQ s x hx) (by decide)),imE]
  cases kM (g2 s).1.1 (gX s) (gP s) (g8 s).1.1 (gS s)<;>rfl
end Go.Spec
namespace Go.Spec
open Go.Owl
section
variable {pg en:UInt32} {xs:List Xt} {ps:List UInt16} {c:Bool} {sg:List Sg}
end
end Go.Spec
namespace Go.Spec
open Go.Owl
def slS (key:List UInt8) (pg:UInt32) (xs:List Xt) (ps:List UInt16) (c:Bool) (en:UInt32) (sg:List Sg):List UInt8 :=
  if imE pg xs ps en sg=0 then imB pg xs ps c en sg++mac key (imB pg xs ps c en sg) else []
theorem Hp {pg en:UInt32} {xs:List Xt} {ps:List UInt16} {sg:List Sg} (h:imE pg xs ps en sg≠0):imE pg xs ps en sg=2:=by
  rw [imE] at h ⊢
  split
  · rename_i h1; rw [if_pos h1] at h; exact absurd O h
  · rfl
theorem Es {pg en:UInt32} {xs:List Xt} {ps:List UInt16} {sg:List Sg} (h:sg.length=0):imE pg xs ps en sg=2:=by
  refine iy ?_
  rw [eW,decide_eq_true (show sg.length<1 by omega)]; simp
def opC (key s:List UInt8):Nat:=if s.length<32 then 7 else if s.drop (s.length-32)≠mac key (s.take (s.length-32)) then 170 else jS (s.take (s.length-32))
def opI (key s:List UInt8):Im:=if s.length<32 then Im.zero else if s.drop (s.length-32)≠mac key (s.take (s.length-32)) then Im.zero else imG (s.take (s.length-32))
theorem lC {key s:List UInt8} (h:s.length<32):opI key s=Im.zero∧opC key s=7:=⟨if_pos h,if_pos h⟩
theorem pH {key s:List UInt8} (h:¬s.length<32) (ht:s.drop (s.length-32)≠mac key (s.take (s.length-32))):opI key s=Im.zero∧opC key s=170:=by
  rw [opI,opC,if_neg h,if_neg h,if_pos ht,if_pos ht]; exact ⟨rfl,rfl⟩
theorem nB {key s:List UInt8} (h:¬s.length<32) (ht:s.drop (s.length-32)=mac key (s.take (s.length-32))):opI key s=imG (s.take (s.length-32))∧opC key s=jS (s.take (s.length-32)):=by
  rw [opI,opC,if_neg h,if_neg h,if_neg (fun hh=>hh ht),if_neg (fun hh=>hh ht)]; exact ⟨rfl,rfl⟩
structure Pg where
  a:UInt32
  b:Nat
  r:Nat
  pm:UInt8
  bs:List UInt8
def Pg.cells (g:Pg):List Value:=[vU8 g.pm]++List.map vU8 g.bs
def Pg.me (g:Pg):ME:=⟨g.a.toNat,g.b,g.r⟩
def pgA (a:UInt32):UInt32:=a / 256 * 256
def inS (a:UInt32) (n:Nat):Prop:=a.toNat+n≤1048576
theorem xo (a:UInt32):(UInt64.ofNat a.toNat).toNat=a.toNat:=by
  rw [UInt64.toNat_ofNat']; have:=a.toNat_lt; omega
theorem vU {a:UInt32} {n i:Nat} (h:inS a n) (hi:i<n):(UInt64.ofNat a.toNat+UInt64.ofNat i).toNat=a.toNat+i:=by
  have h1:a.toNat+n≤1048576:=h
  rw [UInt64.toNat_add,xo,UInt64.toNat_ofNat']
  omega
theorem sX {x:UInt64} (h:x.toNat<1048576):¬x≥1048576:=by
  rw [ge_iff_le,UInt64.le_iff_toNat_le]
  show ¬(1048576:UInt64).toNat≤_
  rw [show (1048576:UInt64).toNat=1048576 from rfl]
  omega
theorem EY {a:UInt32} {n i:Nat} (h:inS a n) (hi:i<n):¬(UInt64.ofNat a.toNat+UInt64.ofNat i)≥1048576 :=
  sX (by have h1:a.toNat+n≤1048576:=h; rw [vU h hi]; omega)
theorem Gg {a:UInt32} {n i:Nat} (h:inS a n) (hi:i<n):UInt32.ofNat (UInt64.ofNat a.toNat+UInt64.ofNat i).toNat=a+UInt32.ofNat i:=by
  have h1:a.toNat+n≤1048576:=h
  apply UInt32.toNat_inj.1
  rw [UInt32.toNat_ofNat',vU h hi,UInt32.toNat_add,UInt32.toNat_ofNat']
  omega
theorem fU {a:UInt32} {n i:Nat} (h:inS a n) (hi:i<n):(a+UInt32.ofNat i).toNat=a.toNat+i:=by
  have h1:a.toNat+n≤1048576:=h
  rw [UInt32.toNat_add,UInt32.toNat_ofNat']; omega
theorem pT (a:UInt32):UInt32.ofNat (UInt64.ofNat a.toNat).toNat=a:=by
  rw [xo]; exact UInt32.ofNat_toNat
theorem rK {a:UInt32} {n i:Nat} (h:inS a n) (hi:i<n):¬UInt64.ofNat (a+UInt32.ofNat i).toNat≥1048576 :=
  sX (by have h1:a.toNat+n≤1048576:=h; rw [xo,fU h hi]; omega)
theorem iW (a:UInt32):(pgA a).toNat=a.toNat / 256 * 256:=by
  rw [pgA,UInt32.toNat_mul,UInt32.toNat_div]
  show a.toNat / 256 * 256%4294967296=_
  have:=a.toNat_lt
  omega
theorem oA (a:UInt32):(a%256).toNat=a.toNat%256:=by rw [UInt32.toNat_mod]; rfl
theorem xE {a:UInt32} {i:Nat} (h:a.toNat%256=0) (hs:inS a 256) (hi:i<256):pgA (a+UInt32.ofNat i)=a:=by
  apply UInt32.toNat_inj.1
  rw [iW,fU hs hi]
  omega
theorem ta {a:UInt32} {i:Nat} (h:a.toNat%256=0) (hs:inS a 256) (hi:i<256):((a+UInt32.ofNat i)%256).toNat=i:=by
  rw [oA,fU hs hi]; omega
def Pg.put (a:UInt32) (x:UInt8) (g:Pg):Pg:=if g.a=pgA a then { g with bs:=g.bs.set (a%256).toNat x } else g
theorem Pg.put_me (a:UInt32) (x:UInt8) (g:Pg):(g.put a x).me=g.me:=by
  rw [Pg.put]; split<;>rfl
theorem Pg.put_a (a:UInt32) (x:UInt8) (g:Pg):(g.put a x).a=g.a:=by
  rw [Pg.put]; split<;>rfl
theorem Pg.put_len (a:UInt32) (x:UInt8) (g:Pg):(g.put a x).bs.length=g.bs.length:=by
  rw [Pg.put]; split
  · exact List.length_set
  · rfl
def fp (l:List Pg) (a:UInt32) (s:List UInt8):Nat→List Pg
  | 0=>l
  | k+1=>(fp l a s k).map (Pg.put (a+UInt32.ofNat k) (s.getD k 0))
theorem lc (l:List Pg) (a:UInt32) (s:List UInt8): ∀k,(fp l a s k).map Pg.me=l.map Pg.me
  | 0=>rfl
  | k+1=>by
    rw [fp,List.map_map,←lc l a s k]
    exact List.map_congr_left fun g _=>Pg.put_me _ _ g
theorem sN (l:List Pg) (a:UInt32) (s:List UInt8): ∀k,(fp l a s k).map Pg.a=l.map Pg.a
  | 0=>rfl
  | k+1=>by
    rw [fp,List.map_map,←sN l a s k]
    exact List.map_congr_left fun g _=>Pg.put_a _ _ g
theorem sM {l:List Pg} {a:UInt32} {s:List UInt8} (h: ∀g∈l,g.bs.length=256): ∀k, ∀g∈fp l a s k,g.bs.length=256
  | 0=>h
  | k+1=>fun g hg=>by
    rw [fp] at hg
    obtain ⟨x,hx,rfl⟩:=List.mem_map.1 hg
    rw [Pg.put_len]; exact sM h k x hx
theorem Bb {l:List Pg} {a:UInt32} {s:List UInt8} {k:Nat} {p:UInt32} (h: ∃g∈l,g.a=p): ∃g∈fp l a s k,g.a=p:=by
  obtain ⟨g,hg,rfl⟩:=h
  have:g.a∈(fp l a s k).map Pg.a:=by rw [sN]; exact List.mem_map.2 ⟨g,hg,rfl⟩
  obtain ⟨x,hx,e⟩:=List.mem_map.1 this
  exact ⟨x,hx,e⟩
theorem FQ {l:List Pg} (h:(List.map ME.k (List.map Pg.me l)).Nodup):(l.map Pg.a).Nodup:=by
  rw [List.map_map] at h
  have e:List.map (ME.k ∘ Pg.me) l=List.map UInt32.toNat (l.map Pg.a):=by rw [List.map_map]; rfl
  rw [e] at h
  exact (List.pairwise_map.1 h).imp fun hn e=>hn (congrArg _ e)
theorem Be {l1 l2:List Pg} {g:Pg} {a:UInt32} {x:UInt8} (h:((l1++g::l2).map Pg.a).Nodup) (hg:g.a=pgA a) :
    (l1++g::l2).map (Pg.put a x)=l1++ { g with bs:=g.bs.set (a%256).toNat x }::l2:=by
  have h0: ∀y∈l1++l2,y.put a x=y:=fun y hy=>by
    rw [Pg.put,if_neg]
    intro e
    have h2:g.a ∉ (l1++l2).map Pg.a:=by
      rw [List.map_append,List.map_cons] at h
      have:=(List.perm_middle.nodup_iff.1 h)
      rw [List.nodup_cons] at this
      rw [List.map_append]; exact this.1
    exact h2 (List.mem_map.2 ⟨y,hy,by rw [e,hg]⟩)
  rw [List.map_append,List.map_cons]
  congr 1
  · exact (List.map_congr_left fun y hy=>h0 y (List.mem_append.2 (.inl hy))).trans (List.map_id _)
  · congr 1
    · rw [Pg.put,if_pos hg]
    · exact (List.map_congr_left fun y hy=>h0 y (List.mem_append.2 (.inr hy))).trans (List.map_id _)
abbrev Pb:=UInt32 × UInt8 × List UInt8
def Pg.bare (g:Pg):Pb:=(g.a,g.pm,g.bs)
structure SpR (ps:List Pg) (c:Nat) (l:List Pb):Prop where
  me:MEok (List.map Pg.me ps) c
  bare:ps.map Pg.bare=l
theorem sQ {a:UInt32} (h:a.toNat%256=0):a=pgA a:=UInt32.toNat_inj.1 (by rw [iW]; omega)
theorem Ci {a:UInt32} (h:inS a 256):¬UInt64.ofNat a.toNat≥1048576 :=
  sX (by have h1:a.toNat+256≤1048576:=h; rw [xo]; omega)
theorem Af {r l:List UInt8} {k m:Nat} {n:Nat} (hr:r.length=n) (hk:k<n) (hj: ∀j,j<k→r.getD j 0=l.getD j 0) (hm:m=k): ∀j,j<k+1→(r.set k (l.getD m 0)).getD j 0=l.getD j 0:=fun j h=>by
  subst hm
  rcases Nat.lt_or_ge j m with h1 | h1
  · rw [←hj j h1,List.getD_eq_getElem?_getD,List.getElem?_set_ne (by omega),List.getD_eq_getElem?_getD]
  · rw [show j=m by omega,List.getD_eq_getElem?_getD,List.getElem?_set_self (by omega)]; rfl
theorem mQ {r l:List UInt8} {n:Nat} (hr:r.length=n) (hl:l.length=n) (h: ∀j,j<n→r.getD j 0=l.getD j 0):r=l :=
  List.ext_getElem (by omega) fun i h1 h2=>by
    have:=h i (by omega)
    rw [List.getD_eq_getElem?_getD,List.getD_eq_getElem?_getD,List.getElem?_eq_getElem h1,List.getElem?_eq_getElem h2] at this
    exact this
def th (a:UInt32):Bool:=decide (a%256=0)&& !(decide (a≥1048576))
def kF (s:List UInt8) (j:Nat):List UInt8:=(List.range 256).map fun i=>s.getD (256 * j+i) 0
theorem mC (s:List UInt8) (j:Nat):(kF s j).length=256:=by rw [kF,List.length_map,List.length_range]
theorem rb (s:List UInt8) (j:Nat) {i:Nat} (h:i<256):(kF s j).getD i 0=s.getD (256 * j+i) 0:=by
  rw [kF,List.getD_eq_getElem?_getD,List.getElem?_map,List.getElem?_range h]; rfl
def gC (x:Sg):Nat→List Pb
  | 0=>[]
  | k+1=>gC x k++[(x.a+UInt32.ofNat (256 * k),x.p,kF x.b k)]
def iD (x:Sg):Nat→List Pb
  | 0=>[]
  | k+1=>iD x k++[(x.a+UInt32.ofNat (256 * k),x.p,List.replicate 256 0)]
def dD (sg:List Sg):Nat→List Pb
  | 0=>[]
  | k+1=>dD sg k++gC (sg.getD k Sg.zero) (pgN (sg.getD k Sg.zero))
structure SgOK (x:Sg):Prop where
  al:x.a.toNat%256=0
  pm:kg x.p=true
  ne:x.b≠[]
  en:x.a.toNat+x.b.length≤131072
theorem SgOK.pm7 {x:Sg} (h:SgOK x):¬x.p>7:=by
  have h1:=h.pm
  rw [kg] at h1
  simp only [List.any_cons,List.any_nil,Bool.or_false,Bool.or_eq_true,rT,decide_eq_true_eq] at h1
  intro h2
  rcases h1 with e | e | e<;> · rw [e] at h2; revert h2; decide
theorem SgOK.inS {x:Sg} (h:SgOK x):inS x.a x.b.length:=Nat.le_trans h.en (by decide)
theorem SgOK.at {x:Sg} (h:SgOK x) {k:Nat} (hk:256 * k<x.b.length):(x.a+UInt32.ofNat (256 * k)).toNat=x.a.toNat+256 * k:=by
  have:=h.en
  rw [UInt32.toNat_add,UInt32.toNat_ofNat']; omega
theorem SgOK.atN {x:Sg} (_h:SgOK x) {k:Nat} (hk:k<pgN x):256 * k<x.b.length:=by
  rw [pgN] at hk; omega
theorem SgOK.page {x:Sg} (h:SgOK x) {k:Nat} (hk:256 * k<x.b.length):Go.Spec.inS (x.a+UInt32.ofNat (256 * k)) 256:=by
  have:=h.en
  show (x.a+UInt32.ofNat (256 * k)).toNat+256≤1048576
  rw [h.at hk]; omega
theorem SgOK.al_at {x:Sg} (h:SgOK x) {k:Nat} (hk:256 * k<x.b.length):(x.a+UInt32.ofNat (256 * k)).toNat%256=0:=by
  have:=h.al
  rw [h.at hk]; omega
theorem Ed {a:UInt32} (h:a.toNat%256=0) (hs:Go.Spec.inS a 256):th a=true:=by
  have h1:a.toNat+256≤1048576:=hs
  rw [th,decide_eq_true (UInt32.toNat_inj.1 (by rw [oA]; exact h)),decide_eq_false]
  · rfl
  · rw [ge_iff_le,UInt32.le_iff_toNat_le,show (1048576:UInt32).toNat=1048576 from rfl]; omega
theorem mt {x:Sg}: ∀ {k:Nat} {p:Pb},p∈iD x k→∃j,j<k∧p=(x.a+UInt32.ofNat (256 * j),x.p,List.replicate 256 0)
  | 0,p,h=>by cases h
  | k+1,p,h=>by
    rw [iD] at h
    rcases List.mem_append.1 h with h | h
    · obtain ⟨j,hj,e⟩:=mt h; exact ⟨j,by omega,e⟩
    · rw [List.mem_singleton] at h; exact ⟨k,by omega,h⟩
theorem qI {x:Sg}: ∀ {k j:Nat},j<k→(x.a+UInt32.ofNat (256 * j),x.p,List.replicate 256 0)∈iD x k
  | k+1,j,h=>by
    rw [iD]
    rcases Nat.lt_or_ge j k with h1 | h1
    · exact List.mem_append.2 (.inl (qI h1))
    · rw [show j=k by omega]; exact List.mem_append.2 (.inr (List.mem_singleton.2 O))
theorem lq {x:Sg}: ∀ {k:Nat} {p:Pb},p∈gC x k→∃j,j<k∧p=(x.a+UInt32.ofNat (256 * j),x.p,kF x.b j)
  | 0,p,h=>by cases h
  | k+1,p,h=>by
    rw [gC] at h
    rcases List.mem_append.1 h with h | h
    · obtain ⟨j,hj,e⟩:=lq h; exact ⟨j,by omega,e⟩
    · rw [List.mem_singleton] at h; exact ⟨k,by omega,h⟩
def Pg.puts (g:Pg) (a:UInt32) (s:List UInt8):Nat→Pg
  | 0=>g
  | k+1=>(g.puts a s k).put (a+UInt32.ofNat k) (s.getD k 0)
theorem sL (l:List Pg) (a:UInt32) (s:List UInt8): ∀k,fp l a s k=l.map fun g=>g.puts a s k
  | 0=>(List.map_id _).symm
  | k+1=>by rw [fp,sL l a s k,List.map_map]; rfl
theorem sE {g:Pg} {a:UInt32} {s:List UInt8}: ∀k,(∀i,i<k→g.a≠pgA (a+UInt32.ofNat i))→g.puts a s k=g
  | 0,_=>rfl
  | k+1,h=>by
    rw [Pg.puts,sE k fun i hi=>h i (by omega),Pg.put,if_neg (h k (by omega))]
theorem uT {g:Pg} {a:UInt32} {s:List UInt8} {n j:Nat} (ha:a.toNat%256=0) (hin:inS a n) (hg:g.a.toNat=a.toNat+256 * j) (hb:g.bs=List.replicate 256 0) :
    ∀k,k≤n→(g.puts a s k).a=g.a∧(g.puts a s k).pm=g.pm∧(g.puts a s k).bs.length=256∧∀i,i<256→(g.puts a s k).bs.getD i 0=if 256 * j+i<k then s.getD (256 * j+i) 0 else 0
  | 0,_=>⟨rfl,rfl,by rw [Pg.puts,hb,List.length_replicate],fun i hi=>by
      rw [Pg.puts,hb,if_neg (by omega),List.getD_eq_getElem?_getD,List.getElem?_replicate,if_pos hi]; rfl⟩
  | k+1,hk=>by
    obtain ⟨h1,h2,h3,h4⟩:=uT ha hin hg hb k (by omega)
    rw [Pg.puts,Pg.put]
    have e1:=iW (a+UInt32.ofNat k)
    have e2:=oA (a+UInt32.ofNat k)
    rw [fU hin (show k<n by omega)] at e1 e2
    by_cases hc:(g.puts a s k).a=pgA (a+UInt32.ofNat k)
    · rw [if_pos hc]
      refine ⟨h1,h2,by rw [List.length_set]; exact h3,fun i hi=>?_⟩
      have e3:a.toNat+256 * j=(a.toNat+k) / 256 * 256:=by rw [←e1,←hc,h1,hg]
      show ((g.puts a s k).bs.set _ _).getD i 0=_
      rw [e2]
      by_cases hi2:i=(a.toNat+k)%256
      · rw [if_pos (by omega),←hi2,List.getD_eq_getElem?_getD,List.getElem?_set_self (by omega),show 256 * j+i=k by omega]; rfl
      · rw [List.getD_eq_getElem?_getD,List.getElem?_set_ne (by omega),←List.getD_eq_getElem?_getD,h4 i hi]
        by_cases h5:256 * j+i<k
        · rw [if_pos h5,if_pos (by omega)]
        · rw [if_neg h5,if_neg (by omega)]
    · rw [if_neg hc]
      refine ⟨h1,h2,h3,fun i hi=>?_⟩
      have e3:a.toNat+256 * j≠(a.toNat+k) / 256 * 256:=fun e=>hc (UInt32.toNat_inj.1 (by rw [h1,hg,e1,e]))
      rw [h4 i hi]
      by_cases h5:256 * j+i<k
      · rw [if_pos h5,if_pos (by omega)]
      · rw [if_neg h5,if_neg (by omega)]
theorem zl {g:Pg} {x:Sg} {j:Nat} (h:SgOK x) (hj:256 * j<x.b.length) (hg:g.bare=(x.a+UInt32.ofNat (256 * j),x.p,List.replicate 256 0)) :
    (g.puts x.a x.b x.b.length).bare=(x.a+UInt32.ofNat (256 * j),x.p,kF x.b j):=by
  have ga:g.a=_:=congrArg (·.1) hg
  have gp:g.pm=_:=congrArg (·.2.1) hg
  have gb:g.bs=_:=congrArg (·.2.2) hg
  obtain ⟨h1,h2,h3,h4⟩:=uT (s:=x.b) h.al h.inS (by rw [ga]; exact h.at hj) gb x.b.length (Nat.le_refl _)
  rw [Pg.bare,h1,h2,ga,gp,mQ h3 (mC x.b j) fun i hi=>by
    rw [h4 i hi,rb x.b j hi]
    by_cases h5:256 * j+i<x.b.length
    · rw [if_pos h5]
    · rw [if_neg h5,List.getD_eq_getElem?_getD,List.getElem?_eq_none (by omega)]; rfl]
theorem rD {x:Sg} (h:SgOK x): ∀(n:Nat) (qs:List Pg),n≤pgN x→qs.map Pg.bare=iD x n→(qs.map fun g=>g.puts x.a x.b x.b.length).map Pg.bare=gC x n
  | 0,qs,_,e=>by
    have:qs=[]:=List.map_eq_nil_iff.1 e
    subst this; rfl
  | n+1,qs,hn,e=>by
    rw [iD] at e
    obtain ⟨q1,q2,rfl,e1,e2⟩:=List.map_eq_append_iff.1 e
    obtain ⟨g,rfl,e3⟩:=List.map_eq_singleton_iff.1 e2
    rw [List.map_append,List.map_append,rD h n q1 (by omega) e1,gC]
    congr 1
    show [(g.puts x.a x.b x.b.length).bare]=_
    rw [zl h (h.atN (show n<pgN x by omega)) e3]
theorem AN {x:Sg} {ps qs:List Pg} (h:SgOK x) (hlow: ∀g∈ps,g.a.toNat+256≤x.a.toNat) (e:qs.map Pg.bare=iD x (pgN x)) :
    (fp (ps++qs) x.a x.b x.b.length).map Pg.bare=ps.map Pg.bare++gC x (pgN x):=by
  rw [sL,List.map_append,List.map_append,rD h _ qs (Nat.le_refl _) e]
  congr 1
  rw [List.map_map]
  refine List.map_congr_left fun g hg=>?_
  show (g.puts x.a x.b x.b.length).bare=g.bare
  rw [sE _ fun i hi=>?_]
  intro e
  have h1:=hlow g hg
  have h2:=h.al
  rw [e,iW,fU h.inS hi] at h1
  omega
theorem Dk {x:Sg} {ps qs:List Pg} (h:SgOK x) (e:qs.map Pg.bare=iD x (pgN x)) {k:Nat} (hk:k<x.b.length): ∃g∈ps++qs,g.a=pgA (x.a+UInt32.ofNat k):=by
  have hj:k / 256<pgN x:=by rw [pgN]; omega
  have h1:=qI (x:=x) hj
  rw [←e] at h1
  obtain ⟨g,hg,eg⟩:=List.mem_map.1 h1
  refine ⟨g,List.mem_append.2 (.inr hg),?_⟩
  have ga:g.a=_:=congrArg (·.1) eg
  apply UInt32.toNat_inj.1
  have:=h.al
  rw [ga,h.at (by omega),iW,fU h.inS hk]
  omega
theorem uK {x:Sg} {ps qs:List Pg} {k:Nat} (h:SgOK x) (hlow: ∀g∈ps,g.a.toNat+256≤x.a.toNat) (e:qs.map Pg.bare=iD x k) (hk:256 * k<x.b.length): ∀g∈ps++qs,g.a≠x.a+UInt32.ofNat (256 * k):=by
  intro g hg eg
  have h1:=h.at hk
  rw [←eg] at h1
  rcases List.mem_append.1 hg with hg | hg
  · have:=hlow g hg; omega
  · have h2:g.bare∈qs.map Pg.bare:=List.mem_map.2 ⟨g,hg,rfl⟩
    rw [e] at h2
    obtain ⟨j,hj,eb⟩:=mt h2
    have h3:g.a=_:=congrArg (·.1) eb
    rw [h3,h.at (by omega)] at h1
    omega
theorem zq {ps qs:List Pg} {x:Sg} {k:Nat} (h: ∀g∈ps,g.bs.length=256) (e:qs.map Pg.bare=iD x k): ∀g∈ps++qs,g.bs.length=256:=fun g hg=>by
  rcases List.mem_append.1 hg with hg | hg
  · exact h g hg
  · have h2:g.bare∈qs.map Pg.bare:=List.mem_map.2 ⟨g,hg,rfl⟩
    rw [e] at h2
    obtain ⟨j,hj,eb⟩:=mt h2
    have h3:g.bs=_:=congrArg (·.2.2) eb
    rw [h3,List.length_replicate]
theorem pa {ps:List Pg} {l:List Pb} {q:Pb→Prop} (e:ps.map Pg.bare=l) (h: ∀p∈l,q p): ∀g∈ps,q g.bare:=fun g hg=>h _ (by rw [←e]; exact List.mem_map.2 ⟨g,hg,rfl⟩)
end Go.Spec
namespace Go.Spec
open Go.Owl
section
variable {pg en:UInt32} {xs:List Xt} {ps:List UInt16} {sg:List Sg}
theorem ol {x:Sg} (h:x.b.length≤2^47):(fv x).toNat=x.a.toNat+x.b.length:=by
  have:=x.a.toNat_lt
  rw [fv,UInt64.toNat_add,UInt64.toNat_ofNat',UInt64.toNat_ofNat']
  omega
theorem Hh {fr:UInt64} {x:Sg} (hb:x.b.length≤2^47) (h:ep fr x=false):SgOK x∧fr.toNat≤x.a.toNat:=by
  rw [ep,Bool.or_eq_false_iff,Bool.or_eq_false_iff,Bool.or_eq_false_iff,Bool.or_eq_false_iff] at h
  obtain ⟨h1,h2,h3,h4,h5⟩:=h
  have h2:=of_decide_eq_false h2
  have h3:=of_decide_eq_false h3
  have h5:=of_decide_eq_false h5
  refine ⟨⟨?_,by simpa using h1,of_decide_eq_false h4,?_⟩,?_⟩
  · rw [←oA,Classical.not_not.1 h2]; rfl
  · rw [gt_iff_lt,UInt64.lt_iff_toNat_lt,ol hb,show (131072:UInt64).toNat=131072 from rfl] at h5; omega
  · rw [UInt64.lt_iff_toNat_lt,UInt64.toNat_ofNat'] at h3
    have:=x.a.toNat_lt
    omega
theorem nd {x:Sg} (h:SgOK x):(nf x).toNat=(x.a.toNat+x.b.length+255) / 256 * 256:=by
  have h1:=h.en
  have e:(fv x+256-1).toNat=x.a.toNat+x.b.length+255:=by
    have h2:=ol (x:=x) (by omega)
    rw [UInt64.toNat_sub_of_le,UInt64.toNat_add,h2,show (256:UInt64).toNat=256 from rfl,show (1:UInt64).toNat=1 from rfl]
    · omega
    · rw [UInt64.le_iff_toNat_le,UInt64.toNat_add,h2,show (256:UInt64).toNat=256 from rfl,show (1:UInt64).toNat=1 from rfl]; omega
  rw [nf,UInt64.toNat_mul,UInt64.toNat_div,e,show (256:UInt64).toNat=256 from rfl]
  omega
variable (h:imE pg xs ps en sg=0) (hB: ∀x∈sg,x.b.length≤2^47)
include h hB
theorem lP {k:Nat} (hk:k<sg.length):SgOK (sg.getD k Sg.zero)∧(eY en sg k).1.toNat≤(sg.getD k Sg.zero).a.toNat :=
  Hh (hB _ (by rw [List.getD_eq_getElem?_getD,List.getElem?_eq_getElem hk]; exact List.getElem_mem hk)) (nF h k hk)
theorem ix: ∀k,k≤sg.length→∀p∈dD sg k,p.1.toNat+256≤(eY en sg k).1.toNat∧p.1.toNat%256=0∧p.2.2.length=256
  | 0,_,p,hp=>by cases hp
  | k+1,hk,p,hp=>by
    obtain ⟨h1,h2⟩:=lP h hB (show k<sg.length by omega)
    have h3:(eY en sg (k+1)).1.toNat=_:=nd h1
    rw [h3]
    rw [dD] at hp
    rcases List.mem_append.1 hp with hp | hp
    · obtain ⟨a1,a2,a3⟩:=ix k (by omega) p hp
      refine ⟨?_,a2,a3⟩
      have:=h1.al
      omega
    · obtain ⟨j,hj,rfl⟩:=lq hp
      have hj2:=h1.atN hj
      refine ⟨?_,h1.al_at hj2,mC _ _⟩
      have:=h1.al
      show ((sg.getD k Sg.zero).a+UInt32.ofNat (256 * j)).toNat+256≤_
      rw [h1.at hj2]
      omega
theorem zT {k:Nat} (hk:k≤sg.length): ∀p∈dD sg k,inS p.1 256:=fun p hp=>by
  have h1:=(ix h hB k hk p hp).1
  match k,hk with
  | 0,_=>cases hp
  | k+1,hk =>
    obtain ⟨h2,h3⟩:=lP h hB (show k<sg.length by omega)
    rw [show (eY en sg (k+1)).1.toNat=_ from nd h2] at h1
    have:=h2.en
    show p.1.toNat+256≤1048576
    omega
end
end Go.Spec
namespace Go.Spec
open Go.Owl
def bO (a b:UInt32):Bool:=decide (a<b)
theorem cX:LtOK bO:=by
  have h: ∀a b:UInt32,bO a b=decide (a.toNat<b.toNat):=fun a b=>decide_eq_decide.2 UInt32.lt_iff_toNat_lt
  refine ⟨fun a=>?_,fun a b h1=>?_,fun a b c h1 h2=>?_⟩
  · rw [h]; exact decide_eq_false (by omega)
  · rw [h] at h1 ⊢; have:=of_decide_eq_true h1; exact decide_eq_false (by omega)
  · rw [h] at h1 h2 ⊢; have:=of_decide_eq_false h1; have:=of_decide_eq_false h2; exact decide_eq_false (by omega)
theorem xq {α:Type} {d:α} {l:List α} {i j:Nat} (hi:i<l.length) (hj:j<l.length):(cY d l i j).Perm l:=by
  have h:=List.set_set_perm hi hj
  rw [cY,show l.getD j d=l[j] by simp [List.getD,hj],show l.getD i d=l[i] by simp [List.getD,hi]]
  exact h
theorem Sw.perm {α:Type} {d:α} {a b:Nat} {l l':List α} (h:Sw d a b l l') (hb:b≤l.length):l'.Perm l:=by
  induction h with
  | refl=>exact List.Perm.refl _
  | step h h1 h2 h3 h4 ih =>
    have e:=h.len
    exact (xq (by omega) (by omega)).trans ih
theorem SortS.pair {α:Type} {d:α} {lt:α→α→Bool} {l:List α} (h:SortS lt d 0 l.length l):l.Pairwise (fun x y=>lt y x=false):=by
  rw [List.pairwise_iff_getElem]
  intro i j hi hj hij
  have:=h i j (Nat.zero_le _) hij hj
  simpa [List.getD,hi,hj] using this
def ME.ku (e:ME):UInt32:=UInt32.ofNat e.k
def kc:List UInt8:=(List.range 256).map (fun n=>UInt8.ofNat (eF n))
theorem AE:kc.length=256:=by simp [kc]
theorem AF {n:Nat} (h:n<256):(kc.getD n 0).toNat=eF n:=by
  have h1:eF n≤8:=qy (k:=8) h
  simp only [kc,List.getD,List.getElem?_map,List.getElem?_range h,Option.map_some,Option.getD_some,UInt8.toNat_ofNat']
  omega
theorem wk (x:UInt64) {k:Nat}:(dN x k).toNat=x.toNat / 2^k:=by
  have:=x.toNat_lt
  rw [dN,UInt64.toNat_ofNat',Nat.shiftRight_eq_div_pow]
  exact Nat.mod_eq_of_lt (Nat.lt_of_le_of_lt (Nat.div_le_self _ _) this)
theorem gz {x x1 x2 x3:UInt64} {n1 n2 n3:Nat} (h1:(4294967296≤x.toNat∧x1=dN x 32∧n1=32)∨(x.toNat<4294967296∧x1=x∧n1=0)) (h2:(65536≤x1.toNat∧x2=dN x1 16∧n2=n1+16)∨(x1.toNat<65536∧x2=x1∧n2=n1))
    (h3:(256≤x2.toNat∧x3=dN x2 8∧n3=n2+8)∨(x2.toNat<256∧x3=x2∧n3=n2)):n3+(kc.getD (UInt8.ofNat x3.toNat).toNat 0).toNat=eF x.toNat:=by
  have hx:=x.toNat_lt
  have a1:x1.toNat<4294967296∧eF x.toNat=n1+eF x1.toNat:=by
    rcases h1 with ⟨h,rfl,rfl⟩ | ⟨h,rfl,rfl⟩
    · rw [wk]
      have:=lL (n:=x.toNat) (k:=32) h
      exact ⟨by omega,by omega⟩
    · exact ⟨h,by omega⟩
  have a2:x2.toNat<65536∧eF x1.toNat+n1=n2+eF x2.toNat:=by
    rcases h2 with ⟨h,rfl,rfl⟩ | ⟨h,rfl,rfl⟩
    · rw [wk]
      have:=lL (n:=x1.toNat) (k:=16) h
      exact ⟨by omega,by omega⟩
    · exact ⟨h,by omega⟩
  have a3:x3.toNat<256∧eF x2.toNat+n2=n3+eF x3.toNat:=by
    rcases h3 with ⟨h,rfl,rfl⟩ | ⟨h,rfl,rfl⟩
    · rw [wk]
      have:=lL (n:=x2.toNat) (k:=8) h
      exact ⟨by omega,by omega⟩
    · exact ⟨h,by omega⟩
  rw [show (UInt8.ofNat x3.toNat).toNat=x3.toNat by rw [UInt8.toNat_ofNat']; omega,AF a3.1]
  omega
theorem go (c:UInt8) {k:Nat} (h:k≤56):k+c.toNat≤9223372036854775807:=by have:=c.toNat_lt; omega
theorem io (c:UInt8):c.toNat<kc.length:=by rw [AE]; exact c.toNat_lt
end Go.Spec
namespace Go.Spec
open Go.Owl
section
variable {ps qs sn rs:List Pg} {g:Pg} {c c2:Nat}
theorem zp (h:qs.map Pg.bare=sn.map Pg.bare) {x:Pg} (hx:x∈qs): ∃s∈sn,s.bare=x.bare:=by
  have:x.bare∈sn.map Pg.bare:=by rw [←h]; exact List.mem_map.2 ⟨x,hx,rfl⟩
  obtain ⟨s,hs,e⟩:=List.mem_map.1 this
  exact ⟨s,hs,e⟩
theorem qX (hI:MEok (ps.map Pg.me) c) (hp:ps.Perm ((sn++[g])++rs)) (h:qs.map Pg.bare=sn.map Pg.bare) {x:ME} (hx:x∈qs.map Pg.me) (hk:x.k=g.a.toNat):False:=by
  obtain ⟨y,hy,rfl⟩:=List.mem_map.1 hx
  obtain ⟨s,hs,e⟩:=zp h hy
  have h1:=(hp.map Pg.a).nodup_iff.1 (FQ hI.kn)
  rw [List.append_assoc,List.map_append,List.singleton_append,List.map_cons] at h1
  have h1:=List.perm_middle.nodup_iff.1 h1
  rw [List.nodup_cons] at h1
  have h2:s.a=g.a:=(show s.a=y.a from congrArg (·.1) e).trans (UInt32.toNat_inj.1 hk)
  exact h1.1 (List.mem_append.2 (.inl (List.mem_map.2 ⟨s,hs,h2⟩)))
theorem zo {b:Nat} (hI:MEok (ps.map Pg.me) c) (hp:ps.Perm ((sn++[g])++rs)) (h:qs.map Pg.bare=sn.map Pg.bare) (hm:MEok (qs.map Pg.me) c2):MEok ((qs++[Pg.mk g.a b c2 g.pm g.bs]).map Pg.me) (c2+1):=by
  rw [List.map_append]
  exact hm.add (fun x hx hk=>qX hI hp h hx hk)
theorem wx {b:Nat} (h:qs.map Pg.bare=sn.map Pg.bare):(qs++[Pg.mk g.a b c2 g.pm g.bs]).map Pg.bare=(sn++[g]).map Pg.bare:=by
  rw [List.map_append,List.map_append,h]; rfl
end
theorem HQ (ps:List Pg): ∀e∈List.map Pg.me ps,e.k<2^32:=fun e he=>by
  obtain ⟨g,hg,rfl⟩:=List.mem_map.1 he
  exact g.a.toNat_lt
theorem Hk (ps:List Pg):List.map (ME.ku ∘ Pg.me) ps=List.map Pg.a ps :=
  List.map_congr_left fun g _=>by
    show UInt32.ofNat g.a.toNat=g.a
    exact UInt32.ofNat_toNat
theorem Ab {z:List Value} {pm:UInt8} {bs:List UInt8} (hz:z.length=257) (hl:bs.length=256):kO ([(0,1),(1,256)][·]?) z [(0,vU8 pm),(1,.agg (List.map vU8 bs).toArray)]=some ([vU8 pm]++List.map vU8 bs):=by
  have e1:Value.cells (vU8 pm)=#[vU8 pm]:=rfl
  have e2:Value.cells (.agg (List.map vU8 bs).toArray)=(List.map vU8 bs).toArray:=rfl
  have h1:(z.drop 1).length=256:=by rw [List.length_drop,hz]
  simp [kO,e1,e2,hl,hz]
theorem zN {l:List UInt32} (h:l.Pairwise (fun x y=>x<y)):l.Pairwise (fun x y=>bO y x=false) :=
  h.imp fun {a b} h1=>decide_eq_false (fun h2=>by rw [UInt32.lt_iff_toNat_lt] at h1 h2; omega)
theorem og {α:Type} {lt:α→α→Bool} (tri: ∀a b,lt a b=false→lt b a=false→a=b): ∀ {l1 l2:List α},l1.Perm l2→l1.Pairwise (fun x y=>lt y x=false)→l2.Pairwise (fun x y=>lt y x=false)→l1=l2
  | [],l2,hp,_,_=>(List.nil_perm.1 hp).symm
  | a::l1,[],hp,_,_=>by have:=hp.length_eq; simp at this
  | a::l1,b::l2,hp,h1,h2=>by
    have e:a=b:=by
      have ha:a∈b::l2:=hp.mem_iff.1 (List.mem_cons_self ..)
      have hb:b∈a::l1:=hp.mem_iff.2 (List.mem_cons_self ..)
      rcases List.mem_cons.1 ha with e | ha
      · exact e
      rcases List.mem_cons.1 hb with e | hb
      · exact e.symm
      exact tri a b ((List.pairwise_cons.1 h2).1 a ha) ((List.pairwise_cons.1 h1).1 b hb) |>.symm ▸ rfl
    subst e
    rw [og tri hp.cons_inv (List.pairwise_cons.1 h1).2 (List.pairwise_cons.1 h2).2]
end Go.Spec
namespace Go.Owl
section
variable {S:List Nat} {w0 w:World} {L:List Ent} {i b:Nat} {kk:IntKind} {l:List ME} {c:Nat}
theorem Own.mpFreeze (H:Owl.Own S w0 w L) (hi:L[i]?=some (Ent.obj b (mP kk l c))):Owl.Own S w0 w (L.set i (Ent.mo kk b l c)) :=
  H.upd' hi (Fr.refl [] w) (fun b hb=>by cases hb) (H.mp hi) (fun b hb=>by cases hb) (fun b' hb=>.inl hb)
end
def Deep.bo:Deep (Nat × List Value) where
  ok:=fun w p=>cellsAt w p.1 p.2
  ft:=fun p=>if p.2.isEmpty then [] else [p.1]
  lt:=fun w p=>(cellsAt.stable p.1 p.2).lt w
  fr:=fun T w w' p hf hT h=>(cellsAt.stable p.1 p.2).fr T w w' hf hT h
def Deep.mo (kk:IntKind):Deep (Nat × List ME × Nat) where
  ok:=fun w p=>w.heap[p.1]?=some (mP kk p.2.1 p.2.2)
  ft:=fun p=>[p.1]
  lt:=fun w p=>(mP.st kk p.1 p.2.1 p.2.2).lt w
  fr:=fun T w w' p hf hT h=>(mP.st kk p.1 p.2.1 p.2.2).fr T w w' hf hT h
def Deep.bs {α:Type} (t:TypeId) (f:α→List Value) (bl:α→Nat):Deep (List α) where
  ok:=fun w l=>BsOK t f bl l w
  ft:=fun l=>l.map bl
  lt:=fun w l=>(BsOK.st t f bl l).lt w
  fr:=fun T w w' l hf hT h=>(BsOK.st t f bl l).fr T w w' hf hT h
def Deep.opt {α:Type} (D:Deep α):Deep (Option α) where
  ok:=fun w o=>match o with
    | none=>True
    | some a=>D.ok w a
  ft:=fun o=>match o with
    | none=>[]
    | some a=>D.ft a
  lt:=fun w o h=>match o,h with
    | none,_=>fun b hb=>by cases hb
    | some a,h=>D.lt w a h
  fr:=fun T w w' o hf hT h=>match o,hT,h with
    | none,_,_=>True.intro
    | some a,hT,h=>D.fr T w w' a hf hT h
end Go.Owl
namespace Go.Spec
open Go.Owl
structure Ev where
  e:Nat
  s:Nat
  mb:Nat
  cn:Nat
  ps:List Pg
  c:Nat
  num:Nat
  pc:UInt32
def Ev.cells (a:Ev):List Value:=[ptr a.s 0,.slice none 0 0,ptr a.c 0,vN a.num,vU8 2,aa 0,vN 0,str []]
def vH (pc:UInt32):List Value:=[aa 0,aa 0,aa 0,aa 0,aa 0,aa 0,aa 0,aa 0,aa 0,aa 0,aa 0,aa 0,aa 0,aa 0,aa 0,aa 0,aa pc]
def evD (t:TypeId):Deep Ev:=(Deep.bo.on fun a=>(a.e,a.cells)).and ((Deep.bo.on fun a=>(a.s,[.map (some a.mb)])).and (((Deep.mo .u32).on fun a=>(a.mb,List.map Pg.me a.ps,a.cn)).and (((Deep.bs t Pg.cells Pg.b).on Ev.ps).and (Deep.bo.on fun a=>(a.c,vH a.pc)))))
structure Slt where
  is:Bool
  pg:Nat
  ev:Option Ev
def Slt.zero:Slt:=⟨false,0,none⟩
def tH:Option Ev→Value
  | none=>.pointer none
  | some a=>ptr a.e 0
def lm (x:Slt):List Value:=[.bool x.is,vN x.pg,tH x.ev]
def bY (t:TypeId):Deep Slt:=(evD t).opt.on Slt.ev
def xoC (k:Nat) (sl:List Slt):List Value:=ptr k 0::(sl.flatMap lm++[.slice none 0 0])
theorem rC {α:Type} {f:α→List Value} {sz:Nat} (hf: ∀a,(f a).length=sz) (d:α): ∀ {l:List α} {i j:Nat},i<l.length→j<sz→(l.flatMap f)[i * sz+j]?=(f (l.getD i d))[j]?
  | a::l,0,j,_,hj=>by
    rw [List.flatMap_cons,Nat.zero_mul,Nat.zero_add,List.getElem?_append_left (by rw [hf]; exact hj)]; rfl
  | a::l,i+1,j,hi,hj=>by
    have e:(i+1) * sz+j=(f a).length+(i * sz+j):=by rw [hf,Nat.succ_mul]; omega
    rw [List.flatMap_cons,e,List.getElem?_append_right (by omega),Nat.add_sub_cancel_left,rC hf d (Nat.lt_of_succ_lt_succ hi) hj]
    simp
theorem jf {α:Type} {f:α→List Value} {sz:Nat} (hf: ∀a,(f a).length=sz): ∀(l:List α),(l.flatMap f).length=l.length * sz
  | []=>(Nat.zero_mul _).symm
  | a::l=>by rw [List.flatMap_cons,List.length_append,hf,jf hf l,List.length_cons,Nat.succ_mul]; omega
theorem gO (a:Slt):(lm a).length=3:=rfl
theorem gJ {k:Nat} {sl:List Slt} {i j:Nat} {v:Value} (h9:sl.length=9) (hi:i<9) (hj:j<3) (hv:(lm (sl.getD i Slt.zero))[j]?=some v):(xoC k sl)[1+i * 3+j]?=some v:=by
  have e:1+i * 3+j=(i * 3+j)+1:=by omega
  have hl:=jf gO sl
  rw [xoC,e,List.getElem?_cons_succ,List.getElem?_append_left (by rw [hl]; omega),rC gO Slt.zero (by omega) hj,hv]
theorem rQ {k:Nat} {sl:List Slt} {i:Nat} {x:Slt} (h9:sl.length=9) (hi:i<9):(xoC k sl).take (1+i * 3)++(lm x++(xoC k sl).drop (1+i * 3+3))=xoC k (sl.set i x):=by
  have hl:=jf gO sl
  have h1:=oU gO x (l:=sl) (k:=i) (by omega)
  rw [xoC,xoC,←h1,show 1+i * 3=i * 3+1 by omega,List.take_succ_cons,show i * 3+1+3=(i * 3+3)+1 by omega,List.drop_succ_cons,List.take_append_of_le_length (by omega),List.drop_append_of_le_length (by omega)]
  simp
def ic (sl:List Slt) (i:Nat):Bool:=decide (1≤i)&&(decide (i<9)&&(sl.getD i Slt.zero).is)
theorem je {sl:List Slt} {i:Nat} (h:ic sl i=true):1≤i∧i<9∧(sl.getD i Slt.zero).is=true:=by
  rw [ic,Bool.and_eq_true,Bool.and_eq_true] at h
  exact ⟨of_decide_eq_true h.1,of_decide_eq_true h.2.1,h.2.2⟩
def SltTo (t:TypeId) (w:World) (sl sl':List Slt):Prop:= ∀b∈(bY t).list.ft sl',w.heap.size≤b∨b∈(bY t).list.ft sl
theorem SltTo.set {t:TypeId} {w:World} {sl:List Slt} {i:Nat} {x:Slt} (h: ∀b∈(bY t).ft x,w.heap.size≤b):SltTo t w sl (sl.set i x):=fun b hb=>by
  obtain ⟨y,hy,hb2⟩:=List.mem_flatMap.1 hb
  rcases List.mem_or_eq_of_mem_set hy with hy | rfl
  · exact .inr (List.mem_flatMap.2 ⟨y,hy,hb2⟩)
  · exact .inl (h b hb2)
theorem ln {t:TypeId} {w:World} {sl:List Slt} {i:Nat} {x:Slt} (h:(bY t).list.ok w sl) (hx:(bY t).ok w x):(bY t).list.ok w (sl.set i x):=fun y hy=>by
  rcases List.mem_or_eq_of_mem_set hy with hy | rfl
  · exact h y hy
  · exact hx
theorem EG {a:Ev} {w0 w:World} {te ts tc t:TypeId} (H:Owl.Own [] w0 w [.blk a.e a.cells te,.blk a.s [.map (some a.mb)] ts,.obj a.mb (mP .u32 (List.map Pg.me a.ps) a.cn),Ent.bs t Pg.cells Pg.b a.ps,.blk a.c (vH a.pc) tc]) :
    (∀b∈(evD t).ft a,w0.heap.size≤b)∧Owl.Own [] w0 w [Ent.dp (evD t) a]:=by
  have fresh: ∀(i:Nat) (e:Ent),[Ent.blk a.e a.cells te,.blk a.s [.map (some a.mb)] ts,.obj a.mb (mP .u32 (List.map Pg.me a.ps) a.cn),Ent.bs t Pg.cells Pg.b a.ps,.blk a.c (vH a.pc) tc][i]?=some e→∀b,e.Owns b→w0.heap.size≤b:=fun i e hi b hb=>(H.own i e hi b hb).resolve_right (by simp)
  have h1:=((((H.toBo (i:=0) O 8 O).toBo (i:=1) O 1 O).toBo (i:=4) O 17 O).mpFreeze (i:=2) O).bsFreeze (i:=3) O
  have ok:(evD t).ok w a:=⟨h1.ok 0 _ O,h1.ok 1 _ O,h1.ok 2 _ O,h1.ok 3 _ O,h1.ok 4 _ O⟩
  refine ⟨fun b hb=>?_,(h1.new' (e:=Ent.dp (evD t) a) (Fr.refl _ _) ok (fun b hb=>by cases hb) (fun b hb k f hk hf=>?_)).sel [5] O O⟩
  · rcases List.mem_append.1 hb with h | hb
    · cases List.mem_singleton.1 h; exact fresh 0 _ O _ O
    rcases List.mem_append.1 hb with h | hb
    · cases List.mem_singleton.1 h; exact fresh 1 _ O _ O
    rcases List.mem_append.1 hb with h | hb
    · cases List.mem_singleton.1 h; exact fresh 2 _ O _ O
    rcases List.mem_append.1 hb with h | hb
    · exact fresh 3 _ O _ h
    · cases List.mem_singleton.1 hb; exact fresh 4 _ O _ O
  · match k,hk with
    | 0,hk=>cases hk; exact hf
    | 1,hk=>cases hk; exact hf
    | 2,hk=>cases hk; exact hf
    | 3,hk=>cases hk; exact hf
    | 4,hk=>cases hk; exact hf
    | k+5,hk=>simp at hk
theorem As {k:Nat} {sl:List Slt} (h9:sl.length=9):(xoC k sl)[28]?=some (.slice none 0 0):=by
  have hl:=jf gO sl
  rw [xoC,List.getElem?_cons_succ,List.getElem?_append_right (by omega),hl,h9]; rfl
theorem iq {t:TypeId} {w:World} {sl:List Slt} {i:Nat} {a:Ev} (hD:(bY t).list.ok w sl) (ha:(sl.getD i Slt.zero).ev=some a):(evD t).ok w a:=by
  have h:=Deep.getD (bY t) hD Slt.zero True.intro i
  have h2:(evD t).opt.ok w (sl.getD i Slt.zero).ev:=h
  rw [ha] at h2; exact h2
def ffS (sl:List Slt):Nat:=1+(sl.drop 1).findIdx fun x=> !x.is
theorem kx {sl:List Slt} {k:Nat} (h9:sl.length=9) (h1:1≤k) (hk:k≤9) (hall: ∀j,1≤j→j<k→(sl.getD j Slt.zero).is=true) (hf:k=9∨(sl.getD k Slt.zero).is=false):ffS sl=k:=by
  have hl:(sl.drop 1).length=8:=by rw [List.length_drop,h9]
  have get: ∀j,j<8→∀(h:j<(sl.drop 1).length),(sl.drop 1)[j]=sl.getD (j+1) Slt.zero:=fun j hj h=>by
    rw [List.getElem_drop,List.getD_eq_getElem?_getD,List.getElem?_eq_getElem (by omega)]
    simp [Nat.add_comm]
  rw [ffS]
  have:(sl.drop 1).findIdx (fun x=> !x.is)=k-1:=by
    rcases Nat.lt_or_ge k 9 with h | h
    · rw [List.findIdx_eq (by omega)]
      refine ⟨?_,fun j hj=>?_⟩
      · rw [get _ (by omega),show k-1+1=k by omega]
        rcases hf with hf | hf
        · omega
        · rw [hf]; rfl
      · rw [get _ (by omega),hall (j+1) (by omega) (by omega)]; rfl
    · have e:k=9:=by omega
      subst e
      rw [List.findIdx_eq_length.2 ?_,hl]
      intro x hx
      obtain ⟨j,hj,rfl⟩:=List.mem_iff_getElem.1 hx
      rw [get _ (by omega),hall (j+1) (by omega) (by omega)]; rfl
  omega
theorem gq {t:TypeId} {sl:List Slt} {i:Nat} {b0:Bool} {n:Nat}: ∀b∈(bY t).list.ft (sl.set i ⟨b0,n,none⟩),b∈(bY t).list.ft sl:=fun b hb=>by
  obtain ⟨y,hy,hb2⟩:=List.mem_flatMap.1 hb
  rcases List.mem_or_eq_of_mem_set hy with hy | rfl
  · exact List.mem_flatMap.2 ⟨y,hy,hb2⟩
  · cases hb2
theorem eP {sl:List Slt} (h9:sl.length=9):ffS sl≤9:=by
  have h1:=List.findIdx_le_length (xs:=sl.drop 1) (p:=fun x=> !x.is)
  rw [List.length_drop,h9] at h1
  rw [ffS]; omega
theorem gj (sl:List Slt):1≤ffS sl:=by rw [ffS]; omega
theorem Ca {sl:List Slt} (h9:sl.length=9) (h:ffS sl≠9):(sl.getD (ffS sl) Slt.zero).is=false:=by
  have h1:=eP h9
  have hl:(sl.drop 1).length=8:=by rw [List.length_drop,h9]
  have h2:(sl.drop 1).findIdx (fun x=> !x.is)<(sl.drop 1).length:=by rw [ffS] at h h1; omega
  have h3:=List.findIdx_getElem (w:=h2)
  rw [List.getElem_drop] at h3
  rw [ffS,List.getD_eq_getElem?_getD,List.getElem?_eq_getElem (by rw [h9]; omega)]
  simpa using h3
theorem wj {t:TypeId} {sl:List Slt} {i:Nat} {x:Slt}: ∀b∈(bY t).list.ft (sl.set i x),b∈(bY t).list.ft sl∨b∈(bY t).ft x:=fun b hb=>by
  obtain ⟨y,hy,hb2⟩:=List.mem_flatMap.1 hb
  rcases List.mem_or_eq_of_mem_set hy with hy | rfl
  · exact .inl (List.mem_flatMap.2 ⟨y,hy,hb2⟩)
  · exact .inr hb2
theorem wi {t:TypeId} {w:World} {n:Nat}:(bY t).list.ok w (List.replicate n Slt.zero):=fun x hx=>by
  rw [(List.mem_replicate.1 hx).2]; exact True.intro
theorem slt_zero_ft {t:TypeId} {n:Nat}: ∀b∈(bY t).list.ft (List.replicate n Slt.zero),b∈(bY t).list.ft []:=fun b hb=>by
  obtain ⟨x,hx,hb⟩:=List.mem_flatMap.1 hb
  rw [(List.mem_replicate.1 hx).2] at hb; cases hb
end Go.Spec
