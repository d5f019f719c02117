/- General lemmas and walks. No condition but what each theorem names. -/
import Derived.Test.YtbjhccnffacbcaaGreatQ408a00e3
import Derived.Test.YtbjhccnffacbcaaGreatQe1fb0045
import Derived.Test.YtbjhccnffacbcaaGreatQ70044d33
import Derived.Test.YtbjhccnffacbcaaGreatQc70aff79
import Derived.Test.YtbjhccnffacbcaaGreatQdafcbbee
import Derived.Test.YtbjhccnffacbcaaGreatQ3c59d907
import Derived.Test.YtbjhccnffacbcaaGreatQf3aef562
set_option maxRecDepth 100000
set_option maxHeartbeats 8000000
open Go.Owl renaming Own→Ke
open Go.Proofs.Tryz renaming prog→Kf
open List renaming map→Kg
open List renaming flatMap→Kh
open List renaming replicate→Ki
open List renaming length_append→Kj
open Nat renaming zero_le→Kk
open UInt32 renaming ofNat→Kl
open UInt16 renaming ofNat→Km
open UInt64 renaming ofNat→Kn
namespace Go.Proofs.YtbjhccnffacbcaaGreat
open Go.Owl Go.Spec
theorem uJ (v:Value) (n:Nat) (l:List UInt32) (lo hi f:Nat) (T:List Nat) (w:World) (H:Ke T w w [.row v 22 1 n (Kg aa l)]) (hn:l.length=n) (hN:n<2^61) (hf:f+hi≤n) (hlo:lo≤n) (hh:jn bO 0 (lo+1) hi f l) :
  Calls Kf 236 #[v,(vN lo),(vN hi),(vN f)] w (fun e w'=> ∃(l':List UInt32),e=.returned undef∧(Sw 0 f (f+hi) l l'∧jn bO 0 lo hi f l')∧Ke T w w' [.row v 22 1 n (Kg aa l')]):=by
 refine enter Tryz.func236 O O<|ws<|wm O<|wa O<|wn<|aB<|bi (α:=Nat × List UInt32) (fun (x,l1)=>[(0,v),(1,(vN lo)),(2,(vN hi)),(3,(vN f)),(8,(vN x))]) (fun (x,l1) w'=>(lo≤x∧(x<hi∨x=lo)∧Sw 0 f (f+hi) l l1∧pj bO 0 lo hi f x l1∧uc bO 0 lo hi f x l1)∧Ke T w w' [.row v 22 1 n (Kg aa l1)]) (fun (x,l1)=>hi-x) (lo,l) ⟨⟨Nat.le_refl _,.inr O,.refl _,(qN hh).1,(qN hh).2⟩,H⟩ ⟨rfl,rfl,rfl,rfl,rfl,trivial⟩ ?_
 rintro ⟨x,l1⟩ w1 ⟨⟨hi1,hi2,hs1,hx1,hg1⟩,H1⟩
 show WC _ _ _ _ _ [(0,v),(1,(vN lo)),(2,(vN hi)),(3,(vN f)),(8,(vN x))] _
 have hL1:=hs1.len
 refine aB<|ws<|wm O<|wo (fd (a:=2) O O (by omega)<|wo (aU (b:=1) O O (by omega)<|wa O<|wn<|ap<|ws<|wm O<|wm O<|wo (dI O O<|wn (wE (((2 * x)+1)≥hi) (fun hb2 hc2=>?_) (fun hb2 hc2=>?_)))))
 ·
  exact bc<|an<|WQ.inPass O<|an<|aS<|WQ.outEnd .nil (⟨_,rfl,⟨hs1,yY hx1 (by omega)⟩,H1⟩)
 refine aA<|ao<|ap<|ap (wG ((((2 * x)+1)+1)<hi) (fun hb3 hc3=>?_) (fun hb3 hc3=>?_))
 ·
  refine bn 20 Fa.M H1 (mh O<|oh (fun w1 H1=>aU (b:=1) O O (by omega) zr)<|mh O<|oh (fun w1 H1=>bm O O zr)<|mh O<|yh hb3 (fun w1 H1=>au O zr)<|yh hb3 (fun w1 H1=>au O zr)<|yh hb3 (fun w1 H1=>au O zr)<|yh hb3 (fun w1 H1=>aU O O (by omega) zr)<|yh hb3 (fun w1 H1=>aF A73 Fa.I22 O (H1.arrR (i:=0) O) O (by omega) zr)<|yh hb3 (fun w1 H1=>aj O ((H1.arrR (i:=0) O).at (aR aa 0 (aV (H1.arrR (i:=0) O) (by omega)))) A22 O zr)<|yh hb3 (fun w1 H1=>au O zr)<|yh hb3 (fun w1 H1=>au O zr)<|yh hb3 (fun w1 H1=>au O zr)<|yh hb3 (fun w1 H1=>aU O O (by omega) zr)<|yh hb3 (fun w1 H1=>aU (b:=1) O O (by omega) zr)<|yh hb3 (fun w1 H1=>aF A73 Fa.I22 O (H1.arrR (i:=0) O) O (by omega) zr)<|yh hb3 (fun w1 H1=>aj O ((H1.arrR (i:=0) O).at (aR aa 0 (aV (H1.arrR (i:=0) O) (by omega)))) A22 O zr)<|yh hb3 (fun w1 H1=>az (Kd 217) O ((eC (l1.getD (f+((2 * x)+1)) 0) (l1.getD ((f+((2 * x)+1))+1) 0) _).mono (fun e w2 hq=>⟨_,hq.1,rfl,hq.2⟩)))<|oh (fun w1 H1=>aQ O hb3 O zr)  bD) (by kernel_rfl) ?_
  intro β5 w5 H5
  refine wn (wC (bO (l1.getD (f+((2 * x)+1)) 0) (l1.getD ((f+((2 * x)+1))+1) 0)) (fun hb6=>?_) (fun hb6=>?_))
  ·
   refine aG<|wm O<|wo (aU (b:=1) O O (by omega)<|wa O<|wn<|ap<|ap<|bn 14 Fa.M H5 (mh O<|mh O<|mh O<|oh (fun w1 H1=>aU O O (by omega) zr)<|oh (fun w1 H1=>aF A73 Fa.I22 O (H1.arrR (i:=0) O) O (by omega) zr)<|oh (fun w1 H1=>aj O ((H1.arrR (i:=0) O).at (aR aa 0 (aV (H1.arrR (i:=0) O) (by omega)))) A22 O zr)<|mh O<|mh O<|mh O<|oh (fun w1 H1=>aU O O (by omega) zr)<|oh (fun w1 H1=>aF A73 Fa.I22 O (H1.arrR (i:=0) O) O (by omega) zr)<|oh (fun w1 H1=>aj O ((H1.arrR (i:=0) O).at (aR aa 0 (aV (H1.arrR (i:=0) O) (by omega)))) A22 O zr)<|oh (fun w1 H1=>az (Kd 217) O ((eC (l1.getD (f+x) 0) (l1.getD (f+(((2 * x)+1)+1)) 0) _).mono (fun e w2 hq=>⟨_,hq.1,rfl,hq.2⟩)))<|oh (fun w1 H1=>cQ O zr)  bD) (by kernel_rfl) ?_)
   intro β8 w8 H8
   refine wn (wC (!(bO (l1.getD (f+x) 0) (l1.getD (f+(((2 * x)+1)+1)) 0))) (fun hb9=>?_) (fun hb9=>?_))
   ·
    have hn9:=(Bool.not_eq_true' _).mp hb9
    exact aC<|aq<|aZ<|aq<|aZ<|aD .nil (⟨_,rfl,⟨hs1,my cX hx1 (Bq cX (by omega) hb6) hn9⟩,H8⟩)
   have hn9:=(Bool.not_eq_false' _).mp hb9
   refine aA<|ao<|ap<|WC.held 24 O Fa.M H8 (fun w'=> ∃L',Ke T w w' ([]++L')) ?_
   intro w10 H10
   refine xt 0 O v H10 (fun _ _ HX=>au O ⟨rfl,rfl⟩)<|xt 1 O (vN f) H10 (fun _ _ HX=>au O ⟨rfl,rfl⟩)<|xt 2 O (vN x) H10 (fun _ _ HX=>au O ⟨rfl,rfl⟩)<|xt 3 O (vN (f+x)) H10 (fun _ _ HX=>aU O O (by omega) ⟨rfl,rfl⟩)<|xt 4 O v H10 (fun _ _ HX=>au O ⟨rfl,rfl⟩)<|xt 5 O (vN f) H10 (fun _ _ HX=>au O ⟨rfl,rfl⟩)<|xt 6 O (vN (((2 * x)+1)+1)) H10 (fun _ _ HX=>au O ⟨rfl,rfl⟩)<|xt 7 O (vN (f+(((2 * x)+1)+1))) H10 (fun _ _ HX=>aU O O (by omega) ⟨rfl,rfl⟩)<|xt 8 O v H10 (fun _ _ HX=>au O ⟨rfl,rfl⟩)<|xt 9 O (vN f) H10 (fun _ _ HX=>au O ⟨rfl,rfl⟩)<|xt 10 O (vN (((2 * x)+1)+1)) H10 (fun _ _ HX=>au O ⟨rfl,rfl⟩)<|xt 11 O (vN (f+(((2 * x)+1)+1))) H10 (fun _ _ HX=>aU O O (by omega) ⟨rfl,rfl⟩)<|xt 12 O (.pointer (some (sp v (f+(((2 * x)+1)+1))))) H10 (fun _ _ HX=>aP A73 Fa.I22 O (H10.arrR (i:=0) O) O (by omega) ⟨rfl,rfl⟩)<|xt 14 O v H10 (fun _ _ HX=>au O ⟨rfl,rfl⟩)<|xt 15 O (vN f) H10 (fun _ _ HX=>au O ⟨rfl,rfl⟩)<|xt 16 O (vN x) H10 (fun _ _ HX=>au O ⟨rfl,rfl⟩)<|xt 17 O (vN (f+x)) H10 (fun _ _ HX=>aU O O (by omega) ⟨rfl,rfl⟩)<|xt 18 O (.pointer (some (sp v (f+x)))) H10 (fun _ _ HX=>aP A73 Fa.I22 O (H10.arrR (i:=0) O) O (by omega) ⟨rfl,rfl⟩)<|dh (fun W hW=>?_)
   let e6:List (Nat × Value)→List (Nat × Value):=fun r=>(0,v)::(1,(vN lo))::(2,(vN hi))::(3,(vN f))::(8,(vN x))::(9,(vN (((2 * x)+1)+1)))::(11,(vN x))::(12,(vN (2 * x)))::(13,(vN ((2 * x)+1)))::(14,(vN ((2 * x)+1)))::(15,(vN hi))::(16,(.bool (decide (((2 * x)+1)≥hi))))::(17,(vN ((2 * x)+1)))::(18,(vN (((2 * x)+1)+1)))::(19,(vN hi))::(20,(.bool (decide ((((2 * x)+1)+1)<hi))))::(21,(.bool (decide ((((2 * x)+1)+1)<hi))))::(22,v)::(23,(vN f))::(24,(vN ((2 * x)+1)))::(25,(vN (f+((2 * x)+1))))::(26,(.pointer (some (sp v (f+((2 * x)+1))))))::(27,(aa (l1.getD (f+((2 * x)+1)) 0)))::(28,v)::(29,(vN f))::(30,(vN ((2 * x)+1)))::(31,(vN (f+((2 * x)+1))))::(32,(vN ((f+((2 * x)+1))+1)))::(33,(.pointer (some (sp v ((f+((2 * x)+1))+1)))))::(34,(aa (l1.getD ((f+((2 * x)+1))+1) 0)))::(35,(.bool (bO (l1.getD (f+((2 * x)+1)) 0) (l1.getD ((f+((2 * x)+1))+1) 0))))::(36,(.bool (bO (l1.getD (f+((2 * x)+1)) 0) (l1.getD ((f+((2 * x)+1))+1) 0))))::(37,(vN ((2 * x)+1)))::(38,(vN (((2 * x)+1)+1)))::(39,v)::(40,(vN f))::(41,(vN x))::(42,(vN (f+x)))::(43,(.pointer (some (sp v (f+x)))))::(44,(aa (l1.getD (f+x) 0)))::(45,v)::(46,(vN f))::(47,(vN (((2 * x)+1)+1)))::(48,(vN (f+(((2 * x)+1)+1))))::(49,(.pointer (some (sp v (f+(((2 * x)+1)+1))))))::(50,(aa (l1.getD (f+(((2 * x)+1)+1)) 0)))::(51,(.bool (bO (l1.getD (f+x) 0) (l1.getD (f+(((2 * x)+1)+1)) 0))))::(52,(.bool (!(bO (l1.getD (f+x) 0) (l1.getD (f+(((2 * x)+1)+1)) 0)))))::r
   let Bm:Ent:=.row v 22 1 n (Kg aa l1)
   have B1: ∀wS,Ke T w wS [.row v 22 1 n (Kg aa ((l1.set (f+x) (l1.getD (f+(((2 * x)+1)+1)) 0)).set (f+(((2 * x)+1)+1)) (l1.getD (f+x) 0)))]→W 0 (bz 24 16777215) (e6 []) wS:=fun wS HS=>by
    rw [hW]
    refine WH.done (by kernel_rfl)<|ao<|aG<|wm O<|wa O<|aY<|aE ?_
    have hst:=mz cX (by omega) hx1 hg1 (Bq cX (by omega) hb6) (by omega) hn9
    exact aX ((2 * x+1+1),cY 0 l1 (f+x) (f+(2 * x+1+1))) ⟨⟨by omega,.inl (by omega),hs1.step (by omega) (by omega) (by omega) (by omega),hst.1,hst.2⟩,HS⟩ ⟨rfl,rfl,rfl,rfl,rfl,trivial⟩ (by show hi-(2 * x+1+1)<hi-x; omega)
   have B2: ∀wS,Ke T w wS [.row v 22 1 n (Kg aa (l1.set (f+x) (l1.getD (f+(((2 * x)+1)+1)) 0)))]→W 1 (bz 24 8388607) (e6 [(72,(aa (l1.getD (f+x) 0))),(74,(.pointer (some (sp v (f+(((2 * x)+1)+1))))))]) wS:=fun wS HS=>by
    rw [hW]
    refine wh1 23<|kH 23 O (bN (i:=0) (f:=aa) (l:=(l1.set (f+x) (l1.getD (f+(((2 * x)+1)+1)) 0))) (c:=(l1.getD (f+x) 0)) HS O O O (by omega) O Fa.I22 (fun w16 H16=>(⟨⟨_,H16⟩,?_⟩)))
    exact bh hW (B1 w16 H16)
   have B0: ∀wS,Ke T w wS [Bm]→W 3 (bz 24 2097151) (e6 [(57,v),(60,(vN (f+(((2 * x)+1)+1)))),(66,(aa (l1.getD (f+(((2 * x)+1)+1)) 0))),(72,(aa (l1.getD (f+x) 0))),(73,(.pointer (some (sp v (f+x)))))]) wS:=fun wS HS=>by
    rw [hW]
    refine wh1 21<|kH 21 O (bN (i:=0) (f:=aa) (l:=l1) (c:=(l1.getD (f+(((2 * x)+1)+1)) 0)) HS O O O (by omega) O Fa.I22 (fun w7 H7=>(⟨⟨_,H7⟩,?_⟩)))
    exact xt 22 O (.pointer (some (sp v (f+(((2 * x)+1)+1))))) H7 (fun _ _ HX=>aP A73 Fa.I22 O (H7.arrR (i:=0) O) O (by omega) ⟨rfl,rfl⟩)<|bh hW (B2 w7 H7)
   have B3: ∀wS,Ke T w wS [Bm]→W 5 (bz 24 524287) (e6 [(53,v),(56,(vN (f+x))),(57,v),(60,(vN (f+(((2 * x)+1)+1)))),(66,(aa (l1.getD (f+(((2 * x)+1)+1)) 0))),(71,(.pointer (some (sp v (f+x)))))]) wS:=fun wS HS=>by
    rw [hW]
    refine wh1 19<|kH 19 O (aj O ((HS.arrR (i:=0) O).at (aR aa 0 (aV (HS.arrR (i:=0) O) (by omega)))) A22 O (⟨⟨_,HS⟩,?_⟩))
    exact xt 20 O (.pointer (some (sp v (f+x)))) HS (fun _ _ HX=>aP A73 Fa.I22 O (HS.arrR (i:=0) O) O (by omega) ⟨rfl,rfl⟩)<|bh hW (B0 wS HS)
   have B4: ∀wS,Ke T w wS [Bm]→W 5 (bz 24 1040383) (e6 [(53,v),(56,(vN (f+x))),(57,v),(60,(vN (f+(((2 * x)+1)+1)))),(65,(.pointer (some (sp v (f+(((2 * x)+1)+1)))))),(72,(aa (l1.getD (f+x) 0)))]) wS:=fun wS HS=>by
    rw [hW]
    refine wh1 13<|kH 13 O (aj O ((HS.arrR (i:=0) O).at (aR aa 0 (aV (HS.arrR (i:=0) O) (by omega)))) A22 O (⟨⟨_,HS⟩,?_⟩))
    exact xt 20 O (.pointer (some (sp v (f+x)))) HS (fun _ _ HX=>aP A73 Fa.I22 O (HS.arrR (i:=0) O) O (by omega) ⟨rfl,rfl⟩)<|bh hW (B0 wS HS)
   have B5: ∀wS,Ke T w wS [Bm]→W 6 (bz 24 516095) (e6 [(53,v),(56,(vN (f+x))),(57,v),(60,(vN (f+(((2 * x)+1)+1)))),(65,(.pointer (some (sp v (f+(((2 * x)+1)+1)))))),(71,(.pointer (some (sp v (f+x)))))]) wS:=fun wS HS=>by
    rw [hW]
    refine wh2 13 19 ?_ ?_
    ·
     refine kH 13 O (aj O ((HS.arrR (i:=0) O).at (aR aa 0 (aV (HS.arrR (i:=0) O) (by omega)))) A22 O (⟨⟨_,HS⟩,?_⟩))
     exact bh hW (B3 wS HS)
    refine kH 19 O (aj O ((HS.arrR (i:=0) O).at (aR aa 0 (aV (HS.arrR (i:=0) O) (by omega)))) A22 O (⟨⟨_,HS⟩,?_⟩))
    exact bh hW (B4 wS HS)
   have hq:=B5 w10 H10
   rw [hW] at hq ⊢
   exact WH.cv hq
  refine aA<|ao<|ap<|ap<|bn 14 Fa.M H5 (mh O<|mh O<|mh O<|oh (fun w1 H1=>aU O O (by omega) zr)<|oh (fun w1 H1=>aF A73 Fa.I22 O (H1.arrR (i:=0) O) O (by omega) zr)<|oh (fun w1 H1=>aj O ((H1.arrR (i:=0) O).at (aR aa 0 (aV (H1.arrR (i:=0) O) (by omega)))) A22 O zr)<|mh O<|mh O<|mh O<|oh (fun w1 H1=>aU O O (by omega) zr)<|oh (fun w1 H1=>aF A73 Fa.I22 O (H1.arrR (i:=0) O) O (by omega) zr)<|oh (fun w1 H1=>aj O ((H1.arrR (i:=0) O).at (aR aa 0 (aV (H1.arrR (i:=0) O) (by omega)))) A22 O zr)<|oh (fun w1 H1=>az (Kd 217) O ((eC (l1.getD (f+x) 0) (l1.getD (f+((2 * x)+1)) 0) _).mono (fun e w2 hq=>⟨_,hq.1,rfl,hq.2⟩)))<|oh (fun w1 H1=>cQ O zr)  bD) (by kernel_rfl) ?_
  intro β13 w13 H13
  refine wn (wC (!(bO (l1.getD (f+x) 0) (l1.getD (f+((2 * x)+1)) 0))) (fun hb14=>?_) (fun hb14=>?_))
  ·
   have hn14:=(Bool.not_eq_true' _).mp hb14
   exact aC<|aq<|aZ<|aq<|aZ<|aD .nil (⟨_,rfl,⟨hs1,my cX hx1 (sU cX (by omega) (.inr hb6)) hn14⟩,H13⟩)
  have hn14:=(Bool.not_eq_false' _).mp hb14
  refine aA<|ao<|ap<|WC.held 24 O Fa.M H13 (fun w'=> ∃L',Ke T w w' ([]++L')) ?_
  intro w15 H15
  refine xt 0 O v H15 (fun _ _ HX=>au O ⟨rfl,rfl⟩)<|xt 1 O (vN f) H15 (fun _ _ HX=>au O ⟨rfl,rfl⟩)<|xt 2 O (vN x) H15 (fun _ _ HX=>au O ⟨rfl,rfl⟩)<|xt 3 O (vN (f+x)) H15 (fun _ _ HX=>aU O O (by omega) ⟨rfl,rfl⟩)<|xt 4 O v H15 (fun _ _ HX=>au O ⟨rfl,rfl⟩)<|xt 5 O (vN f) H15 (fun _ _ HX=>au O ⟨rfl,rfl⟩)<|xt 6 O (vN ((2 * x)+1)) H15 (fun _ _ HX=>au O ⟨rfl,rfl⟩)<|xt 7 O (vN (f+((2 * x)+1))) H15 (fun _ _ HX=>aU O O (by omega) ⟨rfl,rfl⟩)<|xt 8 O v H15 (fun _ _ HX=>au O ⟨rfl,rfl⟩)<|xt 9 O (vN f) H15 (fun _ _ HX=>au O ⟨rfl,rfl⟩)<|xt 10 O (vN ((2 * x)+1)) H15 (fun _ _ HX=>au O ⟨rfl,rfl⟩)<|xt 11 O (vN (f+((2 * x)+1))) H15 (fun _ _ HX=>aU O O (by omega) ⟨rfl,rfl⟩)<|xt 12 O (.pointer (some (sp v (f+((2 * x)+1))))) H15 (fun _ _ HX=>aP A73 Fa.I22 O (H15.arrR (i:=0) O) O (by omega) ⟨rfl,rfl⟩)<|xt 14 O v H15 (fun _ _ HX=>au O ⟨rfl,rfl⟩)<|xt 15 O (vN f) H15 (fun _ _ HX=>au O ⟨rfl,rfl⟩)<|xt 16 O (vN x) H15 (fun _ _ HX=>au O ⟨rfl,rfl⟩)<|xt 17 O (vN (f+x)) H15 (fun _ _ HX=>aU O O (by omega) ⟨rfl,rfl⟩)<|xt 18 O (.pointer (some (sp v (f+x)))) H15 (fun _ _ HX=>aP A73 Fa.I22 O (H15.arrR (i:=0) O) O (by omega) ⟨rfl,rfl⟩)<|dh (fun W hW=>?_)
  let e6:List (Nat × Value)→List (Nat × Value):=fun r=>(0,v)::(1,(vN lo))::(2,(vN hi))::(3,(vN f))::(8,(vN x))::(9,(vN ((2 * x)+1)))::(11,(vN x))::(12,(vN (2 * x)))::(13,(vN ((2 * x)+1)))::(14,(vN ((2 * x)+1)))::(15,(vN hi))::(16,(.bool (decide (((2 * x)+1)≥hi))))::(17,(vN ((2 * x)+1)))::(18,(vN (((2 * x)+1)+1)))::(19,(vN hi))::(20,(.bool (decide ((((2 * x)+1)+1)<hi))))::(21,(.bool (decide ((((2 * x)+1)+1)<hi))))::(22,v)::(23,(vN f))::(24,(vN ((2 * x)+1)))::(25,(vN (f+((2 * x)+1))))::(26,(.pointer (some (sp v (f+((2 * x)+1))))))::(27,(aa (l1.getD (f+((2 * x)+1)) 0)))::(28,v)::(29,(vN f))::(30,(vN ((2 * x)+1)))::(31,(vN (f+((2 * x)+1))))::(32,(vN ((f+((2 * x)+1))+1)))::(33,(.pointer (some (sp v ((f+((2 * x)+1))+1)))))::(34,(aa (l1.getD ((f+((2 * x)+1))+1) 0)))::(35,(.bool (bO (l1.getD (f+((2 * x)+1)) 0) (l1.getD ((f+((2 * x)+1))+1) 0))))::(36,(.bool (bO (l1.getD (f+((2 * x)+1)) 0) (l1.getD ((f+((2 * x)+1))+1) 0))))::(39,v)::(40,(vN f))::(41,(vN x))::(42,(vN (f+x)))::(43,(.pointer (some (sp v (f+x)))))::(44,(aa (l1.getD (f+x) 0)))::(45,v)::(46,(vN f))::(47,(vN ((2 * x)+1)))::(48,(vN (f+((2 * x)+1))))::(49,(.pointer (some (sp v (f+((2 * x)+1))))))::(50,(aa (l1.getD (f+((2 * x)+1)) 0)))::(51,(.bool (bO (l1.getD (f+x) 0) (l1.getD (f+((2 * x)+1)) 0))))::(52,(.bool (!(bO (l1.getD (f+x) 0) (l1.getD (f+((2 * x)+1)) 0)))))::r
  let Bm:Ent:=.row v 22 1 n (Kg aa l1)
  have B1: ∀wS,Ke T w wS [.row v 22 1 n (Kg aa ((l1.set (f+x) (l1.getD (f+((2 * x)+1)) 0)).set (f+((2 * x)+1)) (l1.getD (f+x) 0)))]→W 0 (bz 24 16777215) (e6 []) wS:=fun wS HS=>by
   rw [hW]
   refine WH.done (by kernel_rfl)<|ao<|aG<|wm O<|wa O<|aY<|aE ?_
   have hst:=mz cX (by omega) hx1 hg1 (sU cX (by omega) (.inr hb6)) (by omega) hn14
   exact aX ((2 * x+1),cY 0 l1 (f+x) (f+(2 * x+1))) ⟨⟨by omega,.inl (by omega),hs1.step (by omega) (by omega) (by omega) (by omega),hst.1,hst.2⟩,HS⟩ ⟨rfl,rfl,rfl,rfl,rfl,trivial⟩ (by show hi-(2 * x+1)<hi-x; omega)
  have B2: ∀wS,Ke T w wS [.row v 22 1 n (Kg aa (l1.set (f+x) (l1.getD (f+((2 * x)+1)) 0)))]→W 1 (bz 24 8388607) (e6 [(72,(aa (l1.getD (f+x) 0))),(74,(.pointer (some (sp v (f+((2 * x)+1))))))]) wS:=fun wS HS=>by
   rw [hW]
   refine wh1 23<|kH 23 O (bN (i:=0) (f:=aa) (l:=(l1.set (f+x) (l1.getD (f+((2 * x)+1)) 0))) (c:=(l1.getD (f+x) 0)) HS O O O (by omega) O Fa.I22 (fun w18 H18=>(⟨⟨_,H18⟩,?_⟩)))
   exact bh hW (B1 w18 H18)
  have B0: ∀wS,Ke T w wS [Bm]→W 3 (bz 24 2097151) (e6 [(57,v),(60,(vN (f+((2 * x)+1)))),(66,(aa (l1.getD (f+((2 * x)+1)) 0))),(72,(aa (l1.getD (f+x) 0))),(73,(.pointer (some (sp v (f+x)))))]) wS:=fun wS HS=>by
   rw [hW]
   refine wh1 21<|kH 21 O (bN (i:=0) (f:=aa) (l:=l1) (c:=(l1.getD (f+((2 * x)+1)) 0)) HS O O O (by omega) O Fa.I22 (fun w11 H11=>(⟨⟨_,H11⟩,?_⟩)))
   exact xt 22 O (.pointer (some (sp v (f+((2 * x)+1))))) H11 (fun _ _ HX=>aP A73 Fa.I22 O (H11.arrR (i:=0) O) O (by omega) ⟨rfl,rfl⟩)<|bh hW (B2 w11 H11)
  have B3: ∀wS,Ke T w wS [Bm]→W 5 (bz 24 524287) (e6 [(53,v),(56,(vN (f+x))),(57,v),(60,(vN (f+((2 * x)+1)))),(66,(aa (l1.getD (f+((2 * x)+1)) 0))),(71,(.pointer (some (sp v (f+x)))))]) wS:=fun wS HS=>by
   rw [hW]
   refine wh1 19<|kH 19 O (aj O ((HS.arrR (i:=0) O).at (aR aa 0 (aV (HS.arrR (i:=0) O) (by omega)))) A22 O (⟨⟨_,HS⟩,?_⟩))
   exact xt 20 O (.pointer (some (sp v (f+x)))) HS (fun _ _ HX=>aP A73 Fa.I22 O (HS.arrR (i:=0) O) O (by omega) ⟨rfl,rfl⟩)<|bh hW (B0 wS HS)
  have B4: ∀wS,Ke T w wS [Bm]→W 5 (bz 24 1040383) (e6 [(53,v),(56,(vN (f+x))),(57,v),(60,(vN (f+((2 * x)+1)))),(65,(.pointer (some (sp v (f+((2 * x)+1)))))),(72,(aa (l1.getD (f+x) 0)))]) wS:=fun wS HS=>by
   rw [hW]
   refine wh1 13<|kH 13 O (aj O ((HS.arrR (i:=0) O).at (aR aa 0 (aV (HS.arrR (i:=0) O) (by omega)))) A22 O (⟨⟨_,HS⟩,?_⟩))
   exact xt 20 O (.pointer (some (sp v (f+x)))) HS (fun _ _ HX=>aP A73 Fa.I22 O (HS.arrR (i:=0) O) O (by omega) ⟨rfl,rfl⟩)<|bh hW (B0 wS HS)
  have B5: ∀wS,Ke T w wS [Bm]→W 6 (bz 24 516095) (e6 [(53,v),(56,(vN (f+x))),(57,v),(60,(vN (f+((2 * x)+1)))),(65,(.pointer (some (sp v (f+((2 * x)+1)))))),(71,(.pointer (some (sp v (f+x)))))]) wS:=fun wS HS=>by
   rw [hW]
   refine wh2 13 19 ?_ ?_
   ·
    refine kH 13 O (aj O ((HS.arrR (i:=0) O).at (aR aa 0 (aV (HS.arrR (i:=0) O) (by omega)))) A22 O (⟨⟨_,HS⟩,?_⟩))
    exact bh hW (B3 wS HS)
   refine kH 19 O (aj O ((HS.arrR (i:=0) O).at (aR aa 0 (aV (HS.arrR (i:=0) O) (by omega)))) A22 O (⟨⟨_,HS⟩,?_⟩))
   exact bh hW (B4 wS HS)
  have hq:=B5 w15 H15
  rw [hW] at hq ⊢
  exact WH.cv hq
 refine bn 20 Fa.M H1 (mh O<|oh (fun w1 H1=>aU (b:=1) O O (by omega) zr)<|mh O<|oh (fun w1 H1=>bm O O zr)<|mh O<|nh hb3<|nh hb3<|nh hb3<|nh hb3<|nh hb3<|nh hb3<|nh hb3<|nh hb3<|nh hb3<|nh hb3<|nh hb3<|nh hb3<|nh hb3<|nh hb3<|oh (fun w1 H1=>aN O hb3 O zr)  bD) (by kernel_rfl) ?_
 intro β17 w17 H17
 refine wn<|bF O O<|aA<|ao<|ap<|ap<|bn 14 Fa.M H17 (mh O<|mh O<|mh O<|oh (fun w1 H1=>aU O O (by omega) zr)<|oh (fun w1 H1=>aF A73 Fa.I22 O (H1.arrR (i:=0) O) O (by omega) zr)<|oh (fun w1 H1=>aj O ((H1.arrR (i:=0) O).at (aR aa 0 (aV (H1.arrR (i:=0) O) (by omega)))) A22 O zr)<|mh O<|mh O<|mh O<|oh (fun w1 H1=>aU O O (by omega) zr)<|oh (fun w1 H1=>aF A73 Fa.I22 O (H1.arrR (i:=0) O) O (by omega) zr)<|oh (fun w1 H1=>aj O ((H1.arrR (i:=0) O).at (aR aa 0 (aV (H1.arrR (i:=0) O) (by omega)))) A22 O zr)<|oh (fun w1 H1=>az (Kd 217) O ((eC (l1.getD (f+x) 0) (l1.getD (f+((2 * x)+1)) 0) _).mono (fun e w2 hq=>⟨_,hq.1,rfl,hq.2⟩)))<|oh (fun w1 H1=>cQ O zr)  bD) (by kernel_rfl) ?_
 intro β19 w19 H19
 refine wn (wC (!(bO (l1.getD (f+x) 0) (l1.getD (f+((2 * x)+1)) 0))) (fun hb20=>?_) (fun hb20=>?_))
 ·
  have hn20:=(Bool.not_eq_true' _).mp hb20
  exact aC<|aq<|aZ<|aq<|aZ<|aD .nil (⟨_,rfl,⟨hs1,my cX hx1 (sU cX (by omega) (.inl (by omega))) hn20⟩,H19⟩)
 have hn20:=(Bool.not_eq_false' _).mp hb20
 refine aA<|ao<|ap<|WC.held 24 O Fa.M H19 (fun w'=> ∃L',Ke T w w' ([]++L')) ?_
 intro w21 H21
 refine xt 0 O v H21 (fun _ _ HX=>au O ⟨rfl,rfl⟩)<|xt 1 O (vN f) H21 (fun _ _ HX=>au O ⟨rfl,rfl⟩)<|xt 2 O (vN x) H21 (fun _ _ HX=>au O ⟨rfl,rfl⟩)<|xt 3 O (vN (f+x)) H21 (fun _ _ HX=>aU O O (by omega) ⟨rfl,rfl⟩)<|xt 4 O v H21 (fun _ _ HX=>au O ⟨rfl,rfl⟩)<|xt 5 O (vN f) H21 (fun _ _ HX=>au O ⟨rfl,rfl⟩)<|xt 6 O (vN ((2 * x)+1)) H21 (fun _ _ HX=>au O ⟨rfl,rfl⟩)<|xt 7 O (vN (f+((2 * x)+1))) H21 (fun _ _ HX=>aU O O (by omega) ⟨rfl,rfl⟩)<|xt 8 O v H21 (fun _ _ HX=>au O ⟨rfl,rfl⟩)<|xt 9 O (vN f) H21 (fun _ _ HX=>au O ⟨rfl,rfl⟩)<|xt 10 O (vN ((2 * x)+1)) H21 (fun _ _ HX=>au O ⟨rfl,rfl⟩)<|xt 11 O (vN (f+((2 * x)+1))) H21 (fun _ _ HX=>aU O O (by omega) ⟨rfl,rfl⟩)<|xt 12 O (.pointer (some (sp v (f+((2 * x)+1))))) H21 (fun _ _ HX=>aP A73 Fa.I22 O (H21.arrR (i:=0) O) O (by omega) ⟨rfl,rfl⟩)<|xt 14 O v H21 (fun _ _ HX=>au O ⟨rfl,rfl⟩)<|xt 15 O (vN f) H21 (fun _ _ HX=>au O ⟨rfl,rfl⟩)<|xt 16 O (vN x) H21 (fun _ _ HX=>au O ⟨rfl,rfl⟩)<|xt 17 O (vN (f+x)) H21 (fun _ _ HX=>aU O O (by omega) ⟨rfl,rfl⟩)<|xt 18 O (.pointer (some (sp v (f+x)))) H21 (fun _ _ HX=>aP A73 Fa.I22 O (H21.arrR (i:=0) O) O (by omega) ⟨rfl,rfl⟩)<|dh (fun W hW=>?_)
 let e6:List (Nat × Value)→List (Nat × Value):=fun r=>(0,v)::(1,(vN lo))::(2,(vN hi))::(3,(vN f))::(8,(vN x))::(9,(vN ((2 * x)+1)))::(11,(vN x))::(12,(vN (2 * x)))::(13,(vN ((2 * x)+1)))::(14,(vN ((2 * x)+1)))::(15,(vN hi))::(16,(.bool (decide (((2 * x)+1)≥hi))))::(17,(vN ((2 * x)+1)))::(18,(vN (((2 * x)+1)+1)))::(19,(vN hi))::(20,(.bool (decide ((((2 * x)+1)+1)<hi))))::(21,(.bool (decide ((((2 * x)+1)+1)<hi))))::(22,undef)::(23,undef)::(24,undef)::(25,undef)::(26,undef)::(27,undef)::(28,undef)::(29,undef)::(30,undef)::(31,undef)::(32,undef)::(33,undef)::(34,undef)::(35,undef)::(36,(.bool false))::(39,v)::(40,(vN f))::(41,(vN x))::(42,(vN (f+x)))::(43,(.pointer (some (sp v (f+x)))))::(44,(aa (l1.getD (f+x) 0)))::(45,v)::(46,(vN f))::(47,(vN ((2 * x)+1)))::(48,(vN (f+((2 * x)+1))))::(49,(.pointer (some (sp v (f+((2 * x)+1))))))::(50,(aa (l1.getD (f+((2 * x)+1)) 0)))::(51,(.bool (bO (l1.getD (f+x) 0) (l1.getD (f+((2 * x)+1)) 0))))::(52,(.bool (!(bO (l1.getD (f+x) 0) (l1.getD (f+((2 * x)+1)) 0)))))::r
 let Bm:Ent:=.row v 22 1 n (Kg aa l1)
 have B1: ∀wS,Ke T w wS [.row v 22 1 n (Kg aa ((l1.set (f+x) (l1.getD (f+((2 * x)+1)) 0)).set (f+((2 * x)+1)) (l1.getD (f+x) 0)))]→W 0 (bz 24 16777215) (e6 []) wS:=fun wS HS=>by
  rw [hW]
  refine WH.done (by kernel_rfl)<|ao<|aG<|wm O<|wa O<|aY<|aE ?_
  have hst:=mz cX (by omega) hx1 hg1 (sU cX (by omega) (.inl (by omega))) (by omega) hn20
  exact aX ((2 * x+1),cY 0 l1 (f+x) (f+(2 * x+1))) ⟨⟨by omega,.inl (by omega),hs1.step (by omega) (by omega) (by omega) (by omega),hst.1,hst.2⟩,HS⟩ ⟨rfl,rfl,rfl,rfl,rfl,trivial⟩ (by show hi-(2 * x+1)<hi-x; omega)
 have B2: ∀wS,Ke T w wS [.row v 22 1 n (Kg aa (l1.set (f+x) (l1.getD (f+((2 * x)+1)) 0)))]→W 1 (bz 24 8388607) (e6 [(72,(aa (l1.getD (f+x) 0))),(74,(.pointer (some (sp v (f+((2 * x)+1))))))]) wS:=fun wS HS=>by
  rw [hW]
  refine wh1 23<|kH 23 O (bN (i:=0) (f:=aa) (l:=(l1.set (f+x) (l1.getD (f+((2 * x)+1)) 0))) (c:=(l1.getD (f+x) 0)) HS O O O (by omega) O Fa.I22 (fun w23 H23=>(⟨⟨_,H23⟩,?_⟩)))
  exact bh hW (B1 w23 H23)
 have B0: ∀wS,Ke T w wS [Bm]→W 3 (bz 24 2097151) (e6 [(57,v),(60,(vN (f+((2 * x)+1)))),(66,(aa (l1.getD (f+((2 * x)+1)) 0))),(72,(aa (l1.getD (f+x) 0))),(73,(.pointer (some (sp v (f+x)))))]) wS:=fun wS HS=>by
  rw [hW]
  refine wh1 21<|kH 21 O (bN (i:=0) (f:=aa) (l:=l1) (c:=(l1.getD (f+((2 * x)+1)) 0)) HS O O O (by omega) O Fa.I22 (fun w12 H12=>(⟨⟨_,H12⟩,?_⟩)))
  exact xt 22 O (.pointer (some (sp v (f+((2 * x)+1))))) H12 (fun _ _ HX=>aP A73 Fa.I22 O (H12.arrR (i:=0) O) O (by omega) ⟨rfl,rfl⟩)<|bh hW (B2 w12 H12)
 have B3: ∀wS,Ke T w wS [Bm]→W 5 (bz 24 524287) (e6 [(53,v),(56,(vN (f+x))),(57,v),(60,(vN (f+((2 * x)+1)))),(66,(aa (l1.getD (f+((2 * x)+1)) 0))),(71,(.pointer (some (sp v (f+x)))))]) wS:=fun wS HS=>by
  rw [hW]
  refine wh1 19<|kH 19 O (aj O ((HS.arrR (i:=0) O).at (aR aa 0 (aV (HS.arrR (i:=0) O) (by omega)))) A22 O (⟨⟨_,HS⟩,?_⟩))
  exact xt 20 O (.pointer (some (sp v (f+x)))) HS (fun _ _ HX=>aP A73 Fa.I22 O (HS.arrR (i:=0) O) O (by omega) ⟨rfl,rfl⟩)<|bh hW (B0 wS HS)
 have B4: ∀wS,Ke T w wS [Bm]→W 5 (bz 24 1040383) (e6 [(53,v),(56,(vN (f+x))),(57,v),(60,(vN (f+((2 * x)+1)))),(65,(.pointer (some (sp v (f+((2 * x)+1)))))),(72,(aa (l1.getD (f+x) 0)))]) wS:=fun wS HS=>by
  rw [hW]
  refine wh1 13<|kH 13 O (aj O ((HS.arrR (i:=0) O).at (aR aa 0 (aV (HS.arrR (i:=0) O) (by omega)))) A22 O (⟨⟨_,HS⟩,?_⟩))
  exact xt 20 O (.pointer (some (sp v (f+x)))) HS (fun _ _ HX=>aP A73 Fa.I22 O (HS.arrR (i:=0) O) O (by omega) ⟨rfl,rfl⟩)<|bh hW (B0 wS HS)
 have B5: ∀wS,Ke T w wS [Bm]→W 6 (bz 24 516095) (e6 [(53,v),(56,(vN (f+x))),(57,v),(60,(vN (f+((2 * x)+1)))),(65,(.pointer (some (sp v (f+((2 * x)+1)))))),(71,(.pointer (some (sp v (f+x)))))]) wS:=fun wS HS=>by
  rw [hW]
  refine wh2 13 19 ?_ ?_
  ·
   refine kH 13 O (aj O ((HS.arrR (i:=0) O).at (aR aa 0 (aV (HS.arrR (i:=0) O) (by omega)))) A22 O (⟨⟨_,HS⟩,?_⟩))
   exact bh hW (B3 wS HS)
  refine kH 19 O (aj O ((HS.arrR (i:=0) O).at (aR aa 0 (aV (HS.arrR (i:=0) O) (by omega)))) A22 O (⟨⟨_,HS⟩,?_⟩))
  exact bh hW (B4 wS HS)
 have hq:=B5 w21 H21
 rw [hW] at hq ⊢
 exact WH.cv hq
theorem Ey (v:Value) (n:Nat) (l:List UInt32) (a b:Nat) (T:List Nat) (w:World) (H:Ke T w w [.row v 22 1 n (Kg aa l)]) (hn:l.length=n) (hN:n<2^61) (hab:a<b) (hb:b≤n) :
  Calls Kf 212 #[v,(vN a),(vN b)] w (fun e w'=> ∃(l':List UInt32),e=.returned undef∧(Sw 0 a b l l'∧SortS bO 0 a b l')∧Ke T w w' [.row v 22 1 n (Kg aa l')]):=by
 refine enter Tryz.func212 O O<|ws<|wm O<|wa O<|wn<|ws<|wa O<|wn<|ws<|wm O<|wm O<|wo (bE O O (by omega) (by omega)<|wa O<|wn<|ap<|ws<|wm O<|wo (bE (b:=1) O O (by omega) (by omega)<|wo (iv (b:=2) O O (by omega) (by omega)<|wa O<|wn<|aB<|bi (α:=Nat × List UInt32) (fun (k,l1)=>[(0,v),(1,(vN a)),(2,(vN b)),(6,(vN a)),(7,(vN 0)),(8,(vN (b-a))),(9,(vI ((k:Int)-(1:Int))))]) (fun (k,l1) w'=>(k≤(b-a-1) / 2+1∧Sw 0 a b l l1∧jn bO 0 k (b-a) a l1)∧Ke T w w' [.row v 22 1 n (Kg aa l1)]) (fun (k,l1)=>k) ((b-a-1) / 2+1,l) ⟨⟨Nat.le_refl _,.refl _,fun r c q1 q2 q3=>by omega⟩,H⟩ ⟨rfl,rfl,rfl,rfl,rfl,rfl,(congrArg some (Fc (by omega))),trivial⟩ ?_)))
 rintro ⟨k,l1⟩ w1 ⟨⟨hk1,hs1,hh1⟩,H1⟩
 show WC _ _ _ _ _ [(0,v),(1,(vN a)),(2,(vN b)),(6,(vN a)),(7,(vN 0)),(8,(vN (b-a))),(9,(vI ((k:Int)-(1:Int))))] _
 have hL1:=hs1.len
 refine WC.cut (α:=Nat) (fun q=>[(0,v),(1,(vN a)),(2,(vN b)),(6,(vN a)),(7,(vN 0)),(8,(vN (b-a))),(9,(vN q))]) (fun q w'=>(q+1=k)∧Ke T w w' [.row v 22 1 n (Kg aa l1)]) ?_ ?_
 ·
  refine ws<|wm O<|wo (fe (b:=(0:Int)) O O<|wn (wE (((k:Int)-(1:Int))≥(0:Int)) (fun hb2 hc2=>?_) (fun hb2 hc2=>?_)))
  ·
   exact aA<|cd (k-1) ⟨(by omega),H1⟩ ⟨rfl,rfl,rfl,rfl,rfl,rfl,(congrArg some (Spec.Fd (by omega))),trivial⟩
  refine bc<|an<|an<|aS<|ao<|ws<|wm O<|wo (bE (b:=1) O O (by omega) (by omega)<|wa O<|wn<|aB<|bi (α:=Nat × List UInt32) (fun (k2,l2)=>[(0,v),(1,(vN a)),(2,(vN b)),(6,(vN a)),(7,(vN 0)),(8,(vN (b-a))),(10,(vI ((k2:Int)-(1:Int))))]) (fun (k2,l2) w'=>(k2≤b-a∧Sw 0 a b l l2∧pn bO 0 a (b-a) k2 l2)∧Ke T w w' [.row v 22 1 n (Kg aa l2)]) (fun (k2,l2)=>k2) (b-a,l1) ⟨⟨Nat.le_refl _,hs1,yd (by rw [show k=0 by omega] at hh1; exact hh1)⟩,H1⟩ ⟨rfl,rfl,rfl,rfl,rfl,rfl,(congrArg some (Fc (by omega))),trivial⟩ ?_)
  rintro ⟨k2,l2⟩ w3 ⟨⟨hk2,hs2,hh2⟩,H3⟩
  show WC _ _ _ _ _ [(0,v),(1,(vN a)),(2,(vN b)),(6,(vN a)),(7,(vN 0)),(8,(vN (b-a))),(10,(vI ((k2:Int)-(1:Int))))] _
  have hL2:=hs2.len
  refine WC.cut (α:=Nat) (fun q2=>[(0,v),(1,(vN a)),(2,(vN b)),(6,(vN a)),(7,(vN 0)),(8,(vN (b-a))),(10,(vN q2))]) (fun q2 w'=>(q2+1=k2)∧Ke T w w' [.row v 22 1 n (Kg aa l2)]) ?_ ?_
  ·
   refine ws<|wm O<|wo (fe (b:=(0:Int)) O O<|wn (wE (((k2:Int)-(1:Int))≥(0:Int)) (fun hb4 hc4=>?_) (fun hb4 hc4=>?_)))
   ·
    exact aA<|cd (k2-1) ⟨(by omega),H3⟩ ⟨rfl,rfl,rfl,rfl,rfl,rfl,(congrArg some (Spec.Fd (by omega))),trivial⟩
   exact bc<|an<|an<|aS<|WQ.outEnd .nil (⟨_,rfl,⟨hs2,zV (by rw [show k2=0 by omega] at hh2; exact hh2) (by omega)⟩,H3⟩)
  rintro q2 w5 ⟨hq2,H5⟩
  show WC _ _ _ _ _ [(0,v),(1,(vN a)),(2,(vN b)),(6,(vN a)),(7,(vN 0)),(8,(vN (b-a))),(10,(vN q2))] _
  subst hq2
  have hSL:(cY 0 l2 a (a+q2)).length=n:=by rw [gl]; omega
  refine ap<|aB<|ap<|WC.held 20 O Fa.M H5 (fun w'=> ∃L',Ke T w w' ([]++L')) ?_
  intro w6 H6
  refine xt 0 O v H6 (fun _ _ HX=>au O ⟨rfl,rfl⟩)<|xt 1 O (vN a) H6 (fun _ _ HX=>au O ⟨rfl,rfl⟩)<|xt 2 O v H6 (fun _ _ HX=>au O ⟨rfl,rfl⟩)<|xt 3 O (vN a) H6 (fun _ _ HX=>au O ⟨rfl,rfl⟩)<|xt 4 O (vN q2) H6 (fun _ _ HX=>au O ⟨rfl,rfl⟩)<|xt 5 O (vN (a+q2)) H6 (fun _ _ HX=>aU O O (by omega) ⟨rfl,rfl⟩)<|xt 6 O v H6 (fun _ _ HX=>au O ⟨rfl,rfl⟩)<|xt 7 O (vN a) H6 (fun _ _ HX=>au O ⟨rfl,rfl⟩)<|xt 8 O (vN q2) H6 (fun _ _ HX=>au O ⟨rfl,rfl⟩)<|xt 9 O (vN (a+q2)) H6 (fun _ _ HX=>aU O O (by omega) ⟨rfl,rfl⟩)<|xt 10 O (.pointer (some (sp v (a+q2)))) H6 (fun _ _ HX=>aP A73 Fa.I22 O (H6.arrR (i:=0) O) O (by omega) ⟨rfl,rfl⟩)<|xt 12 O v H6 (fun _ _ HX=>au O ⟨rfl,rfl⟩)<|xt 13 O (vN a) H6 (fun _ _ HX=>au O ⟨rfl,rfl⟩)<|xt 14 O (.pointer (some (sp v a))) H6 (fun _ _ HX=>aP A73 Fa.I22 O (H6.arrR (i:=0) O) O (by omega) ⟨rfl,rfl⟩)<|dh (fun W hW=>?_)
  let e10:List (Nat × Value)→List (Nat × Value):=fun r=>(0,v)::(1,(vN a))::(2,(vN b))::(6,(vN a))::(7,(vN 0))::(8,(vN (b-a)))::(10,(vN q2))::r
  let Bm:Ent:=.row v 22 1 n (Kg aa l2)
  have B1: ∀wS,Ke T w wS [.row v 22 1 n (Kg aa ((l2.set a (l2.getD (a+q2) 0)).set (a+q2) (l2.getD a 0)))]→W 0 (bz 20 1048575) (e10 []) wS:=fun wS HS=>by
   rw [hW]
   refine WH.done (by kernel_rfl)<|ao<|aG<|wm O<|wm O<|wm O<|wm O<|wo (az (Kd 236) O ((uJ v n ((l2.set a (l2.getD (a+q2) 0)).set (a+q2) (l2.getD a 0)) 0 q2 a _ _ (HS.part [0] O O) hSL (by omega) (by omega) (by omega) (zU (by omega) (by omega) hh2)).mono (fun e w8 hq=>?_)))
   obtain ⟨l8,rfl,hc8,hq8⟩:=hq
   refine ⟨_,rfl,?_⟩
   have H8:=HS.splice [0] [.row v 22 1 n (Kg aa l8)] [] O O hq8 (am ae aI)
   exact aY<|aE<|ao<|aG<|wm O<|wo (eq (a:=((q2:Nat):Int)) (b:=((1:Nat):Int)) O O (by omega)<|wa O<|aY<|aX (q2,l8) ⟨⟨by omega,(hs2.step (by omega) (by omega) (by omega) (by omega)).trans (hc8.1.mono (by omega) (by omega)),yc cX (by omega) (by omega) hh2 hc8.1 hc8.2⟩,H8⟩ ⟨rfl,rfl,rfl,rfl,rfl,rfl,rfl,trivial⟩ (by show q2<q2+1; omega))
  have B2: ∀wS,Ke T w wS [.row v 22 1 n (Kg aa (l2.set a (l2.getD (a+q2) 0)))]→W 1 (bz 20 524287) (e10 [(48,(aa (l2.getD a 0))),(50,(.pointer (some (sp v (a+q2)))))]) wS:=fun wS HS=>by
   rw [hW]
   refine wh1 19<|kH 19 O (bN (i:=0) (f:=aa) (l:=(l2.set a (l2.getD (a+q2) 0))) (c:=(l2.getD a 0)) HS O O O (by omega) O Fa.I22 (fun w11 H11=>(⟨⟨_,H11⟩,?_⟩)))
   exact bh hW (B1 w11 H11)
  have B0: ∀wS,Ke T w wS [Bm]→W 3 (bz 20 131071) (e10 [(35,v),(38,(vN (a+q2))),(44,(aa (l2.getD (a+q2) 0))),(48,(aa (l2.getD a 0))),(49,(.pointer (some (sp v a))))]) wS:=fun wS HS=>by
   rw [hW]
   refine wh1 17<|kH 17 O (bN (i:=0) (f:=aa) (l:=l2) (c:=(l2.getD (a+q2) 0)) HS O O O (by omega) O Fa.I22 (fun w7 H7=>(⟨⟨_,H7⟩,?_⟩)))
   exact xt 18 O (.pointer (some (sp v (a+q2)))) H7 (fun _ _ HX=>aP A73 Fa.I22 O (H7.arrR (i:=0) O) O (by omega) ⟨rfl,rfl⟩)<|bh hW (B2 w7 H7)
  have B3: ∀wS,Ke T w wS [Bm]→W 5 (bz 20 32767) (e10 [(33,v),(34,(vN a)),(35,v),(38,(vN (a+q2))),(44,(aa (l2.getD (a+q2) 0))),(47,(.pointer (some (sp v a))))]) wS:=fun wS HS=>by
   rw [hW]
   refine wh1 15<|kH 15 O (aj O ((HS.arrR (i:=0) O).at (aR aa 0 (aV (HS.arrR (i:=0) O) (by omega)))) A22 O (⟨⟨_,HS⟩,?_⟩))
   exact xt 16 O (.pointer (some (sp v a))) HS (fun _ _ HX=>aP A73 Fa.I22 O (HS.arrR (i:=0) O) O (by omega) ⟨rfl,rfl⟩)<|bh hW (B0 wS HS)
  have B4: ∀wS,Ke T w wS [Bm]→W 5 (bz 20 63487) (e10 [(33,v),(34,(vN a)),(35,v),(38,(vN (a+q2))),(43,(.pointer (some (sp v (a+q2))))),(48,(aa (l2.getD a 0)))]) wS:=fun wS HS=>by
   rw [hW]
   refine wh1 11<|kH 11 O (aj O ((HS.arrR (i:=0) O).at (aR aa 0 (aV (HS.arrR (i:=0) O) (by omega)))) A22 O (⟨⟨_,HS⟩,?_⟩))
   exact xt 16 O (.pointer (some (sp v a))) HS (fun _ _ HX=>aP A73 Fa.I22 O (HS.arrR (i:=0) O) O (by omega) ⟨rfl,rfl⟩)<|bh hW (B0 wS HS)
  have B5: ∀wS,Ke T w wS [Bm]→W 6 (bz 20 30719) (e10 [(33,v),(34,(vN a)),(35,v),(38,(vN (a+q2))),(43,(.pointer (some (sp v (a+q2))))),(47,(.pointer (some (sp v a))))]) wS:=fun wS HS=>by
   rw [hW]
   refine wh2 11 15 ?_ ?_
   ·
    refine kH 11 O (aj O ((HS.arrR (i:=0) O).at (aR aa 0 (aV (HS.arrR (i:=0) O) (by omega)))) A22 O (⟨⟨_,HS⟩,?_⟩))
    exact bh hW (B3 wS HS)
   refine kH 15 O (aj O ((HS.arrR (i:=0) O).at (aR aa 0 (aV (HS.arrR (i:=0) O) (by omega)))) A22 O (⟨⟨_,HS⟩,?_⟩))
   exact bh hW (B4 wS HS)
  have hq:=B5 w6 H6
  rw [hW] at hq ⊢
  exact WH.cv hq
 rintro q w9 ⟨hq,H9⟩
 show WC _ _ _ _ _ [(0,v),(1,(vN a)),(2,(vN b)),(6,(vN a)),(7,(vN 0)),(8,(vN (b-a))),(9,(vN q))] _
 subst hq
 refine ap<|aB<|aG<|wm O<|wm O<|wm O<|wm O<|wo (az (Kd 236) O ((uJ v n l1 q (b-a) a _ _ (H9.part [0] O O) (by omega) (by omega) (by omega) (by omega) hh1).mono (fun e w10 hq=>?_)))
 obtain ⟨l10,rfl,hc10,hq10⟩:=hq
 refine ⟨_,rfl,?_⟩
 have H10:=H9.splice [0] [.row v 22 1 n (Kg aa l10)] [] O O hq10 (am ae aI)
 exact aY<|aE<|ao<|aG<|wm O<|wo (eq (a:=((q:Nat):Int)) (b:=((1:Nat):Int)) O O (by omega)<|wa O<|aY<|aX (q,l10) ⟨⟨by omega,hs1.trans (hc10.1.mono (by omega) (by omega)),hc10.2⟩,H10⟩ ⟨rfl,rfl,rfl,rfl,rfl,rfl,rfl,trivial⟩ (by show q<q+1; omega))
theorem Fv (v:Value) (n:Nat) (l:List UInt32) (a b:Nat) (T:List Nat) (w:World) (H:Ke T w w [.row v 22 1 n (Kg aa l)]) (hn:l.length=n) (hN:n<2^61) (hab:a<b) (hb:b≤n) :
  Calls Kf 215 #[v,(vN a),(vN b)] w (fun e w'=> ∃(l':List UInt32),e=.returned undef∧(Sw 0 a b l l')∧Ke T w w' [.row v 22 1 n (Kg aa l')]):=by
 refine enter Tryz.func215 O O<|ws<|wm O<|wa O<|wn<|ws<|wm O<|wo (bE (b:=1) O O (by omega) (by omega)<|wa O<|wn<|aB<|bi (α:=Nat × Nat × List UInt32) (fun (i,j,l1)=>[(0,v),(1,(vN a)),(2,(vN b)),(6,(vN i)),(7,(vN j))]) (fun (i,j,l1) w'=>(a≤i∧j<b∧Sw 0 a b l l1)∧Ke T w w' [.row v 22 1 n (Kg aa l1)]) (fun (i,j,l1)=>j-i) (a,b-1,l) ⟨⟨Nat.le_refl _,by omega,.refl _⟩,H⟩ ⟨rfl,rfl,rfl,rfl,rfl,trivial⟩ ?_)
 rintro ⟨i,j,l1⟩ w1 ⟨⟨hi1,hj1,hs1⟩,H1⟩
 show WC _ _ _ _ _ [(0,v),(1,(vN a)),(2,(vN b)),(6,(vN i)),(7,(vN j))] _
 have hL1:=hs1.len
 refine ap<|ws<|wm O<|wm O<|wo (bm O O<|wn (wE (i<j) (fun hb2 hc2=>?_) (fun hb2 hc2=>?_)))
 ·
  refine aA<|ao<|aB<|ap<|WC.held 16 O Fa.M H1 (fun w'=> ∃L',Ke T w w' ([]++L')) ?_
  intro w3 H3
  refine xt 0 O v H3 (fun _ _ HX=>au O ⟨rfl,rfl⟩)<|xt 1 O (vN i) H3 (fun _ _ HX=>au O ⟨rfl,rfl⟩)<|xt 2 O v H3 (fun _ _ HX=>au O ⟨rfl,rfl⟩)<|xt 3 O (vN j) H3 (fun _ _ HX=>au O ⟨rfl,rfl⟩)<|xt 4 O v H3 (fun _ _ HX=>au O ⟨rfl,rfl⟩)<|xt 5 O (vN j) H3 (fun _ _ HX=>au O ⟨rfl,rfl⟩)<|xt 6 O (.pointer (some (sp v j))) H3 (fun _ _ HX=>aP A73 Fa.I22 O (H3.arrR (i:=0) O) O (by omega) ⟨rfl,rfl⟩)<|xt 8 O v H3 (fun _ _ HX=>au O ⟨rfl,rfl⟩)<|xt 9 O (vN i) H3 (fun _ _ HX=>au O ⟨rfl,rfl⟩)<|xt 10 O (.pointer (some (sp v i))) H3 (fun _ _ HX=>aP A73 Fa.I22 O (H3.arrR (i:=0) O) O (by omega) ⟨rfl,rfl⟩)<|dh (fun W hW=>?_)
  let e3:List (Nat × Value)→List (Nat × Value):=fun r=>(0,v)::(1,(vN a))::(2,(vN b))::(6,(vN i))::(7,(vN j))::(11,(vN i))::(12,(vN j))::(13,(.bool (decide (i<j))))::r
  let Bm:Ent:=.row v 22 1 n (Kg aa l1)
  have B1: ∀wS,Ke T w wS [.row v 22 1 n (Kg aa ((l1.set i (l1.getD j 0)).set j (l1.getD i 0)))]→W 0 (bz 16 65535) (e3 []) wS:=fun wS HS=>by
   rw [hW]
   exact WH.done (by kernel_rfl)<|ao<|ws<|wm O<|wo (aU (b:=1) O O (by omega)<|wa O<|wn<|aG<|wm O<|wo (bE (b:=1) O O (by omega) (by omega)<|wa O<|aY<|aE<|aX (i+1,j-1,cY 0 l1 i j) ⟨⟨by omega,by omega,hs1.step (by omega) (by omega) (by omega) (by omega)⟩,HS⟩ ⟨rfl,rfl,rfl,rfl,rfl,trivial⟩ (by show j-1-(i+1)<j-i; omega)))
  have B2: ∀wS,Ke T w wS [.row v 22 1 n (Kg aa (l1.set i (l1.getD j 0)))]→W 1 (bz 16 32767) (e3 [(25,(aa (l1.getD i 0))),(27,(.pointer (some (sp v j))))]) wS:=fun wS HS=>by
   rw [hW]
   refine wh1 15<|kH 15 O (bN (i:=0) (f:=aa) (l:=(l1.set i (l1.getD j 0))) (c:=(l1.getD i 0)) HS O O O (by omega) O Fa.I22 (fun w7 H7=>(⟨⟨_,H7⟩,?_⟩)))
   exact bh hW (B1 w7 H7)
  have B0: ∀wS,Ke T w wS [Bm]→W 3 (bz 16 8191) (e3 [(16,v),(17,(vN j)),(21,(aa (l1.getD j 0))),(25,(aa (l1.getD i 0))),(26,(.pointer (some (sp v i))))]) wS:=fun wS HS=>by
   rw [hW]
   refine wh1 13<|kH 13 O (bN (i:=0) (f:=aa) (l:=l1) (c:=(l1.getD j 0)) HS O O O (by omega) O Fa.I22 (fun w6 H6=>(⟨⟨_,H6⟩,?_⟩)))
   exact xt 14 O (.pointer (some (sp v j))) H6 (fun _ _ HX=>aP A73 Fa.I22 O (H6.arrR (i:=0) O) O (by omega) ⟨rfl,rfl⟩)<|bh hW (B2 w6 H6)
  have B3: ∀wS,Ke T w wS [Bm]→W 5 (bz 16 2047) (e3 [(14,v),(15,(vN i)),(16,v),(17,(vN j)),(21,(aa (l1.getD j 0))),(24,(.pointer (some (sp v i))))]) wS:=fun wS HS=>by
   rw [hW]
   refine wh1 11<|kH 11 O (aj O ((HS.arrR (i:=0) O).at (aR aa 0 (aV (HS.arrR (i:=0) O) (by omega)))) A22 O (⟨⟨_,HS⟩,?_⟩))
   exact xt 12 O (.pointer (some (sp v i))) HS (fun _ _ HX=>aP A73 Fa.I22 O (HS.arrR (i:=0) O) O (by omega) ⟨rfl,rfl⟩)<|bh hW (B0 wS HS)
  have B4: ∀wS,Ke T w wS [Bm]→W 5 (bz 16 3967) (e3 [(14,v),(15,(vN i)),(16,v),(17,(vN j)),(20,(.pointer (some (sp v j)))),(25,(aa (l1.getD i 0)))]) wS:=fun wS HS=>by
   rw [hW]
   refine wh1 7<|kH 7 O (aj O ((HS.arrR (i:=0) O).at (aR aa 0 (aV (HS.arrR (i:=0) O) (by omega)))) A22 O (⟨⟨_,HS⟩,?_⟩))
   exact xt 12 O (.pointer (some (sp v i))) HS (fun _ _ HX=>aP A73 Fa.I22 O (HS.arrR (i:=0) O) O (by omega) ⟨rfl,rfl⟩)<|bh hW (B0 wS HS)
  have B5: ∀wS,Ke T w wS [Bm]→W 6 (bz 16 1919) (e3 [(14,v),(15,(vN i)),(16,v),(17,(vN j)),(20,(.pointer (some (sp v j)))),(24,(.pointer (some (sp v i))))]) wS:=fun wS HS=>by
   rw [hW]
   refine wh2 7 11 ?_ ?_
   ·
    refine kH 7 O (aj O ((HS.arrR (i:=0) O).at (aR aa 0 (aV (HS.arrR (i:=0) O) (by omega)))) A22 O (⟨⟨_,HS⟩,?_⟩))
    exact bh hW (B3 wS HS)
   refine kH 11 O (aj O ((HS.arrR (i:=0) O).at (aR aa 0 (aV (HS.arrR (i:=0) O) (by omega)))) A22 O (⟨⟨_,HS⟩,?_⟩))
   exact bh hW (B4 wS HS)
  have hq:=B5 w3 H3
  rw [hW] at hq ⊢
  exact WH.cv hq
 exact bc<|an<|an<|aS<|WQ.outEnd .nil (⟨_,rfl,hs1,H1⟩)
theorem qv (v:Value) (n:Nat) (l:List UInt32) (a b q s:Nat) (T:List Nat) (w:World) (H:Ke T w w [.row v 22 1 n (Kg aa l),.blk q [(vN s)] 3]) (_hn:l.length=n) (_hN:n<2^61) (ha:a<n) (hb:b<n) (hs:s<2^60) :
  Calls Kf 249 #[v,(vN a),(vN b),(ptr q 0)] w (fun e w'=> ∃(s':Nat) (x y:Nat),e=.returned (.tuple #[vN x,vN y])∧(s≤s'∧s'≤s+1∧(x=a∧y=b∨x=b∧y=a))∧Ke T w w' [.row v 22 1 n (Kg aa l),.blk q [vN s'] 3]):=by
 refine enter Tryz.func249 O O<|ws<|wa O<|wa O<|wn<|ap<|ap<|bn 9 Fa.M H (mh O<|mh O<|oh (fun w1 H1=>aF A73 Fa.I22 O (H1.arrR (i:=0) O) O (by omega) zr)<|oh (fun w1 H1=>aj O ((H1.arrR (i:=0) O).at (aR aa 0 (aV (H1.arrR (i:=0) O) (by omega)))) A22 O zr)<|mh O<|mh O<|oh (fun w1 H1=>aF A73 Fa.I22 O (H1.arrR (i:=0) O) O (by omega) zr)<|oh (fun w1 H1=>aj O ((H1.arrR (i:=0) O).at (aR aa 0 (aV (H1.arrR (i:=0) O) (by omega)))) A22 O zr)<|oh (fun w1 H1=>az (Kd 217) O ((eC (l.getD b 0) (l.getD a 0) _).mono (fun e w2 hq=>⟨_,hq.1,rfl,hq.2⟩)))  bD) (by kernel_rfl) ?_
 intro β2 w2 H2
 refine wn (wC (bO (l.getD b 0) (l.getD a 0)) (fun hb3=>?_) (fun hb3=>?_))
 ·
  exact ws<|wm O<|wo (aJ O<|wo (aj O (H2.cell (i:=1) O O) A3 O<|wo (aU (b:=1) O O (by omega)<|wo (aJ O<|wo (bC (i:=1) H2 O O O O O Fa.I3 (fun w4 H4=>(wn<|ws<|wm O<|wm O<|wa O<|wa O<|wn<|aC<|aq<|aD (.tmp O (.tmp O .nil)) (⟨_,_,_,rfl,⟨by omega,by omega,.inr ⟨rfl,rfl⟩⟩,H4⟩))))))))
 exact aA<|ao<|ws<|wm O<|wm O<|wa O<|wa O<|wn<|aC<|aD (.tmp O (.tmp O .nil)) (⟨_,_,_,rfl,⟨by omega,by omega,.inl ⟨rfl,rfl⟩⟩,H2⟩)
theorem tg (v:Value) (n:Nat) (l:List UInt32) (a b c q s:Nat) (T:List Nat) (w:World) (H:Ke T w w [.row v 22 1 n (Kg aa l),.blk q [(vN s)] 3]) (hn:l.length=n) (hN:n<2^61) (ha:a<n) (hb:b<n) (hc:c<n) (hs:s<2^59) :
  Calls Kf 240 #[v,(vN a),(vN b),(vN c),(ptr q 0)] w (fun e w'=> ∃(s':Nat) (x:Nat),e=.returned (vN x)∧(s≤s'∧s'≤s+3∧(x=a∨x=b∨x=c))∧Ke T w w' [.row v 22 1 n (Kg aa l),.blk q [vN s'] 3]):=by
 refine enter Tryz.func240 O O<|ws<|wa O<|wn<|ws<|wm O<|wm O<|wm O<|wm O<|wo (az (Kd 249) O ((qv v n l a b q s _ _ (H.part [0,1] O O) (by omega) (by omega) (by omega) (by omega) (by omega)).mono (fun e w1 hq=>?_)))
 obtain ⟨s1,x1,y1,rfl,hc1,hq1⟩:=hq
 refine ⟨_,rfl,?_⟩
 have H1:=H.splice [0,1] [.row v 22 1 n (Kg aa l),.blk q [(vN s1)] 3] [] O O hq1 (am ae (am ae aI))
 refine wm O<|we O O<|we O O<|wa O<|wa O<|wn<|ws<|wm O<|wm O<|wm O<|wm O<|wo (az (Kd 249) O ((qv v n l y1 c q s1 _ _ (H1.part [0,1] O O) (by omega) (by omega) (by omega) (by omega) (by omega)).mono (fun e w2 hq=>?_)))
 obtain ⟨s2,x2,y2,rfl,hc2,hq2⟩:=hq
 refine ⟨_,rfl,?_⟩
 have H2:=H1.splice [0,1] [.row v 22 1 n (Kg aa l),.blk q [(vN s2)] 3] [] O O hq2 (am ae (am ae aI))
 refine wm O<|we O O<|we O O<|wa O<|wa O<|wn<|ws<|wm O<|wm O<|wm O<|wm O<|wo (az (Kd 249) O ((qv v n l x1 x2 q s2 _ _ (H2.part [0,1] O O) (by omega) (by omega) (by omega) (by omega) (by omega)).mono (fun e w3 hq=>?_)))
 obtain ⟨s3,x3,y3,rfl,hc3,hq3⟩:=hq
 refine ⟨_,rfl,?_⟩
 have H3:=H2.splice [0,1] [.row v 22 1 n (Kg aa l),.blk q [(vN s3)] 3] [] O O hq3 (am ae (am ae aI))
 exact wm O<|we O O<|we O O<|wa O<|wa O<|wn<|ws<|wm O<|wa O<|wn<|aC<|aD (.tmp O .nil) (⟨_,_,rfl,⟨by omega,by omega,by omega⟩,H3⟩)
theorem mJ (v:Value) (n:Nat) (l:List UInt32) (a q s:Nat) (T:List Nat) (w:World) (H:Ke T w w [.row v 22 1 n (Kg aa l),.blk q [(vN s)] 3]) (hn:l.length=n) (hN:n<2^61) (ha:a+1<n) (ha1:1≤a) (hs:s<2^58) :
  Calls Kf 239 #[v,(vN a),(ptr q 0)] w (fun e w'=> ∃(s':Nat) (x:Nat),e=.returned (vN x)∧(s≤s'∧s'≤s+3∧(x=a-1∨x=a∨x=a+1))∧Ke T w w' [.row v 22 1 n (Kg aa l),.blk q [vN s'] 3]):=by
 refine enter Tryz.func239 O O<|ws<|wa O<|wn<|ws<|wm O<|wm O<|wo (bE (b:=1) O O (by omega) (by omega)<|wm O<|wm O<|wo (aU (b:=1) O O (by omega)<|wm O<|wo (az (Kd 240) O ((tg v n l (a-1) a (a+1) q s _ _ (H.part [0,1] O O) (by omega) (by omega) (by omega) (by omega) (by omega) (by omega)).mono (fun e w1 hq=>?_)))))
 obtain ⟨s1,x1,rfl,hc1,hq1⟩:=hq
 refine ⟨_,rfl,?_⟩
 have H1:=H.splice [0,1] [.row v 22 1 n (Kg aa l),.blk q [(vN s1)] 3] [] O O hq1 (am ae (am ae aI))
 exact wa O<|wn<|aC<|aD (.tmp O .nil) (⟨_,_,rfl,⟨by omega,by omega,by omega⟩,H1⟩)
theorem FC (v:Value) (n:Nat) (l:List UInt32) (a b:Nat) (T:List Nat) (w:World) (H:Ke T w w [.row v 22 1 n (Kg aa l)]) (hn:l.length=n) (hN:n<2^61) (hab:12<b-a) (hb:b≤n) :
  Calls Kf 214 #[v,(vN a),(vN b)] w (fun e w'=> ∃(p h:Nat),e=.returned (.tuple #[vN p,vN h])∧(a≤p∧p<b)∧Ke T w w' [.row v 22 1 n (Kg aa l)]):=by
 refine enter Tryz.func214 O O<|ws<|wa O<|wa O<|wn<|ws<|wm O<|wm O<|wo (bE O O (by omega) (by omega)<|wa O<|wn<|ws<|wo (bt H Fa.I3 (fun b1 w1 H1=>(wn<|ws<|wm O<|wm O<|wo (iv (b:=4) O O (by omega) (by omega)<|wo (fd (b:=1) O O (by omega)<|wo (aU O O (by omega)<|wa O<|wn<|ws<|wm O<|wm O<|wo (iv (b:=4) O O (by omega) (by omega)<|wo (fd (b:=2) O O (by omega)<|wo (aU O O (by omega)<|wa O<|wn<|ws<|wm O<|wm O<|wo (iv (b:=4) O O (by omega) (by omega)<|wo (fd (b:=3) O O (by omega)<|wo (aU O O (by omega)<|wa O<|wn<|ap<|ws<|wm O<|wo (dI (b:=8) O O<|wn (wE ((b-a)≥8) (fun hb2 hc2=>?_) (fun hb2 hc2=>?_))))))))))))))))
 ·
  refine ap<|ws<|wm O<|wo (dI (b:=50) O O<|wn (wE ((b-a)≥50) (fun hb3 hc3=>?_) (fun hb3 hc3=>?_)))
  ·
   refine ws<|wm O<|wm O<|wo (az (Kd 239) O ((mJ v n l (a+(((b-a) / 4) * 1)) b1 0 _ _ (H1.part [0,1] O O) (by omega) (by omega) (by omega) (by omega) (by omega)).mono (fun e w4 hq=>?_)))
   obtain ⟨s4,x4,rfl,hc4,hq4⟩:=hq
   refine ⟨_,rfl,?_⟩
   have H4:=H1.splice [0,1] [.row v 22 1 n (Kg aa l),.blk b1 [(vN s4)] 3] [] O O hq4 (am ae (am ae aI))
   refine wa O<|wn<|ws<|wm O<|wm O<|wo (az (Kd 239) O ((mJ v n l (a+(((b-a) / 4) * 2)) b1 s4 _ _ (H4.part [0,1] O O) (by omega) (by omega) (by omega) (by omega) (by omega)).mono (fun e w5 hq=>?_)))
   obtain ⟨s5,x5,rfl,hc5,hq5⟩:=hq
   refine ⟨_,rfl,?_⟩
   have H5:=H4.splice [0,1] [.row v 22 1 n (Kg aa l),.blk b1 [(vN s5)] 3] [] O O hq5 (am ae (am ae aI))
   refine wa O<|wn<|aG<|wm O<|wm O<|wo (az (Kd 239) O ((mJ v n l (a+(((b-a) / 4) * 3)) b1 s5 _ _ (H5.part [0,1] O O) (by omega) (by omega) (by omega) (by omega) (by omega)).mono (fun e w6 hq=>?_)))
   obtain ⟨s6,x6,rfl,hc6,hq6⟩:=hq
   refine ⟨_,rfl,?_⟩
   have H6:=H5.splice [0,1] [.row v 22 1 n (Kg aa l),.blk b1 [(vN s6)] 3] [] O O hq6 (am ae (am ae aI))
   refine wa O<|wn<|aG<|wm O<|wm O<|wm O<|wm O<|wo (az (Kd 240) O ((tg v n l x4 x5 x6 b1 s6 _ _ (H6.part [0,1] O O) (by omega) (by omega) (by omega) (by omega) (by omega) (by omega)).mono (fun e w7 hq=>?_)))
   obtain ⟨s7,x7,rfl,hc7,hq7⟩:=hq
   refine ⟨_,rfl,?_⟩
   have H7:=H6.splice [0,1] [.row v 22 1 n (Kg aa l),.blk b1 [(vN s7)] 3] [] O O hq7 (am ae (am ae aI))
   refine wa O<|wn<|ws<|wo (aj O (H7.cell (i:=1) O O) A3 O<|wn<|aB<|ws<|wo (dk (b:=0) O O<|wa O<|wn (wE (s7=0) (fun hb8 hc8=>?_) (fun hb8 hc8=>?_))))
   ·
    exact ws<|wm O<|wa O<|wa O<|wn<|aC<|aZ<|aD (.tmp O (.tmp O .nil)) (⟨_,_,rfl,⟨by omega,by omega⟩,H7.sel [0] O O⟩)
   refine ws<|wo (dk (b:=12) O O<|wa O<|wn (wE (s7=12) (fun hb9 hc9=>?_) (fun hb9 hc9=>?_)))
   ·
    exact ws<|wm O<|wa O<|wa O<|wn<|aC<|aZ<|aD (.tmp O (.tmp O .nil)) (⟨_,_,rfl,⟨by omega,by omega⟩,H7.sel [0] O O⟩)
   exact ws<|wm O<|wa O<|wa O<|wn<|aC<|aZ<|aD (.tmp O (.tmp O .nil)) (⟨_,_,rfl,⟨by omega,by omega⟩,H7.sel [0] O O⟩)
  refine aA<|ao<|aG<|wm O<|wm O<|wm O<|wm O<|wo (az (Kd 240) O ((tg v n l (a+(((b-a) / 4) * 1)) (a+(((b-a) / 4) * 2)) (a+(((b-a) / 4) * 3)) b1 0 _ _ (H1.part [0,1] O O) (by omega) (by omega) (by omega) (by omega) (by omega) (by omega)).mono (fun e w10 hq=>?_)))
  obtain ⟨s10,x10,rfl,hc10,hq10⟩:=hq
  refine ⟨_,rfl,?_⟩
  have H10:=H1.splice [0,1] [.row v 22 1 n (Kg aa l),.blk b1 [(vN s10)] 3] [] O O hq10 (am ae (am ae aI))
  refine wa O<|wn<|ws<|wo (aj O (H10.cell (i:=1) O O) A3 O<|wn<|aB<|ws<|wo (dk (b:=0) O O<|wa O<|wn (wE (s10=0) (fun hb11 hc11=>?_) (fun hb11 hc11=>?_))))
  ·
   exact ws<|wm O<|wa O<|wa O<|wn<|aC<|aZ<|aD (.tmp O (.tmp O .nil)) (⟨_,_,rfl,⟨by omega,by omega⟩,H10.sel [0] O O⟩)
  refine ws<|wo (dk (b:=12) O O<|wa O<|wn (wE (s10=12) (fun hb12 hc12=>?_) (fun hb12 hc12=>?_)))
  ·
   exact ws<|wm O<|wa O<|wa O<|wn<|aC<|aZ<|aD (.tmp O (.tmp O .nil)) (⟨_,_,rfl,⟨by omega,by omega⟩,H10.sel [0] O O⟩)
  exact ws<|wm O<|wa O<|wa O<|wn<|aC<|aZ<|aD (.tmp O (.tmp O .nil)) (⟨_,_,rfl,⟨by omega,by omega⟩,H10.sel [0] O O⟩)
 exact aA<|ao<|ws<|wo (aj O (H1.cell (i:=1) O O) A3 O<|wn<|aB<|ws<|wo (dk (b:=0) O O<|wa O<|wn<|bX O (by decide)<|ws<|wm O<|wa O<|wa O<|wn<|aC<|aZ<|aD (.tmp O (.tmp O .nil)) (⟨_,_,rfl,⟨by omega,by omega⟩,H1.sel [0] O O⟩)))
theorem DV (q:Nat) (x:UInt64) (T:List Nat) (w:World) (H:Ke T w w [.blk q [(cB x)] 337]) :
  Calls Kf 238 #[(ptr q 0)] w (fun e w'=> ∃y:UInt64,e=.returned (cB y)∧Ke T w w' [.blk q [cB y] 337]):=by
 refine enter Tryz.func238 O O<|ws<|wa O<|wn<|ap<|bn 9 Fa.M H (mh O<|oh (fun w1 H1=>aJ O zr)<|oh (fun w1 H1=>aj O (H1.cell (i:=0) O O) A337 O zr)<|mh O<|oh (fun w1 H1=>aJ O zr)<|oh (fun w1 H1=>aj O (H1.cell (i:=0) O O) A337 O zr)<|oh (fun w1 H1=>kh (s:=13) O O zr)<|oh (fun w1 H1=>mE O O zr)<|oh (fun w1 H1=>aJ O zr)  bD) (by kernel_rfl) ?_
 intro β1 w1 H1
 refine wo (bC (i:=0) H1 O O O O O Fa.vX (fun w2 H2=>(wn<|ap<|bn 9 Fa.M H2 (mh O<|oh (fun w1 H1=>aJ O zr)<|oh (fun w1 H1=>aj O (H1.cell (i:=0) O O) A337 O zr)<|mh O<|oh (fun w1 H1=>aJ O zr)<|oh (fun w1 H1=>aj O (H1.cell (i:=0) O O) A337 O zr)<|oh (fun w1 H1=>es (s:=7) O O zr)<|oh (fun w1 H1=>mE O O zr)<|oh (fun w1 H1=>aJ O zr)  bD) (by kernel_rfl) ?_)))
 intro β3 w3 H3
 refine wo (bC (i:=0) H3 O O O O O Fa.vX (fun w4 H4=>(wn<|ap<|bn 9 Fa.M H4 (mh O<|oh (fun w1 H1=>aJ O zr)<|oh (fun w1 H1=>aj O (H1.cell (i:=0) O O) A337 O zr)<|mh O<|oh (fun w1 H1=>aJ O zr)<|oh (fun w1 H1=>aj O (H1.cell (i:=0) O O) A337 O zr)<|oh (fun w1 H1=>kh (s:=17) O O zr)<|oh (fun w1 H1=>mE O O zr)<|oh (fun w1 H1=>aJ O zr)  bD) (by kernel_rfl) ?_)))
 intro β5 w5 H5
 exact wo (bC (i:=0) H5 O O O O O Fa.vX (fun w6 H6=>(wn<|ws<|wm O<|wo (aJ O<|wo (aj O (H6.cell (i:=0) O O) A337 O<|wa O<|wn<|aC<|aD (.tmp O .nil) (⟨_,rfl,H6⟩))))))
theorem Ag (x:UInt64) (w:World) :
  Calls Kf 221 #[(cB x)] w (fun e w'=>e=.returned (vN (eF x.toNat))∧Fr [] w w'):=by
 refine enter Tryz.func221 O O ?_
 have H0:=aL w []
 refine ws<|wa O<|wn<|ap<|ws<|wm O<|wo (fk (b:=4294967296) O O<|wn (wE (x≥(4294967296:UInt64)) (fun hb1 hc1=>?_) (fun hb1 hc1=>?_)))
 ·
  refine ws<|wm O<|wo (es (s:=32) O O<|wa O<|wn<|aG<|wa O<|wn<|ap<|ws<|wm O<|wo (fk (b:=65536) O O<|wn (wE ((dN x 32)≥(65536:UInt64)) (fun hb2 hc2=>?_) (fun hb2 hc2=>?_))))
  ·
   refine ws<|wm O<|wo (es (s:=16) O O<|wa O<|wn<|aG<|wm O<|wo (aU (b:=16) O O (by decide)<|wa O<|wn<|ap<|ws<|wm O<|wo (fk (b:=256) O O<|wn (wE ((dN (dN x 32) 16)≥(256:UInt64)) (fun hb3 hc3=>?_) (fun hb3 hc3=>?_)))))
   ·
    exact ws<|wm O<|wo (es (s:=8) O O<|wa O<|wn<|aG<|wm O<|wo (aU (b:=8) O O (by decide)<|wa O<|wn<|ws<|wm O<|wm O<|wo (dJ (hs:=A154) (hd:=A5) O<|wo (cl (l:=kc) A9 (by kernel_rfl) O (io _)<|wo (fg (hs:=A5) (hd:=A3) O<|wo (aU O O (go _ (by decide))<|wa O<|wn<|aC<|aD (.tmp O .nil) (⟨by have h:=gz (x:=x) (.inl ⟨UInt64.le_iff_toNat_le.1 (dT hb1),rfl,rfl⟩) (.inl ⟨UInt64.le_iff_toNat_le.1 (dT hb2),rfl,rfl⟩) (.inl ⟨UInt64.le_iff_toNat_le.1 (dT hb3),rfl,rfl⟩); rw [←h]; rfl,H0.fr⟩)))))))
   exact aA<|ao<|ws<|wm O<|wm O<|wo (dJ (hs:=A154) (hd:=A5) O<|wo (cl (l:=kc) A9 (by kernel_rfl) O (io _)<|wo (fg (hs:=A5) (hd:=A3) O<|wo (aU O O (go _ (by decide))<|wa O<|wn<|aC<|aD (.tmp O .nil) (⟨by have h:=gz (x:=x) (.inl ⟨UInt64.le_iff_toNat_le.1 (dT hb1),rfl,rfl⟩) (.inl ⟨UInt64.le_iff_toNat_le.1 (dT hb2),rfl,rfl⟩) (.inr ⟨Nat.lt_of_not_le (fun q=>dF hb3 (UInt64.le_iff_toNat_le.2 q)),rfl,rfl⟩); rw [←h]; rfl,H0.fr⟩)))))
  refine aA<|ao<|ap<|ws<|wm O<|wo (fk (b:=256) O O<|wn (wE ((dN x 32)≥(256:UInt64)) (fun hb4 hc4=>?_) (fun hb4 hc4=>?_)))
  ·
   exact ws<|wm O<|wo (es (s:=8) O O<|wa O<|wn<|aG<|wm O<|wo (aU (b:=8) O O (by decide)<|wa O<|wn<|ws<|wm O<|wm O<|wo (dJ (hs:=A154) (hd:=A5) O<|wo (cl (l:=kc) A9 (by kernel_rfl) O (io _)<|wo (fg (hs:=A5) (hd:=A3) O<|wo (aU O O (go _ (by decide))<|wa O<|wn<|aC<|aD (.tmp O .nil) (⟨by have h:=gz (x:=x) (.inl ⟨UInt64.le_iff_toNat_le.1 (dT hb1),rfl,rfl⟩) (.inr ⟨Nat.lt_of_not_le (fun q=>dF hb2 (UInt64.le_iff_toNat_le.2 q)),rfl,rfl⟩) (.inl ⟨UInt64.le_iff_toNat_le.1 (dT hb4),rfl,rfl⟩); rw [←h]; rfl,H0.fr⟩)))))))
  exact aA<|ao<|ws<|wm O<|wm O<|wo (dJ (hs:=A154) (hd:=A5) O<|wo (cl (l:=kc) A9 (by kernel_rfl) O (io _)<|wo (fg (hs:=A5) (hd:=A3) O<|wo (aU O O (go _ (by decide))<|wa O<|wn<|aC<|aD (.tmp O .nil) (⟨by have h:=gz (x:=x) (.inl ⟨UInt64.le_iff_toNat_le.1 (dT hb1),rfl,rfl⟩) (.inr ⟨Nat.lt_of_not_le (fun q=>dF hb2 (UInt64.le_iff_toNat_le.2 q)),rfl,rfl⟩) (.inr ⟨Nat.lt_of_not_le (fun q=>dF hb4 (UInt64.le_iff_toNat_le.2 q)),rfl,rfl⟩); rw [←h]; rfl,H0.fr⟩)))))
 refine aA<|ao<|ap<|ws<|wm O<|wo (fk (b:=65536) O O<|wn (wE (x≥(65536:UInt64)) (fun hb5 hc5=>?_) (fun hb5 hc5=>?_)))
 ·
  refine ws<|wm O<|wo (es (s:=16) O O<|wa O<|wn<|aG<|wm O<|wo (aU (b:=16) O O (by decide)<|wa O<|wn<|ap<|ws<|wm O<|wo (fk (b:=256) O O<|wn (wE ((dN x 16)≥(256:UInt64)) (fun hb6 hc6=>?_) (fun hb6 hc6=>?_)))))
  ·
   exact ws<|wm O<|wo (es (s:=8) O O<|wa O<|wn<|aG<|wm O<|wo (aU (b:=8) O O (by decide)<|wa O<|wn<|ws<|wm O<|wm O<|wo (dJ (hs:=A154) (hd:=A5) O<|wo (cl (l:=kc) A9 (by kernel_rfl) O (io _)<|wo (fg (hs:=A5) (hd:=A3) O<|wo (aU O O (go _ (by decide))<|wa O<|wn<|aC<|aD (.tmp O .nil) (⟨by have h:=gz (x:=x) (.inr ⟨Nat.lt_of_not_le (fun q=>dF hb1 (UInt64.le_iff_toNat_le.2 q)),rfl,rfl⟩) (.inl ⟨UInt64.le_iff_toNat_le.1 (dT hb5),rfl,rfl⟩) (.inl ⟨UInt64.le_iff_toNat_le.1 (dT hb6),rfl,rfl⟩); rw [←h]; rfl,H0.fr⟩)))))))
  exact aA<|ao<|ws<|wm O<|wm O<|wo (dJ (hs:=A154) (hd:=A5) O<|wo (cl (l:=kc) A9 (by kernel_rfl) O (io _)<|wo (fg (hs:=A5) (hd:=A3) O<|wo (aU O O (go _ (by decide))<|wa O<|wn<|aC<|aD (.tmp O .nil) (⟨by have h:=gz (x:=x) (.inr ⟨Nat.lt_of_not_le (fun q=>dF hb1 (UInt64.le_iff_toNat_le.2 q)),rfl,rfl⟩) (.inl ⟨UInt64.le_iff_toNat_le.1 (dT hb5),rfl,rfl⟩) (.inr ⟨Nat.lt_of_not_le (fun q=>dF hb6 (UInt64.le_iff_toNat_le.2 q)),rfl,rfl⟩); rw [←h]; rfl,H0.fr⟩)))))
 refine aA<|ao<|ap<|ws<|wm O<|wo (fk (b:=256) O O<|wn (wE (x≥(256:UInt64)) (fun hb7 hc7=>?_) (fun hb7 hc7=>?_)))
 ·
  exact ws<|wm O<|wo (es (s:=8) O O<|wa O<|wn<|aG<|wm O<|wo (aU (b:=8) O O (by decide)<|wa O<|wn<|ws<|wm O<|wm O<|wo (dJ (hs:=A154) (hd:=A5) O<|wo (cl (l:=kc) A9 (by kernel_rfl) O (io _)<|wo (fg (hs:=A5) (hd:=A3) O<|wo (aU O O (go _ (by decide))<|wa O<|wn<|aC<|aD (.tmp O .nil) (⟨by have h:=gz (x:=x) (.inr ⟨Nat.lt_of_not_le (fun q=>dF hb1 (UInt64.le_iff_toNat_le.2 q)),rfl,rfl⟩) (.inr ⟨Nat.lt_of_not_le (fun q=>dF hb5 (UInt64.le_iff_toNat_le.2 q)),rfl,rfl⟩) (.inl ⟨UInt64.le_iff_toNat_le.1 (dT hb7),rfl,rfl⟩); rw [←h]; rfl,H0.fr⟩)))))))
 exact aA<|ao<|ws<|wm O<|wm O<|wo (dJ (hs:=A154) (hd:=A5) O<|wo (cl (l:=kc) A9 (by kernel_rfl) O (io _)<|wo (fg (hs:=A5) (hd:=A3) O<|wo (aU O O (go _ (by decide))<|wa O<|wn<|aC<|aD (.tmp O .nil) (⟨by have h:=gz (x:=x) (.inr ⟨Nat.lt_of_not_le (fun q=>dF hb1 (UInt64.le_iff_toNat_le.2 q)),rfl,rfl⟩) (.inr ⟨Nat.lt_of_not_le (fun q=>dF hb5 (UInt64.le_iff_toNat_le.2 q)),rfl,rfl⟩) (.inr ⟨Nat.lt_of_not_le (fun q=>dF hb7 (UInt64.le_iff_toNat_le.2 q)),rfl,rfl⟩); rw [←h]; rfl,H0.fr⟩)))))
theorem vQ (x:UInt64) (w:World) :
  Calls Kf 182 #[(cB x)] w (fun e w'=>e=.returned (vN (eF x.toNat))∧Fr [] w w'):=by
 refine enter Tryz.func182 O O ?_
 have H0:=aL w []
 exact ws<|wa O<|wn<|ap<|bF O O<|aA<|ao<|ws<|wm O<|wo (cq H0 (Kd 221) O (Ag x _) fun w1 H1=>(wa O<|wn<|aC<|aD (.tmp O .nil) (⟨rfl,H1.fr⟩)))
theorem FL (n:Nat) (w:World) (_hn:n<2^62) :
  Calls Kf 237 #[(vN n)] w (fun e w'=>e=.returned (cB (dG 1 (eF (Kn n).toNat)))∧Fr [] w w'):=by
 refine enter Tryz.func237 O O ?_
 have H0:=aL w []
 exact ws<|wa O<|wn<|ws<|wm O<|wo (dq (hs:=A3) (hd:=A265) O<|wo (cq H0 (Kd 182) O (vQ (Kn n) _) fun w1 H1=>(wo (kh (a:=1) O O<|wa O<|wn<|aC<|aD (.tmp O .nil) (⟨rfl,H1.fr⟩)))))
theorem Gc (v:Value) (n:Nat) (l:List UInt32) (a b:Nat) (T:List Nat) (w:World) (H:Ke T w w [.row v 22 1 n (Kg aa l)]) (hn:l.length=n) (hN:n<2^61) (hab:a<b) (hb:b≤n) :
  Calls Kf 213 #[v,(vN a),(vN b)] w (fun e w'=> ∃(l':List UInt32),e=.returned undef∧(Sw 0 a b l l')∧Ke T w w' [.row v 22 1 n (Kg aa l')]):=by
 refine enter Tryz.func213 O O<|ws<|wm O<|wm O<|wo (bE O O (by omega) (by omega)<|wa O<|wn<|ws<|wm O<|wo (dI (b:=8) O O<|wn (wE ((b-a)≥8) (fun hb1 hc1=>?_) (fun hb1 hc1=>?_))))
 ·
  refine ws<|wm O<|wo (dq (hs:=A3) (hd:=A337) O<|wo (bt H Fa.vX (fun b2 w2 H2=>(wo (bC (i:=1) H2 O O O O O Fa.vX (fun w3 H3=>(wn<|ws<|wm O<|wo (cq H3 (Kd 237) O (FL (b-a) _ (by omega)) fun w4 H4=>(wa O<|wn<|ws<|wm O<|wm O<|wo (iv (b:=4) O O (by omega) (by omega)<|wo (fd (b:=2) O O (by omega)<|wo (aU O O (by omega)<|wo (bE (b:=1) O O (by omega) (by omega)<|wa O<|wn<|aB<|bi (α:=Nat × UInt64 × List UInt32) (fun (x,r,l1)=>[(0,v),(1,(vN a)),(2,(vN b)),(6,(vN (b-a))),(7,(ptr b2 0)),(8,(cB (dG 1 (eF (Kn (b-a)).toNat)))),(9,(vN x))]) (fun (x,r,l1) w'=>(a+(b-a) / 4 * 2-1≤x∧x≤a+(b-a) / 4 * 2+2∧Sw 0 a b l l1)∧Ke T w w' [.row v 22 1 n (Kg aa l1),.blk b2 [(cB r)] 337]) (fun (x,r,l1)=>a+(b-a) / 4 * 2+3-x) (a+(b-a) / 4 * 2-1,Kn (b-a),l) ⟨⟨Nat.le_refl _,by omega,.refl _⟩,H4⟩ ⟨rfl,rfl,rfl,rfl,rfl,rfl,rfl,trivial⟩ ?_)))))))))))))
  rintro ⟨x,r,l1⟩ w5 ⟨⟨hx1,hx2,hs1⟩,H5⟩
  show WC _ _ _ _ _ [(0,v),(1,(vN a)),(2,(vN b)),(6,(vN (b-a))),(7,(ptr b2 0)),(8,(cB (dG 1 (eF (Kn (b-a)).toNat)))),(9,(vN x))] _
  have hL1:=hs1.len
  refine ap<|ws<|wm O<|wm O<|wm O<|wo (iv (b:=4) O O (by omega) (by omega)<|wo (fd (b:=2) O O (by omega)<|wo (aU O O (by omega)<|wo (aU (b:=1) O O (by omega)<|wo (dH O O<|wn (wE (x≤((a+(((b-a) / 4) * 2))+1)) (fun hb6 hc6=>?_) (fun hb6 hc6=>?_)))))))
  ·
   refine aA<|ao<|ap<|aB<|ws<|wo (az (Kd 238) O ((DV b2 r _ _ (H5.part [1] O O)).mono (fun e w7 hq=>?_)))
   obtain ⟨y7,rfl,hq7⟩:=hq
   refine ⟨_,rfl,?_⟩
   have H7:=H5.splice [1] [.blk b2 [(cB y7)] 337] [] O O hq7 (am ae aI)
   have hbr:=Gd (y:=y7) (n:=b-a) (by omega) (by omega)
   refine wm O<|wo (mF (b:=1) O O<|wo (zG O O<|wo (oF (hs:=A265) (hd:=A3) O (by omega)<|wa O<|wn<|WC.cut (α:=Nat) (fun o=>[(0,v),(1,(vN a)),(2,(vN b)),(6,(vN (b-a))),(7,(ptr b2 0)),(8,(cB (dG 1 (eF (Kn (b-a)).toNat)))),(9,(vN x)),(10,(vN o))]) (fun o w'=>(o<b-a)∧Ke T w w' [.row v 22 1 n (Kg aa l1),.blk b2 [(cB y7)] 337]) ?_ ?_)))
   ·
    refine ws<|wm O<|wm O<|wo (dI O O<|wn (wE ((y7 &&& ((dG 1 (eF (Kn (b-a)).toNat))-(1:UInt64))).toNat≥(b-a)) (fun hb8 hc8=>?_) (fun hb8 hc8=>?_)))
    ·
     exact aG<|wm O<|wm O<|wo (bE O O (by omega) (by omega)<|wa O<|aY<|cd ((y7 &&& ((dG 1 (eF (Kn (b-a)).toNat))-(1:UInt64))).toNat-(b-a)) ⟨(by omega),H7⟩ ⟨rfl,rfl,rfl,rfl,rfl,rfl,rfl,rfl,trivial⟩)
    exact aA<|cd (y7 &&& ((dG 1 (eF (Kn (b-a)).toNat))-(1:UInt64))).toNat ⟨(by omega),H7⟩ ⟨rfl,rfl,rfl,rfl,rfl,rfl,rfl,rfl,trivial⟩
   rintro o w9 ⟨ho,H9⟩
   show WC _ _ _ _ _ [(0,v),(1,(vN a)),(2,(vN b)),(6,(vN (b-a))),(7,(ptr b2 0)),(8,(cB (dG 1 (eF (Kn (b-a)).toNat)))),(9,(vN x)),(10,(vN o))] _
   refine WC.held 20 O Fa.M H9 (fun w'=> ∃L',Ke T w w' ([]++L')) ?_
   intro w10 H10
   refine xt 0 O v H10 (fun _ _ HX=>au O ⟨rfl,rfl⟩)<|xt 1 O (vN x) H10 (fun _ _ HX=>au O ⟨rfl,rfl⟩)<|xt 2 O v H10 (fun _ _ HX=>au O ⟨rfl,rfl⟩)<|xt 3 O (vN a) H10 (fun _ _ HX=>au O ⟨rfl,rfl⟩)<|xt 4 O (vN o) H10 (fun _ _ HX=>au O ⟨rfl,rfl⟩)<|xt 5 O (vN (a+o)) H10 (fun _ _ HX=>aU O O (by omega) ⟨rfl,rfl⟩)<|xt 6 O v H10 (fun _ _ HX=>au O ⟨rfl,rfl⟩)<|xt 7 O (vN a) H10 (fun _ _ HX=>au O ⟨rfl,rfl⟩)<|xt 8 O (vN o) H10 (fun _ _ HX=>au O ⟨rfl,rfl⟩)<|xt 9 O (vN (a+o)) H10 (fun _ _ HX=>aU O O (by omega) ⟨rfl,rfl⟩)<|xt 10 O (.pointer (some (sp v (a+o)))) H10 (fun _ _ HX=>aP A73 Fa.I22 O (H10.arrR (i:=0) O) O (by omega) ⟨rfl,rfl⟩)<|xt 12 O v H10 (fun _ _ HX=>au O ⟨rfl,rfl⟩)<|xt 13 O (vN x) H10 (fun _ _ HX=>au O ⟨rfl,rfl⟩)<|xt 14 O (.pointer (some (sp v x))) H10 (fun _ _ HX=>aP A73 Fa.I22 O (H10.arrR (i:=0) O) O (by omega) ⟨rfl,rfl⟩)<|dh (fun W hW=>?_)
   let e10:List (Nat × Value)→List (Nat × Value):=fun r=>(0,v)::(1,(vN a))::(2,(vN b))::(6,(vN (b-a)))::(7,(ptr b2 0))::(8,(cB (dG 1 (eF (Kn (b-a)).toNat))))::(9,(vN x))::(10,(vN o))::r
   let B0:Ent:=.row v 22 1 n (Kg aa l1)
   let Bm:Ent:=.blk b2 [(cB y7)] 337
   have B2: ∀wS,Ke T w wS [.row v 22 1 n (Kg aa ((l1.set x (l1.getD (a+o) 0)).set (a+o) (l1.getD x 0))),Bm]→W 0 (bz 20 1048575) (e10 []) wS:=fun wS HS=>by
    rw [hW]
    exact WH.done (by kernel_rfl)<|aE<|ao<|aG<|wm O<|wo (aU (b:=1) O O (by omega)<|wa O<|aY<|aX (x+1,y7,cY 0 l1 x (a+o)) ⟨⟨by omega,by omega,hs1.step (by omega) (by omega) (by omega) (by omega)⟩,HS⟩ ⟨rfl,rfl,rfl,rfl,rfl,rfl,rfl,trivial⟩ (by show a+(b-a) / 4 * 2+3-(x+1)<a+(b-a) / 4 * 2+3-x; omega))
   have B3: ∀wS,Ke T w wS [.row v 22 1 n (Kg aa (l1.set x (l1.getD (a+o) 0))),Bm]→W 1 (bz 20 524287) (e10 [(62,(aa (l1.getD x 0))),(64,(.pointer (some (sp v (a+o)))))]) wS:=fun wS HS=>by
    rw [hW]
    refine wh1 19<|kH 19 O (bN (i:=0) (f:=aa) (l:=(l1.set x (l1.getD (a+o) 0))) (c:=(l1.getD x 0)) HS O O O (by omega) O Fa.I22 (fun w12 H12=>(⟨⟨_,H12⟩,?_⟩)))
    exact bh hW (B2 w12 H12)
   have B1: ∀wS,Ke T w wS [B0,Bm]→W 3 (bz 20 131071) (e10 [(49,v),(52,(vN (a+o))),(58,(aa (l1.getD (a+o) 0))),(62,(aa (l1.getD x 0))),(63,(.pointer (some (sp v x))))]) wS:=fun wS HS=>by
    rw [hW]
    refine wh1 17<|kH 17 O (bN (i:=0) (f:=aa) (l:=l1) (c:=(l1.getD (a+o) 0)) HS O O O (by omega) O Fa.I22 (fun w11 H11=>(⟨⟨_,H11⟩,?_⟩)))
    exact xt 18 O (.pointer (some (sp v (a+o)))) H11 (fun _ _ HX=>aP A73 Fa.I22 O (H11.arrR (i:=0) O) O (by omega) ⟨rfl,rfl⟩)<|bh hW (B3 w11 H11)
   have B4: ∀wS,Ke T w wS [B0,Bm]→W 5 (bz 20 32767) (e10 [(47,v),(48,(vN x)),(49,v),(52,(vN (a+o))),(58,(aa (l1.getD (a+o) 0))),(61,(.pointer (some (sp v x))))]) wS:=fun wS HS=>by
    rw [hW]
    refine wh1 15<|kH 15 O (aj O ((HS.arrR (i:=0) O).at (aR aa 0 (aV (HS.arrR (i:=0) O) (by omega)))) A22 O (⟨⟨_,HS⟩,?_⟩))
    exact xt 16 O (.pointer (some (sp v x))) HS (fun _ _ HX=>aP A73 Fa.I22 O (HS.arrR (i:=0) O) O (by omega) ⟨rfl,rfl⟩)<|bh hW (B1 wS HS)
   have B5: ∀wS,Ke T w wS [B0,Bm]→W 5 (bz 20 63487) (e10 [(47,v),(48,(vN x)),(49,v),(52,(vN (a+o))),(57,(.pointer (some (sp v (a+o))))),(62,(aa (l1.getD x 0)))]) wS:=fun wS HS=>by
    rw [hW]
    refine wh1 11<|kH 11 O (aj O ((HS.arrR (i:=0) O).at (aR aa 0 (aV (HS.arrR (i:=0) O) (by omega)))) A22 O (⟨⟨_,HS⟩,?_⟩))
    exact xt 16 O (.pointer (some (sp v x))) HS (fun _ _ HX=>aP A73 Fa.I22 O (HS.arrR (i:=0) O) O (by omega) ⟨rfl,rfl⟩)<|bh hW (B1 wS HS)
   have B6: ∀wS,Ke T w wS [B0,Bm]→W 6 (bz 20 30719) (e10 [(47,v),(48,(vN x)),(49,v),(52,(vN (a+o))),(57,(.pointer (some (sp v (a+o))))),(61,(.pointer (some (sp v x))))]) wS:=fun wS HS=>by
    rw [hW]
    refine wh2 11 15 ?_ ?_
    ·
     refine kH 11 O (aj O ((HS.arrR (i:=0) O).at (aR aa 0 (aV (HS.arrR (i:=0) O) (by omega)))) A22 O (⟨⟨_,HS⟩,?_⟩))
     exact bh hW (B4 wS HS)
    refine kH 15 O (aj O ((HS.arrR (i:=0) O).at (aR aa 0 (aV (HS.arrR (i:=0) O) (by omega)))) A22 O (⟨⟨_,HS⟩,?_⟩))
    exact bh hW (B5 wS HS)
   have hq:=B6 w10 H10
   rw [hW] at hq ⊢
   exact WH.cv hq
  exact bc<|an<|an<|aS<|WQ.outEnd .nil (⟨_,rfl,hs1,H5.sel [0] O O⟩)
 exact aA<|WQ.outEnd .nil (⟨_,rfl,.refl _,H.sel [0] O O⟩)
theorem uY (v:Value) (n:Nat) (l:List UInt32) (a b:Nat) (p:Nat) (T:List Nat) (w:World) (H:Ke T w w [.row v 22 1 n (Kg aa l)]) (hn:l.length=n) (hN:n<2^61) (hap:a≤p) (hpb:p<b) (hb:b≤n) :
  Calls Kf 219 #[v,(vN a),(vN b),(vN p)] w (fun e w'=> ∃(l':List UInt32) (m:Nat) (f:Bool),e=.returned (.tuple #[vN m,.bool f])∧(Sw 0 a b l l'∧qD bO 0 a b m l')∧Ke T w w' [.row v 22 1 n (Kg aa l')]):=by
 refine enter Tryz.func219 O O<|ws<|wa O<|wa O<|wn<|WC.cut (α:=List UInt32) (fun l1=>[(0,v),(1,(vN a)),(2,(vN b))]) (fun l1 w'=>(Sw 0 a b l l1∧l1.getD a 0=(l.getD p 0))∧Ke T w w' [.row v 22 1 n (Kg aa l1)]) ?_ ?_
 ·
  refine WC.held 16 O Fa.M H (fun w'=> ∃L',Ke T w w' ([]++L')) ?_
  intro w1 H1
  refine xt 0 O v H1 (fun _ _ HX=>au O ⟨rfl,rfl⟩)<|xt 1 O (vN a) H1 (fun _ _ HX=>au O ⟨rfl,rfl⟩)<|xt 2 O v H1 (fun _ _ HX=>au O ⟨rfl,rfl⟩)<|xt 3 O (vN p) H1 (fun _ _ HX=>au O ⟨rfl,rfl⟩)<|xt 4 O v H1 (fun _ _ HX=>au O ⟨rfl,rfl⟩)<|xt 5 O (vN p) H1 (fun _ _ HX=>au O ⟨rfl,rfl⟩)<|xt 6 O (.pointer (some (sp v p))) H1 (fun _ _ HX=>aP A73 Fa.I22 O (H1.arrR (i:=0) O) O (by omega) ⟨rfl,rfl⟩)<|xt 8 O v H1 (fun _ _ HX=>au O ⟨rfl,rfl⟩)<|xt 9 O (vN a) H1 (fun _ _ HX=>au O ⟨rfl,rfl⟩)<|xt 10 O (.pointer (some (sp v a))) H1 (fun _ _ HX=>aP A73 Fa.I22 O (H1.arrR (i:=0) O) O (by omega) ⟨rfl,rfl⟩)<|dh (fun W hW=>?_)
  let e1:List (Nat × Value)→List (Nat × Value):=fun r=>(0,v)::(1,(vN a))::(2,(vN b))::(3,(vN p))::(8,(vN 0))::(9,(.bool false))::r
  let Bm:Ent:=.row v 22 1 n (Kg aa l)
  have B9: ∀wS,Ke T w wS [.row v 22 1 n (Kg aa ((l.set a (l.getD p 0)).set p (l.getD a 0)))]→W 0 (bz 16 65535) (e1 []) wS:=fun wS HS=>by
   rw [hW]
   exact WH.done (by kernel_rfl)<|cd (cY 0 l a p) ⟨⟨Sw.one (by omega) (by omega) (by omega) (by omega),rY (by omega) (by omega)⟩,HS⟩ ⟨rfl,rfl,rfl,trivial⟩
  have C0: ∀wS,Ke T w wS [.row v 22 1 n (Kg aa (l.set a (l.getD p 0)))]→W 1 (bz 16 32767) (e1 [(23,(aa (l.getD a 0))),(25,(.pointer (some (sp v p))))]) wS:=fun wS HS=>by
   rw [hW]
   refine wh1 15<|kH 15 O (bN (i:=0) (f:=aa) (l:=(l.set a (l.getD p 0))) (c:=(l.getD a 0)) HS O O O (by omega) O Fa.I22 (fun w42 H42=>(⟨⟨_,H42⟩,?_⟩)))
   exact bh hW (B9 w42 H42)
  have B4: ∀wS,Ke T w wS [Bm]→W 3 (bz 16 8191) (e1 [(14,v),(15,(vN p)),(19,(aa (l.getD p 0))),(23,(aa (l.getD a 0))),(24,(.pointer (some (sp v a))))]) wS:=fun wS HS=>by
   rw [hW]
   refine wh1 13<|kH 13 O (bN (i:=0) (f:=aa) (l:=l) (c:=(l.getD p 0)) HS O O O (by omega) O Fa.I22 (fun w13 H13=>(⟨⟨_,H13⟩,?_⟩)))
   exact xt 14 O (.pointer (some (sp v p))) H13 (fun _ _ HX=>aP A73 Fa.I22 O (H13.arrR (i:=0) O) O (by omega) ⟨rfl,rfl⟩)<|bh hW (C0 w13 H13)
  have C1: ∀wS,Ke T w wS [Bm]→W 5 (bz 16 2047) (e1 [(12,v),(13,(vN a)),(14,v),(15,(vN p)),(19,(aa (l.getD p 0))),(22,(.pointer (some (sp v a))))]) wS:=fun wS HS=>by
   rw [hW]
   refine wh1 11<|kH 11 O (aj O ((HS.arrR (i:=0) O).at (aR aa 0 (aV (HS.arrR (i:=0) O) (by omega)))) A22 O (⟨⟨_,HS⟩,?_⟩))
   exact xt 12 O (.pointer (some (sp v a))) HS (fun _ _ HX=>aP A73 Fa.I22 O (HS.arrR (i:=0) O) O (by omega) ⟨rfl,rfl⟩)<|bh hW (B4 wS HS)
  have C2: ∀wS,Ke T w wS [Bm]→W 5 (bz 16 3967) (e1 [(12,v),(13,(vN a)),(14,v),(15,(vN p)),(18,(.pointer (some (sp v p)))),(23,(aa (l.getD a 0)))]) wS:=fun wS HS=>by
   rw [hW]
   refine wh1 7<|kH 7 O (aj O ((HS.arrR (i:=0) O).at (aR aa 0 (aV (HS.arrR (i:=0) O) (by omega)))) A22 O (⟨⟨_,HS⟩,?_⟩))
   exact xt 12 O (.pointer (some (sp v a))) HS (fun _ _ HX=>aP A73 Fa.I22 O (HS.arrR (i:=0) O) O (by omega) ⟨rfl,rfl⟩)<|bh hW (B4 wS HS)
  have C3: ∀wS,Ke T w wS [Bm]→W 6 (bz 16 1919) (e1 [(12,v),(13,(vN a)),(14,v),(15,(vN p)),(18,(.pointer (some (sp v p)))),(22,(.pointer (some (sp v a))))]) wS:=fun wS HS=>by
   rw [hW]
   refine wh2 7 11 ?_ ?_
   ·
    refine kH 7 O (aj O ((HS.arrR (i:=0) O).at (aR aa 0 (aV (HS.arrR (i:=0) O) (by omega)))) A22 O (⟨⟨_,HS⟩,?_⟩))
    exact bh hW (C1 wS HS)
   refine kH 11 O (aj O ((HS.arrR (i:=0) O).at (aR aa 0 (aV (HS.arrR (i:=0) O) (by omega)))) A22 O (⟨⟨_,HS⟩,?_⟩))
   exact bh hW (C2 wS HS)
  have hq:=C3 w1 H1
  rw [hW] at hq ⊢
  exact WH.cv hq
 rintro l1 w3 ⟨⟨hs1,hv1⟩,H3⟩
 show WC _ _ _ _ _ [(0,v),(1,(vN a)),(2,(vN b))] _
 have hL1:=hs1.len
 refine ws<|wm O<|wo (aU (b:=1) O O (by omega)<|wm O<|wo (bE (b:=1) O O (by omega) (by omega)<|wa O<|wa O<|wn<|WC.cut (α:=Nat) (fun i5=>[(0,v),(1,(vN a)),(2,(vN b)),(10,(vN i5)),(11,(vN (b-1)))]) (fun i5 w'=>(fZ bO 0 a b i5 (b-1) l1 (l.getD p 0)∧(b-1<i5∨bO (l1.getD i5 0) (l1.getD a 0)=false))∧Ke T w w' [.row v 22 1 n (Kg aa l1)]) ?_ ?_))
 ·
  refine aB<|bi (α:=Nat) (fun i=>[(0,v),(1,(vN a)),(2,(vN b)),(10,(vN i)),(11,(vN (b-1)))]) (fun i w'=>(fZ bO 0 a b i (b-1) l1 (l.getD p 0))∧Ke T w w' [.row v 22 1 n (Kg aa l1)]) (fun i=>b-i) (a+1) ⟨(zu (by omega) hv1),H3⟩ ⟨rfl,rfl,rfl,rfl,rfl,trivial⟩ ?_
  rintro i w4 ⟨hp3,H4⟩
  show WC _ _ _ _ _ [(0,v),(1,(vN a)),(2,(vN b)),(10,(vN i)),(11,(vN (b-1)))] _
  have hp3a:=hp3.1
  have hp3b:=hp3.2.1
  have hp3c:=hp3.2.2.1
  refine ap<|ap (wG (i≤(b-1)) (fun hb5 hc5=>?_) (fun hb5 hc5=>?_))
  ·
   refine bn 14 Fa.M H4 (mh O<|mh O<|oh (fun w1 H1=>dH O O zr)<|mh O<|yh hb5 (fun w1 H1=>au O zr)<|yh hb5 (fun w1 H1=>au O zr)<|yh hb5 (fun w1 H1=>aF A73 Fa.I22 O (H1.arrR (i:=0) O) O (by omega) zr)<|yh hb5 (fun w1 H1=>aj O ((H1.arrR (i:=0) O).at (aR aa 0 (aV (H1.arrR (i:=0) O) (by omega)))) A22 O zr)<|yh hb5 (fun w1 H1=>au O zr)<|yh hb5 (fun w1 H1=>au O zr)<|yh hb5 (fun w1 H1=>aF A73 Fa.I22 O (H1.arrR (i:=0) O) O (by omega) zr)<|yh hb5 (fun w1 H1=>aj O ((H1.arrR (i:=0) O).at (aR aa 0 (aV (H1.arrR (i:=0) O) (by omega)))) A22 O zr)<|yh hb5 (fun w1 H1=>az (Kd 217) O ((eC (l1.getD i 0) (l1.getD a 0) _).mono (fun e w2 hq=>⟨_,hq.1,rfl,hq.2⟩)))<|oh (fun w1 H1=>aQ O hb5 O zr)  bD) (by kernel_rfl) ?_
   intro β7 w7 H7
   refine wn (wC (bO (l1.getD i 0) (l1.getD a 0)) (fun hb8=>?_) (fun hb8=>?_))
   ·
    exact aA<|ao<|aB<|aG<|wm O<|wo (aU (b:=1) O O (by omega)<|wa O<|aY<|aE<|aX (i+1) ⟨(xG hp3 (by omega) hb8),H7⟩ ⟨rfl,rfl,rfl,rfl,rfl,trivial⟩ (by omega))
   exact bc<|an<|an<|aS<|cd i ⟨⟨hp3,.inr hb8⟩,H7⟩ ⟨rfl,rfl,rfl,rfl,rfl,trivial⟩
  refine bn 14 Fa.M H4 (mh O<|mh O<|oh (fun w1 H1=>dH O O zr)<|mh O<|nh hb5<|nh hb5<|nh hb5<|nh hb5<|nh hb5<|nh hb5<|nh hb5<|nh hb5<|nh hb5<|oh (fun w1 H1=>aN O hb5 O zr)  bD) (by kernel_rfl) ?_
  intro β9 w9 H9
  exact wn<|bF O O<|bc<|an<|an<|aS<|cd i ⟨⟨hp3,.inl (by omega)⟩,H9⟩ ⟨rfl,rfl,rfl,rfl,rfl,trivial⟩
 rintro i5 w10 ⟨⟨hp5,hx5⟩,H10⟩
 show WC _ _ _ _ _ [(0,v),(1,(vN a)),(2,(vN b)),(10,(vN i5)),(11,(vN (b-1)))] _
 have hp5a:=hp5.1
 have hp5b:=hp5.2.1
 have hp5c:=hp5.2.2.1
 refine WC.cut (α:=Nat) (fun j7=>[(0,v),(1,(vN a)),(2,(vN b)),(10,(vN i5)),(11,(vN j7))]) (fun j7 w'=>(fZ bO 0 a b i5 j7 l1 (l.getD p 0)∧(j7<i5∨bO (l1.getD i5 0) (l1.getD a 0)=false)∧(j7<i5∨bO (l1.getD j7 0) (l1.getD a 0)=true))∧Ke T w w' [.row v 22 1 n (Kg aa l1)]) ?_ ?_
 ·
  refine aB<|bi (α:=Nat) (fun j=>[(0,v),(1,(vN a)),(2,(vN b)),(10,(vN i5)),(11,(vN j))]) (fun j w'=>(fZ bO 0 a b i5 j l1 (l.getD p 0)∧(j<i5∨bO (l1.getD i5 0) (l1.getD a 0)=false))∧Ke T w w' [.row v 22 1 n (Kg aa l1)]) (fun j=>j) (b-1) ⟨⟨hp5,hx5⟩,H10⟩ ⟨rfl,rfl,rfl,rfl,rfl,trivial⟩ ?_
  rintro j w11 ⟨⟨hp6,hx6⟩,H11⟩
  show WC _ _ _ _ _ [(0,v),(1,(vN a)),(2,(vN b)),(10,(vN i5)),(11,(vN j))] _
  have hp6a:=hp6.1
  have hp6b:=hp6.2.1
  have hp6c:=hp6.2.2.1
  refine ap<|ap (wG (i5≤j) (fun hb12 hc12=>?_) (fun hb12 hc12=>?_))
  ·
   refine bn 15 Fa.M H11 (mh O<|mh O<|oh (fun w1 H1=>dH O O zr)<|mh O<|yh hb12 (fun w1 H1=>au O zr)<|yh hb12 (fun w1 H1=>au O zr)<|yh hb12 (fun w1 H1=>aF A73 Fa.I22 O (H1.arrR (i:=0) O) O (by omega) zr)<|yh hb12 (fun w1 H1=>aj O ((H1.arrR (i:=0) O).at (aR aa 0 (aV (H1.arrR (i:=0) O) (by omega)))) A22 O zr)<|yh hb12 (fun w1 H1=>au O zr)<|yh hb12 (fun w1 H1=>au O zr)<|yh hb12 (fun w1 H1=>aF A73 Fa.I22 O (H1.arrR (i:=0) O) O (by omega) zr)<|yh hb12 (fun w1 H1=>aj O ((H1.arrR (i:=0) O).at (aR aa 0 (aV (H1.arrR (i:=0) O) (by omega)))) A22 O zr)<|yh hb12 (fun w1 H1=>az (Kd 217) O ((eC (l1.getD j 0) (l1.getD a 0) _).mono (fun e w2 hq=>⟨_,hq.1,rfl,hq.2⟩)))<|yh hb12 (fun w1 H1=>cQ O zr)<|oh (fun w1 H1=>aQ O hb12 O zr)  bD) (by kernel_rfl) ?_
   intro β14 w14 H14
   refine wn (wC (!(bO (l1.getD j 0) (l1.getD a 0))) (fun hb15=>?_) (fun hb15=>?_))
   ·
    have hn15:=(Bool.not_eq_true' _).mp hb15
    exact aA<|ao<|aB<|aG<|wm O<|wo (bE (b:=1) O O (by omega) (by omega)<|wa O<|aY<|aE<|aX (j-1) ⟨⟨xF hp6 (by omega) hn15,hx6.imp (fun h=>by omega) id⟩,H14⟩ ⟨rfl,rfl,rfl,rfl,rfl,trivial⟩ (by omega))
   have hn15:=(Bool.not_eq_false' _).mp hb15
   exact bc<|an<|an<|aS<|cd j ⟨⟨hp6,hx6,.inr hn15⟩,H14⟩ ⟨rfl,rfl,rfl,rfl,rfl,trivial⟩
  refine bn 15 Fa.M H11 (mh O<|mh O<|oh (fun w1 H1=>dH O O zr)<|mh O<|nh hb12<|nh hb12<|nh hb12<|nh hb12<|nh hb12<|nh hb12<|nh hb12<|nh hb12<|nh hb12<|nh hb12<|oh (fun w1 H1=>aN O hb12 O zr)  bD) (by kernel_rfl) ?_
  intro β16 w16 H16
  exact wn<|bF O O<|bc<|an<|an<|aS<|cd j ⟨⟨hp6,hx6,.inl (by omega)⟩,H16⟩ ⟨rfl,rfl,rfl,rfl,rfl,trivial⟩
 rintro j7 w17 ⟨⟨hp7,hx7,hy7⟩,H17⟩
 show WC _ _ _ _ _ [(0,v),(1,(vN a)),(2,(vN b)),(10,(vN i5)),(11,(vN j7))] _
 have hp7a:=hp7.1
 have hp7b:=hp7.2.1
 have hp7c:=hp7.2.2.1
 refine ap<|ws<|wm O<|wm O<|wo (cm O O<|wn (wE (i5>j7) (fun hb18 hc18=>?_) (fun hb18 hc18=>?_)))
 ·
  refine ap<|WC.held 16 O Fa.M H17 (fun w'=> ∃L',Ke T w w' ([]++L')) ?_
  intro w19 H19
  refine xt 0 O v H19 (fun _ _ HX=>au O ⟨rfl,rfl⟩)<|xt 1 O (vN j7) H19 (fun _ _ HX=>au O ⟨rfl,rfl⟩)<|xt 2 O v H19 (fun _ _ HX=>au O ⟨rfl,rfl⟩)<|xt 3 O (vN a) H19 (fun _ _ HX=>au O ⟨rfl,rfl⟩)<|xt 4 O v H19 (fun _ _ HX=>au O ⟨rfl,rfl⟩)<|xt 5 O (vN a) H19 (fun _ _ HX=>au O ⟨rfl,rfl⟩)<|xt 6 O (.pointer (some (sp v a))) H19 (fun _ _ HX=>aP A73 Fa.I22 O (H19.arrR (i:=0) O) O (by omega) ⟨rfl,rfl⟩)<|xt 8 O v H19 (fun _ _ HX=>au O ⟨rfl,rfl⟩)<|xt 9 O (vN j7) H19 (fun _ _ HX=>au O ⟨rfl,rfl⟩)<|xt 10 O (.pointer (some (sp v j7))) H19 (fun _ _ HX=>aP A73 Fa.I22 O (H19.arrR (i:=0) O) O (by omega) ⟨rfl,rfl⟩)<|dh (fun W hW=>?_)
  let e8:List (Nat × Value)→List (Nat × Value):=fun r=>(0,v)::(1,(vN a))::(2,(vN b))::(10,(vN i5))::(11,(vN j7))::(63,(vN i5))::(64,(vN j7))::(65,(.bool (decide (i5>j7))))::r
  let B0:Ent:=.row v 22 1 n (Kg aa l1)
  have C4: ∀wS,Ke T w wS [.row v 22 1 n (Kg aa ((l1.set j7 (l1.getD a 0)).set a (l1.getD j7 0)))]→W 0 (bz 16 65535) (e8 []) wS:=fun wS HS=>by
   rw [hW]
   exact WH.done (by kernel_rfl)<|ao<|ws<|wm O<|wa O<|wa O<|wn<|aC<|aq<|aD (.tmp O (.tmp O .nil)) (⟨_,_,_,rfl,⟨hs1.step (by omega) (by omega) (by omega) (by omega),ra (by omega) hp7 (by omega)⟩,HS⟩)
  have C5: ∀wS,Ke T w wS [.row v 22 1 n (Kg aa (l1.set j7 (l1.getD a 0)))]→W 1 (bz 16 32767) (e8 [(77,(aa (l1.getD j7 0))),(79,(.pointer (some (sp v a))))]) wS:=fun wS HS=>by
   rw [hW]
   refine wh1 15<|kH 15 O (bN (i:=0) (f:=aa) (l:=(l1.set j7 (l1.getD a 0))) (c:=(l1.getD j7 0)) HS O O O (by omega) O Fa.I22 (fun w43 H43=>(⟨⟨_,H43⟩,?_⟩)))
   exact bh hW (C4 w43 H43)
  have B5: ∀wS,Ke T w wS [B0]→W 3 (bz 16 8191) (e8 [(68,v),(69,(vN a)),(73,(aa (l1.getD a 0))),(77,(aa (l1.getD j7 0))),(78,(.pointer (some (sp v j7))))]) wS:=fun wS HS=>by
   rw [hW]
   refine wh1 13<|kH 13 O (bN (i:=0) (f:=aa) (l:=l1) (c:=(l1.getD a 0)) HS O O O (by omega) O Fa.I22 (fun w20 H20=>(⟨⟨_,H20⟩,?_⟩)))
   exact xt 14 O (.pointer (some (sp v a))) H20 (fun _ _ HX=>aP A73 Fa.I22 O (H20.arrR (i:=0) O) O (by omega) ⟨rfl,rfl⟩)<|bh hW (C5 w20 H20)
  have C6: ∀wS,Ke T w wS [B0]→W 5 (bz 16 2047) (e8 [(66,v),(67,(vN j7)),(68,v),(69,(vN a)),(73,(aa (l1.getD a 0))),(76,(.pointer (some (sp v j7))))]) wS:=fun wS HS=>by
   rw [hW]
   refine wh1 11<|kH 11 O (aj O ((HS.arrR (i:=0) O).at (aR aa 0 (aV (HS.arrR (i:=0) O) (by omega)))) A22 O (⟨⟨_,HS⟩,?_⟩))
   exact xt 12 O (.pointer (some (sp v j7))) HS (fun _ _ HX=>aP A73 Fa.I22 O (HS.arrR (i:=0) O) O (by omega) ⟨rfl,rfl⟩)<|bh hW (B5 wS HS)
  have C7: ∀wS,Ke T w wS [B0]→W 5 (bz 16 3967) (e8 [(66,v),(67,(vN j7)),(68,v),(69,(vN a)),(72,(.pointer (some (sp v a)))),(77,(aa (l1.getD j7 0)))]) wS:=fun wS HS=>by
   rw [hW]
   refine wh1 7<|kH 7 O (aj O ((HS.arrR (i:=0) O).at (aR aa 0 (aV (HS.arrR (i:=0) O) (by omega)))) A22 O (⟨⟨_,HS⟩,?_⟩))
   exact xt 12 O (.pointer (some (sp v j7))) HS (fun _ _ HX=>aP A73 Fa.I22 O (HS.arrR (i:=0) O) O (by omega) ⟨rfl,rfl⟩)<|bh hW (B5 wS HS)
  have C8: ∀wS,Ke T w wS [B0]→W 6 (bz 16 1919) (e8 [(66,v),(67,(vN j7)),(68,v),(69,(vN a)),(72,(.pointer (some (sp v a)))),(76,(.pointer (some (sp v j7))))]) wS:=fun wS HS=>by
   rw [hW]
   refine wh2 7 11 ?_ ?_
   ·
    refine kH 7 O (aj O ((HS.arrR (i:=0) O).at (aR aa 0 (aV (HS.arrR (i:=0) O) (by omega)))) A22 O (⟨⟨_,HS⟩,?_⟩))
    exact bh hW (C6 wS HS)
   refine kH 11 O (aj O ((HS.arrR (i:=0) O).at (aR aa 0 (aV (HS.arrR (i:=0) O) (by omega)))) A22 O (⟨⟨_,HS⟩,?_⟩))
   exact bh hW (C7 wS HS)
  have hq:=C8 w19 H19
  rw [hW] at hq ⊢
  exact WH.cv hq
 refine aA<|ao<|ap<|WC.held 16 O Fa.M H17 (fun w'=> ∃L',Ke T w w' ([]++L')) ?_
 intro w21 H21
 refine xt 0 O v H21 (fun _ _ HX=>au O ⟨rfl,rfl⟩)<|xt 1 O (vN i5) H21 (fun _ _ HX=>au O ⟨rfl,rfl⟩)<|xt 2 O v H21 (fun _ _ HX=>au O ⟨rfl,rfl⟩)<|xt 3 O (vN j7) H21 (fun _ _ HX=>au O ⟨rfl,rfl⟩)<|xt 4 O v H21 (fun _ _ HX=>au O ⟨rfl,rfl⟩)<|xt 5 O (vN j7) H21 (fun _ _ HX=>au O ⟨rfl,rfl⟩)<|xt 6 O (.pointer (some (sp v j7))) H21 (fun _ _ HX=>aP A73 Fa.I22 O (H21.arrR (i:=0) O) O (by omega) ⟨rfl,rfl⟩)<|xt 8 O v H21 (fun _ _ HX=>au O ⟨rfl,rfl⟩)<|xt 9 O (vN i5) H21 (fun _ _ HX=>au O ⟨rfl,rfl⟩)<|xt 10 O (.pointer (some (sp v i5))) H21 (fun _ _ HX=>aP A73 Fa.I22 O (H21.arrR (i:=0) O) O (by omega) ⟨rfl,rfl⟩)<|dh (fun W hW=>?_)
 let e10:List (Nat × Value)→List (Nat × Value):=fun r=>(0,v)::(1,(vN a))::(2,(vN b))::(10,(vN i5))::(11,(vN j7))::(63,(vN i5))::(64,(vN j7))::(65,(.bool (decide (i5>j7))))::r
 let B1:Ent:=.row v 22 1 n (Kg aa l1)
 have C9: ∀wS,Ke T w wS [.row v 22 1 n (Kg aa ((l1.set i5 (l1.getD j7 0)).set j7 (l1.getD i5 0)))]→W 0 (bz 16 65535) (e10 []) wS:=fun wS HS=>by
  rw [hW]
  refine WH.done (by kernel_rfl)<|ao<|ws<|wm O<|wo (aU (b:=1) O O (by omega)<|wa O<|wn<|ws<|wm O<|wo (bE (b:=1) O O (by omega) (by omega)<|wa O<|wn<|ap<|aB<|bi (α:=Nat × Nat × List UInt32) (fun (u,z,l2)=>[(0,v),(1,(vN a)),(2,(vN b)),(10,(vN u)),(11,(vN z))]) (fun (u,z,l2) w'=>(Sw 0 a b l l2∧fZ bO 0 a b u z l2 (l.getD p 0))∧Ke T w w' [.row v 22 1 n (Kg aa l2)]) (fun (u,z,l2)=>z+1-u) (i5+1,j7-1,cY 0 l1 i5 j7) ⟨⟨hs1.step (by omega) (by omega) (by omega) (by omega),qY (by omega) hp7 (by omega) (hx7.resolve_left (by omega)) (hy7.resolve_left (by omega))⟩,HS⟩ ⟨rfl,rfl,rfl,rfl,rfl,trivial⟩ ?_))
  rintro ⟨u,z,l2⟩ w23 ⟨⟨hs2,hp8⟩,H23⟩
  show WC _ _ _ _ _ [(0,v),(1,(vN a)),(2,(vN b)),(10,(vN u)),(11,(vN z))] _
  have hL2:=hs2.len
  have hp8a:=hp8.1
  have hp8b:=hp8.2.1
  have hp8c:=hp8.2.2.1
  refine aB<|WC.cut (α:=Nat) (fun u4=>[(0,v),(1,(vN a)),(2,(vN b)),(10,(vN u4)),(11,(vN z))]) (fun u4 w'=>(u≤u4∧fZ bO 0 a b u4 z l2 (l.getD p 0)∧(z<u4∨bO (l2.getD u4 0) (l2.getD a 0)=false))∧Ke T w w' [.row v 22 1 n (Kg aa l2)]) ?_ ?_
  ·
   refine aB<|bi (α:=Nat) (fun u3=>[(0,v),(1,(vN a)),(2,(vN b)),(10,(vN u3)),(11,(vN z))]) (fun u3 w'=>(u≤u3∧fZ bO 0 a b u3 z l2 (l.getD p 0))∧Ke T w w' [.row v 22 1 n (Kg aa l2)]) (fun u3=>b-u3) u ⟨⟨Nat.le_refl _,hp8⟩,H23⟩ ⟨rfl,rfl,rfl,rfl,rfl,trivial⟩ ?_
   rintro u3 w24 ⟨⟨hu3,hp9⟩,H24⟩
   show WC _ _ _ _ _ [(0,v),(1,(vN a)),(2,(vN b)),(10,(vN u3)),(11,(vN z))] _
   have hp9a:=hp9.1
   have hp9b:=hp9.2.1
   have hp9c:=hp9.2.2.1
   refine ap<|ap (wG (u3≤z) (fun hb25 hc25=>?_) (fun hb25 hc25=>?_))
   ·
    refine bn 14 Fa.M H24 (mh O<|mh O<|oh (fun w1 H1=>dH O O zr)<|mh O<|yh hb25 (fun w1 H1=>au O zr)<|yh hb25 (fun w1 H1=>au O zr)<|yh hb25 (fun w1 H1=>aF A73 Fa.I22 O (H1.arrR (i:=0) O) O (by omega) zr)<|yh hb25 (fun w1 H1=>aj O ((H1.arrR (i:=0) O).at (aR aa 0 (aV (H1.arrR (i:=0) O) (by omega)))) A22 O zr)<|yh hb25 (fun w1 H1=>au O zr)<|yh hb25 (fun w1 H1=>au O zr)<|yh hb25 (fun w1 H1=>aF A73 Fa.I22 O (H1.arrR (i:=0) O) O (by omega) zr)<|yh hb25 (fun w1 H1=>aj O ((H1.arrR (i:=0) O).at (aR aa 0 (aV (H1.arrR (i:=0) O) (by omega)))) A22 O zr)<|yh hb25 (fun w1 H1=>az (Kd 217) O ((eC (l2.getD u3 0) (l2.getD a 0) _).mono (fun e w2 hq=>⟨_,hq.1,rfl,hq.2⟩)))<|oh (fun w1 H1=>aQ O hb25 O zr)  bD) (by kernel_rfl) ?_
    intro β27 w27 H27
    refine wn (wC (bO (l2.getD u3 0) (l2.getD a 0)) (fun hb28=>?_) (fun hb28=>?_))
    ·
     exact aA<|ao<|aB<|aG<|wm O<|wo (aU (b:=1) O O (by omega)<|wa O<|aY<|aE<|aX (u3+1) ⟨⟨by omega,xG hp9 (by omega) hb28⟩,H27⟩ ⟨rfl,rfl,rfl,rfl,rfl,trivial⟩ (by omega))
    exact bc<|an<|an<|aS<|cd u3 ⟨⟨hu3,hp9,.inr hb28⟩,H27⟩ ⟨rfl,rfl,rfl,rfl,rfl,trivial⟩
   refine bn 14 Fa.M H24 (mh O<|mh O<|oh (fun w1 H1=>dH O O zr)<|mh O<|nh hb25<|nh hb25<|nh hb25<|nh hb25<|nh hb25<|nh hb25<|nh hb25<|nh hb25<|nh hb25<|oh (fun w1 H1=>aN O hb25 O zr)  bD) (by kernel_rfl) ?_
   intro β29 w29 H29
   exact wn<|bF O O<|bc<|an<|an<|aS<|cd u3 ⟨⟨hu3,hp9,.inl (by omega)⟩,H29⟩ ⟨rfl,rfl,rfl,rfl,rfl,trivial⟩
  rintro u4 w30 ⟨⟨hu4,hpa,hxa⟩,H30⟩
  show WC _ _ _ _ _ [(0,v),(1,(vN a)),(2,(vN b)),(10,(vN u4)),(11,(vN z))] _
  have hpaa:=hpa.1
  have hpab:=hpa.2.1
  have hpac:=hpa.2.2.1
  refine WC.cut (α:=Nat) (fun z4=>[(0,v),(1,(vN a)),(2,(vN b)),(10,(vN u4)),(11,(vN z4))]) (fun z4 w'=>(z4≤z∧fZ bO 0 a b u4 z4 l2 (l.getD p 0)∧(z4<u4∨bO (l2.getD u4 0) (l2.getD a 0)=false)∧(z4<u4∨bO (l2.getD z4 0) (l2.getD a 0)=true))∧Ke T w w' [.row v 22 1 n (Kg aa l2)]) ?_ ?_
  ·
   refine aB<|bi (α:=Nat) (fun z3=>[(0,v),(1,(vN a)),(2,(vN b)),(10,(vN u4)),(11,(vN z3))]) (fun z3 w'=>(z3≤z∧fZ bO 0 a b u4 z3 l2 (l.getD p 0)∧(z3<u4∨bO (l2.getD u4 0) (l2.getD a 0)=false))∧Ke T w w' [.row v 22 1 n (Kg aa l2)]) (fun z3=>z3) z ⟨⟨Nat.le_refl _,hpa,hxa⟩,H30⟩ ⟨rfl,rfl,rfl,rfl,rfl,trivial⟩ ?_
   rintro z3 w31 ⟨⟨hz3,hpb,hxb⟩,H31⟩
   show WC _ _ _ _ _ [(0,v),(1,(vN a)),(2,(vN b)),(10,(vN u4)),(11,(vN z3))] _
   have hpba:=hpb.1
   have hpbb:=hpb.2.1
   have hpbc:=hpb.2.2.1
   refine ap<|ap (wG (u4≤z3) (fun hb32 hc32=>?_) (fun hb32 hc32=>?_))
   ·
    refine bn 15 Fa.M H31 (mh O<|mh O<|oh (fun w1 H1=>dH O O zr)<|mh O<|yh hb32 (fun w1 H1=>au O zr)<|yh hb32 (fun w1 H1=>au O zr)<|yh hb32 (fun w1 H1=>aF A73 Fa.I22 O (H1.arrR (i:=0) O) O (by omega) zr)<|yh hb32 (fun w1 H1=>aj O ((H1.arrR (i:=0) O).at (aR aa 0 (aV (H1.arrR (i:=0) O) (by omega)))) A22 O zr)<|yh hb32 (fun w1 H1=>au O zr)<|yh hb32 (fun w1 H1=>au O zr)<|yh hb32 (fun w1 H1=>aF A73 Fa.I22 O (H1.arrR (i:=0) O) O (by omega) zr)<|yh hb32 (fun w1 H1=>aj O ((H1.arrR (i:=0) O).at (aR aa 0 (aV (H1.arrR (i:=0) O) (by omega)))) A22 O zr)<|yh hb32 (fun w1 H1=>az (Kd 217) O ((eC (l2.getD z3 0) (l2.getD a 0) _).mono (fun e w2 hq=>⟨_,hq.1,rfl,hq.2⟩)))<|yh hb32 (fun w1 H1=>cQ O zr)<|oh (fun w1 H1=>aQ O hb32 O zr)  bD) (by kernel_rfl) ?_
    intro β34 w34 H34
    refine wn (wC (!(bO (l2.getD z3 0) (l2.getD a 0))) (fun hb35=>?_) (fun hb35=>?_))
    ·
     have hn35:=(Bool.not_eq_true' _).mp hb35
     exact aA<|ao<|aB<|aG<|wm O<|wo (bE (b:=1) O O (by omega) (by omega)<|wa O<|aY<|aE<|aX (z3-1) ⟨⟨by omega,xF hpb (by omega) hn35,hxb.imp (fun h=>by omega) id⟩,H34⟩ ⟨rfl,rfl,rfl,rfl,rfl,trivial⟩ (by omega))
    have hn35:=(Bool.not_eq_false' _).mp hb35
    exact bc<|an<|an<|aS<|cd z3 ⟨⟨hz3,hpb,hxb,.inr hn35⟩,H34⟩ ⟨rfl,rfl,rfl,rfl,rfl,trivial⟩
   refine bn 15 Fa.M H31 (mh O<|mh O<|oh (fun w1 H1=>dH O O zr)<|mh O<|nh hb32<|nh hb32<|nh hb32<|nh hb32<|nh hb32<|nh hb32<|nh hb32<|nh hb32<|nh hb32<|nh hb32<|oh (fun w1 H1=>aN O hb32 O zr)  bD) (by kernel_rfl) ?_
   intro β36 w36 H36
   exact wn<|bF O O<|bc<|an<|an<|aS<|cd z3 ⟨⟨hz3,hpb,hxb,.inl (by omega)⟩,H36⟩ ⟨rfl,rfl,rfl,rfl,rfl,trivial⟩
  rintro z4 w37 ⟨⟨hz4,hpb4,hxb4,hyb4⟩,H37⟩
  show WC _ _ _ _ _ [(0,v),(1,(vN a)),(2,(vN b)),(10,(vN u4)),(11,(vN z4))] _
  have hpb4a:=hpb4.1
  have hpb4b:=hpb4.2.1
  have hpb4c:=hpb4.2.2.1
  refine ap<|ws<|wm O<|wm O<|wo (cm O O<|wn (wE (u4>z4) (fun hb38 hc38=>?_) (fun hb38 hc38=>?_)))
  ·
   refine bc<|an<|WQ.inPass O<|an<|aS<|ao<|ap<|WC.held 16 O Fa.M H37 (fun w'=> ∃L',Ke T w w' ([]++L')) ?_
   intro w39 H39
   refine xt 0 O v H39 (fun _ _ HX=>au O ⟨rfl,rfl⟩)<|xt 1 O (vN z4) H39 (fun _ _ HX=>au O ⟨rfl,rfl⟩)<|xt 2 O v H39 (fun _ _ HX=>au O ⟨rfl,rfl⟩)<|xt 3 O (vN a) H39 (fun _ _ HX=>au O ⟨rfl,rfl⟩)<|xt 4 O v H39 (fun _ _ HX=>au O ⟨rfl,rfl⟩)<|xt 5 O (vN a) H39 (fun _ _ HX=>au O ⟨rfl,rfl⟩)<|xt 6 O (.pointer (some (sp v a))) H39 (fun _ _ HX=>aP A73 Fa.I22 O (H39.arrR (i:=0) O) O (by omega) ⟨rfl,rfl⟩)<|xt 8 O v H39 (fun _ _ HX=>au O ⟨rfl,rfl⟩)<|xt 9 O (vN z4) H39 (fun _ _ HX=>au O ⟨rfl,rfl⟩)<|xt 10 O (.pointer (some (sp v z4))) H39 (fun _ _ HX=>aP A73 Fa.I22 O (H39.arrR (i:=0) O) O (by omega) ⟨rfl,rfl⟩)<|dh (fun W hW=>?_)
   let e21:List (Nat × Value)→List (Nat × Value):=fun r=>(0,v)::(1,(vN a))::(2,(vN b))::(10,(vN u4))::(11,(vN z4))::(132,(vN u4))::(133,(vN z4))::(134,(.bool (decide (u4>z4))))::r
   let B2:Ent:=.row v 22 1 n (Kg aa l2)
   have D0: ∀wS,Ke T w wS [.row v 22 1 n (Kg aa ((l2.set z4 (l2.getD a 0)).set a (l2.getD z4 0)))]→W 0 (bz 16 65535) (e21 []) wS:=fun wS HS=>by
    rw [hW]
    exact WH.done (by kernel_rfl)<|ao<|ws<|wm O<|wa O<|wa O<|wn<|aC<|aD (.tmp O (.tmp O .nil)) (⟨_,_,_,rfl,⟨hs2.step (by omega) (by omega) (by omega) (by omega),ra (by omega) hpb4 (by omega)⟩,HS⟩)
   have D1: ∀wS,Ke T w wS [.row v 22 1 n (Kg aa (l2.set z4 (l2.getD a 0)))]→W 1 (bz 16 32767) (e21 [(164,(aa (l2.getD z4 0))),(166,(.pointer (some (sp v a))))]) wS:=fun wS HS=>by
    rw [hW]
    refine wh1 15<|kH 15 O (bN (i:=0) (f:=aa) (l:=(l2.set z4 (l2.getD a 0))) (c:=(l2.getD z4 0)) HS O O O (by omega) O Fa.I22 (fun w44 H44=>(⟨⟨_,H44⟩,?_⟩)))
    exact bh hW (D0 w44 H44)
   have B6: ∀wS,Ke T w wS [B2]→W 3 (bz 16 8191) (e21 [(155,v),(156,(vN a)),(160,(aa (l2.getD a 0))),(164,(aa (l2.getD z4 0))),(165,(.pointer (some (sp v z4))))]) wS:=fun wS HS=>by
    rw [hW]
    refine wh1 13<|kH 13 O (bN (i:=0) (f:=aa) (l:=l2) (c:=(l2.getD a 0)) HS O O O (by omega) O Fa.I22 (fun w26 H26=>(⟨⟨_,H26⟩,?_⟩)))
    exact xt 14 O (.pointer (some (sp v a))) H26 (fun _ _ HX=>aP A73 Fa.I22 O (H26.arrR (i:=0) O) O (by omega) ⟨rfl,rfl⟩)<|bh hW (D1 w26 H26)
   have D2: ∀wS,Ke T w wS [B2]→W 5 (bz 16 2047) (e21 [(153,v),(154,(vN z4)),(155,v),(156,(vN a)),(160,(aa (l2.getD a 0))),(163,(.pointer (some (sp v z4))))]) wS:=fun wS HS=>by
    rw [hW]
    refine wh1 11<|kH 11 O (aj O ((HS.arrR (i:=0) O).at (aR aa 0 (aV (HS.arrR (i:=0) O) (by omega)))) A22 O (⟨⟨_,HS⟩,?_⟩))
    exact xt 12 O (.pointer (some (sp v z4))) HS (fun _ _ HX=>aP A73 Fa.I22 O (HS.arrR (i:=0) O) O (by omega) ⟨rfl,rfl⟩)<|bh hW (B6 wS HS)
   have D3: ∀wS,Ke T w wS [B2]→W 5 (bz 16 3967) (e21 [(153,v),(154,(vN z4)),(155,v),(156,(vN a)),(159,(.pointer (some (sp v a)))),(164,(aa (l2.getD z4 0)))]) wS:=fun wS HS=>by
    rw [hW]
    refine wh1 7<|kH 7 O (aj O ((HS.arrR (i:=0) O).at (aR aa 0 (aV (HS.arrR (i:=0) O) (by omega)))) A22 O (⟨⟨_,HS⟩,?_⟩))
    exact xt 12 O (.pointer (some (sp v z4))) HS (fun _ _ HX=>aP A73 Fa.I22 O (HS.arrR (i:=0) O) O (by omega) ⟨rfl,rfl⟩)<|bh hW (B6 wS HS)
   have D4: ∀wS,Ke T w wS [B2]→W 6 (bz 16 1919) (e21 [(153,v),(154,(vN z4)),(155,v),(156,(vN a)),(159,(.pointer (some (sp v a)))),(163,(.pointer (some (sp v z4))))]) wS:=fun wS HS=>by
    rw [hW]
    refine wh2 7 11 ?_ ?_
    ·
     refine kH 7 O (aj O ((HS.arrR (i:=0) O).at (aR aa 0 (aV (HS.arrR (i:=0) O) (by omega)))) A22 O (⟨⟨_,HS⟩,?_⟩))
     exact bh hW (D2 wS HS)
    refine kH 11 O (aj O ((HS.arrR (i:=0) O).at (aR aa 0 (aV (HS.arrR (i:=0) O) (by omega)))) A22 O (⟨⟨_,HS⟩,?_⟩))
    exact bh hW (D3 wS HS)
   have hq:=D4 w39 H39
   rw [hW] at hq ⊢
   exact WH.cv hq
  refine aA<|ao<|ap<|WC.held 16 O Fa.M H37 (fun w'=> ∃L',Ke T w w' ([]++L')) ?_
  intro w41 H41
  refine xt 0 O v H41 (fun _ _ HX=>au O ⟨rfl,rfl⟩)<|xt 1 O (vN u4) H41 (fun _ _ HX=>au O ⟨rfl,rfl⟩)<|xt 2 O v H41 (fun _ _ HX=>au O ⟨rfl,rfl⟩)<|xt 3 O (vN z4) H41 (fun _ _ HX=>au O ⟨rfl,rfl⟩)<|xt 4 O v H41 (fun _ _ HX=>au O ⟨rfl,rfl⟩)<|xt 5 O (vN z4) H41 (fun _ _ HX=>au O ⟨rfl,rfl⟩)<|xt 6 O (.pointer (some (sp v z4))) H41 (fun _ _ HX=>aP A73 Fa.I22 O (H41.arrR (i:=0) O) O (by omega) ⟨rfl,rfl⟩)<|xt 8 O v H41 (fun _ _ HX=>au O ⟨rfl,rfl⟩)<|xt 9 O (vN u4) H41 (fun _ _ HX=>au O ⟨rfl,rfl⟩)<|xt 10 O (.pointer (some (sp v u4))) H41 (fun _ _ HX=>aP A73 Fa.I22 O (H41.arrR (i:=0) O) O (by omega) ⟨rfl,rfl⟩)<|dh (fun W hW=>?_)
  let e18:List (Nat × Value)→List (Nat × Value):=fun r=>(0,v)::(1,(vN a))::(2,(vN b))::(10,(vN u4))::(11,(vN z4))::(132,(vN u4))::(133,(vN z4))::(134,(.bool (decide (u4>z4))))::r
  let B3:Ent:=.row v 22 1 n (Kg aa l2)
  have D5: ∀wS,Ke T w wS [.row v 22 1 n (Kg aa ((l2.set u4 (l2.getD z4 0)).set z4 (l2.getD u4 0)))]→W 0 (bz 16 65535) (e18 []) wS:=fun wS HS=>by
   rw [hW]
   exact WH.done (by kernel_rfl)<|ao<|ws<|wm O<|wo (aU (b:=1) O O (by omega)<|wa O<|wn<|aG<|wm O<|wo (bE (b:=1) O O (by omega) (by omega)<|wa O<|aY<|aE<|aX (u4+1,z4-1,cY 0 l2 u4 z4) ⟨⟨hs2.step (by omega) (by omega) (by omega) (by omega),qY (by omega) hpb4 (by omega) (hxb4.resolve_left (by omega)) (hyb4.resolve_left (by omega))⟩,HS⟩ ⟨rfl,rfl,rfl,rfl,rfl,trivial⟩ (by show z4-1+1-(u4+1)<z+1-u; omega)))
  have D6: ∀wS,Ke T w wS [.row v 22 1 n (Kg aa (l2.set u4 (l2.getD z4 0)))]→W 1 (bz 16 32767) (e18 [(146,(aa (l2.getD u4 0))),(148,(.pointer (some (sp v z4))))]) wS:=fun wS HS=>by
   rw [hW]
   refine wh1 15<|kH 15 O (bN (i:=0) (f:=aa) (l:=(l2.set u4 (l2.getD z4 0))) (c:=(l2.getD u4 0)) HS O O O (by omega) O Fa.I22 (fun w45 H45=>(⟨⟨_,H45⟩,?_⟩)))
   exact bh hW (D5 w45 H45)
  have B7: ∀wS,Ke T w wS [B3]→W 3 (bz 16 8191) (e18 [(137,v),(138,(vN z4)),(142,(aa (l2.getD z4 0))),(146,(aa (l2.getD u4 0))),(147,(.pointer (some (sp v u4))))]) wS:=fun wS HS=>by
   rw [hW]
   refine wh1 13<|kH 13 O (bN (i:=0) (f:=aa) (l:=l2) (c:=(l2.getD z4 0)) HS O O O (by omega) O Fa.I22 (fun w33 H33=>(⟨⟨_,H33⟩,?_⟩)))
   exact xt 14 O (.pointer (some (sp v z4))) H33 (fun _ _ HX=>aP A73 Fa.I22 O (H33.arrR (i:=0) O) O (by omega) ⟨rfl,rfl⟩)<|bh hW (D6 w33 H33)
  have D7: ∀wS,Ke T w wS [B3]→W 5 (bz 16 2047) (e18 [(135,v),(136,(vN u4)),(137,v),(138,(vN z4)),(142,(aa (l2.getD z4 0))),(145,(.pointer (some (sp v u4))))]) wS:=fun wS HS=>by
   rw [hW]
   refine wh1 11<|kH 11 O (aj O ((HS.arrR (i:=0) O).at (aR aa 0 (aV (HS.arrR (i:=0) O) (by omega)))) A22 O (⟨⟨_,HS⟩,?_⟩))
   exact xt 12 O (.pointer (some (sp v u4))) HS (fun _ _ HX=>aP A73 Fa.I22 O (HS.arrR (i:=0) O) O (by omega) ⟨rfl,rfl⟩)<|bh hW (B7 wS HS)
  have D8: ∀wS,Ke T w wS [B3]→W 5 (bz 16 3967) (e18 [(135,v),(136,(vN u4)),(137,v),(138,(vN z4)),(141,(.pointer (some (sp v z4)))),(146,(aa (l2.getD u4 0)))]) wS:=fun wS HS=>by
   rw [hW]
   refine wh1 7<|kH 7 O (aj O ((HS.arrR (i:=0) O).at (aR aa 0 (aV (HS.arrR (i:=0) O) (by omega)))) A22 O (⟨⟨_,HS⟩,?_⟩))
   exact xt 12 O (.pointer (some (sp v u4))) HS (fun _ _ HX=>aP A73 Fa.I22 O (HS.arrR (i:=0) O) O (by omega) ⟨rfl,rfl⟩)<|bh hW (B7 wS HS)
  have D9: ∀wS,Ke T w wS [B3]→W 6 (bz 16 1919) (e18 [(135,v),(136,(vN u4)),(137,v),(138,(vN z4)),(141,(.pointer (some (sp v z4)))),(145,(.pointer (some (sp v u4))))]) wS:=fun wS HS=>by
   rw [hW]
   refine wh2 7 11 ?_ ?_
   ·
    refine kH 7 O (aj O ((HS.arrR (i:=0) O).at (aR aa 0 (aV (HS.arrR (i:=0) O) (by omega)))) A22 O (⟨⟨_,HS⟩,?_⟩))
    exact bh hW (D7 wS HS)
   refine kH 11 O (aj O ((HS.arrR (i:=0) O).at (aR aa 0 (aV (HS.arrR (i:=0) O) (by omega)))) A22 O (⟨⟨_,HS⟩,?_⟩))
   exact bh hW (D8 wS HS)
  have hq:=D9 w41 H41
  rw [hW] at hq ⊢
  exact WH.cv hq
 have Eq: ∀wS,Ke T w wS [.row v 22 1 n (Kg aa (l1.set i5 (l1.getD j7 0)))]→W 1 (bz 16 32767) (e10 [(92,(aa (l1.getD i5 0))),(94,(.pointer (some (sp v j7))))]) wS:=fun wS HS=>by
  rw [hW]
  refine wh1 15<|kH 15 O (bN (i:=0) (f:=aa) (l:=(l1.set i5 (l1.getD j7 0))) (c:=(l1.getD i5 0)) HS O O O (by omega) O Fa.I22 (fun w46 H46=>(⟨⟨_,H46⟩,?_⟩)))
  exact bh hW (C9 w46 H46)
 have B8: ∀wS,Ke T w wS [B1]→W 3 (bz 16 8191) (e10 [(83,v),(84,(vN j7)),(88,(aa (l1.getD j7 0))),(92,(aa (l1.getD i5 0))),(93,(.pointer (some (sp v i5))))]) wS:=fun wS HS=>by
  rw [hW]
  refine wh1 13<|kH 13 O (bN (i:=0) (f:=aa) (l:=l1) (c:=(l1.getD j7 0)) HS O O O (by omega) O Fa.I22 (fun w40 H40=>(⟨⟨_,H40⟩,?_⟩)))
  exact xt 14 O (.pointer (some (sp v j7))) H40 (fun _ _ HX=>aP A73 Fa.I22 O (H40.arrR (i:=0) O) O (by omega) ⟨rfl,rfl⟩)<|bh hW (Eq w40 H40)
 have E0: ∀wS,Ke T w wS [B1]→W 5 (bz 16 2047) (e10 [(81,v),(82,(vN i5)),(83,v),(84,(vN j7)),(88,(aa (l1.getD j7 0))),(91,(.pointer (some (sp v i5))))]) wS:=fun wS HS=>by
  rw [hW]
  refine wh1 11<|kH 11 O (aj O ((HS.arrR (i:=0) O).at (aR aa 0 (aV (HS.arrR (i:=0) O) (by omega)))) A22 O (⟨⟨_,HS⟩,?_⟩))
  exact xt 12 O (.pointer (some (sp v i5))) HS (fun _ _ HX=>aP A73 Fa.I22 O (HS.arrR (i:=0) O) O (by omega) ⟨rfl,rfl⟩)<|bh hW (B8 wS HS)
 have E1: ∀wS,Ke T w wS [B1]→W 5 (bz 16 3967) (e10 [(81,v),(82,(vN i5)),(83,v),(84,(vN j7)),(87,(.pointer (some (sp v j7)))),(92,(aa (l1.getD i5 0)))]) wS:=fun wS HS=>by
  rw [hW]
  refine wh1 7<|kH 7 O (aj O ((HS.arrR (i:=0) O).at (aR aa 0 (aV (HS.arrR (i:=0) O) (by omega)))) A22 O (⟨⟨_,HS⟩,?_⟩))
  exact xt 12 O (.pointer (some (sp v i5))) HS (fun _ _ HX=>aP A73 Fa.I22 O (HS.arrR (i:=0) O) O (by omega) ⟨rfl,rfl⟩)<|bh hW (B8 wS HS)
 have E2: ∀wS,Ke T w wS [B1]→W 6 (bz 16 1919) (e10 [(81,v),(82,(vN i5)),(83,v),(84,(vN j7)),(87,(.pointer (some (sp v j7)))),(91,(.pointer (some (sp v i5))))]) wS:=fun wS HS=>by
  rw [hW]
  refine wh2 7 11 ?_ ?_
  ·
   refine kH 7 O (aj O ((HS.arrR (i:=0) O).at (aR aa 0 (aV (HS.arrR (i:=0) O) (by omega)))) A22 O (⟨⟨_,HS⟩,?_⟩))
   exact bh hW (E0 wS HS)
  refine kH 11 O (aj O ((HS.arrR (i:=0) O).at (aR aa 0 (aV (HS.arrR (i:=0) O) (by omega)))) A22 O (⟨⟨_,HS⟩,?_⟩))
  exact bh hW (E1 wS HS)
 have hq:=E2 w21 H21
 rw [hW] at hq ⊢
 exact WH.cv hq
theorem zt (v:Value) (n:Nat) (l:List UInt32) (a b:Nat) (p:Nat) (T:List Nat) (w:World) (H:Ke T w w [.row v 22 1 n (Kg aa l)]) (hn:l.length=n) (hN:n<2^61) (hap:a≤p) (hpb:p<b) (hb:b≤n) :
  Calls Kf 218 #[v,(vN a),(vN b),(vN p)] w (fun e w'=> ∃(l':List UInt32) (m:Nat),e=.returned (vN m)∧(Sw 0 a b l l'∧EqP bO 0 a b m l' (l.getD p 0))∧Ke T w w' [.row v 22 1 n (Kg aa l')]):=by
 refine enter Tryz.func218 O O<|ws<|wa O<|wn<|WC.cut (α:=List UInt32) (fun l1=>[(0,v),(1,(vN a)),(2,(vN b))]) (fun l1 w'=>(Sw 0 a b l l1∧l1.getD a 0=(l.getD p 0))∧Ke T w w' [.row v 22 1 n (Kg aa l1)]) ?_ ?_
 ·
  refine WC.held 16 O Fa.M H (fun w'=> ∃L',Ke T w w' ([]++L')) ?_
  intro w1 H1
  refine xt 0 O v H1 (fun _ _ HX=>au O ⟨rfl,rfl⟩)<|xt 1 O (vN a) H1 (fun _ _ HX=>au O ⟨rfl,rfl⟩)<|xt 2 O v H1 (fun _ _ HX=>au O ⟨rfl,rfl⟩)<|xt 3 O (vN p) H1 (fun _ _ HX=>au O ⟨rfl,rfl⟩)<|xt 4 O v H1 (fun _ _ HX=>au O ⟨rfl,rfl⟩)<|xt 5 O (vN p) H1 (fun _ _ HX=>au O ⟨rfl,rfl⟩)<|xt 6 O (.pointer (some (sp v p))) H1 (fun _ _ HX=>aP A73 Fa.I22 O (H1.arrR (i:=0) O) O (by omega) ⟨rfl,rfl⟩)<|xt 8 O v H1 (fun _ _ HX=>au O ⟨rfl,rfl⟩)<|xt 9 O (vN a) H1 (fun _ _ HX=>au O ⟨rfl,rfl⟩)<|xt 10 O (.pointer (some (sp v a))) H1 (fun _ _ HX=>aP A73 Fa.I22 O (H1.arrR (i:=0) O) O (by omega) ⟨rfl,rfl⟩)<|dh (fun W hW=>?_)
  let Bm:Ent:=.row v 22 1 n (Kg aa l)
  have B3: ∀wS,Ke T w wS [.row v 22 1 n (Kg aa ((l.set a (l.getD p 0)).set p (l.getD a 0)))]→W 0 (bz 16 65535) [(0,v),(1,(vN a)),(2,(vN b)),(3,(vN p)),(8,(vN 0))] wS:=fun wS HS=>by
   rw [hW]
   exact WH.done (by kernel_rfl)<|cd (cY 0 l a p) ⟨⟨Sw.one (by omega) (by omega) (by omega) (by omega),rY (by omega) (by omega)⟩,HS⟩ ⟨rfl,rfl,rfl,trivial⟩
  have B4: ∀wS,Ke T w wS [.row v 22 1 n (Kg aa (l.set a (l.getD p 0)))]→W 1 (bz 16 32767) [(0,v),(1,(vN a)),(2,(vN b)),(3,(vN p)),(8,(vN 0)),(22,(aa (l.getD a 0))),(24,(.pointer (some (sp v p))))] wS:=fun wS HS=>by
   rw [hW]
   refine wh1 15<|kH 15 O (bN (i:=0) (f:=aa) (l:=(l.set a (l.getD p 0))) (c:=(l.getD a 0)) HS O O O (by omega) O Fa.I22 (fun w21 H21=>(⟨⟨_,H21⟩,?_⟩)))
   exact bh hW (B3 w21 H21)
  have B1: ∀wS,Ke T w wS [Bm]→W 3 (bz 16 8191) [(0,v),(1,(vN a)),(2,(vN b)),(3,(vN p)),(8,(vN 0)),(13,v),(14,(vN p)),(18,(aa (l.getD p 0))),(22,(aa (l.getD a 0))),(23,(.pointer (some (sp v a))))] wS:=fun wS HS=>by
   rw [hW]
   refine wh1 13<|kH 13 O (bN (i:=0) (f:=aa) (l:=l) (c:=(l.getD p 0)) HS O O O (by omega) O Fa.I22 (fun w7 H7=>(⟨⟨_,H7⟩,?_⟩)))
   exact xt 14 O (.pointer (some (sp v p))) H7 (fun _ _ HX=>aP A73 Fa.I22 O (H7.arrR (i:=0) O) O (by omega) ⟨rfl,rfl⟩)<|bh hW (B4 w7 H7)
  have B5: ∀wS,Ke T w wS [Bm]→W 5 (bz 16 2047) [(0,v),(1,(vN a)),(2,(vN b)),(3,(vN p)),(8,(vN 0)),(11,v),(12,(vN a)),(13,v),(14,(vN p)),(18,(aa (l.getD p 0))),(21,(.pointer (some (sp v a))))] wS:=fun wS HS=>by
   rw [hW]
   refine wh1 11<|kH 11 O (aj O ((HS.arrR (i:=0) O).at (aR aa 0 (aV (HS.arrR (i:=0) O) (by omega)))) A22 O (⟨⟨_,HS⟩,?_⟩))
   exact xt 12 O (.pointer (some (sp v a))) HS (fun _ _ HX=>aP A73 Fa.I22 O (HS.arrR (i:=0) O) O (by omega) ⟨rfl,rfl⟩)<|bh hW (B1 wS HS)
  have B6: ∀wS,Ke T w wS [Bm]→W 5 (bz 16 3967) [(0,v),(1,(vN a)),(2,(vN b)),(3,(vN p)),(8,(vN 0)),(11,v),(12,(vN a)),(13,v),(14,(vN p)),(17,(.pointer (some (sp v p)))),(22,(aa (l.getD a 0)))] wS:=fun wS HS=>by
   rw [hW]
   refine wh1 7<|kH 7 O (aj O ((HS.arrR (i:=0) O).at (aR aa 0 (aV (HS.arrR (i:=0) O) (by omega)))) A22 O (⟨⟨_,HS⟩,?_⟩))
   exact xt 12 O (.pointer (some (sp v a))) HS (fun _ _ HX=>aP A73 Fa.I22 O (HS.arrR (i:=0) O) O (by omega) ⟨rfl,rfl⟩)<|bh hW (B1 wS HS)
  have B7: ∀wS,Ke T w wS [Bm]→W 6 (bz 16 1919) [(0,v),(1,(vN a)),(2,(vN b)),(3,(vN p)),(8,(vN 0)),(11,v),(12,(vN a)),(13,v),(14,(vN p)),(17,(.pointer (some (sp v p)))),(21,(.pointer (some (sp v a))))] wS:=fun wS HS=>by
   rw [hW]
   refine wh2 7 11 ?_ ?_
   ·
    refine kH 7 O (aj O ((HS.arrR (i:=0) O).at (aR aa 0 (aV (HS.arrR (i:=0) O) (by omega)))) A22 O (⟨⟨_,HS⟩,?_⟩))
    exact bh hW (B5 wS HS)
   refine kH 11 O (aj O ((HS.arrR (i:=0) O).at (aR aa 0 (aV (HS.arrR (i:=0) O) (by omega)))) A22 O (⟨⟨_,HS⟩,?_⟩))
   exact bh hW (B6 wS HS)
  have hq:=B7 w1 H1
  rw [hW] at hq ⊢
  exact WH.cv hq
 rintro l1 w3 ⟨⟨hs1,hv1⟩,H3⟩
 show WC _ _ _ _ _ [(0,v),(1,(vN a)),(2,(vN b))] _
 have hL1:=hs1.len
 refine ws<|wm O<|wo (aU (b:=1) O O (by omega)<|wm O<|wo (bE (b:=1) O O (by omega) (by omega)<|wa O<|wa O<|wn<|ap<|aB<|bi (α:=Nat × Nat × List UInt32) (fun (u,z,l2)=>[(0,v),(1,(vN a)),(2,(vN b)),(9,(vN u)),(10,(vN z))]) (fun (u,z,l2) w'=>(Sw 0 a b l l2∧EqI bO 0 a b u z l2 (l.getD p 0))∧Ke T w w' [.row v 22 1 n (Kg aa l2)]) (fun (u,z,l2)=>z+1-u) (a+1,b-1,l1) ⟨⟨hs1,EJ (by omega) hv1⟩,H3⟩ ⟨rfl,rfl,rfl,rfl,rfl,trivial⟩ ?_))
 rintro ⟨u,z,l2⟩ w4 ⟨⟨hs2,hp8⟩,H4⟩
 show WC _ _ _ _ _ [(0,v),(1,(vN a)),(2,(vN b)),(9,(vN u)),(10,(vN z))] _
 have hL2:=hs2.len
 have hp8a:=hp8.1
 have hp8b:=hp8.2.1
 have hp8c:=hp8.2.2.1
 refine aB<|WC.cut (α:=Nat) (fun u4=>[(0,v),(1,(vN a)),(2,(vN b)),(9,(vN u4)),(10,(vN z))]) (fun u4 w'=>(u≤u4∧EqI bO 0 a b u4 z l2 (l.getD p 0)∧(z<u4∨bO (l2.getD a 0) (l2.getD u4 0)=true))∧Ke T w w' [.row v 22 1 n (Kg aa l2)]) ?_ ?_
 ·
  refine aB<|bi (α:=Nat) (fun u3=>[(0,v),(1,(vN a)),(2,(vN b)),(9,(vN u3)),(10,(vN z))]) (fun u3 w'=>(u≤u3∧EqI bO 0 a b u3 z l2 (l.getD p 0))∧Ke T w w' [.row v 22 1 n (Kg aa l2)]) (fun u3=>b-u3) u ⟨⟨Nat.le_refl _,hp8⟩,H4⟩ ⟨rfl,rfl,rfl,rfl,rfl,trivial⟩ ?_
  rintro u3 w5 ⟨⟨hu3,hp9⟩,H5⟩
  show WC _ _ _ _ _ [(0,v),(1,(vN a)),(2,(vN b)),(9,(vN u3)),(10,(vN z))] _
  have hp9a:=hp9.1
  have hp9b:=hp9.2.1
  have hp9c:=hp9.2.2.1
  refine ap<|ap (wG (u3≤z) (fun hb6 hc6=>?_) (fun hb6 hc6=>?_))
  ·
   refine bn 15 Fa.M H5 (mh O<|mh O<|oh (fun w1 H1=>dH O O zr)<|mh O<|yh hb6 (fun w1 H1=>au O zr)<|yh hb6 (fun w1 H1=>au O zr)<|yh hb6 (fun w1 H1=>aF A73 Fa.I22 O (H1.arrR (i:=0) O) O (by omega) zr)<|yh hb6 (fun w1 H1=>aj O ((H1.arrR (i:=0) O).at (aR aa 0 (aV (H1.arrR (i:=0) O) (by omega)))) A22 O zr)<|yh hb6 (fun w1 H1=>au O zr)<|yh hb6 (fun w1 H1=>au O zr)<|yh hb6 (fun w1 H1=>aF A73 Fa.I22 O (H1.arrR (i:=0) O) O (by omega) zr)<|yh hb6 (fun w1 H1=>aj O ((H1.arrR (i:=0) O).at (aR aa 0 (aV (H1.arrR (i:=0) O) (by omega)))) A22 O zr)<|yh hb6 (fun w1 H1=>az (Kd 217) O ((eC (l2.getD a 0) (l2.getD u3 0) _).mono (fun e w2 hq=>⟨_,hq.1,rfl,hq.2⟩)))<|yh hb6 (fun w1 H1=>cQ O zr)<|oh (fun w1 H1=>aQ O hb6 O zr)  bD) (by kernel_rfl) ?_
   intro β8 w8 H8
   refine wn (wC (!(bO (l2.getD a 0) (l2.getD u3 0))) (fun hb9=>?_) (fun hb9=>?_))
   ·
    have hn9:=(Bool.not_eq_true' _).mp hb9
    exact aA<|ao<|aB<|aG<|wm O<|wo (aU (b:=1) O O (by omega)<|wa O<|aY<|aE<|aX (u3+1) ⟨⟨by omega,HU hp9 (by omega) hn9⟩,H8⟩ ⟨rfl,rfl,rfl,rfl,rfl,trivial⟩ (by omega))
   have hn9:=(Bool.not_eq_false' _).mp hb9
   exact bc<|an<|an<|aS<|cd u3 ⟨⟨hu3,hp9,.inr hn9⟩,H8⟩ ⟨rfl,rfl,rfl,rfl,rfl,trivial⟩
  refine bn 15 Fa.M H5 (mh O<|mh O<|oh (fun w1 H1=>dH O O zr)<|mh O<|nh hb6<|nh hb6<|nh hb6<|nh hb6<|nh hb6<|nh hb6<|nh hb6<|nh hb6<|nh hb6<|nh hb6<|oh (fun w1 H1=>aN O hb6 O zr)  bD) (by kernel_rfl) ?_
  intro β10 w10 H10
  exact wn<|bF O O<|bc<|an<|an<|aS<|cd u3 ⟨⟨hu3,hp9,.inl (by omega)⟩,H10⟩ ⟨rfl,rfl,rfl,rfl,rfl,trivial⟩
 rintro u4 w11 ⟨⟨hu4,hpa,hxa⟩,H11⟩
 show WC _ _ _ _ _ [(0,v),(1,(vN a)),(2,(vN b)),(9,(vN u4)),(10,(vN z))] _
 have hpaa:=hpa.1
 have hpab:=hpa.2.1
 have hpac:=hpa.2.2.1
 refine WC.cut (α:=Nat) (fun z4=>[(0,v),(1,(vN a)),(2,(vN b)),(9,(vN u4)),(10,(vN z4))]) (fun z4 w'=>(z4≤z∧EqI bO 0 a b u4 z4 l2 (l.getD p 0)∧(z4<u4∨bO (l2.getD a 0) (l2.getD u4 0)=true)∧(z4<u4∨bO (l2.getD a 0) (l2.getD z4 0)=false))∧Ke T w w' [.row v 22 1 n (Kg aa l2)]) ?_ ?_
 ·
  refine aB<|bi (α:=Nat) (fun z3=>[(0,v),(1,(vN a)),(2,(vN b)),(9,(vN u4)),(10,(vN z3))]) (fun z3 w'=>(z3≤z∧EqI bO 0 a b u4 z3 l2 (l.getD p 0)∧(z3<u4∨bO (l2.getD a 0) (l2.getD u4 0)=true))∧Ke T w w' [.row v 22 1 n (Kg aa l2)]) (fun z3=>z3) z ⟨⟨Nat.le_refl _,hpa,hxa⟩,H11⟩ ⟨rfl,rfl,rfl,rfl,rfl,trivial⟩ ?_
  rintro z3 w12 ⟨⟨hz3,hpb2,hxb⟩,H12⟩
  show WC _ _ _ _ _ [(0,v),(1,(vN a)),(2,(vN b)),(9,(vN u4)),(10,(vN z3))] _
  have hpb2a:=hpb2.1
  have hpb2b:=hpb2.2.1
  have hpb2c:=hpb2.2.2.1
  refine ap<|ap (wG (u4≤z3) (fun hb13 hc13=>?_) (fun hb13 hc13=>?_))
  ·
   refine bn 14 Fa.M H12 (mh O<|mh O<|oh (fun w1 H1=>dH O O zr)<|mh O<|yh hb13 (fun w1 H1=>au O zr)<|yh hb13 (fun w1 H1=>au O zr)<|yh hb13 (fun w1 H1=>aF A73 Fa.I22 O (H1.arrR (i:=0) O) O (by omega) zr)<|yh hb13 (fun w1 H1=>aj O ((H1.arrR (i:=0) O).at (aR aa 0 (aV (H1.arrR (i:=0) O) (by omega)))) A22 O zr)<|yh hb13 (fun w1 H1=>au O zr)<|yh hb13 (fun w1 H1=>au O zr)<|yh hb13 (fun w1 H1=>aF A73 Fa.I22 O (H1.arrR (i:=0) O) O (by omega) zr)<|yh hb13 (fun w1 H1=>aj O ((H1.arrR (i:=0) O).at (aR aa 0 (aV (H1.arrR (i:=0) O) (by omega)))) A22 O zr)<|yh hb13 (fun w1 H1=>az (Kd 217) O ((eC (l2.getD a 0) (l2.getD z3 0) _).mono (fun e w2 hq=>⟨_,hq.1,rfl,hq.2⟩)))<|oh (fun w1 H1=>aQ O hb13 O zr)  bD) (by kernel_rfl) ?_
   intro β15 w15 H15
   refine wn (wC (bO (l2.getD a 0) (l2.getD z3 0)) (fun hb16=>?_) (fun hb16=>?_))
   ·
    exact aA<|ao<|aB<|aG<|wm O<|wo (bE (b:=1) O O (by omega) (by omega)<|wa O<|aY<|aE<|aX (z3-1) ⟨⟨by omega,HT hpb2 (by omega) hb16,hxb.imp (fun h=>by omega) id⟩,H15⟩ ⟨rfl,rfl,rfl,rfl,rfl,trivial⟩ (by omega))
   exact bc<|an<|an<|aS<|cd z3 ⟨⟨hz3,hpb2,hxb,.inr hb16⟩,H15⟩ ⟨rfl,rfl,rfl,rfl,rfl,trivial⟩
  refine bn 14 Fa.M H12 (mh O<|mh O<|oh (fun w1 H1=>dH O O zr)<|mh O<|nh hb13<|nh hb13<|nh hb13<|nh hb13<|nh hb13<|nh hb13<|nh hb13<|nh hb13<|nh hb13<|oh (fun w1 H1=>aN O hb13 O zr)  bD) (by kernel_rfl) ?_
  intro β17 w17 H17
  exact wn<|bF O O<|bc<|an<|an<|aS<|cd z3 ⟨⟨hz3,hpb2,hxb,.inl (by omega)⟩,H17⟩ ⟨rfl,rfl,rfl,rfl,rfl,trivial⟩
 rintro z4 w18 ⟨⟨hz4,hpb4,hxb4,hyb4⟩,H18⟩
 show WC _ _ _ _ _ [(0,v),(1,(vN a)),(2,(vN b)),(9,(vN u4)),(10,(vN z4))] _
 have hpb4a:=hpb4.1
 have hpb4b:=hpb4.2.1
 have hpb4c:=hpb4.2.2.1
 refine ap<|ws<|wm O<|wm O<|wo (cm O O<|wn (wE (u4>z4) (fun hb19 hc19=>?_) (fun hb19 hc19=>?_)))
 ·
  exact bc<|an<|WQ.inPass O<|an<|aS<|ao<|ws<|wm O<|wa O<|wn<|aC<|aD (.tmp O .nil) (⟨_,_,rfl,⟨hs2,EK cX hpb4 (by omega)⟩,H18⟩)
 refine aA<|ao<|ap<|WC.held 16 O Fa.M H18 (fun w'=> ∃L',Ke T w w' ([]++L')) ?_
 intro w20 H20
 refine xt 0 O v H20 (fun _ _ HX=>au O ⟨rfl,rfl⟩)<|xt 1 O (vN u4) H20 (fun _ _ HX=>au O ⟨rfl,rfl⟩)<|xt 2 O v H20 (fun _ _ HX=>au O ⟨rfl,rfl⟩)<|xt 3 O (vN z4) H20 (fun _ _ HX=>au O ⟨rfl,rfl⟩)<|xt 4 O v H20 (fun _ _ HX=>au O ⟨rfl,rfl⟩)<|xt 5 O (vN z4) H20 (fun _ _ HX=>au O ⟨rfl,rfl⟩)<|xt 6 O (.pointer (some (sp v z4))) H20 (fun _ _ HX=>aP A73 Fa.I22 O (H20.arrR (i:=0) O) O (by omega) ⟨rfl,rfl⟩)<|xt 8 O v H20 (fun _ _ HX=>au O ⟨rfl,rfl⟩)<|xt 9 O (vN u4) H20 (fun _ _ HX=>au O ⟨rfl,rfl⟩)<|xt 10 O (.pointer (some (sp v u4))) H20 (fun _ _ HX=>aP A73 Fa.I22 O (H20.arrR (i:=0) O) O (by omega) ⟨rfl,rfl⟩)<|dh (fun W hW=>?_)
 let e8:List (Nat × Value)→List (Nat × Value):=fun r=>(0,v)::(1,(vN a))::(2,(vN b))::(9,(vN u4))::(10,(vN z4))::(62,(vN u4))::(63,(vN z4))::(64,(.bool (decide (u4>z4))))::r
 let B0:Ent:=.row v 22 1 n (Kg aa l2)
 have B8: ∀wS,Ke T w wS [.row v 22 1 n (Kg aa ((l2.set u4 (l2.getD z4 0)).set z4 (l2.getD u4 0)))]→W 0 (bz 16 65535) (e8 []) wS:=fun wS HS=>by
  rw [hW]
  exact WH.done (by kernel_rfl)<|ao<|ws<|wm O<|wo (aU (b:=1) O O (by omega)<|wa O<|wn<|aG<|wm O<|wo (bE (b:=1) O O (by omega) (by omega)<|wa O<|aY<|aE<|aX (u4+1,z4-1,cY 0 l2 u4 z4) ⟨⟨hs2.step (by omega) (by omega) (by omega) (by omega),EH (by omega) hpb4 (by omega) (hxb4.resolve_left (by omega)) (hyb4.resolve_left (by omega))⟩,HS⟩ ⟨rfl,rfl,rfl,rfl,rfl,trivial⟩ (by show z4-1+1-(u4+1)<z+1-u; omega)))
 have B9: ∀wS,Ke T w wS [.row v 22 1 n (Kg aa (l2.set u4 (l2.getD z4 0)))]→W 1 (bz 16 32767) (e8 [(76,(aa (l2.getD u4 0))),(78,(.pointer (some (sp v z4))))]) wS:=fun wS HS=>by
  rw [hW]
  refine wh1 15<|kH 15 O (bN (i:=0) (f:=aa) (l:=(l2.set u4 (l2.getD z4 0))) (c:=(l2.getD u4 0)) HS O O O (by omega) O Fa.I22 (fun w23 H23=>(⟨⟨_,H23⟩,?_⟩)))
  exact bh hW (B8 w23 H23)
 have B2: ∀wS,Ke T w wS [B0]→W 3 (bz 16 8191) (e8 [(67,v),(68,(vN z4)),(72,(aa (l2.getD z4 0))),(76,(aa (l2.getD u4 0))),(77,(.pointer (some (sp v u4))))]) wS:=fun wS HS=>by
  rw [hW]
  refine wh1 13<|kH 13 O (bN (i:=0) (f:=aa) (l:=l2) (c:=(l2.getD z4 0)) HS O O O (by omega) O Fa.I22 (fun w14 H14=>(⟨⟨_,H14⟩,?_⟩)))
  exact xt 14 O (.pointer (some (sp v z4))) H14 (fun _ _ HX=>aP A73 Fa.I22 O (H14.arrR (i:=0) O) O (by omega) ⟨rfl,rfl⟩)<|bh hW (B9 w14 H14)
 have C0: ∀wS,Ke T w wS [B0]→W 5 (bz 16 2047) (e8 [(65,v),(66,(vN u4)),(67,v),(68,(vN z4)),(72,(aa (l2.getD z4 0))),(75,(.pointer (some (sp v u4))))]) wS:=fun wS HS=>by
  rw [hW]
  refine wh1 11<|kH 11 O (aj O ((HS.arrR (i:=0) O).at (aR aa 0 (aV (HS.arrR (i:=0) O) (by omega)))) A22 O (⟨⟨_,HS⟩,?_⟩))
  exact xt 12 O (.pointer (some (sp v u4))) HS (fun _ _ HX=>aP A73 Fa.I22 O (HS.arrR (i:=0) O) O (by omega) ⟨rfl,rfl⟩)<|bh hW (B2 wS HS)
 have C1: ∀wS,Ke T w wS [B0]→W 5 (bz 16 3967) (e8 [(65,v),(66,(vN u4)),(67,v),(68,(vN z4)),(71,(.pointer (some (sp v z4)))),(76,(aa (l2.getD u4 0)))]) wS:=fun wS HS=>by
  rw [hW]
  refine wh1 7<|kH 7 O (aj O ((HS.arrR (i:=0) O).at (aR aa 0 (aV (HS.arrR (i:=0) O) (by omega)))) A22 O (⟨⟨_,HS⟩,?_⟩))
  exact xt 12 O (.pointer (some (sp v u4))) HS (fun _ _ HX=>aP A73 Fa.I22 O (HS.arrR (i:=0) O) O (by omega) ⟨rfl,rfl⟩)<|bh hW (B2 wS HS)
 have C2: ∀wS,Ke T w wS [B0]→W 6 (bz 16 1919) (e8 [(65,v),(66,(vN u4)),(67,v),(68,(vN z4)),(71,(.pointer (some (sp v z4)))),(75,(.pointer (some (sp v u4))))]) wS:=fun wS HS=>by
  rw [hW]
  refine wh2 7 11 ?_ ?_
  ·
   refine kH 7 O (aj O ((HS.arrR (i:=0) O).at (aR aa 0 (aV (HS.arrR (i:=0) O) (by omega)))) A22 O (⟨⟨_,HS⟩,?_⟩))
   exact bh hW (C0 wS HS)
  refine kH 11 O (aj O ((HS.arrR (i:=0) O).at (aR aa 0 (aV (HS.arrR (i:=0) O) (by omega)))) A22 O (⟨⟨_,HS⟩,?_⟩))
  exact bh hW (C1 wS HS)
 have hq:=C2 w20 H20
 rw [hW] at hq ⊢
 exact WH.cv hq
theorem DG (v:Value) (n:Nat) (l:List UInt32) (a b:Nat) (T:List Nat) (w:World) (H:Ke T w w [.row v 22 1 n (Kg aa l)]) (hn:l.length=n) (hN:n<2^61) (hab:a<b) (hb:b≤n) (hpre:gL bO 0 a b l) :
  Calls Kf 216 #[v,(vN a),(vN b)] w (fun e w'=> ∃(l':List UInt32) (r:Bool),e=.returned (.bool r)∧(Sw 0 a b l l'∧(r=true→SortS bO 0 a b l'))∧Ke T w w' [.row v 22 1 n (Kg aa l')]):=by
 refine enter Tryz.func216 O O<|ws<|wa O<|wn<|ws<|wm O<|wo (aU (b:=1) O O (by omega)<|wa O<|wn<|ap<|ws<|wa O<|wn<|aB<|bi (α:=Nat × Nat × List UInt32) (fun (i,c,l1)=>[(0,v),(1,(vN a)),(2,(vN b)),(7,(vN i)),(8,(vN c))]) (fun (i,c,l1) w'=>(a+1≤i∧i≤b∧c≤5∧Sw 0 a b l l1∧SortS bO 0 a i l1∧gL bO 0 a b l1)∧Ke T w w' [.row v 22 1 n (Kg aa l1)]) (fun (i,c,l1)=>5-c) (a+1,0,l) ⟨⟨Nat.le_refl _,by omega,by omega,.refl _,SortS.nil (by omega),hpre⟩,H⟩ ⟨rfl,rfl,rfl,rfl,rfl,trivial⟩ ?_)
 rintro ⟨i,c,l1⟩ w1 ⟨⟨hi1,hi2,hc1,hs1,ho1,hp1⟩,H1⟩
 show WC _ _ _ _ _ [(0,v),(1,(vN a)),(2,(vN b)),(7,(vN i)),(8,(vN c))] _
 have hL1:=hs1.len
 refine ap<|ws<|wm O<|wo (bm (b:=5) O O<|wn (wE (c<5) (fun hb2 hc2=>?_) (fun hb2 hc2=>?_)))
 ·
  refine aA<|ao<|ap<|aB<|WC.cut (α:=Nat) (fun i3=>[(0,v),(1,(vN a)),(2,(vN b)),(7,(vN i3)),(8,(vN c))]) (fun i3 w'=>(a+1≤i3∧i3≤b∧SortS bO 0 a i3 l1)∧Ke T w w' [.row v 22 1 n (Kg aa l1)]) ?_ ?_
  ·
   refine aB<|bi (α:=Nat) (fun i2=>[(0,v),(1,(vN a)),(2,(vN b)),(7,(vN i2)),(8,(vN c))]) (fun i2 w'=>(a+1≤i2∧i2≤b∧SortS bO 0 a i2 l1)∧Ke T w w' [.row v 22 1 n (Kg aa l1)]) (fun i2=>b-i2) i ⟨⟨hi1,hi2,ho1⟩,H1⟩ ⟨rfl,rfl,rfl,rfl,rfl,trivial⟩ ?_
   rintro i2 w3 ⟨⟨hi3,hi4,ho2⟩,H3⟩
   show WC _ _ _ _ _ [(0,v),(1,(vN a)),(2,(vN b)),(7,(vN i2)),(8,(vN c))] _
   refine ap<|ap (wG (i2<b) (fun hb4 hc4=>?_) (fun hb4 hc4=>?_))
   ·
    refine bn 16 Fa.M H3 (mh O<|mh O<|oh (fun w1 H1=>bm O O zr)<|mh O<|yh hb4 (fun w1 H1=>au O zr)<|yh hb4 (fun w1 H1=>au O zr)<|yh hb4 (fun w1 H1=>aF A73 Fa.I22 O (H1.arrR (i:=0) O) O (by omega) zr)<|yh hb4 (fun w1 H1=>aj O ((H1.arrR (i:=0) O).at (aR aa 0 (aV (H1.arrR (i:=0) O) (by omega)))) A22 O zr)<|yh hb4 (fun w1 H1=>au O zr)<|yh hb4 (fun w1 H1=>au O zr)<|yh hb4 (fun w1 H1=>bE (b:=1) O O (by omega) (by omega) zr)<|yh hb4 (fun w1 H1=>aF A73 Fa.I22 O (H1.arrR (i:=0) O) O (by omega) zr)<|yh hb4 (fun w1 H1=>aj O ((H1.arrR (i:=0) O).at (aR aa 0 (aV (H1.arrR (i:=0) O) (by omega)))) A22 O zr)<|yh hb4 (fun w1 H1=>az (Kd 217) O ((eC (l1.getD i2 0) (l1.getD (i2-1) 0) _).mono (fun e w2 hq=>⟨_,hq.1,rfl,hq.2⟩)))<|yh hb4 (fun w1 H1=>cQ O zr)<|oh (fun w1 H1=>aQ O hb4 O zr)  bD) (by kernel_rfl) ?_
    intro β6 w6 H6
    refine wn (wC (!(bO (l1.getD i2 0) (l1.getD (i2-1) 0))) (fun hb7=>?_) (fun hb7=>?_))
    ·
     have hn7:=(Bool.not_eq_true' _).mp hb7
     exact aA<|ao<|aB<|aG<|wm O<|wo (aU (b:=1) O O (by omega)<|wa O<|aY<|aE<|aX (i2+1) ⟨⟨by omega,by omega,yW cX ho2 (by omega) hn7⟩,H6⟩ ⟨rfl,rfl,rfl,rfl,rfl,trivial⟩ (by omega))
    have hn7:=(Bool.not_eq_false' _).mp hb7
    exact bc<|an<|an<|aS<|cd i2 ⟨⟨hi3,hi4,ho2⟩,H6⟩ ⟨rfl,rfl,rfl,rfl,rfl,trivial⟩
   refine bn 16 Fa.M H3 (mh O<|mh O<|oh (fun w1 H1=>bm O O zr)<|mh O<|nh hb4<|nh hb4<|nh hb4<|nh hb4<|nh hb4<|nh hb4<|nh hb4<|nh hb4<|nh hb4<|nh hb4<|nh hb4<|oh (fun w1 H1=>aN O hb4 O zr)  bD) (by kernel_rfl) ?_
   intro β8 w8 H8
   exact wn<|bF O O<|bc<|an<|an<|aS<|cd i2 ⟨⟨hi3,hi4,ho2⟩,H8⟩ ⟨rfl,rfl,rfl,rfl,rfl,trivial⟩
  rintro i3 w9 ⟨⟨hi5,hi6,ho3⟩,H9⟩
  show WC _ _ _ _ _ [(0,v),(1,(vN a)),(2,(vN b)),(7,(vN i3)),(8,(vN c))] _
  refine ap<|ws<|wm O<|wm O<|wo (dk O O<|wn (wE (i3=b) (fun hb10 hc10=>?_) (fun hb10 hc10=>?_)))
  ·
   exact ws<|wa O<|wn<|aC<|aq<|aZ<|aq<|aq<|aZ<|aq<|aD (.tmp O .nil) (⟨_,_,rfl,⟨hs1,fun _ p q h1 h2 h3=>ho3 p q h1 h2 (by omega)⟩,H9⟩)
  refine aA<|ao<|ap<|ws<|wm O<|wm O<|wo (bE O O (by omega) (by omega)<|wo (bm (b:=50) O O<|wn (wE ((b-a)<50) (fun hb11 hc11=>?_) (fun hb11 hc11=>?_))))
  ·
   exact ws<|wa O<|wn<|aC<|aq<|aZ<|aq<|aq<|aZ<|aq<|aD (.tmp O .nil) (⟨_,_,rfl,⟨hs1,fun h=>by cases h⟩,H9⟩)
  refine aA<|ao<|WC.cut (α:=List UInt32) (fun l3=>[(0,v),(1,(vN a)),(2,(vN b)),(7,(vN i3)),(8,(vN c))]) (fun l3 w'=>(Sw 0 a b l l3∧SortS bO 0 a (i3-1) l3∧gL bO 0 a b l3)∧Ke T w w' [.row v 22 1 n (Kg aa l3)]) ?_ ?_
  ·
   refine WC.held 18 O Fa.M H9 (fun w'=> ∃L',Ke T w w' ([]++L')) ?_
   intro w12 H12
   refine xt 0 O v H12 (fun _ _ HX=>au O ⟨rfl,rfl⟩)<|xt 1 O (vN i3) H12 (fun _ _ HX=>au O ⟨rfl,rfl⟩)<|xt 2 O v H12 (fun _ _ HX=>au O ⟨rfl,rfl⟩)<|xt 3 O (vN i3) H12 (fun _ _ HX=>au O ⟨rfl,rfl⟩)<|xt 4 O (vN (i3-1)) H12 (fun _ _ HX=>bE (b:=1) O O (by omega) (by omega) ⟨rfl,rfl⟩)<|xt 5 O v H12 (fun _ _ HX=>au O ⟨rfl,rfl⟩)<|xt 6 O (vN i3) H12 (fun _ _ HX=>au O ⟨rfl,rfl⟩)<|xt 7 O (vN (i3-1)) H12 (fun _ _ HX=>bE (b:=1) O O (by omega) (by omega) ⟨rfl,rfl⟩)<|xt 8 O (.pointer (some (sp v (i3-1)))) H12 (fun _ _ HX=>aP A73 Fa.I22 O (H12.arrR (i:=0) O) O (by omega) ⟨rfl,rfl⟩)<|xt 10 O v H12 (fun _ _ HX=>au O ⟨rfl,rfl⟩)<|xt 11 O (vN i3) H12 (fun _ _ HX=>au O ⟨rfl,rfl⟩)<|xt 12 O (.pointer (some (sp v i3))) H12 (fun _ _ HX=>aP A73 Fa.I22 O (H12.arrR (i:=0) O) O (by omega) ⟨rfl,rfl⟩)<|dh (fun W hW=>?_)
   let e11:List (Nat × Value)→List (Nat × Value):=fun r=>(0,v)::(1,(vN a))::(2,(vN b))::(7,(vN i3))::(8,(vN c))::(35,(vN i3))::(36,(vN b))::(37,(.bool (decide (i3=b))))::(38,(vN b))::(39,(vN a))::(40,(vN (b-a)))::(41,(.bool (decide ((b-a)<50))))::r
   let Bm:Ent:=.row v 22 1 n (Kg aa l1)
   have B5: ∀wS,Ke T w wS [.row v 22 1 n (Kg aa ((l1.set i3 (l1.getD (i3-1) 0)).set (i3-1) (l1.getD i3 0)))]→W 0 (bz 18 262143) (e11 []) wS:=fun wS HS=>by
    rw [hW]
    exact WH.done (by kernel_rfl)<|cd (cY 0 l1 i3 (i3-1)) ⟨⟨hs1.step (by omega) (by omega) (by omega) (by omega),yV (by omega) (by omega) ho3,kf (by omega) hp1 (Sw.one (by omega) (by omega) (by omega) (by omega))⟩,HS⟩ ⟨rfl,rfl,rfl,rfl,rfl,trivial⟩
   have B6: ∀wS,Ke T w wS [.row v 22 1 n (Kg aa (l1.set i3 (l1.getD (i3-1) 0)))]→W 1 (bz 18 131071) (e11 [(55,(aa (l1.getD i3 0))),(57,(.pointer (some (sp v (i3-1)))))]) wS:=fun wS HS=>by
    rw [hW]
    refine wh1 17<|kH 17 O (bN (i:=0) (f:=aa) (l:=(l1.set i3 (l1.getD (i3-1) 0))) (c:=(l1.getD i3 0)) HS O O O (by omega) O Fa.I22 (fun w31 H31=>(⟨⟨_,H31⟩,?_⟩)))
    exact bh hW (B5 w31 H31)
   have B2: ∀wS,Ke T w wS [Bm]→W 3 (bz 18 32767) (e11 [(44,v),(46,(vN (i3-1))),(51,(aa (l1.getD (i3-1) 0))),(55,(aa (l1.getD i3 0))),(56,(.pointer (some (sp v i3))))]) wS:=fun wS HS=>by
    rw [hW]
    refine wh1 15<|kH 15 O (bN (i:=0) (f:=aa) (l:=l1) (c:=(l1.getD (i3-1) 0)) HS O O O (by omega) O Fa.I22 (fun w13 H13=>(⟨⟨_,H13⟩,?_⟩)))
    exact xt 16 O (.pointer (some (sp v (i3-1)))) H13 (fun _ _ HX=>aP A73 Fa.I22 O (H13.arrR (i:=0) O) O (by omega) ⟨rfl,rfl⟩)<|bh hW (B6 w13 H13)
   have B7: ∀wS,Ke T w wS [Bm]→W 5 (bz 18 8191) (e11 [(42,v),(43,(vN i3)),(44,v),(46,(vN (i3-1))),(51,(aa (l1.getD (i3-1) 0))),(54,(.pointer (some (sp v i3))))]) wS:=fun wS HS=>by
    rw [hW]
    refine wh1 13<|kH 13 O (aj O ((HS.arrR (i:=0) O).at (aR aa 0 (aV (HS.arrR (i:=0) O) (by omega)))) A22 O (⟨⟨_,HS⟩,?_⟩))
    exact xt 14 O (.pointer (some (sp v i3))) HS (fun _ _ HX=>aP A73 Fa.I22 O (HS.arrR (i:=0) O) O (by omega) ⟨rfl,rfl⟩)<|bh hW (B2 wS HS)
   have B8: ∀wS,Ke T w wS [Bm]→W 5 (bz 18 15871) (e11 [(42,v),(43,(vN i3)),(44,v),(46,(vN (i3-1))),(50,(.pointer (some (sp v (i3-1))))),(55,(aa (l1.getD i3 0)))]) wS:=fun wS HS=>by
    rw [hW]
    refine wh1 9<|kH 9 O (aj O ((HS.arrR (i:=0) O).at (aR aa 0 (aV (HS.arrR (i:=0) O) (by omega)))) A22 O (⟨⟨_,HS⟩,?_⟩))
    exact xt 14 O (.pointer (some (sp v i3))) HS (fun _ _ HX=>aP A73 Fa.I22 O (HS.arrR (i:=0) O) O (by omega) ⟨rfl,rfl⟩)<|bh hW (B2 wS HS)
   have B9: ∀wS,Ke T w wS [Bm]→W 6 (bz 18 7679) (e11 [(42,v),(43,(vN i3)),(44,v),(46,(vN (i3-1))),(50,(.pointer (some (sp v (i3-1))))),(54,(.pointer (some (sp v i3))))]) wS:=fun wS HS=>by
    rw [hW]
    refine wh2 9 13 ?_ ?_
    ·
     refine kH 9 O (aj O ((HS.arrR (i:=0) O).at (aR aa 0 (aV (HS.arrR (i:=0) O) (by omega)))) A22 O (⟨⟨_,HS⟩,?_⟩))
     exact bh hW (B7 wS HS)
    refine kH 13 O (aj O ((HS.arrR (i:=0) O).at (aR aa 0 (aV (HS.arrR (i:=0) O) (by omega)))) A22 O (⟨⟨_,HS⟩,?_⟩))
    exact bh hW (B8 wS HS)
   have hq:=B9 w12 H12
   rw [hW] at hq ⊢
   exact WH.cv hq
  rintro l3 w14 ⟨⟨hs3,ho5,hp3⟩,H14⟩
  show WC _ _ _ _ _ [(0,v),(1,(vN a)),(2,(vN b)),(7,(vN i3)),(8,(vN c))] _
  have hL3:=hs3.len
  refine WC.cut (α:=List UInt32) (fun l4=>[(0,v),(1,(vN a)),(2,(vN b)),(7,(vN i3)),(8,(vN c))]) (fun l4 w'=>(Sw 0 a b l l4∧SortS bO 0 a i3 l4∧gL bO 0 a b l4)∧Ke T w w' [.row v 22 1 n (Kg aa l4)]) ?_ ?_
  ·
   refine ws<|wm O<|wm O<|wo (bE O O (by omega) (by omega)<|wo (dI (b:=2) O O<|wn (wE ((i3-a)≥2) (fun hb15 hc15=>?_) (fun hb15 hc15=>?_))))
   ·
    refine ws<|wm O<|wo (bE (b:=1) O O (by omega) (by omega)<|wa O<|wn<|aB<|bi (α:=Nat × List UInt32) (fun (j,l2)=>[(0,v),(1,(vN a)),(2,(vN b)),(7,(vN i3)),(8,(vN c)),(9,(vN j))]) (fun (j,l2) w'=>(a≤j∧j≤i3-1∧Sw 0 a b l l2∧ub bO 0 a (i3-1) j l2∧gL bO 0 a b l2)∧Ke T w w' [.row v 22 1 n (Kg aa l2)]) (fun (j,l2)=>j) (i3-1,l3) ⟨⟨by omega,Nat.le_refl _,hs3,tt ho5,hp3⟩,H14⟩ ⟨rfl,rfl,rfl,rfl,rfl,rfl,trivial⟩ ?_)
    rintro ⟨j,l2⟩ w16 ⟨⟨hj1,hj2,hs2,hj3,hp2⟩,H16⟩
    show WC _ _ _ _ _ [(0,v),(1,(vN a)),(2,(vN b)),(7,(vN i3)),(8,(vN c)),(9,(vN j))] _
    have hL2:=hs2.len
    refine ap<|ws<|wm O<|wo (dI (b:=1) O O<|wn (wE (j≥1) (fun hb17 hc17=>?_) (fun hb17 hc17=>?_)))
    ·
     refine aA<|ao<|ap<|aB<|ap<|ap<|bn 11 Fa.M H16 (mh O<|mh O<|oh (fun w1 H1=>aF A73 Fa.I22 O (H1.arrR (i:=0) O) O (by omega) zr)<|oh (fun w1 H1=>aj O ((H1.arrR (i:=0) O).at (aR aa 0 (aV (H1.arrR (i:=0) O) (by omega)))) A22 O zr)<|mh O<|mh O<|oh (fun w1 H1=>bE (b:=1) O O (by omega) (by omega) zr)<|oh (fun w1 H1=>aF A73 Fa.I22 O (H1.arrR (i:=0) O) O (by omega) zr)<|oh (fun w1 H1=>aj O ((H1.arrR (i:=0) O).at (aR aa 0 (aV (H1.arrR (i:=0) O) (by omega)))) A22 O zr)<|oh (fun w1 H1=>az (Kd 217) O ((eC (l2.getD j 0) (l2.getD (j-1) 0) _).mono (fun e w2 hq=>⟨_,hq.1,rfl,hq.2⟩)))<|oh (fun w1 H1=>cQ O zr)  bD) (by kernel_rfl) ?_
     intro β19 w19 H19
     refine wn (wC (!(bO (l2.getD j 0) (l2.getD (j-1) 0))) (fun hb20=>?_) (fun hb20=>?_))
     ·
      have hn20:=(Bool.not_eq_true' _).mp hb20
      refine bc<|an<|WQ.inPass O<|an<|an<|aS ?_
      have hd:=lN cX hj3 (.inr hn20) hj1
      rw [show i3-1+1=i3 by omega] at hd
      exact cd l2 ⟨⟨hs2,hd,hp2⟩,H19⟩ ⟨rfl,rfl,rfl,rfl,rfl,trivial⟩
     have hn20:=(Bool.not_eq_false' _).mp hb20
     have hja:=Fz hp2 hj1 (by omega) (by omega) hn20
     refine aA<|ao<|WC.held 18 O Fa.M H19 (fun w'=> ∃L',Ke T w w' ([]++L')) ?_
     intro w21 H21
     refine xt 0 O v H21 (fun _ _ HX=>au O ⟨rfl,rfl⟩)<|xt 1 O (vN j) H21 (fun _ _ HX=>au O ⟨rfl,rfl⟩)<|xt 2 O v H21 (fun _ _ HX=>au O ⟨rfl,rfl⟩)<|xt 3 O (vN j) H21 (fun _ _ HX=>au O ⟨rfl,rfl⟩)<|xt 4 O (vN (j-1)) H21 (fun _ _ HX=>bE (b:=1) O O (by omega) (by omega) ⟨rfl,rfl⟩)<|xt 5 O v H21 (fun _ _ HX=>au O ⟨rfl,rfl⟩)<|xt 6 O (vN j) H21 (fun _ _ HX=>au O ⟨rfl,rfl⟩)<|xt 7 O (vN (j-1)) H21 (fun _ _ HX=>bE (b:=1) O O (by omega) (by omega) ⟨rfl,rfl⟩)<|xt 8 O (.pointer (some (sp v (j-1)))) H21 (fun _ _ HX=>aP A73 Fa.I22 O (H21.arrR (i:=0) O) O (by omega) ⟨rfl,rfl⟩)<|xt 10 O v H21 (fun _ _ HX=>au O ⟨rfl,rfl⟩)<|xt 11 O (vN j) H21 (fun _ _ HX=>au O ⟨rfl,rfl⟩)<|xt 12 O (.pointer (some (sp v j))) H21 (fun _ _ HX=>aP A73 Fa.I22 O (H21.arrR (i:=0) O) O (by omega) ⟨rfl,rfl⟩)<|dh (fun W hW=>?_)
     let e17:List (Nat × Value)→List (Nat × Value):=fun r=>(0,v)::(1,(vN a))::(2,(vN b))::(7,(vN i3))::(8,(vN c))::(9,(vN j))::(64,(vN j))::(65,(.bool (decide (j≥1))))::(68,v)::(69,(vN j))::(70,(.pointer (some (sp v j))))::(71,(aa (l2.getD j 0)))::(72,v)::(73,(vN j))::(74,(vN (j-1)))::(75,(.pointer (some (sp v (j-1)))))::(76,(aa (l2.getD (j-1) 0)))::(77,(.bool (bO (l2.getD j 0) (l2.getD (j-1) 0))))::(78,(.bool (!(bO (l2.getD j 0) (l2.getD (j-1) 0)))))::r
     let B0:Ent:=.row v 22 1 n (Kg aa l2)
     have C0: ∀wS,Ke T w wS [.row v 22 1 n (Kg aa ((l2.set j (l2.getD (j-1) 0)).set (j-1) (l2.getD j 0)))]→W 0 (bz 18 262143) (e17 []) wS:=fun wS HS=>by
      rw [hW]
      exact WH.done (by kernel_rfl)<|aE<|ao<|aG<|wm O<|wo (bE (b:=1) O O (by omega) (by omega)<|wa O<|aY<|aX (j-1,cY 0 l2 j (j-1)) ⟨⟨by omega,by omega,hs2.step (by omega) (by omega) (by omega) (by omega),tr cX (by omega) hj3 hja hj2 hn20,kf (by omega) hp2 (Sw.one (by omega) (by omega) (by omega) (by omega))⟩,HS⟩ ⟨rfl,rfl,rfl,rfl,rfl,rfl,trivial⟩ (by show j-1<j; omega))
     have C1: ∀wS,Ke T w wS [.row v 22 1 n (Kg aa (l2.set j (l2.getD (j-1) 0)))]→W 1 (bz 18 131071) (e17 [(92,(aa (l2.getD j 0))),(94,(.pointer (some (sp v (j-1)))))]) wS:=fun wS HS=>by
      rw [hW]
      refine wh1 17<|kH 17 O (bN (i:=0) (f:=aa) (l:=(l2.set j (l2.getD (j-1) 0))) (c:=(l2.getD j 0)) HS O O O (by omega) O Fa.I22 (fun w33 H33=>(⟨⟨_,H33⟩,?_⟩)))
      exact bh hW (C0 w33 H33)
     have B3: ∀wS,Ke T w wS [B0]→W 3 (bz 18 32767) (e17 [(81,v),(83,(vN (j-1))),(88,(aa (l2.getD (j-1) 0))),(92,(aa (l2.getD j 0))),(93,(.pointer (some (sp v j))))]) wS:=fun wS HS=>by
      rw [hW]
      refine wh1 15<|kH 15 O (bN (i:=0) (f:=aa) (l:=l2) (c:=(l2.getD (j-1) 0)) HS O O O (by omega) O Fa.I22 (fun w18 H18=>(⟨⟨_,H18⟩,?_⟩)))
      exact xt 16 O (.pointer (some (sp v (j-1)))) H18 (fun _ _ HX=>aP A73 Fa.I22 O (H18.arrR (i:=0) O) O (by omega) ⟨rfl,rfl⟩)<|bh hW (C1 w18 H18)
     have C2: ∀wS,Ke T w wS [B0]→W 5 (bz 18 8191) (e17 [(79,v),(80,(vN j)),(81,v),(83,(vN (j-1))),(88,(aa (l2.getD (j-1) 0))),(91,(.pointer (some (sp v j))))]) wS:=fun wS HS=>by
      rw [hW]
      refine wh1 13<|kH 13 O (aj O ((HS.arrR (i:=0) O).at (aR aa 0 (aV (HS.arrR (i:=0) O) (by omega)))) A22 O (⟨⟨_,HS⟩,?_⟩))
      exact xt 14 O (.pointer (some (sp v j))) HS (fun _ _ HX=>aP A73 Fa.I22 O (HS.arrR (i:=0) O) O (by omega) ⟨rfl,rfl⟩)<|bh hW (B3 wS HS)
     have C3: ∀wS,Ke T w wS [B0]→W 5 (bz 18 15871) (e17 [(79,v),(80,(vN j)),(81,v),(83,(vN (j-1))),(87,(.pointer (some (sp v (j-1))))),(92,(aa (l2.getD j 0)))]) wS:=fun wS HS=>by
      rw [hW]
      refine wh1 9<|kH 9 O (aj O ((HS.arrR (i:=0) O).at (aR aa 0 (aV (HS.arrR (i:=0) O) (by omega)))) A22 O (⟨⟨_,HS⟩,?_⟩))
      exact xt 14 O (.pointer (some (sp v j))) HS (fun _ _ HX=>aP A73 Fa.I22 O (HS.arrR (i:=0) O) O (by omega) ⟨rfl,rfl⟩)<|bh hW (B3 wS HS)
     have C4: ∀wS,Ke T w wS [B0]→W 6 (bz 18 7679) (e17 [(79,v),(80,(vN j)),(81,v),(83,(vN (j-1))),(87,(.pointer (some (sp v (j-1))))),(91,(.pointer (some (sp v j))))]) wS:=fun wS HS=>by
      rw [hW]
      refine wh2 9 13 ?_ ?_
      ·
       refine kH 9 O (aj O ((HS.arrR (i:=0) O).at (aR aa 0 (aV (HS.arrR (i:=0) O) (by omega)))) A22 O (⟨⟨_,HS⟩,?_⟩))
       exact bh hW (C2 wS HS)
      refine kH 13 O (aj O ((HS.arrR (i:=0) O).at (aR aa 0 (aV (HS.arrR (i:=0) O) (by omega)))) A22 O (⟨⟨_,HS⟩,?_⟩))
      exact bh hW (C3 wS HS)
     have hq:=C4 w21 H21
     rw [hW] at hq ⊢
     exact WH.cv hq
    refine bc<|an<|an<|aS ?_
    have hd:=lN cX hj3 (.inl (by omega)) hj1
    rw [show i3-1+1=i3 by omega] at hd
    exact cd l2 ⟨⟨hs2,hd,hp2⟩,H16⟩ ⟨rfl,rfl,rfl,rfl,rfl,trivial⟩
   exact aA<|cd l3 ⟨⟨hs3,SortS.nil (by omega),hp3⟩,H14⟩ ⟨rfl,rfl,rfl,rfl,rfl,trivial⟩
  rintro l4 w23 ⟨⟨hs4,ho4,hp4⟩,H23⟩
  show WC _ _ _ _ _ [(0,v),(1,(vN a)),(2,(vN b)),(7,(vN i3)),(8,(vN c))] _
  have hL4:=hs4.len
  refine ws<|wm O<|wm O<|wo (bE O O (by omega) (by omega)<|wo (dI (b:=2) O O<|wn (wE ((b-i3)≥2) (fun hb24 hc24=>?_) (fun hb24 hc24=>?_))))
  ·
   refine ws<|wm O<|wo (aU (b:=1) O O (by omega)<|wa O<|wn<|aB<|bi (α:=Nat × List UInt32) (fun (k,l7)=>[(0,v),(1,(vN a)),(2,(vN b)),(7,(vN i3)),(8,(vN c)),(10,(vN k))]) (fun (k,l7) w'=>(i3+1≤k∧k≤b∧Sw 0 a b l l7∧SortS bO 0 a i3 l7∧gL bO 0 a b l7)∧Ke T w w' [.row v 22 1 n (Kg aa l7)]) (fun (k,l7)=>b-k) (i3+1,l4) ⟨⟨Nat.le_refl _,by omega,hs4,ho4,hp4⟩,H23⟩ ⟨rfl,rfl,rfl,rfl,rfl,rfl,trivial⟩ ?_)
   rintro ⟨k,l7⟩ w25 ⟨⟨hk1,hk2,hs7,ho7,hp7⟩,H25⟩
   show WC _ _ _ _ _ [(0,v),(1,(vN a)),(2,(vN b)),(7,(vN i3)),(8,(vN c)),(10,(vN k))] _
   have hL7:=hs7.len
   refine ap<|ws<|wm O<|wm O<|wo (bm O O<|wn (wE (k<b) (fun hb26 hc26=>?_) (fun hb26 hc26=>?_)))
   ·
    refine aA<|ao<|ap<|aB<|ap<|ap<|bn 11 Fa.M H25 (mh O<|mh O<|oh (fun w1 H1=>aF A73 Fa.I22 O (H1.arrR (i:=0) O) O (by omega) zr)<|oh (fun w1 H1=>aj O ((H1.arrR (i:=0) O).at (aR aa 0 (aV (H1.arrR (i:=0) O) (by omega)))) A22 O zr)<|mh O<|mh O<|oh (fun w1 H1=>bE (b:=1) O O (by omega) (by omega) zr)<|oh (fun w1 H1=>aF A73 Fa.I22 O (H1.arrR (i:=0) O) O (by omega) zr)<|oh (fun w1 H1=>aj O ((H1.arrR (i:=0) O).at (aR aa 0 (aV (H1.arrR (i:=0) O) (by omega)))) A22 O zr)<|oh (fun w1 H1=>az (Kd 217) O ((eC (l7.getD k 0) (l7.getD (k-1) 0) _).mono (fun e w2 hq=>⟨_,hq.1,rfl,hq.2⟩)))<|oh (fun w1 H1=>cQ O zr)  bD) (by kernel_rfl) ?_
    intro β28 w28 H28
    refine wn (wC (!(bO (l7.getD k 0) (l7.getD (k-1) 0))) (fun hb29=>?_) (fun hb29=>?_))
    ·
     have hn29:=(Bool.not_eq_true' _).mp hb29
     exact bc<|an<|WQ.inPass O<|an<|an<|aS<|aE<|ao<|aG<|wm O<|wo (aU (b:=1) O O (by omega)<|wa O<|aY<|aX (i3,c+1,l7) ⟨⟨by omega,by omega,by omega,hs7,ho7,hp7⟩,H28⟩ ⟨rfl,rfl,rfl,rfl,rfl,trivial⟩ (by show 5-(c+1)<5-c; omega))
    have hn29:=(Bool.not_eq_false' _).mp hb29
    refine aA<|ao<|WC.held 18 O Fa.M H28 (fun w'=> ∃L',Ke T w w' ([]++L')) ?_
    intro w30 H30
    refine xt 0 O v H30 (fun _ _ HX=>au O ⟨rfl,rfl⟩)<|xt 1 O (vN k) H30 (fun _ _ HX=>au O ⟨rfl,rfl⟩)<|xt 2 O v H30 (fun _ _ HX=>au O ⟨rfl,rfl⟩)<|xt 3 O (vN k) H30 (fun _ _ HX=>au O ⟨rfl,rfl⟩)<|xt 4 O (vN (k-1)) H30 (fun _ _ HX=>bE (b:=1) O O (by omega) (by omega) ⟨rfl,rfl⟩)<|xt 5 O v H30 (fun _ _ HX=>au O ⟨rfl,rfl⟩)<|xt 6 O (vN k) H30 (fun _ _ HX=>au O ⟨rfl,rfl⟩)<|xt 7 O (vN (k-1)) H30 (fun _ _ HX=>bE (b:=1) O O (by omega) (by omega) ⟨rfl,rfl⟩)<|xt 8 O (.pointer (some (sp v (k-1)))) H30 (fun _ _ HX=>aP A73 Fa.I22 O (H30.arrR (i:=0) O) O (by omega) ⟨rfl,rfl⟩)<|xt 10 O v H30 (fun _ _ HX=>au O ⟨rfl,rfl⟩)<|xt 11 O (vN k) H30 (fun _ _ HX=>au O ⟨rfl,rfl⟩)<|xt 12 O (.pointer (some (sp v k))) H30 (fun _ _ HX=>aP A73 Fa.I22 O (H30.arrR (i:=0) O) O (by omega) ⟨rfl,rfl⟩)<|dh (fun W hW=>?_)
    let e23:List (Nat × Value)→List (Nat × Value):=fun r=>(0,v)::(1,(vN a))::(2,(vN b))::(7,(vN i3))::(8,(vN c))::(10,(vN k))::(101,(vN k))::(102,(vN b))::(103,(.bool (decide (k<b))))::(106,v)::(107,(vN k))::(108,(.pointer (some (sp v k))))::(109,(aa (l7.getD k 0)))::(110,v)::(111,(vN k))::(112,(vN (k-1)))::(113,(.pointer (some (sp v (k-1)))))::(114,(aa (l7.getD (k-1) 0)))::(115,(.bool (bO (l7.getD k 0) (l7.getD (k-1) 0))))::(116,(.bool (!(bO (l7.getD k 0) (l7.getD (k-1) 0)))))::r
    let B1:Ent:=.row v 22 1 n (Kg aa l7)
    have C5: ∀wS,Ke T w wS [.row v 22 1 n (Kg aa ((l7.set k (l7.getD (k-1) 0)).set (k-1) (l7.getD k 0)))]→W 0 (bz 18 262143) (e23 []) wS:=fun wS HS=>by
     rw [hW]
     exact WH.done (by kernel_rfl)<|aE<|ao<|aG<|wm O<|wo (aU (b:=1) O O (by omega)<|wa O<|aY<|aX (k+1,cY 0 l7 k (k-1)) ⟨⟨by omega,by omega,hs7.step (by omega) (by omega) (by omega) (by omega),yX (b:=b) (by omega) ho7 (Sw.one (by omega) (by omega) (by omega) (by omega)),kf (by omega) hp7 (Sw.one (by omega) (by omega) (by omega) (by omega))⟩,HS⟩ ⟨rfl,rfl,rfl,rfl,rfl,rfl,trivial⟩ (by show b-(k+1)<b-k; omega))
    have C6: ∀wS,Ke T w wS [.row v 22 1 n (Kg aa (l7.set k (l7.getD (k-1) 0)))]→W 1 (bz 18 131071) (e23 [(130,(aa (l7.getD k 0))),(132,(.pointer (some (sp v (k-1)))))]) wS:=fun wS HS=>by
     rw [hW]
     refine wh1 17<|kH 17 O (bN (i:=0) (f:=aa) (l:=(l7.set k (l7.getD (k-1) 0))) (c:=(l7.getD k 0)) HS O O O (by omega) O Fa.I22 (fun w34 H34=>(⟨⟨_,H34⟩,?_⟩)))
     exact bh hW (C5 w34 H34)
    have B4: ∀wS,Ke T w wS [B1]→W 3 (bz 18 32767) (e23 [(119,v),(121,(vN (k-1))),(126,(aa (l7.getD (k-1) 0))),(130,(aa (l7.getD k 0))),(131,(.pointer (some (sp v k))))]) wS:=fun wS HS=>by
     rw [hW]
     refine wh1 15<|kH 15 O (bN (i:=0) (f:=aa) (l:=l7) (c:=(l7.getD (k-1) 0)) HS O O O (by omega) O Fa.I22 (fun w27 H27=>(⟨⟨_,H27⟩,?_⟩)))
     exact xt 16 O (.pointer (some (sp v (k-1)))) H27 (fun _ _ HX=>aP A73 Fa.I22 O (H27.arrR (i:=0) O) O (by omega) ⟨rfl,rfl⟩)<|bh hW (C6 w27 H27)
    have C7: ∀wS,Ke T w wS [B1]→W 5 (bz 18 8191) (e23 [(117,v),(118,(vN k)),(119,v),(121,(vN (k-1))),(126,(aa (l7.getD (k-1) 0))),(129,(.pointer (some (sp v k))))]) wS:=fun wS HS=>by
     rw [hW]
     refine wh1 13<|kH 13 O (aj O ((HS.arrR (i:=0) O).at (aR aa 0 (aV (HS.arrR (i:=0) O) (by omega)))) A22 O (⟨⟨_,HS⟩,?_⟩))
     exact xt 14 O (.pointer (some (sp v k))) HS (fun _ _ HX=>aP A73 Fa.I22 O (HS.arrR (i:=0) O) O (by omega) ⟨rfl,rfl⟩)<|bh hW (B4 wS HS)
    have C8: ∀wS,Ke T w wS [B1]→W 5 (bz 18 15871) (e23 [(117,v),(118,(vN k)),(119,v),(121,(vN (k-1))),(125,(.pointer (some (sp v (k-1))))),(130,(aa (l7.getD k 0)))]) wS:=fun wS HS=>by
     rw [hW]
     refine wh1 9<|kH 9 O (aj O ((HS.arrR (i:=0) O).at (aR aa 0 (aV (HS.arrR (i:=0) O) (by omega)))) A22 O (⟨⟨_,HS⟩,?_⟩))
     exact xt 14 O (.pointer (some (sp v k))) HS (fun _ _ HX=>aP A73 Fa.I22 O (HS.arrR (i:=0) O) O (by omega) ⟨rfl,rfl⟩)<|bh hW (B4 wS HS)
    have C9: ∀wS,Ke T w wS [B1]→W 6 (bz 18 7679) (e23 [(117,v),(118,(vN k)),(119,v),(121,(vN (k-1))),(125,(.pointer (some (sp v (k-1))))),(129,(.pointer (some (sp v k))))]) wS:=fun wS HS=>by
     rw [hW]
     refine wh2 9 13 ?_ ?_
     ·
      refine kH 9 O (aj O ((HS.arrR (i:=0) O).at (aR aa 0 (aV (HS.arrR (i:=0) O) (by omega)))) A22 O (⟨⟨_,HS⟩,?_⟩))
      exact bh hW (C7 wS HS)
     refine kH 13 O (aj O ((HS.arrR (i:=0) O).at (aR aa 0 (aV (HS.arrR (i:=0) O) (by omega)))) A22 O (⟨⟨_,HS⟩,?_⟩))
     exact bh hW (C8 wS HS)
    have hq:=C9 w30 H30
    rw [hW] at hq ⊢
    exact WH.cv hq
   exact bc<|an<|an<|aS<|aE<|ao<|aG<|wm O<|wo (aU (b:=1) O O (by omega)<|wa O<|aY<|aX (i3,c+1,l7) ⟨⟨by omega,by omega,by omega,hs7,ho7,hp7⟩,H25⟩ ⟨rfl,rfl,rfl,rfl,rfl,trivial⟩ (by show 5-(c+1)<5-c; omega))
  exact aA<|aE<|ao<|aG<|wm O<|wo (aU (b:=1) O O (by omega)<|wa O<|aY<|aX (i3,c+1,l4) ⟨⟨by omega,by omega,by omega,hs4,ho4,hp4⟩,H23⟩ ⟨rfl,rfl,rfl,rfl,rfl,trivial⟩ (by show 5-(c+1)<5-c; omega))
 exact bc<|an<|an<|aS<|ao<|ws<|wa O<|wn<|aC<|aD (.tmp O .nil) (⟨_,_,rfl,⟨hs1,fun h=>by cases h⟩,H1⟩)
theorem Bg (v:Value) (n:Nat) (l:List UInt32) (a b:Nat) (m:Nat) (T:List Nat) (w:World) (H:Ke T w w [.row v 22 1 n (Kg aa l)]) (hn:l.length=n) (hN:n<2^61) (hab:a≤b) (hb:b≤n) (hm:m<2^62) (hpre:gL bO 0 a b l) (IH: ∀(l2:List UInt32) (a2 b2 m2:Nat) (T2:List Nat) (w2:World),Ke T2 w2 w2 [.row v 22 1 n (Kg aa l2)]→l2.length=n→b2-a2<b-a→a2≤b2→b2≤n→m2<2^62→gL bO 0 a2 b2 l2→Calls Kf 181 #[v,vN a2,vN b2,vN m2] w2 (fun e w3=> ∃l3:List UInt32,e=.returned undef∧(Sw 0 a2 b2 l2 l3∧SortS bO 0 a2 b2 l3)∧Ke T2 w2 w3 [.row v 22 1 n (Kg aa l3)])) :
  Calls Kf 181 #[v,(vN a),(vN b),(vN m)] w (fun e w'=> ∃(l':List UInt32),e=.returned undef∧(Sw 0 a b l l'∧SortS bO 0 a b l')∧Ke T w w' [.row v 22 1 n (Kg aa l')]):=by
 refine enter Tryz.func181 O O<|ws<|wa O<|wn<|ws<|wa O<|wn<|aB<|bi (α:=Nat × Nat × Nat × Bool × Bool × List UInt32) (fun (a1,b1,m1,p1,q1,l1)=>[(0,v),(1,(vN a1)),(2,(vN b1)),(3,(vN m1)),(8,(.bool p1)),(9,(.bool q1))]) (fun (a1,b1,m1,p1,q1,l1) w'=>(a≤a1∧a1≤b1∧b1≤b∧m1<2^62∧Sw 0 a b l l1∧mr bO 0 a b a1 b1 l1∧gL bO 0 a1 b1 l1)∧Ke T w w' [.row v 22 1 n (Kg aa l1)]) (fun (a1,b1,m1,p1,q1,l1)=>b1-a1) (a,b,m,true,true,l) ⟨⟨Nat.le_refl _,hab,Nat.le_refl _,hm,.refl _,Bi,hpre⟩,H⟩ ⟨rfl,rfl,rfl,rfl,rfl,rfl,trivial⟩ ?_
 rintro ⟨a1,b1,m1,p1,q1,l1⟩ w1 ⟨⟨ha1,hab1,hb1,hm0,hs1,ho1,hpr1⟩,H1⟩
 show WC _ _ _ _ _ [(0,v),(1,(vN a1)),(2,(vN b1)),(3,(vN m1)),(8,(.bool p1)),(9,(.bool q1))] _
 have hL1:=hs1.len
 refine aB<|ws<|wm O<|wm O<|wo (bE O O (by omega) (by omega)<|wa O<|wn<|ap<|ws<|wm O<|wo (dH (b:=12) O O<|wn (wE ((b1-a1)≤12) (fun hb2 hc2=>?_) (fun hb2 hc2=>?_))))
 ·
  refine ws<|wm O<|wm O<|wm O<|wo (az (Kd 211) O ((FV v n l1 a1 b1 _ _ (H1.part [0] O O) (by omega) (by omega) (by omega) (by omega)).mono (fun e w3 hq=>?_)))
  obtain ⟨l3,rfl,hc3,hq3⟩:=hq
  refine ⟨_,rfl,?_⟩
  have H3:=H1.splice [0] [.row v 22 1 n (Kg aa l3)] [] O O hq3 (am ae aI)
  exact wn<|aC<|aq<|aZ<|aq<|aZ<|aD .nil (⟨_,rfl,⟨hs1.trans (hc3.1.mono (by omega) (by omega)),oC (iK (by omega) (by omega) (by omega) ho1 hc3.1) hc3.2⟩,H3⟩)
 refine aA<|ao<|ap<|ws<|wm O<|wo (dk (b:=0) O O<|wn (wE (m1=0) (fun hb4 hc4=>?_) (fun hb4 hc4=>?_)))
 ·
  refine ws<|wm O<|wm O<|wm O<|wo (az (Kd 212) O ((Ey v n l1 a1 b1 _ _ (H1.part [0] O O) (by omega) (by omega) (by omega) (by omega)).mono (fun e w5 hq=>?_)))
  obtain ⟨l5,rfl,hc5,hq5⟩:=hq
  refine ⟨_,rfl,?_⟩
  have H5:=H1.splice [0] [.row v 22 1 n (Kg aa l5)] [] O O hq5 (am ae aI)
  exact wn<|aC<|aq<|aZ<|aq<|aZ<|aD .nil (⟨_,rfl,⟨hs1.trans (hc5.1.mono (by omega) (by omega)),oC (iK (by omega) (by omega) (by omega) ho1 hc5.1) hc5.2⟩,H5⟩)
 refine aA<|ao<|WC.cut (α:=Nat × List UInt32) (fun (m2,l2)=>[(0,v),(1,(vN a1)),(2,(vN b1)),(3,(vN m2)),(8,(.bool p1)),(9,(.bool q1)),(10,(vN (b1-a1)))]) (fun (m2,l2) w'=>(m2<2^62∧Sw 0 a1 b1 l1 l2)∧Ke T w w' [.row v 22 1 n (Kg aa l2)]) ?_ ?_
 ·
  refine ws<|wm O<|wo (cQ O<|wn (wC (!p1) (fun hb6=>?_) (fun hb6=>?_)))
  ·
   have hn6:=(Bool.not_eq_true' _).mp hb6
   refine ws<|wm O<|wm O<|wm O<|wo (az (Kd 213) O ((Gc v n l1 a1 b1 _ _ (H1.part [0] O O) (by omega) (by omega) (by omega) (by omega)).mono (fun e w7 hq=>?_)))
   obtain ⟨l7,rfl,hc7,hq7⟩:=hq
   refine ⟨_,rfl,?_⟩
   have H7:=H1.splice [0] [.row v 22 1 n (Kg aa l7)] [] O O hq7 (am ae aI)
   exact wn<|aG<|wm O<|wo (bE (b:=1) O O (by omega) (by omega)<|wa O<|aY<|cd ((m1-1),l7) ⟨⟨by omega,hc7⟩,H7⟩ ⟨rfl,rfl,rfl,rfl,rfl,rfl,rfl,trivial⟩)
  have hn6:=(Bool.not_eq_false' _).mp hb6
  exact aA<|cd (m1,l1) ⟨⟨by omega,.refl _⟩,H1⟩ ⟨rfl,rfl,rfl,rfl,rfl,rfl,rfl,trivial⟩
 rintro ⟨m2,l2⟩ w8 ⟨⟨hm9,hs2⟩,H8⟩
 show WC _ _ _ _ _ [(0,v),(1,(vN a1)),(2,(vN b1)),(3,(vN m2)),(8,(.bool p1)),(9,(.bool q1)),(10,(vN (b1-a1)))] _
 have hL2:=hs2.len
 refine ws<|wm O<|wm O<|wm O<|wo (az (Kd 214) O ((FC v n l2 a1 b1 _ _ (H8.part [0] O O) (by omega) (by omega) (by omega) (by omega)).mono (fun e w9 hq=>?_)))
 obtain ⟨p9,h9,rfl,hc9,hq9⟩:=hq
 refine ⟨_,rfl,?_⟩
 have H9:=H8.splice [0] [.row v 22 1 n (Kg aa l2)] [] O O hq9 (am ae aI)
 refine wm O<|we O O<|we O O<|wa O<|wa O<|wn<|WC.cut (α:=Nat × Nat × List UInt32) (fun (pv,h,l3)=>[(0,v),(1,(vN a1)),(2,(vN b1)),(3,(vN m2)),(8,(.bool p1)),(9,(.bool q1)),(10,(vN (b1-a1))),(11,(vN pv)),(12,(vN h))]) (fun (pv,h,l3) w'=>(a1≤pv∧pv<b1∧Sw 0 a1 b1 l1 l3)∧Ke T w w' [.row v 22 1 n (Kg aa l3)]) ?_ ?_
 ·
  refine ws<|wm O<|wo (dk (b:=2) O O<|wn (wE (h9=2) (fun hb10 hc10=>?_) (fun hb10 hc10=>?_)))
  ·
   refine ws<|wm O<|wm O<|wm O<|wo (az (Kd 215) O ((Fv v n l2 a1 b1 _ _ (H9.part [0] O O) (by omega) (by omega) (by omega) (by omega)).mono (fun e w11 hq=>?_)))
   obtain ⟨l11,rfl,hc11,hq11⟩:=hq
   refine ⟨_,rfl,?_⟩
   have H11:=H9.splice [0] [.row v 22 1 n (Kg aa l11)] [] O O hq11 (am ae aI)
   exact wn<|ws<|wm O<|wo (bE (b:=1) O O (by omega) (by omega)<|wm O<|wm O<|wo (bE O O (by omega) (by omega)<|wo (bE O O (by omega) (by omega)<|wa O<|wn<|aG<|wa O<|aY<|cd (((b1-1)-(p9-a1)),1,l11) ⟨⟨by omega,by omega,hs2.trans hc11⟩,H11⟩ ⟨rfl,rfl,rfl,rfl,rfl,rfl,rfl,rfl,rfl,trivial⟩)))
  exact aA<|cd (p9,h9,l2) ⟨⟨by omega,by omega,hs2⟩,H9⟩ ⟨rfl,rfl,rfl,rfl,rfl,rfl,rfl,rfl,rfl,trivial⟩
 rintro ⟨pv,h,l3⟩ w12 ⟨⟨hv1,hv2,hs3⟩,H12⟩
 show WC _ _ _ _ _ [(0,v),(1,(vN a1)),(2,(vN b1)),(3,(vN m2)),(8,(.bool p1)),(9,(.bool q1)),(10,(vN (b1-a1))),(11,(vN pv)),(12,(vN h))] _
 have hL3:=hs3.len
 refine WC.cut (α:=List UInt32) (fun l4=>[(0,v),(1,(vN a1)),(2,(vN b1)),(3,(vN m2)),(8,(.bool p1)),(9,(.bool q1)),(10,(vN (b1-a1))),(11,(vN pv))]) (fun l4 w'=>(Sw 0 a1 b1 l1 l4)∧Ke T w w' [.row v 22 1 n (Kg aa l4)]) ?_ ?_
 ·
  refine ws<|wm O<|wm O (wV 62 p1 (fun hb13=>?_) (fun hb13=>?_))
  ·
   refine wY hb13 (au O<|wo (aQ O hb13 O<|wm O (wV 65 q1 (fun hb14=>?_) (fun hb14=>?_))))
   ·
    refine wY hb14 (au O<|wY hb14 (dk (b:=1) O O<|wo (aQ O hb14 O<|wn (wE (h=1) (fun hb15 hc15=>?_) (fun hb15 hc15=>?_)))))
    ·
     refine ws<|wm O<|wm O<|wm O<|wo (az (Kd 216) O ((DG v n l3 a1 b1 _ _ (H12.part [0] O O) (by omega) (by omega) (by omega) (by omega) (kf (by omega) hpr1 hs3)).mono (fun e w16 hq=>?_)))
     obtain ⟨l16,r16,rfl,hc16,hq16⟩:=hq
     refine ⟨_,rfl,?_⟩
     have H16:=H12.splice [0] [.row v 22 1 n (Kg aa l16)] [] O O hq16 (am ae aI)
     refine wn (wC r16 (fun hb17=>?_) (fun hb17=>?_))
     ·
      exact aC<|aq<|aZ<|aq<|aZ<|aD .nil (⟨_,rfl,⟨hs1.trans ((hs3.trans hc16.1).mono (by omega) (by omega)),oC (iK (by omega) (by omega) (by omega) ho1 (hs3.trans hc16.1)) (hc16.2 hb17)⟩,H16⟩)
     exact aA<|cd l16 ⟨(hs3.trans hc16.1),H16⟩ ⟨rfl,rfl,rfl,rfl,rfl,rfl,rfl,rfl,trivial⟩
    exact aA<|cd l3 ⟨hs3,H12⟩ ⟨rfl,rfl,rfl,rfl,rfl,rfl,rfl,rfl,trivial⟩
   exact wN hb14<|wN hb14<|wo (aN O hb14 O<|wn<|bF O O<|aA<|cd l3 ⟨hs3,H12⟩ ⟨rfl,rfl,rfl,rfl,rfl,rfl,rfl,rfl,trivial⟩)
  exact wN hb13<|wo (aN O hb13 O<|wm O<|wN O<|wN O<|wo (aN O O O<|wn<|bF O O<|aA<|cd l3 ⟨hs3,H12⟩ ⟨rfl,rfl,rfl,rfl,rfl,rfl,rfl,rfl,trivial⟩))
 rintro l4 w18 ⟨hs4,H18⟩
 show WC _ _ _ _ _ [(0,v),(1,(vN a1)),(2,(vN b1)),(3,(vN m2)),(8,(.bool p1)),(9,(.bool q1)),(10,(vN (b1-a1))),(11,(vN pv))] _
 have hL4:=hs4.len
 have hO4:=iK (by omega) (by omega) (by omega) ho1 hs4
 have hP4:=kf (by omega) hpr1 hs4
 refine ap<|ap (wG (a1>0) (fun hb19 hc19=>?_) (fun hb19 hc19=>?_))
 ·
  refine bn 15 Fa.M H18 (mh O<|oh (fun w1 H1=>cm (b:=0) O O zr)<|mh O<|yh hb19 (fun w1 H1=>au O zr)<|yh hb19 (fun w1 H1=>au O zr)<|yh hb19 (fun w1 H1=>bE (b:=1) O O (by omega) (by omega) zr)<|yh hb19 (fun w1 H1=>aF A73 Fa.I22 O (H1.arrR (i:=0) O) O (by omega) zr)<|yh hb19 (fun w1 H1=>aj O ((H1.arrR (i:=0) O).at (aR aa 0 (aV (H1.arrR (i:=0) O) (by omega)))) A22 O zr)<|yh hb19 (fun w1 H1=>au O zr)<|yh hb19 (fun w1 H1=>au O zr)<|yh hb19 (fun w1 H1=>aF A73 Fa.I22 O (H1.arrR (i:=0) O) O (by omega) zr)<|yh hb19 (fun w1 H1=>aj O ((H1.arrR (i:=0) O).at (aR aa 0 (aV (H1.arrR (i:=0) O) (by omega)))) A22 O zr)<|yh hb19 (fun w1 H1=>az (Kd 217) O ((eC (l4.getD (a1-1) 0) (l4.getD pv 0) _).mono (fun e w2 hq=>⟨_,hq.1,rfl,hq.2⟩)))<|yh hb19 (fun w1 H1=>cQ O zr)<|oh (fun w1 H1=>aQ O hb19 O zr)  bD) (by kernel_rfl) ?_
  intro β21 w21 H21
  refine wn (wC (!(bO (l4.getD (a1-1) 0) (l4.getD pv 0))) (fun hb22=>?_) (fun hb22=>?_))
  ·
   have hn22:=(Bool.not_eq_true' _).mp hb22
   refine ws<|wm O<|wm O<|wm O<|wm O<|wo (az (Kd 218) O ((zt v n l4 a1 b1 pv _ _ (H21.part [0] O O) (by omega) (by omega) (by omega) (by omega) (by omega)).mono (fun e w23 hq=>?_)))
   obtain ⟨l23,m23,rfl,hc23,hq23⟩:=hq
   refine ⟨_,rfl,?_⟩
   have H23:=H21.splice [0] [.row v 22 1 n (Kg aa l23)] [] O O hq23 (am ae aI)
   refine wa O<|wn<|ws<|wm O<|wa O<|wn<|bc<|an<|aS ?_
   have hm1:=hc23.2.1
   have hm2:=hc23.2.2.1
   have hE:=EI cX (by omega) (by omega) hO4 (by omega) hP4 (by omega) hn22 hc23.1 hc23.2
   exact aX (m23,b1,m2,p1,q1,l23) ⟨⟨by omega,by omega,by omega,by omega,hs1.trans ((hs4.trans hc23.1).mono (by omega) (by omega)),hE.1,hE.2⟩,H23⟩ ⟨rfl,rfl,rfl,rfl,rfl,rfl,trivial⟩ (by show b1-m23<b1-a1; omega)
  have hn22:=(Bool.not_eq_false' _).mp hb22
  refine aA<|ao<|ws<|wm O<|wm O<|wm O<|wm O<|wo (az (Kd 219) O ((uY v n l4 a1 b1 pv _ _ (H21.part [0] O O) (by omega) (by omega) (by omega) (by omega) (by omega)).mono (fun e w24 hq=>?_)))
  obtain ⟨l24,m24,f24,rfl,hc24,hq24⟩:=hq
  refine ⟨_,rfl,?_⟩
  have H24:=H21.splice [0] [.row v 22 1 n (Kg aa l24)] [] O O hq24 (am ae aI)
  refine wm O<|we O O<|we O O<|wa O<|wa O<|wn<|ws ?_
  have hLP:=hc24.1.len
  have hm1:=hc24.2.1
  have hm2:=hc24.2.2.1
  have hO5:=iK (by omega) (by omega) (by omega) hO4 hc24.1
  have hP5:=kf (by omega) hP4 hc24.1
  refine wm O<|wa O<|wn<|ws<|wm O<|wm O<|wo (bE O O (by omega) (by omega)<|wm O<|wm O<|wo (bE O O (by omega) (by omega)<|wa O<|wa O<|wn<|ws<|wm O<|wo (iv (b:=8) O O (by omega) (by omega)<|wa O<|wn<|ws<|wm O<|wm O<|wo (bm O O<|wn (wE ((m24-a1)<(b1-m24)) (fun hb25 hc25=>?_) (fun hb25 hc25=>?_))))))
  ·
   refine ws<|wm O<|wm O<|wo (dI O O<|wa O<|wn<|ws<|wm O<|wm O<|wm O<|wm O<|wo (az (Kd 181) O ((IH l24 a1 m24 m2 _ _ (H24.part [0] O O) (by omega) (by omega) (by omega) (by omega) (by omega) (sP hP5 (by omega))).mono (fun e w26 hq=>?_))))
   obtain ⟨l26,rfl,hc26,hq26⟩:=hq
   refine ⟨_,rfl,?_⟩
   have H26:=H24.splice [0] [.row v 22 1 n (Kg aa l26)] [] O O hq26 (am ae aI)
   refine wn<|aG<|wm O<|wo (aU (b:=1) O O (by omega)<|wa O<|aY<|aE ?_)
   have hE:=qZ cX (by omega) (by omega) hO5 (by omega) hc24.2 hc26.1 hc26.2
   exact aX ((m24+1),b1,m2,(decide ((m24-a1)≥((b1-a1) / 8))),f24,l26) ⟨⟨by omega,by omega,by omega,by omega,hs1.trans (((hs4.trans hc24.1).trans (hc26.1.mono (by omega) (by omega))).mono (by omega) (by omega)),hE.1,hE.2⟩,H26⟩ ⟨rfl,rfl,rfl,rfl,rfl,rfl,trivial⟩ (by show b1-(m24+1)<b1-a1; omega)
  refine ws<|wm O<|wm O<|wo (dI O O<|wa O<|wn<|ws<|wm O<|wm O<|wo (aU (b:=1) O O (by omega)<|wm O<|wm O<|wo (az (Kd 181) O ((IH l24 (m24+1) b1 m2 _ _ (H24.part [0] O O) (by omega) (by omega) (by omega) (by omega) (by omega) (qV hc24.2)).mono (fun e w27 hq=>?_)))))
  obtain ⟨l27,rfl,hc27,hq27⟩:=hq
  refine ⟨_,rfl,?_⟩
  have H27:=H24.splice [0] [.row v 22 1 n (Kg aa l27)] [] O O hq27 (am ae aI)
  refine wn<|aG<|wm O<|wa O<|aY<|aE ?_
  have hE:=pG cX (by omega) (by omega) hO5 (by omega) hc24.2 hc27.1 hc27.2
  exact aX (a1,m24,m2,(decide ((b1-m24)≥((b1-a1) / 8))),f24,l27) ⟨⟨by omega,by omega,by omega,by omega,hs1.trans (((hs4.trans hc24.1).trans (hc27.1.mono (by omega) (by omega))).mono (by omega) (by omega)),hE,ny (by omega) hP5 (by omega) (by omega) hc27.1⟩,H27⟩ ⟨rfl,rfl,rfl,rfl,rfl,rfl,trivial⟩ (by show m24-a1<b1-a1; omega)
 refine bn 15 Fa.M H18 (mh O<|oh (fun w1 H1=>cm (b:=0) O O zr)<|mh O<|nh hb19<|nh hb19<|nh hb19<|nh hb19<|nh hb19<|nh hb19<|nh hb19<|nh hb19<|nh hb19<|nh hb19<|nh hb19<|oh (fun w1 H1=>aN O hb19 O zr)  bD) (by kernel_rfl) ?_
 intro β28 w28 H28
 refine wn<|bF O O<|aA<|ao<|ws<|wm O<|wm O<|wm O<|wm O<|wo (az (Kd 219) O ((uY v n l4 a1 b1 pv _ _ (H28.part [0] O O) (by omega) (by omega) (by omega) (by omega) (by omega)).mono (fun e w29 hq=>?_)))
 obtain ⟨l29,m29,f29,rfl,hc29,hq29⟩:=hq
 refine ⟨_,rfl,?_⟩
 have H29:=H28.splice [0] [.row v 22 1 n (Kg aa l29)] [] O O hq29 (am ae aI)
 refine wm O<|we O O<|we O O<|wa O<|wa O<|wn<|ws ?_
 have hLP:=hc29.1.len
 have hm1:=hc29.2.1
 have hm2:=hc29.2.2.1
 have hO5:=iK (by omega) (by omega) (by omega) hO4 hc29.1
 have hP5:=kf (by omega) hP4 hc29.1
 refine wm O<|wa O<|wn<|ws<|wm O<|wm O<|wo (bE O O (by omega) (by omega)<|wm O<|wm O<|wo (bE O O (by omega) (by omega)<|wa O<|wa O<|wn<|ws<|wm O<|wo (iv (b:=8) O O (by omega) (by omega)<|wa O<|wn<|ws<|wm O<|wm O<|wo (bm O O<|wn (wE ((m29-a1)<(b1-m29)) (fun hb30 hc30=>?_) (fun hb30 hc30=>?_))))))
 ·
  refine ws<|wm O<|wm O<|wo (dI O O<|wa O<|wn<|ws<|wm O<|wm O<|wm O<|wm O<|wo (az (Kd 181) O ((IH l29 a1 m29 m2 _ _ (H29.part [0] O O) (by omega) (by omega) (by omega) (by omega) (by omega) (sP hP5 (by omega))).mono (fun e w31 hq=>?_))))
  obtain ⟨l31,rfl,hc31,hq31⟩:=hq
  refine ⟨_,rfl,?_⟩
  have H31:=H29.splice [0] [.row v 22 1 n (Kg aa l31)] [] O O hq31 (am ae aI)
  refine wn<|aG<|wm O<|wo (aU (b:=1) O O (by omega)<|wa O<|aY<|aE ?_)
  have hE:=qZ cX (by omega) (by omega) hO5 (by omega) hc29.2 hc31.1 hc31.2
  exact aX ((m29+1),b1,m2,(decide ((m29-a1)≥((b1-a1) / 8))),f29,l31) ⟨⟨by omega,by omega,by omega,by omega,hs1.trans (((hs4.trans hc29.1).trans (hc31.1.mono (by omega) (by omega))).mono (by omega) (by omega)),hE.1,hE.2⟩,H31⟩ ⟨rfl,rfl,rfl,rfl,rfl,rfl,trivial⟩ (by show b1-(m29+1)<b1-a1; omega)
 refine ws<|wm O<|wm O<|wo (dI O O<|wa O<|wn<|ws<|wm O<|wm O<|wo (aU (b:=1) O O (by omega)<|wm O<|wm O<|wo (az (Kd 181) O ((IH l29 (m29+1) b1 m2 _ _ (H29.part [0] O O) (by omega) (by omega) (by omega) (by omega) (by omega) (qV hc29.2)).mono (fun e w32 hq=>?_)))))
 obtain ⟨l32,rfl,hc32,hq32⟩:=hq
 refine ⟨_,rfl,?_⟩
 have H32:=H29.splice [0] [.row v 22 1 n (Kg aa l32)] [] O O hq32 (am ae aI)
 refine wn<|aG<|wm O<|wa O<|aY<|aE ?_
 have hE:=pG cX (by omega) (by omega) hO5 (by omega) hc29.2 hc32.1 hc32.2
 exact aX (a1,m29,m2,(decide ((b1-m29)≥((b1-a1) / 8))),f29,l32) ⟨⟨by omega,by omega,by omega,by omega,hs1.trans (((hs4.trans hc29.1).trans (hc32.1.mono (by omega) (by omega))).mono (by omega) (by omega)),hE,ny (by omega) hP5 (by omega) (by omega) hc32.1⟩,H32⟩ ⟨rfl,rfl,rfl,rfl,rfl,rfl,trivial⟩ (by show m29-a1<b1-a1; omega)
theorem FF (v:Value) (n:Nat) (l:List UInt32) (a b:Nat) (m:Nat) (T:List Nat) (w:World) (H:Ke T w w [.row v 22 1 n (Kg aa l)]) (hn:l.length=n) (hN:n<2^61) (hab:a≤b) (hb:b≤n) (hm:m<2^62) (hpre:gL bO 0 a b l) :
  Calls Kf 181 #[v,vN a,vN b,vN m] w (fun e w'=> ∃(l':List UInt32),e=.returned undef∧(Sw 0 a b l l'∧SortS bO 0 a b l')∧Ke T w w' [.row v 22 1 n (Kg aa l')]):=by
 have key: ∀(N:Nat) (l:List UInt32) (a b m:Nat) (T:List Nat) (w:World),Ke T w w [.row v 22 1 n (Kg aa l)]→l.length=n→b-a<N→a≤b→b≤n→m<2^62→gL bO 0 a b l→Calls Kf 181 #[v,vN a,vN b,vN m] w (fun e w'=> ∃(l':List UInt32),e=.returned undef∧(Sw 0 a b l l'∧SortS bO 0 a b l')∧Ke T w w' [.row v 22 1 n (Kg aa l')]):=by
  intro N
  induction N with
  | zero=>intro l a b m T w H hn hlt; omega
  | succ N ih=>intro l a b m T w H hn hlt hab hb hm hpre; exact Bg v n l a b m T w H hn hN hab hb hm hpre (fun l2 a2 b2 m2 T2 w2 H2 h1 h2 h3 h4 h5 h6=>ih l2 a2 b2 m2 T2 w2 H2 h1 (by omega) h3 h4 h5 h6)
 exact key (b-a+1) l a b m T w H hn (by omega) hab hb hm hpre
theorem Db (v:Value) (n:Nat) (l:List UInt32) (T:List Nat) (w:World) (H:Ke T w w [.row v 22 1 n (Kg aa l)]) (hn:l.length=n) (hN:n<2^61) :
  Calls Kf 144 #[v] w (fun e w'=> ∃(l':List UInt32),e=.returned undef∧(Sw 0 0 n l l'∧SortS bO 0 0 n l')∧Ke T w w' [.row v 22 1 n (Kg aa l')]):=by
 refine enter Tryz.func144 O O<|ws<|wm O<|wo (bu A73 O (H.arrR (i:=0) O)<|wa O<|wn<|aG<|wm O<|wm O<|wm O<|wo (dq (hs:=A3) (hd:=A265) O<|wo (az (Kd 182) O ((vQ (Kn n) _).mono (fun e w1 hq=>?_)))))
 obtain ⟨rfl,hf1⟩:=hq
 refine ⟨_,rfl,?_⟩
 have H1:=H.fr' hf1
 refine wo (az (Kd 181) O ((FF v n l 0 n (eF (Kn n).toNat) _ _ (H1.part [0] O O) (by omega) (by omega) (by omega) (by omega) (Nat.lt_of_le_of_lt (qy (k:=64) (UInt64.toNat_lt _)) (by decide)) (.inl O)).mono (fun e w2 hq=>?_)))
 obtain ⟨l2,rfl,hc2,hq2⟩:=hq
 refine ⟨_,rfl,?_⟩
 have H2:=H1.splice [0] [.row v 22 1 n (Kg aa l2)] [] O O hq2 (am ae aI)
 exact aY<|WQ.outEnd .nil (⟨_,rfl,hc2,H2⟩)
theorem uq (mb c Bm:Nat) (l:List ME) (w:World) (hl:MEok l c) (hn:l.length<2^40) (h32: ∀e∈l,e.k<2^32) (hB:w.cell? ⟨Bm,0,none⟩=some (.map (some mb))) (hM:w.heap[mb]?=some (mP .u32 l c)) :
  Calls Kf 95 #[(.func (.func 145) #[] #[(ptr Bm 0)])] w (fun e w'=> ∃v ks,e=.returned v∧((l.map Go.Spec.ME.ku).Perm ks∧ks.Pairwise (fun x y=>bO y x=false))∧Ke [] w w' [.row v 22 1 ks.length (Kg aa ks)]):=by
 refine enter Tryz.func95 O O ?_
 have H0:=aL w []
 refine ws<|wa O<|wn<|ws<|wm O<|wo (az (Kd 143) O ((wU mb c Bm l _ hl hn h32 hB hM).mono (fun e w1 hq=>?_)))
 obtain ⟨v1,ks1,rfl,hp1,hq1⟩:=hq
 refine ⟨_,rfl,?_⟩
 have H1:=H0.splice [] [] [.row v1 22 1 ks1.length (Kg aa ks1)] O O hq1 (am ae aI)
 refine wa O<|wn<|ws<|wm O<|wo (az (Kd 144) O ((Db v1 ks1.length ks1  _ _ (H1.part [0] O O) O (by have:=hp1.length_eq; simp at this; omega)).mono (fun e w2 hq=>?_)))
 obtain ⟨l2,rfl,hc2,hq2⟩:=hq
 refine ⟨_,rfl,?_⟩
 have H2:=H1.splice [0] [.row v1 22 1 ks1.length (Kg aa l2)] [] O O hq2 (am ae aI)
 refine wn<|ws<|wm O<|wa O<|wn<|aC<|aD (.tmp O .nil) ?_
 have hl9:=hc2.1.len
 have h9:=H2.sel [0] O O
 rw [show ks1.length=l2.length by omega] at h9
 exact ⟨_,_,rfl,⟨hp1.trans (Sw.perm hc2.1 (Nat.le_refl _)).symm,SortS.pair (by rw [hl9]; exact hc2.2)⟩,h9⟩
theorem wP (mb:Nat) (w:World) :
  Calls Kf 96 #[(.map (some mb))] w (fun e w'=> ∃b,e=.returned (.func (.func 145) #[] #[ptr b 0])∧Ke [] w w' [.blk b [.map (some mb)] 162]):=by
 refine enter Tryz.func96 O O ?_
 have H0:=aL w []
 exact ws<|wo (bK H0 O O (fun b1 w1 H1=>(wa O<|wn<|ws<|wo (fR O O<|wa O<|wn<|aC<|aD (.tmp O .nil) (⟨_,rfl,H1.sel [0] O O⟩)))))
theorem AO (s mb c:Nat) (ps:List Pg) (w:World) (hS:cellsAt w s [(.map (some mb))]) (hM:w.heap[mb]?=some (mP .u32 (Kg Pg.me ps) c)) (hP:BsOK 211 Pg.cells Pg.b ps w) (hME:MEok (Kg Pg.me ps) c) (hlen: ∀g∈ps,g.bs.length=256) :
  Calls Kf 175 #[(ptr s 0)] w (fun e w'=> ∃x mb2 qs c2,e=.returned (ptr x 0)∧(MEok (qs.map Pg.me) c2∧(qs.map Pg.bare).Perm (ps.map Pg.bare))∧Ke [] w w' [.blk x [(.map (some mb2))] 165,.obj mb2 (mP .u32 (Kg Pg.me qs) c2),Ent.bs 211 Pg.cells Pg.b qs]):=by
 refine enter Tryz.func175 O O ?_
 have H0:=((((aL w []).oldB hS).mpOld hM).bsOld hP)
 refine ws<|wa O<|wn<|ap<|ws<|wm O<|wo (bG Fa.pf O O<|wn<|bF O O<|aA<|ao<|ws<|wo (az (Kd 73) O ((oe _).mono (fun e w1 hq=>?_))))
 obtain ⟨s1,mb1,rfl,hq1⟩:=hq
 refine ⟨_,rfl,?_⟩
 have H1:=H0.splice [] [] [.blk s1 [(.map (some mb1))] 165,.obj mb1 (mP .u32 (Kg Pg.me []) 0),Ent.bs 211 Pg.cells Pg.b []] O O hq1 (am ae (am ae (am ae aI)))
 refine wa O<|wn<|ap<|ws<|wm O<|wo (aJ O<|wo (ab O Fa.mi<|wo (aj O (H1.cellO (i:=0) O O) A162 O<|wo (ki H1 (H1.mpO (i:=1) O) A162 O (fun b2 w2 H2=>(wn<|aB<|bi (α:=List Pg × List Pg × List Pg × Nat) (fun (sn,rst,qs,c2)=>[(3,(ptr s1 0)),(13,(ptr b2 0))]) (fun (sn,rst,qs,c2) w'=>(ps.Perm (sn++rst)∧qs.map Pg.bare=sn.map Pg.bare∧MEok (qs.map Pg.me) c2)∧Ke [] w w' [Ent.bo s [(.map (some mb))],Ent.mo .u32 mb (Kg Pg.me ps) c,Ent.bsO 211 Pg.cells Pg.b ps,.blk s1 [(.map (some mb1))] 165,.obj mb1 (mP .u32 (Kg Pg.me qs) c2),Ent.bs 211 Pg.cells Pg.b qs,.obj b2 (itO mb c (Kg Pg.me sn))]) (fun (sn,rst,qs,c2)=>rst.length) ([],ps,[],0) ⟨⟨List.Perm.refl _,rfl,MEok.nil 0⟩,H2⟩ ⟨rfl,rfl,trivial⟩ ?_))))))
 rintro ⟨sn,rst,qs,c2⟩ w3 ⟨⟨hpm,hco,hm2⟩,H3⟩
 show WC _ _ _ _ _ [(3,(ptr s1 0)),(13,(ptr b2 0))] _
 refine ws<|wo (oE (i:=6) (sn:=sn) (rest:=rst) H3 O (H3.mpO (i:=1) O) hME hpm O (fun h0=>?_) (fun g4 rs4 hl4 hp4 w4 H4=>?_))
 ·
  refine we O O<|wn<|ap<|bF O O<|bc<|an<|an<|aS<|ao<|ws<|wm O<|wa O<|wn<|aC<|aD (.tmp O .nil) ?_
  rw [h0,List.append_nil] at hpm
  exact ⟨_,_,qs,c2,rfl,⟨hm2,by rw [hco]; exact (hpm.map _).symm⟩,H3.sel [3,4,5] O O⟩
 have H5:=(H4.bsView (i:=2) (a:=g4) O (hp4.mem_iff.2 (by simp)))
 have hgl:g4.bs.length=256:=hlen g4 (hp4.mem_iff.2 (by simp))
 refine we O O<|wn<|ap<|bX O O<|aA<|ao<|aB<|ws<|wo (mH (i:=6) (sn:=sn) (g:=g4) H5 O (H5.mpO (i:=1) O) hME hp4 O<|we O O<|we O O<|wa O<|wa O<|wn<|bn 15 Fa.M H5 (mh O<|oh (fun w1 H1=>aJ O zr)<|oh (fun w1 H1=>ab O Fa.mi zr)<|oh (fun w1 H1=>aj O (H1.cell (i:=3) O O) A162 O zr)<|mh O<|mh O<|oh (fun w1 H1=>aJ O zr)<|oh (fun w1 H1=>ab O Fa.ul zr)<|oh (fun w1 H1=>aj O (H1.cellO (i:=7) O O) A5 O zr)<|mh O<|oh (fun w1 H1=>aJ O zr)<|oh (fun w1 H1=>ab O Fa.uk zr)<|oh (fun w1 H1=>aM (vs:=(Kg vU8 g4.bs)) O (H1.cellsO (i:=7) O (Cd _ g4.bs 1)) A209 O Fa.In (by rw [List.length_map]; exact hgl) zr)<|oh (fun w1 H1=>bP (cs:=[vU8 g4.pm]++Kg vU8 g4.bs) Fa.Gj Fa.Cx O (Ab List.length_replicate hgl) zr)<|HW.flt (mk:=fun bq=>ptr bq.1 0) (ent:=fun bq=>.blk bq.1 _ _) O (fun w1 _=>bK (aL w1 []) O O (fun bq w2 H2=>⟨(bq,undef),rfl,H2,ae⟩))  bD) (by kernel_rfl) ?_)
 intro β6 w6 H6
 exact wo (qw (i:=4) (k:=g4.a.toNat) H6 O A162 A22 (fun x hx hk=>qX hME hp4 hco hx hk) O O O (fun w7 H7=>(aY<|aE<|aX ((sn++[g4]),rs4,qs++[(Pg.mk g4.a (β6 14).1 c2 g4.pm g4.bs)],c2+1) ⟨⟨hp4,wx hco,zo hME hp4 hco hm2⟩,(by have h:=(show Ke [] w w7 [Ent.bo s [(.map (some mb))],Ent.mo .u32 mb (Kg Pg.me ps) c,Ent.bsO 211 Pg.cells Pg.b ps,.blk s1 [(.map (some mb1))] 165,.obj mb1 (mP .u32 ((Kg Pg.me qs)++[ME.mk g4.a.toNat (β6 14).1 c2]) (c2+1)),Ent.bs 211 Pg.cells Pg.b qs,.obj b2 (itO mb c (Kg Pg.me (sn++[g4]))),Ent.bo g4.b ([(vU8 g4.pm)]++(Kg vU8 g4.bs)),.blk (β6 14).1 ([vU8 g4.pm]++Kg vU8 g4.bs) 211] from H7); rw [show ((Kg Pg.me qs)++[ME.mk g4.a.toNat (β6 14).1 c2])=Kg Pg.me (qs++[(Pg.mk g4.a (β6 14).1 c2 g4.pm g4.bs)]) from by rw [List.map_append]; rfl] at h; exact (h.foldEnd (i:=5) (j:=8) (f:=Pg.cells) (bl:=Pg.b) (a:=(Pg.mk g4.a (β6 14).1 c2 g4.pm g4.bs)) O O O O O).sel [0,1,2,3,4,5,6] O O)⟩ ⟨rfl,rfl,trivial⟩ (by show rs4.length<rst.length; omega))))
theorem qM (s mb c:Nat) (ps:List Pg) (w:World) (hS:cellsAt w s [(.map (some mb))]) (hM:w.heap[mb]?=some (mP .u32 (Kg Pg.me ps) c)) (hP:BsOK 211 Pg.cells Pg.b ps w) (hME:MEok (Kg Pg.me ps) c) (hgn:ps.length<2^40) :
  Calls Kf 44 #[(ptr s 0)] w (fun e w'=> ∃v ks,e=.returned v∧((ps.map Pg.a).Perm ks∧ks.Pairwise (fun x y=>bO y x=false))∧Ke [] w w' [.row v 22 1 ks.length (Kg aa ks)]):=by
 refine enter Tryz.func44 O O ?_
 have H0:=((((aL w []).oldB hS).mpOld hM).bsOld hP)
 refine ws<|wa O<|wn<|ap<|ws<|wm O<|wo (bG Fa.pf O O<|wn<|bF O O<|aA<|ao<|ws<|wm O<|wo (aJ O<|wo (ab O Fa.mi<|wo (aj O (H0.cellO (i:=0) O O) A162 O<|wo (az (Kd 96) O ((wP mb _).mono (fun e w1 hq=>?_)))))))
 obtain ⟨b1,rfl,hq1⟩:=hq
 refine ⟨_,rfl,?_⟩
 have H1:=H0.splice [] [] [.blk b1 [(.map (some mb))] 162] O O hq1 (am ae aI)
 refine wo (az (Kd 95) O ((uq mb c b1 (Kg Pg.me ps) _ hME (by rw [List.length_map]; exact hgn) (HQ ps) (H1.cell (i:=3) O O) (H1.mpO (i:=1) O)).mono (fun e w2 hq=>?_)))
 obtain ⟨v2,ks2,rfl,hk2,hq2⟩:=hq
 refine ⟨_,rfl,?_⟩
 have H2:=H1.splice [] [] [.row v2 22 1 ks2.length (Kg aa ks2)] O O hq2 (am ae aI)
 refine wa O<|wn<|aC<|aD (.tmp O .nil) ?_
 obtain ⟨hk1,hk2⟩:=hk2
 exact ⟨_,_,rfl,⟨by rw [List.map_map,Hk] at hk1; exact hk1,hk2⟩,H2.sel [4] O O⟩
theorem Ae (pc:UInt32) (w:World) :
  Calls Kf 176 #[(aa pc)] w (fun e w'=> ∃c,e=.returned (ptr c 0)∧Ke [] w w' [.blk c (vH pc) 242]):=by
 refine enter Tryz.func176 O O ?_
 have H0:=aL w []
 exact ws<|wa O<|wn<|ws<|wm O<|wo (bP (cs:=[_,_,_,_,_,_,_,_,_,_,_,_,_,_,_,_,_]) Fa.Ij Fa.HB O O<|wo (bK H0 O O (fun b1 w1 H1=>(wa O<|wn<|aC<|aD (.tmp O .nil) (⟨_,rfl,H1.sel [0] O O⟩)))))
theorem Ac (s mb c:Nat) (ps:List Pg) (n:Nat) (pc:UInt32) (w:World) (hS:cellsAt w s [(.map (some mb))]) (hM:w.heap[mb]?=some (mP .u32 (Kg Pg.me ps) c)) (hP:BsOK 211 Pg.cells Pg.b ps w) (hME:MEok (Kg Pg.me ps) c) (hlen: ∀g∈ps,g.bs.length=256) (h1:1≤n) (h8:n≤8) :
  Calls Kf 134 #[(vN n),(ptr s 0),(aa pc)] w (fun e w'=> ∃a,e=.returned (.tuple #[ptr a.e 0,vN 0])∧(MEok (Kg Pg.me a.ps) a.cn∧(a.ps.map Pg.bare).Perm (ps.map Pg.bare)∧a.num=n∧a.pc=pc)∧(∀b∈(evD 211).ft a,w.heap.size≤b)∧Ke [] w w' [Ent.dp (evD 211) a]):=by
 refine enter Tryz.func134 O O ?_
 have H0:=((((aL w []).oldB hS).mpOld hM).bsOld hP)
 refine ws<|wa O<|wa O<|wn<|ap<|aB<|ws<|wm O<|wo (bG Fa.pf O O<|wa O<|wn<|bF O O<|ws<|wm O<|wo (bm (b:=1) O O<|wm O<|bL O O O (decide_eq_false (by omega)) O (au O<|bL O O O (decide_eq_false (by omega)) O (cm (b:=8) O O<|wo (aN O (decide_eq_false (by omega)) O<|wa O<|wn<|bF O (decide_eq_false (by omega))<|aA<|aE<|ao<|ws<|wm O<|wo (az (Kd 175) O ((AO s mb c ps _ (H0.cellsAtO (i:=0) O) (H0.mpO (i:=1) O) (H0.bsR (i:=2) O) hME hlen).mono (fun e w1 hq=>?_))))))))
 obtain ⟨s1,mb1,qs1,c1,rfl,hi1,hq1⟩:=hq
 refine ⟨_,rfl,?_⟩
 have H1:=H0.splice [] [] [.blk s1 [(.map (some mb1))] 165,.obj mb1 (mP .u32 (Kg Pg.me qs1) c1),Ent.bs 211 Pg.cells Pg.b qs1] O O hq1 (am ae (am ae (am ae aI)))
 refine wo (bP (cs:=[_,_]) Fa.Il Fa.HD O O<|wm O<|wo (az (Kd 176) O ((Ae pc _).mono (fun e w2 hq=>?_))))
 obtain ⟨c2,rfl,hq2⟩:=hq
 refine ⟨_,rfl,?_⟩
 have H2:=H1.splice [] [] [.blk c2 (vH pc) 242] O O hq2 (am ae aI)
 refine wm O<|wo (bP (cs:=[_,_,_]) Fa.pi Fa.CA O O<|wo (bP (cs:=[_,_,_,_,_,_,_,_]) Fa.Ik Fa.HC O O<|wo (bK H2 O O (fun b3 w3 H3=>(wa O<|wa O<|wn<|aC<|aD (.tmp O (.tmp O .nil)) ?_)))))
 have h9:=EG (a:=(Ev.mk b3 s1 mb1 c1 qs1 c2 n pc)) (t:=211) (H3.sel [7,3,4,5,6] O O)
 exact ⟨(Ev.mk b3 s1 mb1 c1 qs1 c2 n pc),rfl,⟨hi1.1,hi1.2,rfl,rfl⟩,h9.1,h9.2⟩
theorem nY (x k:Nat) (sl:List Slt) (w:World) (hX:cellsAt w x (xoC k sl))  :
  Calls Kf 58 #[(ptr x 0)] w (fun e w'=>e=.returned (ptr k 0)∧Fr [] w w'):=by
 refine enter Tryz.func58 O O ?_
 have H0:=((aL w []).oldB hX)
 exact ws<|wa O<|wn<|ap<|ws<|wm O<|wo (bG Fa.gE O O<|wn<|bF O O<|aA<|ao<|ws<|wm O<|wo (aJ O<|wo (ab O Fa.qc<|wo (aj O (H0.cellO (i:=0) O O) A111 O<|wa O<|wn<|aC<|aD (.tmp O .nil) (⟨rfl,H0.fr⟩)))))
theorem iN (k:Nat) (pk:UInt32) (hx:Value) (c:Nat) (nv bv:Value) (w:World) (hK:cellsAt w k [(aa pk),hx,(ptr c 0),nv,bv,(aa 0)]) :
  Calls Kf 59 #[(ptr k 0)] w (fun e w'=>e=.returned (ptr c 0)∧Fr [] w w'):=by
 refine enter Tryz.func59 O O ?_
 have H0:=((aL w []).oldB hK)
 exact ws<|wa O<|wn<|ap<|ws<|wm O<|wo (bG Fa.Ht O O<|wn<|bF O O<|aA<|ao<|ws<|wm O<|wo (aJ O<|wo (ab O Fa.Gv<|wo (aj O (H0.cellO (i:=0) O O) A110 O<|wa O<|wn<|aC<|aD (.tmp O .nil) (⟨rfl,H0.fr⟩)))))
theorem kU (x k:Nat) (sl:List Slt) (i:Nat) (w:World) (hX:cellsAt w x (xoC k sl)) (h9:sl.length=9) :
  Calls Kf 104 #[(ptr x 0),(vN i)] w (fun e w'=>e=.returned (.bool (ic sl i))∧Fr [] w w'):=by
 refine enter Tryz.func104 O O ?_
 have H0:=((aL w []).oldB hX)
 refine ws<|wa O<|wn<|ws<|wm O<|wo (fy Fa.gE O O<|wm O<|wY O (au O<|wY O (dI (b:=1) O O<|wo (aQ O O O<|wm O (wF 11 (i≥1) (fun hb1 hc1=>?_) (fun hb1 hc1=>?_))))))
 ·
  refine wY hb1 (au O<|wY hb1 (bm (b:=9) O O<|wo (aQ O hb1 O<|wm O (wF 15 (i<9) (fun hb2 hc2=>?_) (fun hb2 hc2=>?_)))))
  ·
   exact wY hb2 (au O<|wY hb2 (au O<|wY hb2 (aJ O<|wY hb2 (ab O Fa.fN<|wY hb2 (cC A143 Fa.iT O O (by omega)<|wY hb2 (ab O Fa.qd<|wY hb2 (aj O (H0.cellO (i:=0) O (gJ h9 (dT hb2) (by decide) O)) A4 O<|wo (aQ O hb2 O<|wa O<|wn<|aC<|aD (.tmp O .nil) (⟨by rw [ic,hb1,hb2]; rfl,H0.fr⟩)))))))))
  exact wN hb2<|wN hb2<|wN hb2<|wN hb2<|wN hb2<|wN hb2<|wN hb2<|wo (aN O hb2 O<|wa O<|wn<|aC<|aD (.tmp O .nil) (⟨by rw [ic,hb1,hb2]; rfl,H0.fr⟩))
 exact wN hb1<|wN hb1<|wo (aN O hb1 O<|wm O<|wN O<|wN O<|wN O<|wN O<|wN O<|wN O<|wN O<|wo (aN O O O<|wa O<|wn<|aC<|aD (.tmp O .nil) (⟨by rw [ic,hb1]; rfl,H0.fr⟩)))
theorem xg (x k:Nat) (sl:List Slt) (i:Nat) (a:Ev) (w:World) (hX:cellsAt w x (xoC k sl)) (hE:cellsAt w a.e [(ptr a.s 0),(.slice none 0 0),(ptr a.c 0),(vN a.num),(vU8 2),(aa 0),(vN 0),(str [])]) (h9:sl.length=9) (hs:ic sl i=true) (ha:(sl.getD i Slt.zero).ev=some a) :
  Calls Kf 93 #[(ptr x 0),(vN i)] w (fun e w'=>e=.returned (ptr a.e 0)∧Fr [] w w'):=by
 refine enter Tryz.func93 O O ?_
 have H0:=(((aL w []).oldB hX).oldB hE)
 have hs9:=je hs
 exact ws<|wa O<|wn<|ap<|ws<|wm O<|wm O<|wo (cq H0 (Kd 104) O (kU x k sl i _ (H0.cellsAtO (i:=0) O) h9) fun w1 H1=>(wo (cQ O<|wn<|bF O (by rw [hs]; rfl)<|aA<|ao<|ws<|wm O<|wm O<|wo (aJ O<|wo (ab O Fa.fN<|wo (cC A143 Fa.iT O O hs9.2.1<|wo (ab O Fa.nU<|wo (aj O (H1.cellO (i:=0) O (gJ (j:=2) h9 hs9.2.1 (by decide) (by rw [lm,ha]; rfl))) A140 O<|wa O<|wn<|aC<|aD (.tmp O .nil) (⟨rfl,H1.fr⟩)))))))))
theorem yq (a:Ev) (w:World) (hE:cellsAt w a.e [(ptr a.s 0),(.slice none 0 0),(ptr a.c 0),(vN a.num),(vU8 2),(aa 0),(vN 0),(str [])]) :
  Calls Kf 121 #[(ptr a.e 0)] w (fun e w'=>e=.returned (.agg #[vU8 2,aa 0,vN 0])∧Fr [] w w'):=by
 refine enter Tryz.func121 O O ?_
 have H0:=((aL w []).oldB hE)
 exact ws<|wo (bt H0 Fa.pi (fun b1 w1 H1=>(wn<|ap<|ws<|wm O<|wo (bG Fa.qE O O<|wn<|bF O O<|aA<|ao<|ws<|wm O<|wo (aJ O<|wo (ab O Fa.Gp<|wo (aM (vs:=[_,_,_]) O (H1.cellsO (i:=0) O O) A120 O Fa.pi O<|wo (bw (i:=1) H1 O O O O O Fa.pi (fun w2 H2=>(wn<|aC<|aD (.cell O (bM (vs:=[_,_,_]) (H2.cells (i:=1) O O) A120 O Fa.pi O) .nil) (⟨rfl,H2.fr⟩)))))))))))
theorem qJ (x k:Nat) (sl:List Slt) (i:Nat) (a:Ev) (w:World) (hX:cellsAt w x (xoC k sl)) (hE:cellsAt w a.e [(ptr a.s 0),(.slice none 0 0),(ptr a.c 0),(vN a.num),(vU8 2),(aa 0),(vN 0),(str [])]) (h9:sl.length=9) (hs:ic sl i=true) (ha:(sl.getD i Slt.zero).ev=some a) :
  Calls Kf 72 #[(ptr x 0),(vN i)] w (fun e w'=>e=.returned (.agg #[vU8 2,aa 0,vN 0])∧Fr [] w w'):=by
 refine enter Tryz.func72 O O ?_
 have H0:=(((aL w []).oldB hX).oldB hE)
 have hs9:=je hs
 exact ws<|wo (bt H0 Fa.pi (fun b1 w1 H1=>(wn<|ap<|aB<|ws<|wm O<|wm O<|wo (cq H1 (Kd 104) O (kU x k sl i _ (H1.cellsAtO (i:=0) O) h9) fun w2 H2=>(wo (cQ O<|wa O<|wn<|bF O (by rw [hs]; rfl)<|ws<|wm O<|wm O<|wo (aJ O<|wo (ab O Fa.fN<|wo (cC A143 Fa.iT O O hs9.2.1<|wo (ab O Fa.nU<|wo (aj O (H2.cellO (i:=0) O (gJ (j:=2) h9 hs9.2.1 (by decide) (by rw [lm,ha]; rfl))) A140 O<|wo (bG Fa.qE O O<|wa O<|wn<|bF O O<|aA<|aE<|ao<|ws<|wm O<|wm O<|wo (aJ O<|wo (ab O Fa.fN<|wo (cC A143 Fa.iT O O hs9.2.1<|wo (ab O Fa.nU<|wo (aj O (H2.cellO (i:=0) O (gJ (j:=2) h9 hs9.2.1 (by decide) (by rw [lm,ha]; rfl))) A140 O<|wo (cq H2 (Kd 121) O (yq a _ (H2.cellsAtO (i:=1) O)) fun w3 H3=>(wo (bw (i:=2) H3 O O O O O Fa.pi (fun w4 H4=>(wn<|aC<|aD (.cell O (bM (vs:=[_,_,_]) (H4.cells (i:=2) O O) A120 O Fa.pi O) .nil) (⟨rfl,H4.fr⟩)))))))))))))))))))))))
theorem yr (a:Ev) (w:World) (hE:cellsAt w a.e [(ptr a.s 0),(.slice none 0 0),(ptr a.c 0),(vN a.num),(vU8 2),(aa 0),(vN 0),(str [])]) :
  Calls Kf 94 #[(ptr a.e 0)] w (fun e w'=>e=.returned (ptr a.s 0)∧Fr [] w w'):=by
 refine enter Tryz.func94 O O ?_
 have H0:=((aL w []).oldB hE)
 exact ws<|wa O<|wn<|ap<|ws<|wm O<|wo (bG Fa.qE O O<|wn<|bF O O<|aA<|ao<|ws<|wm O<|wo (aJ O<|wo (ab O Fa.Gs<|wo (ab O Fa.Gt<|wo (aj O (H0.cellO (i:=0) O O) A68 O<|wa O<|wn<|aC<|aD (.tmp O .nil) (⟨rfl,H0.fr⟩))))))
theorem qK (x k:Nat) (sl:List Slt) (i:Nat) (a:Ev) (w:World) (hX:cellsAt w x (xoC k sl)) (hE:cellsAt w a.e [(ptr a.s 0),(.slice none 0 0),(ptr a.c 0),(vN a.num),(vU8 2),(aa 0),(vN 0),(str [])]) (h9:sl.length=9) (hs:ic sl i=true) (ha:(sl.getD i Slt.zero).ev=some a) :
  Calls Kf 42 #[(ptr x 0),(vN i)] w (fun e w'=>e=.returned (ptr a.s 0)∧Fr [] w w'):=by
 refine enter Tryz.func42 O O ?_
 have H0:=(((aL w []).oldB hX).oldB hE)
 have hs9:=je hs
 exact ws<|wa O<|wn<|ws<|wm O<|wm O<|wo (cq H0 (Kd 93) O (xg x k sl i a _ (H0.cellsAtO (i:=0) O) (H0.cellsAtO (i:=1) O) h9 hs ha) fun w1 H1=>(wo (cq H1 (Kd 94) O (yr a _ (H1.cellsAtO (i:=1) O)) fun w2 H2=>(wa O<|wn<|aC<|aD (.tmp O .nil) (⟨rfl,H2.fr⟩)))))
theorem Cc (a:Ev) (w:World) (hE:cellsAt w a.e [(ptr a.s 0),(.slice none 0 0),(ptr a.c 0),(vN a.num),(vU8 2),(aa 0),(vN 0),(str [])]) :
  Calls Kf 148 #[(ptr a.e 0)] w (fun e w'=>e=.returned (ptr a.c 0)∧Fr [] w w'):=by
 refine enter Tryz.func148 O O ?_
 have H0:=((aL w []).oldB hE)
 exact ws<|wa O<|wn<|ap<|ws<|wm O<|wo (bG Fa.qE O O<|wn<|bF O O<|aA<|ao<|ws<|wm O<|wo (aJ O<|wo (ab O Fa.Gq<|wo (aj O (H0.cellO (i:=0) O O) A169 O<|wa O<|wn<|aC<|aD (.tmp O .nil) (⟨rfl,H0.fr⟩)))))
theorem uA (x k:Nat) (sl:List Slt) (i:Nat) (a:Ev) (w:World) (hX:cellsAt w x (xoC k sl)) (hE:cellsAt w a.e [(ptr a.s 0),(.slice none 0 0),(ptr a.c 0),(vN a.num),(vU8 2),(aa 0),(vN 0),(str [])]) (h9:sl.length=9) (hs:ic sl i=true) (ha:(sl.getD i Slt.zero).ev=some a) :
  Calls Kf 100 #[(ptr x 0),(vN i)] w (fun e w'=>e=.returned (ptr a.c 0)∧Fr [] w w'):=by
 refine enter Tryz.func100 O O ?_
 have H0:=(((aL w []).oldB hX).oldB hE)
 have hs9:=je hs
 exact ws<|wa O<|wn<|ws<|wm O<|wm O<|wo (cq H0 (Kd 93) O (xg x k sl i a _ (H0.cellsAtO (i:=0) O) (H0.cellsAtO (i:=1) O) h9 hs ha) fun w1 H1=>(wo (cq H1 (Kd 148) O (Cc a _ (H1.cellsAtO (i:=1) O)) fun w2 H2=>(wa O<|wn<|aC<|aD (.tmp O .nil) (⟨rfl,H2.fr⟩)))))
theorem Hm (c:Nat) (pc:UInt32) (w:World) (hC:cellsAt w c [(aa 0),(aa 0),(aa 0),(aa 0),(aa 0),(aa 0),(aa 0),(aa 0),(aa 0),(aa 0),(aa 0),(aa 0),(aa 0),(aa 0),(aa 0),(aa 0),(aa pc)]) :
  Calls Kf 102 #[(ptr c 0)] w (fun e w'=>e=.returned (aa pc)∧Fr [] w w'):=by
 refine enter Tryz.func102 O O ?_
 have H0:=((aL w []).oldB hC)
 exact ws<|wa O<|wn<|ap<|ws<|wm O<|wo (bG Fa.Cw O O<|wn<|bF O O<|aA<|ao<|ws<|wm O<|wo (aJ O<|wo (ab O Fa.Gn<|wo (aj O (H0.cellO (i:=0) O O) A22 O<|wa O<|wn<|aC<|aD (.tmp O .nil) (⟨rfl,H0.fr⟩)))))
theorem rR (x k:Nat) (pk:UInt32) (hx nv bv:Value) (c:Nat) (pg:UInt32) (hv:Value) (he:List UInt32) (mb cn:Nat) (gs:List Gr) (sl:List Slt) (l:List Gr) (w:World) (hX:cellsAt w x (xoC k sl)) (hK:cellsAt w k [(aa pk),hx,(ptr c 0),nv,bv,(aa 0)]) (hC:cellsAt w c [(aa pg),hv,(.map (some mb))]) (hH:Arr w hv 1 he.length (Kg aa he)) (hM:w.heap[mb]?=some (mP .i64 (Kg Gr.me gs) cn)) (hG:BsOK 199 Gr.cells Gr.b gs w) (hS:grD.list.ok w gs) (hD:(bY 211).list.ok w sl) (hR:CapR gs cn l) :
  Calls Kf 22 #[(ptr x 0)] w (fun e w'=>e=.returned (aa (cg pg l))∧Fr [] w w'):=by
 refine enter Tryz.func22 O O ?_
 have H0:=(((((((((aL w []).oldB hX).oldB hK).oldB hC).oldA hH).mpOld hM).bsOld hG).dpOld hS).dpOld hD)
 exact ws<|wa O<|wn<|ws<|wm O<|wo (cq H0 (Kd 58) O (nY x k sl _ (H0.cellsAtO (i:=0) O)) fun w1 H1=>(wo (cq H1 (Kd 59) O (iN k pk hx c nv bv _ (H1.cellsAtO (i:=1) O)) fun w2 H2=>(wo (cq H2 (Kd 60) O (BV c pg hv he mb cn gs l _ (H2.cellsAtO (i:=2) O) (H2.arrO (i:=3) O) (H2.mpO (i:=4) O) (H2.bsR (i:=5) O) (H2.dpO (i:=6) O) hR) fun w3 H3=>(wa O<|wn<|aC<|aD (.tmp O .nil) (⟨rfl,H3.fr⟩)))))))
theorem Aw (x k:Nat) (pk:UInt32) (hx nv bv:Value) (c:Nat) (pg:UInt32) (hv:Value) (he:List UInt32) (mb cn:Nat) (gs:List Gr) (sl:List Slt) (l:List Gr) (i:Nat) (w:World) (hX:cellsAt w x (xoC k sl)) (hK:cellsAt w k [(aa pk),hx,(ptr c 0),nv,bv,(aa 0)]) (hC:cellsAt w c [(aa pg),hv,(.map (some mb))]) (hH:Arr w hv 1 he.length (Kg aa he)) (hM:w.heap[mb]?=some (mP .i64 (Kg Gr.me gs) cn)) (hG:BsOK 199 Gr.cells Gr.b gs w) (hS:grD.list.ok w gs) (hD:(bY 211).list.ok w sl) (hR:CapR gs cn l) :
  Calls Kf 103 #[(ptr x 0),(vN i)] w (fun e w'=>e=.returned (aa ((obs l ((i:Nat):Int)).pg-(obs l ((i:Nat):Int)).tk))∧Fr [] w w'):=by
 refine enter Tryz.func103 O O ?_
 have H0:=(((((((((aL w []).oldB hX).oldB hK).oldB hC).oldA hH).mpOld hM).bsOld hG).dpOld hS).dpOld hD)
 exact ws<|wa O<|wn<|ws<|wm O<|wo (cq H0 (Kd 58) O (nY x k sl _ (H0.cellsAtO (i:=0) O)) fun w1 H1=>(wo (cq H1 (Kd 59) O (iN k pk hx c nv bv _ (H1.cellsAtO (i:=1) O)) fun w2 H2=>(wm O<|wo (cq H2 (Kd 149) O (Ei c pg hv he mb cn gs ((i:Nat):Int) l _ (H2.cellsAtO (i:=2) O) (H2.arrO (i:=3) O) (H2.mpO (i:=4) O) (H2.bsR (i:=5) O) (H2.dpO (i:=6) O) hR) fun w3 H3=>(wa O<|wn<|aC<|aD (.tmp O .nil) (⟨rfl,H3.fr⟩)))))))
theorem mu (x k:Nat) (pk:UInt32) (hx nv bv:Value) (c:Nat) (pg:UInt32) (hv:Value) (he:List UInt32) (mb cn:Nat) (gs:List Gr) (sl:List Slt) (l:List Gr) (i:Nat) (w:World) (hX:cellsAt w x (xoC k sl)) (hK:cellsAt w k [(aa pk),hx,(ptr c 0),nv,bv,(aa 0)]) (hC:cellsAt w c [(aa pg),hv,(.map (some mb))]) (hH:Arr w hv 1 he.length (Kg aa he)) (hM:w.heap[mb]?=some (mP .i64 (Kg Gr.me gs) cn)) (hG:BsOK 199 Gr.cells Gr.b gs w) (hS:grD.list.ok w gs) (hD:(bY 211).list.ok w sl) (hR:CapR gs cn l) :
  Calls Kf 85 #[(ptr x 0),(vN i)] w (fun e w'=> ∃v u,e=.returned (.tuple #[.agg #[aa (obs l ((i:Nat):Int)).pg,v,u,.bool (obs l ((i:Nat):Int)).con],.bool (ei l ((i:Nat):Int))])∧Ke [] w w' [.row v 207 2 (obs l ((i:Nat):Int)).xs.length (Kh xtc (obs l ((i:Nat):Int)).xs),.row u 203 1 (obs l ((i:Nat):Int)).ps.length (Kg bA (obs l ((i:Nat):Int)).ps)]):=by
 refine enter Tryz.func85 O O ?_
 have H0:=(((((((((aL w []).oldB hX).oldB hK).oldB hC).oldA hH).mpOld hM).bsOld hG).dpOld hS).dpOld hD)
 refine ws<|wo (bt H0 Fa.I40 (fun b1 w1 H1=>(wa O<|wn<|ws<|wm O<|wo (cq H1 (Kd 58) O (nY x k sl _ (H1.cellsAtO (i:=0) O)) fun w2 H2=>(wo (cq H2 (Kd 59) O (iN k pk hx c nv bv _ (H2.cellsAtO (i:=1) O)) fun w3 H3=>(wm O<|wo (az (Kd 131) O ((wL c pg hv he mb cn gs ((i:Nat):Int) l _ (H3.cellsAtO (i:=2) O) (H3.arrO (i:=3) O) (H3.mpO (i:=4) O) (H3.bsR (i:=5) O) (H3.dpO (i:=6) O) hR).mono (fun e w4 hq=>?_))))))))))
 obtain ⟨v4,u4,rfl,hq4⟩:=hq
 refine ⟨_,rfl,?_⟩
 have H4:=H3.splice [] [] [.row v4 207 2 (obs l ((i:Nat):Int)).xs.length (Kh xtc (obs l ((i:Nat):Int)).xs),.row u4 203 1 (obs l ((i:Nat):Int)).ps.length (Kg bA (obs l ((i:Nat):Int)).ps)] O O hq4 (am ae (am ae aI))
 exact we O O<|we O O<|wo (bw (i:=8) H4 O O O O (bk O (bk (bS (H4.arrR (i:=9) O)) (bk (bS (H4.arrR (i:=10) O)) (bk O er)))) Fa.I40 (fun w5 H5=>(wa O<|wn<|aC<|aD (.cell O (bM (vs:=[_,_,_,_]) (H5.cells (i:=8) O O) A40 O Fa.I40 O) (.tmp O .nil)) (⟨_,_,rfl,H5.sel [9,10] O O⟩))))
theorem ET  (w:World) :
  Calls Kf 130 #[(.slice none 0 0)] w (fun e w'=>e=.returned (.slice none 0 0)∧Fr [] w w'):=by
 refine enter Tryz.func130 O O ?_
 have H0:=aL w []
 exact ws<|wa O<|wn<|ap<|ws<|wm O<|wo (lD A144 O (Arr.nil _ 1) O<|wn<|bX O O<|ws<|wa O<|wn<|aC<|aq<|aD (.tmp O .nil) (⟨rfl,H0.fr⟩))
theorem yL (x k:Nat) (sl:List Slt) (w:World) (hX:cellsAt w x (xoC k sl)) (h9:sl.length=9) :
  Calls Kf 84 #[(ptr x 0)] w (fun e w'=>e=.returned (.slice none 0 0)∧Fr [] w w'):=by
 refine enter Tryz.func84 O O ?_
 have H0:=((aL w []).oldB hX)
 exact ws<|wa O<|wn<|ap<|ws<|wm O<|wo (bG Fa.gE O O<|wn<|bF O O<|aA<|ao<|ws<|wm O<|wo (aJ O<|wo (ab O Fa.Gw<|wo (aj O (H0.cellO (i:=0) O (As h9)) A144 O<|wo (cq H0 (Kd 130) O (ET _) fun w1 H1=>(wa O<|wn<|aC<|aD (.tmp O .nil) (⟨rfl,H1.fr⟩)))))))
theorem pU (x k:Nat) (pk:UInt32) (hx nv bv:Value) (c:Nat) (pg:UInt32) (hv:Value) (he:List UInt32) (mb cn:Nat) (gs:List Gr) (sl:List Slt) (l:List Gr) (mp:UInt32) (ev pv:Value) (xs:List Xt) (ps:List UInt16) (con:Bool) (n:Nat) (T:List Nat) (w:World) (H:Ke T w w [.blk x (xoC k sl) 146,Ent.bo k [(aa pk),hx,(ptr c 0),nv,bv,(aa 0)],.blk c [(aa pg),hv,(.map (some mb))] 196,Ent.ar hv 1 he.length (Kg aa he),.obj mb (mP .i64 (Kg Gr.me gs) cn),Ent.bs 199 Gr.cells Gr.b gs,Ent.dp grD.list gs,Ent.dp (bY 211).list sl,Ent.ar ev 2 xs.length (Kh xtc xs),Ent.ar pv 1 ps.length (Kg bA ps)]) (_hR:CapR gs cn l) (h9:sl.length=9) (_hhe:he.length<2^32) (_hn:xs.length<2^40) (_hm:ps.length<2^40) (_hn4:n≤4096) (hff:ffS sl=9) :
  Calls Kf 86 #[(ptr x 0),(.agg #[(aa mp),ev,pv,(.bool con)]),(vN n)] w (fun e w'=>e=.returned (.tuple #[vN 0,vN 4])∧Ke T w w' [.blk x (xoC k sl) 146,Ent.bo k [(aa pk),hx,(ptr c 0),nv,bv,(aa 0)],.blk c [(aa pg),hv,(.map (some mb))] 196,Ent.ar hv 1 he.length (Kg aa he),.obj mb (mP .i64 (Kg Gr.me gs) cn),Ent.bs 199 Gr.cells Gr.b gs,Ent.dp grD.list gs,Ent.dp (bY 211).list sl,Ent.ar ev 2 xs.length (Kh xtc xs),Ent.ar pv 1 ps.length (Kg bA ps)]):=by
 refine enter Tryz.func86 O O<|ws<|wo (bK H O O (fun b1 w1 H1=>(wa O<|wa O<|wn<|ap<|ws<|wm O<|wo (bG Fa.gE O O<|wn<|bF O O<|aA<|ao<|ws<|wa O<|wn<|WC.cut (α:=Unit) (fun _=>[(0,(ptr x 0)),(2,(vN n)),(4,(ptr b1 0)),(8,(vN (ffS sl)))]) (fun _ w'=>Ke T w w' [.blk x (xoC k sl) 146,Ent.bo k [(aa pk),hx,(ptr c 0),nv,bv,(aa 0)],.blk c [(aa pg),hv,(.map (some mb))] 196,Ent.ar hv 1 he.length (Kg aa he),.obj mb (mP .i64 (Kg Gr.me gs) cn),Ent.bs 199 Gr.cells Gr.b gs,Ent.dp grD.list gs,Ent.dp (bY 211).list sl,Ent.ar ev 2 xs.length (Kh xtc xs),Ent.ar pv 1 ps.length (Kg bA ps),.blk b1 [(aa mp),ev,pv,(.bool con)] 40]) ?_ ?_))))
 ·
  refine aB<|bi (α:=Nat) (fun j=>[(0,(ptr x 0)),(2,(vN n)),(4,(ptr b1 0)),(8,(vN j))]) (fun j w'=>(1≤j∧j≤9∧∀m,1≤m→m<j→(sl.getD m Slt.zero).is=true)∧Ke T w w' [.blk x (xoC k sl) 146,Ent.bo k [(aa pk),hx,(ptr c 0),nv,bv,(aa 0)],.blk c [(aa pg),hv,(.map (some mb))] 196,Ent.ar hv 1 he.length (Kg aa he),.obj mb (mP .i64 (Kg Gr.me gs) cn),Ent.bs 199 Gr.cells Gr.b gs,Ent.dp grD.list gs,Ent.dp (bY 211).list sl,Ent.ar ev 2 xs.length (Kh xtc xs),Ent.ar pv 1 ps.length (Kg bA ps),.blk b1 [(aa mp),ev,pv,(.bool con)] 40]) (fun j=>9-j) 1 ⟨⟨Nat.le_refl _,by decide,fun m h1 h2=>by omega⟩,H1⟩ ⟨rfl,rfl,rfl,rfl,trivial⟩ ?_
  rintro j w2 ⟨⟨hj1,hj9,hall⟩,H2⟩
  show WC _ _ _ _ _ [(0,(ptr x 0)),(2,(vN n)),(4,(ptr b1 0)),(8,(vN j))] _
  refine ap<|ws<|wm O<|wo (bm (b:=9) O O<|wm O (wF 14 (j<9) (fun hb3 hc3=>?_) (fun hb3 hc3=>?_)))
  ·
   refine wY hb3 (au O<|wY hb3 (au O<|wY hb3 (aJ O<|wY hb3 (ab O Fa.fN<|wY hb3 (cC A143 Fa.iT O O (by omega)<|wY hb3 (ab O Fa.qd<|wY hb3 (aj O (H2.cell (i:=0) O (gJ h9 (dT hb3) (by decide) O)) A4 O<|wo (aQ O hb3 O<|wn (wC (sl.getD j Slt.zero).is (fun hb4=>?_) (fun hb4=>?_))))))))))
   ·
    exact aA<|ao<|aB<|aG<|wm O<|wo (aU (b:=1) O O (by omega)<|wa O<|aY<|aE<|aX (j+1) ⟨⟨by omega,by omega,fun m h1 h2=>by rcases Nat.lt_or_ge m j with h3 | h3; exact hall m h1 h3; rw [show m=j by omega]; exact hb4⟩,H2⟩ ⟨rfl,rfl,rfl,rfl,trivial⟩ (by omega))
   exact bc<|an<|an<|aS<|cd () H2 ⟨rfl,rfl,rfl,(by rw [kx h9 hj1 hj9 hall (.inr hb4)]; rfl),trivial⟩
  exact wN hb3<|wN hb3<|wN hb3<|wN hb3<|wN hb3<|wN hb3<|wN hb3<|wo (aN O hb3 O<|wn<|bF O O<|bc<|an<|an<|aS<|cd () H2 ⟨rfl,rfl,rfl,(by rw [kx h9 hj1 hj9 hall (.inl (by omega))]; rfl),trivial⟩)
 rintro ⟨⟩ w5 H5
 show WC _ _ _ _ _ [(0,(ptr x 0)),(2,(vN n)),(4,(ptr b1 0)),(8,(vN (ffS sl)))] _
 exact ap<|aB<|ws<|wm O<|wo (dk (b:=9) O O<|wa O<|wn<|bX O (decide_eq_true hff)<|ws<|wa O<|wa O<|wn<|aC<|aZ<|aq<|aD (.tmp O (.tmp O .nil)) (⟨rfl,H5.sel [0,1,2,3,4,5,6,7,8,9] O O⟩))
theorem tU (x k:Nat) (pk:UInt32) (hx nv bv:Value) (c:Nat) (pg:UInt32) (hv:Value) (he:List UInt32) (mb cn:Nat) (gs:List Gr) (sl:List Slt) (l:List Gr) (mp:UInt32) (ev pv:Value) (xs:List Xt) (ps:List UInt16) (con:Bool) (n:Nat) (T:List Nat) (w:World) (H:Ke T w w [.blk x (xoC k sl) 146,Ent.bo k [(aa pk),hx,(ptr c 0),nv,bv,(aa 0)],.blk c [(aa pg),hv,(.map (some mb))] 196,Ent.ar hv 1 he.length (Kg aa he),.obj mb (mP .i64 (Kg Gr.me gs) cn),Ent.bs 199 Gr.cells Gr.b gs,Ent.dp grD.list gs,Ent.dp (bY 211).list sl,Ent.ar ev 2 xs.length (Kh xtc xs),Ent.ar pv 1 ps.length (Kg bA ps)]) (hR:CapR gs cn l) (h9:sl.length=9) (hhe:he.length<2^32) (hn:xs.length<2^40) (hm:ps.length<2^40) (hn4:n≤4096) (hff:ffS sl≠9) (hw:(dt pg he l (((ffS sl):Nat):Int) mp xs ps (Kl n))≠0) :
  Calls Kf 86 #[(ptr x 0),(.agg #[(aa mp),ev,pv,(.bool con)]),(vN n)] w (fun e w'=> ∃cn' gs',e=.returned (.tuple #[vN 0,vN (dt pg he l (((ffS sl):Nat):Int) mp xs ps (Kl n))])∧CapR gs' cn' (dQ pg he l (((ffS sl):Nat):Int) mp xs ps con (Kl n))∧DpTo w gs gs'∧Ke T w w' [.blk x (xoC k sl) 146,Ent.bo k [(aa pk),hx,(ptr c 0),nv,bv,(aa 0)],.blk c [(aa pg),hv,(.map (some mb))] 196,Ent.ar hv 1 he.length (Kg aa he),.obj mb (mP .i64 (Kg Gr.me gs') cn'),Ent.bs 199 Gr.cells Gr.b gs',Ent.dp grD.list gs',Ent.dp (bY 211).list sl,Ent.ar ev 2 xs.length (Kh xtc xs),Ent.ar pv 1 ps.length (Kg bA ps)]):=by
 refine enter Tryz.func86 O O<|ws<|wo (bK H O O (fun b1 w1 H1=>(wa O<|wa O<|wn<|ap<|ws<|wm O<|wo (bG Fa.gE O O<|wn<|bF O O<|aA<|ao<|ws<|wa O<|wn<|WC.cut (α:=Unit) (fun _=>[(0,(ptr x 0)),(2,(vN n)),(4,(ptr b1 0)),(8,(vN (ffS sl)))]) (fun _ w'=>Ke T w w' [.blk x (xoC k sl) 146,Ent.bo k [(aa pk),hx,(ptr c 0),nv,bv,(aa 0)],.blk c [(aa pg),hv,(.map (some mb))] 196,Ent.ar hv 1 he.length (Kg aa he),.obj mb (mP .i64 (Kg Gr.me gs) cn),Ent.bs 199 Gr.cells Gr.b gs,Ent.dp grD.list gs,Ent.dp (bY 211).list sl,Ent.ar ev 2 xs.length (Kh xtc xs),Ent.ar pv 1 ps.length (Kg bA ps),.blk b1 [(aa mp),ev,pv,(.bool con)] 40]) ?_ ?_))))
 ·
  refine aB<|bi (α:=Nat) (fun j=>[(0,(ptr x 0)),(2,(vN n)),(4,(ptr b1 0)),(8,(vN j))]) (fun j w'=>(1≤j∧j≤9∧∀m,1≤m→m<j→(sl.getD m Slt.zero).is=true)∧Ke T w w' [.blk x (xoC k sl) 146,Ent.bo k [(aa pk),hx,(ptr c 0),nv,bv,(aa 0)],.blk c [(aa pg),hv,(.map (some mb))] 196,Ent.ar hv 1 he.length (Kg aa he),.obj mb (mP .i64 (Kg Gr.me gs) cn),Ent.bs 199 Gr.cells Gr.b gs,Ent.dp grD.list gs,Ent.dp (bY 211).list sl,Ent.ar ev 2 xs.length (Kh xtc xs),Ent.ar pv 1 ps.length (Kg bA ps),.blk b1 [(aa mp),ev,pv,(.bool con)] 40]) (fun j=>9-j) 1 ⟨⟨Nat.le_refl _,by decide,fun m h1 h2=>by omega⟩,H1⟩ ⟨rfl,rfl,rfl,rfl,trivial⟩ ?_
  rintro j w2 ⟨⟨hj1,hj9,hall⟩,H2⟩
  show WC _ _ _ _ _ [(0,(ptr x 0)),(2,(vN n)),(4,(ptr b1 0)),(8,(vN j))] _
  refine ap<|ws<|wm O<|wo (bm (b:=9) O O<|wm O (wF 14 (j<9) (fun hb3 hc3=>?_) (fun hb3 hc3=>?_)))
  ·
   refine wY hb3 (au O<|wY hb3 (au O<|wY hb3 (aJ O<|wY hb3 (ab O Fa.fN<|wY hb3 (cC A143 Fa.iT O O (by omega)<|wY hb3 (ab O Fa.qd<|wY hb3 (aj O (H2.cell (i:=0) O (gJ h9 (dT hb3) (by decide) O)) A4 O<|wo (aQ O hb3 O<|wn (wC (sl.getD j Slt.zero).is (fun hb4=>?_) (fun hb4=>?_))))))))))
   ·
    exact aA<|ao<|aB<|aG<|wm O<|wo (aU (b:=1) O O (by omega)<|wa O<|aY<|aE<|aX (j+1) ⟨⟨by omega,by omega,fun m h1 h2=>by rcases Nat.lt_or_ge m j with h3 | h3; exact hall m h1 h3; rw [show m=j by omega]; exact hb4⟩,H2⟩ ⟨rfl,rfl,rfl,rfl,trivial⟩ (by omega))
   exact bc<|an<|an<|aS<|cd () H2 ⟨rfl,rfl,rfl,(by rw [kx h9 hj1 hj9 hall (.inr hb4)]; rfl),trivial⟩
  exact wN hb3<|wN hb3<|wN hb3<|wN hb3<|wN hb3<|wN hb3<|wN hb3<|wo (aN O hb3 O<|wn<|bF O O<|bc<|an<|an<|aS<|cd () H2 ⟨rfl,rfl,rfl,(by rw [kx h9 hj1 hj9 hall (.inl (by omega))]; rfl),trivial⟩)
 rintro ⟨⟩ w5 H5
 show WC _ _ _ _ _ [(0,(ptr x 0)),(2,(vN n)),(4,(ptr b1 0)),(8,(vN (ffS sl)))] _
 refine ap<|aB<|ws<|wm O<|wo (dk (b:=9) O O<|wa O<|wn<|bF O (decide_eq_false hff)<|ws<|wm O<|wo (bm (b:=0) O O<|wm O<|bL O O O (decide_eq_false (by omega)) O (au O<|bL O O O (decide_eq_false (by omega)) O (cm (b:=4096) O O<|wo (aN O (decide_eq_false (by omega)) O<|wa O<|wn<|bF O (decide_eq_false (by omega))<|aA<|aE<|ao<|ap<|ap<|bn 9 Fa.M H5 (mh O<|oh (fun w1 H1=>aJ O zr)<|oh (fun w1 H1=>ab O Fa.qc zr)<|oh (fun w1 H1=>aj O (H1.cell (i:=0) O O) A111 O zr)<|oh (fun w1 H1=>az (Kd 59) O ((iN k pk hx c nv bv _ (H1.cellsAtO (i:=1) O)).mono (fun e w2 hq=>⟨_,hq.1,rfl,hq.2⟩)))<|mh O<|oh (fun w1 H1=>aM (vs:=[_,_,_,_]) O (H1.cells (i:=10) O O) A40 O Fa.I40 O zr)<|mh O<|oh (fun w1 H1=>dB (hs:=A3) (hd:=A22) O zr)  bD) (by kernel_rfl) ?_)))))
 intro β7 w7 H7
 refine wo (az (Kd 132) O ((vL c pg hv he mb cn gs (((ffS sl):Nat):Int) mp ev pv xs ps con (Kl n) l _ _ (H7.part [2,3,4,5,6,8,9] O O) hR Cf hn hm hhe).mono (fun e w8 hq=>?_)))
 obtain ⟨cn8,gs8,rfl,hi8,hd8,hq8⟩:=hq
 refine ⟨_,rfl,?_⟩
 have H8:=H7.splice [2,3,4,5,6,8,9] [.blk c [(aa pg),hv,(.map (some mb))] 196,Ent.ar hv 1 he.length (Kg aa he),.obj mb (mP .i64 (Kg Gr.me gs8) cn8),Ent.bs 199 Gr.cells Gr.b gs8,Ent.dp grD.list gs8,Ent.ar ev 2 xs.length (Kh xtc xs),Ent.ar pv 1 ps.length (Kg bA ps)] [] O O hq8 (am ae (bf (j:=1) O (am ae (am ae (Fits.dpTo 4 O hd8 (bf (j:=5) O (bf (j:=6) O aI)))))))
 have hd8:DpTo w gs gs8:=hd8.mono H7.fr.size
 exact wa O<|wn<|ws<|wm O<|wo (bI (b:=0) O O<|wn<|bX O (decide_eq_true hw)<|ws<|wm O<|wa O<|wa O<|wn<|aC<|aq<|aD (.tmp O (.tmp O .nil)) (⟨_,_,rfl,hi8,hd8,H8.sel [0,1,2,3,4,5,6,7,8,9] O O⟩))
theorem rJ (x k:Nat) (pk:UInt32) (hx nv bv:Value) (c:Nat) (pg:UInt32) (hv:Value) (he:List UInt32) (mb cn:Nat) (gs:List Gr) (sl:List Slt) (l:List Gr) (mp:UInt32) (ev pv:Value) (xs:List Xt) (ps:List UInt16) (con:Bool) (n:Nat) (T:List Nat) (w:World) (H:Ke T w w [.blk x (xoC k sl) 146,Ent.bo k [(aa pk),hx,(ptr c 0),nv,bv,(aa 0)],.blk c [(aa pg),hv,(.map (some mb))] 196,Ent.ar hv 1 he.length (Kg aa he),.obj mb (mP .i64 (Kg Gr.me gs) cn),Ent.bs 199 Gr.cells Gr.b gs,Ent.dp grD.list gs,Ent.dp (bY 211).list sl,Ent.ar ev 2 xs.length (Kh xtc xs),Ent.ar pv 1 ps.length (Kg bA ps)]) (hR:CapR gs cn l) (h9:sl.length=9) (hhe:he.length<2^32) (hn:xs.length<2^40) (hm:ps.length<2^40) (hn4:n≤4096) (hff:ffS sl≠9) (hw:(dt pg he l (((ffS sl):Nat):Int) mp xs ps (Kl n))=0) :
  Calls Kf 86 #[(ptr x 0),(.agg #[(aa mp),ev,pv,(.bool con)]),(vN n)] w (fun e w'=> ∃cn' gs',e=.returned (.tuple #[vN (ffS sl),vN 0])∧CapR gs' cn' (dQ pg he l (((ffS sl):Nat):Int) mp xs ps con (Kl n))∧DpTo w gs gs'∧Ke T w w' [.blk x (xoC k (sl.set (ffS sl) ⟨true,n,none⟩)) 146,Ent.bo k [(aa pk),hx,(ptr c 0),nv,bv,(aa 0)],.blk c [(aa pg),hv,(.map (some mb))] 196,Ent.ar hv 1 he.length (Kg aa he),.obj mb (mP .i64 (Kg Gr.me gs') cn'),Ent.bs 199 Gr.cells Gr.b gs',Ent.dp grD.list gs',Ent.dp (bY 211).list (sl.set (ffS sl) ⟨true,n,none⟩),Ent.ar ev 2 xs.length (Kh xtc xs),Ent.ar pv 1 ps.length (Kg bA ps)]):=by
 refine enter Tryz.func86 O O ?_
 have hf9:ffS sl<9:=Nat.lt_of_le_of_ne (eP h9) hff
 refine ws<|wo (bK H O O (fun b1 w1 H1=>(wa O<|wa O<|wn<|ap<|ws<|wm O<|wo (bG Fa.gE O O<|wn<|bF O O<|aA<|ao<|ws<|wa O<|wn<|WC.cut (α:=Unit) (fun _=>[(0,(ptr x 0)),(2,(vN n)),(4,(ptr b1 0)),(8,(vN (ffS sl)))]) (fun _ w'=>Ke T w w' [.blk x (xoC k sl) 146,Ent.bo k [(aa pk),hx,(ptr c 0),nv,bv,(aa 0)],.blk c [(aa pg),hv,(.map (some mb))] 196,Ent.ar hv 1 he.length (Kg aa he),.obj mb (mP .i64 (Kg Gr.me gs) cn),Ent.bs 199 Gr.cells Gr.b gs,Ent.dp grD.list gs,Ent.dp (bY 211).list sl,Ent.ar ev 2 xs.length (Kh xtc xs),Ent.ar pv 1 ps.length (Kg bA ps),.blk b1 [(aa mp),ev,pv,(.bool con)] 40]) ?_ ?_))))
 ·
  refine aB<|bi (α:=Nat) (fun j=>[(0,(ptr x 0)),(2,(vN n)),(4,(ptr b1 0)),(8,(vN j))]) (fun j w'=>(1≤j∧j≤9∧∀m,1≤m→m<j→(sl.getD m Slt.zero).is=true)∧Ke T w w' [.blk x (xoC k sl) 146,Ent.bo k [(aa pk),hx,(ptr c 0),nv,bv,(aa 0)],.blk c [(aa pg),hv,(.map (some mb))] 196,Ent.ar hv 1 he.length (Kg aa he),.obj mb (mP .i64 (Kg Gr.me gs) cn),Ent.bs 199 Gr.cells Gr.b gs,Ent.dp grD.list gs,Ent.dp (bY 211).list sl,Ent.ar ev 2 xs.length (Kh xtc xs),Ent.ar pv 1 ps.length (Kg bA ps),.blk b1 [(aa mp),ev,pv,(.bool con)] 40]) (fun j=>9-j) 1 ⟨⟨Nat.le_refl _,by decide,fun m h1 h2=>by omega⟩,H1⟩ ⟨rfl,rfl,rfl,rfl,trivial⟩ ?_
  rintro j w2 ⟨⟨hj1,hj9,hall⟩,H2⟩
  show WC _ _ _ _ _ [(0,(ptr x 0)),(2,(vN n)),(4,(ptr b1 0)),(8,(vN j))] _
  refine ap<|ws<|wm O<|wo (bm (b:=9) O O<|wm O (wF 14 (j<9) (fun hb3 hc3=>?_) (fun hb3 hc3=>?_)))
  ·
   refine wY hb3 (au O<|wY hb3 (au O<|wY hb3 (aJ O<|wY hb3 (ab O Fa.fN<|wY hb3 (cC A143 Fa.iT O O (by omega)<|wY hb3 (ab O Fa.qd<|wY hb3 (aj O (H2.cell (i:=0) O (gJ h9 (dT hb3) (by decide) O)) A4 O<|wo (aQ O hb3 O<|wn (wC (sl.getD j Slt.zero).is (fun hb4=>?_) (fun hb4=>?_))))))))))
   ·
    exact aA<|ao<|aB<|aG<|wm O<|wo (aU (b:=1) O O (by omega)<|wa O<|aY<|aE<|aX (j+1) ⟨⟨by omega,by omega,fun m h1 h2=>by rcases Nat.lt_or_ge m j with h3 | h3; exact hall m h1 h3; rw [show m=j by omega]; exact hb4⟩,H2⟩ ⟨rfl,rfl,rfl,rfl,trivial⟩ (by omega))
   exact bc<|an<|an<|aS<|cd () H2 ⟨rfl,rfl,rfl,(by rw [kx h9 hj1 hj9 hall (.inr hb4)]; rfl),trivial⟩
  exact wN hb3<|wN hb3<|wN hb3<|wN hb3<|wN hb3<|wN hb3<|wN hb3<|wo (aN O hb3 O<|wn<|bF O O<|bc<|an<|an<|aS<|cd () H2 ⟨rfl,rfl,rfl,(by rw [kx h9 hj1 hj9 hall (.inl (by omega))]; rfl),trivial⟩)
 rintro ⟨⟩ w5 H5
 show WC _ _ _ _ _ [(0,(ptr x 0)),(2,(vN n)),(4,(ptr b1 0)),(8,(vN (ffS sl)))] _
 refine ap<|aB<|ws<|wm O<|wo (dk (b:=9) O O<|wa O<|wn<|bF O (decide_eq_false hff)<|ws<|wm O<|wo (bm (b:=0) O O<|wm O<|bL O O O (decide_eq_false (by omega)) O (au O<|bL O O O (decide_eq_false (by omega)) O (cm (b:=4096) O O<|wo (aN O (decide_eq_false (by omega)) O<|wa O<|wn<|bF O (decide_eq_false (by omega))<|aA<|aE<|ao<|ap<|ap<|bn 9 Fa.M H5 (mh O<|oh (fun w1 H1=>aJ O zr)<|oh (fun w1 H1=>ab O Fa.qc zr)<|oh (fun w1 H1=>aj O (H1.cell (i:=0) O O) A111 O zr)<|oh (fun w1 H1=>az (Kd 59) O ((iN k pk hx c nv bv _ (H1.cellsAtO (i:=1) O)).mono (fun e w2 hq=>⟨_,hq.1,rfl,hq.2⟩)))<|mh O<|oh (fun w1 H1=>aM (vs:=[_,_,_,_]) O (H1.cells (i:=10) O O) A40 O Fa.I40 O zr)<|mh O<|oh (fun w1 H1=>dB (hs:=A3) (hd:=A22) O zr)  bD) (by kernel_rfl) ?_)))))
 intro β7 w7 H7
 refine wo (az (Kd 132) O ((vL c pg hv he mb cn gs (((ffS sl):Nat):Int) mp ev pv xs ps con (Kl n) l _ _ (H7.part [2,3,4,5,6,8,9] O O) hR Cf hn hm hhe).mono (fun e w8 hq=>?_)))
 obtain ⟨cn8,gs8,rfl,hi8,hd8,hq8⟩:=hq
 refine ⟨_,rfl,?_⟩
 have H8:=H7.splice [2,3,4,5,6,8,9] [.blk c [(aa pg),hv,(.map (some mb))] 196,Ent.ar hv 1 he.length (Kg aa he),.obj mb (mP .i64 (Kg Gr.me gs8) cn8),Ent.bs 199 Gr.cells Gr.b gs8,Ent.dp grD.list gs8,Ent.ar ev 2 xs.length (Kh xtc xs),Ent.ar pv 1 ps.length (Kg bA ps)] [] O O hq8 (am ae (bf (j:=1) O (am ae (am ae (Fits.dpTo 4 O hd8 (bf (j:=5) O (bf (j:=6) O aI)))))))
 have hd8:DpTo w gs gs8:=hd8.mono H7.fr.size
 refine wa O<|wn<|ws<|wm O<|wo (bI (b:=0) O O<|wn<|bF O (decide_eq_false (fun h=>h hw))<|aA<|ao<|ws<|wm O<|wm O<|wm O<|wo (bP (cs:=[_,_,_]) Fa.iT Fa.Cz O O<|wo (aJ O<|wo (ab O Fa.fN<|wo (cC A143 Fa.iT O O hf9<|wo (pI (j:=0) (s:=(Slt.mk true n none)) H8 h9 hf9 O O O Fa.iT (fun w9 H9=>(wn<|ws<|wm O<|wa O<|wa O<|wn<|aC<|aD (.tmp O (.tmp O .nil)) ?_))))))))
 have h3:=Owl.Own.dpOf (D:=bY 211) (l:=sl) (l':=sl.set (ffS sl) ⟨true,n,none⟩) (i:=7) H9 O (fun w h=>ln h ae) gq
 exact ⟨_,_,rfl,hi8,hd8,h3.sel [0,1,2,3,4,5,6,11,8,9] O O⟩
theorem pA (s mb c:Nat) (ps:List Pg) (w:World) (hS:cellsAt w s [(.map (some mb))]) (hM:w.heap[mb]?=some (mP .u32 (Kg Pg.me ps) c)) (hP:BsOK 211 Pg.cells Pg.b ps w) (hME:MEok (Kg Pg.me ps) c) (hgn:ps.length<2^40) :
  Calls Kf 44 #[(ptr s 0)] w (fun e w'=> ∃v ks,e=.returned v∧((ps.map Pg.a).Perm ks∧ks.Pairwise (fun x y=>bO y x=false))∧Ke [] w w' [.row v 22 1 ps.length (Kg aa ks)]) :=
 (qM s mb c ps w hS hM hP hME hgn).mono (fun e w' ⟨v,ks,he,hk,hO⟩=>⟨v,ks,he,hk,by
  have h8:ks.length=ps.length:=by rw [←hk.1.length_eq,List.length_map]
  rw [h8] at hO; exact hO⟩)
theorem Av (x k:Nat) (sl:List Slt) (s mb c:Nat) (ps:List Pg) (i:Nat) (w:World) (hX:cellsAt w x (xoC k sl)) (hS:cellsAt w s [(.map (some mb))]) (hM:w.heap[mb]?=some (mP .u32 (Kg Pg.me ps) c)) (hP:BsOK 211 Pg.cells Pg.b ps w) (hME:MEok (Kg Pg.me ps) c) (hgn:ps.length<2^40) (h9:sl.length=9) (hi9:i<9) (hle:ps.length≤(sl.getD i Slt.zero).pg) :
  Calls Kf 133 #[(ptr x 0),(vN i),(ptr s 0)] w (fun e w'=>e=.returned (.bool false)∧Fr [] w w'):=by
 refine enter Tryz.func133 O O ?_
 have H0:=(((((aL w []).oldB hX).oldB hS).mpOld hM).bsOld hP)
 refine ws<|wa O<|wn<|ap<|ap<|WC.held 11 O Fa.M H0 (fun w'=> ∃L',Ke [] w w' ([Ent.bo x (xoC k sl),Ent.bo s [(.map (some mb))],Ent.mo .u32 mb (Kg Pg.me ps) c,Ent.bsO 211 Pg.cells Pg.b ps]++L')) ?_
 intro w1 H1
 refine xt 0 O (ptr s 0) H1 (fun _ _ HX=>au O ⟨rfl,rfl⟩)<|xt 3 O (ptr x 0) H1 (fun _ _ HX=>au O ⟨rfl,rfl⟩)<|xt 4 O (vN i) H1 (fun _ _ HX=>au O ⟨rfl,rfl⟩)<|dh (fun W hW=>?_)
 let e1:List (Nat × Value)→List (Nat × Value):=fun r=>(0,(ptr x 0))::(1,(vN i))::(2,(ptr s 0))::(6,(.bool false))::r
 let Bm:Ent:=Ent.bo x (xoC k sl)
 let B0:Ent:=Ent.bo s [(.map (some mb))]
 let B1:Ent:=Ent.mo .u32 mb (Kg Pg.me ps) c
 let B2:Ent:=Ent.bsO 211 Pg.cells Pg.b ps
 have B3: ∀(v6:Value) (ks6:List UInt32) (wS:World),Ke [] w wS [Bm,B0,B1,B2,.row v6 22 1 ps.length (Kg aa ks6)]→W 0 (bz 11 2047) (e1 [(17,(.bool (decide (ps.length>(sl.getD i Slt.zero).pg))))]) wS:=by
  intro v6 ks6 wS HS
  rw [hW]
  exact WH.done (by kernel_rfl)<|ao<|bF O (decide_eq_false (by omega))<|aA<|ao<|ws<|wa O<|wn<|aC<|aD (.tmp O .nil) (⟨rfl,HS.fr⟩)
 have B4: ∀(v6:Value) (ks6:List UInt32) (wS:World),Ke [] w wS [Bm,B0,B1,B2,.row v6 22 1 ps.length (Kg aa ks6)]→W 2 (bz 11 1019) (e1 [(8,v6),(16,(vN (sl.getD i Slt.zero).pg))]) wS:=by
  intro v6 ks6 wS HS
  rw [hW]
  refine wh1 2<|kH 2 O (bu A73 O (HS.arrR (i:=4) O) (⟨⟨_,HS⟩,?_⟩))
  exact xt 10 O (.bool (decide (ps.length>(sl.getD i Slt.zero).pg))) HS (fun _ _ HX=>cm O O ⟨rfl,rfl⟩)<|bh hW (B3 v6 ks6 wS HS)
 have B5: ∀wS,Ke [] w wS [Bm,B0,B1,B2]→W 3 (bz 11 1017) (e1 [(7,(ptr s 0)),(16,(vN (sl.getD i Slt.zero).pg))]) wS:=fun wS HS=>by
  rw [hW]
  refine wh1 1<|kH 1 O (az (Kd 44) O ((pA s mb c ps _ (HS.cellsAtO (i:=1) O) (HS.mpO (i:=2) O) (HS.bsR (i:=3) O) hME hgn).mono (fun e w6 hq=>?_)))
  obtain ⟨v6,ks6,rfl,hk6,hq6⟩:=hq
  refine ⟨_,rfl,?_⟩
  have H6:=HS.splice [] [] [.row v6 22 1 ps.length (Kg aa ks6)] O O hq6 (am ae aI)
  refine ⟨⟨_,H6⟩,?_⟩
  exact bh hW (B4 v6 ks6 w6 H6)
 have B6: ∀(v6:Value) (ks6:List UInt32) (wS:World),Ke [] w wS [Bm,B0,B1,B2,.row v6 22 1 ps.length (Kg aa ks6)]→W 6 (bz 11 31) (e1 [(9,(vN ps.length)),(10,(ptr x 0)),(11,(vN i))]) wS:=by
  intro v6 ks6 wS HS
  rw [hW]
  refine wh1 5<|kH 5 O (aJ O (⟨⟨_,HS⟩,?_⟩))
  exact xt 6 O (ptr x 1) HS (fun _ _ HX=>ab O Fa.fN ⟨rfl,rfl⟩)<|xt 7 O (ptr x (1+i * 3)) HS (fun _ _ HX=>cC A143 Fa.iT O O hi9 ⟨rfl,rfl⟩)<|xt 8 O (ptr x ((1+i * 3)+1)) HS (fun _ _ HX=>ab O Fa.um ⟨rfl,rfl⟩)<|xt 9 O (vN (sl.getD i Slt.zero).pg) HS (fun _ _ HX=>aj O (HX.cellO (i:=0) O (gJ (j:=1) h9 hi9 (by decide) O)) A3 O ⟨rfl,rfl⟩)<|xt 10 O (.bool (decide (ps.length>(sl.getD i Slt.zero).pg))) HS (fun _ _ HX=>cm O O ⟨rfl,rfl⟩)<|bh hW (B3 v6 ks6 wS HS)
 have B7: ∀(v6:Value) (ks6:List UInt32) (wS:World),Ke [] w wS [Bm,B0,B1,B2,.row v6 22 1 ps.length (Kg aa ks6)]→W 7 (bz 11 27) (e1 [(8,v6),(10,(ptr x 0)),(11,(vN i))]) wS:=by
  intro v6 ks6 wS HS
  rw [hW]
  refine wh2 2 5 ?_ ?_
  ·
   refine kH 2 O (bu A73 O (HS.arrR (i:=4) O) (⟨⟨_,HS⟩,?_⟩))
   exact bh hW (B6 v6 ks6 wS HS)
  refine kH 5 O (aJ O (⟨⟨_,HS⟩,?_⟩))
  exact xt 6 O (ptr x 1) HS (fun _ _ HX=>ab O Fa.fN ⟨rfl,rfl⟩)<|xt 7 O (ptr x (1+i * 3)) HS (fun _ _ HX=>cC A143 Fa.iT O O hi9 ⟨rfl,rfl⟩)<|xt 8 O (ptr x ((1+i * 3)+1)) HS (fun _ _ HX=>ab O Fa.um ⟨rfl,rfl⟩)<|xt 9 O (vN (sl.getD i Slt.zero).pg) HS (fun _ _ HX=>aj O (HX.cellO (i:=0) O (gJ (j:=1) h9 hi9 (by decide) O)) A3 O ⟨rfl,rfl⟩)<|bh hW (B4 v6 ks6 wS HS)
 have B8: ∀wS,Ke [] w wS [Bm,B0,B1,B2]→W 8 (bz 11 25) (e1 [(7,(ptr s 0)),(10,(ptr x 0)),(11,(vN i))]) wS:=fun wS HS=>by
  rw [hW]
  refine wh2 1 5 ?_ ?_
  ·
   refine kH 1 O (az (Kd 44) O ((pA s mb c ps _ (HS.cellsAtO (i:=1) O) (HS.mpO (i:=2) O) (HS.bsR (i:=3) O) hME hgn).mono (fun e w6 hq=>?_)))
   obtain ⟨v6,ks6,rfl,hk6,hq6⟩:=hq
   refine ⟨_,rfl,?_⟩
   have H6:=HS.splice [] [] [.row v6 22 1 ps.length (Kg aa ks6)] O O hq6 (am ae aI)
   refine ⟨⟨_,H6⟩,?_⟩
   exact bh hW (B7 v6 ks6 w6 H6)
  refine kH 5 O (aJ O (⟨⟨_,HS⟩,?_⟩))
  exact xt 6 O (ptr x 1) HS (fun _ _ HX=>ab O Fa.fN ⟨rfl,rfl⟩)<|xt 7 O (ptr x (1+i * 3)) HS (fun _ _ HX=>cC A143 Fa.iT O O hi9 ⟨rfl,rfl⟩)<|xt 8 O (ptr x ((1+i * 3)+1)) HS (fun _ _ HX=>ab O Fa.um ⟨rfl,rfl⟩)<|xt 9 O (vN (sl.getD i Slt.zero).pg) HS (fun _ _ HX=>aj O (HX.cellO (i:=0) O (gJ (j:=1) h9 hi9 (by decide) O)) A3 O ⟨rfl,rfl⟩)<|bh hW (B5 wS HS)
 have hq:=B8 w1 H1
 rw [hW] at hq ⊢
 exact WH.cv hq
theorem AH (x k:Nat) (pk:UInt32) (hx nv bv:Value) (c:Nat) (pg:UInt32) (hv:Value) (he:List UInt32) (mb cn:Nat) (gs:List Gr) (sl:List Slt) (s mb8 c8:Nat) (ps8:List Pg) (i:Nat) (pc:UInt32) (T:List Nat) (w:World) (H:Ke T w w [.blk x (xoC k sl) 146,Ent.bo k [(aa pk),hx,(ptr c 0),nv,bv,(aa 0)],.blk c [(aa pg),hv,(.map (some mb))] 196,Ent.ar hv 1 he.length (Kg aa he),.obj mb (mP .i64 (Kg Gr.me gs) cn),Ent.bs 199 Gr.cells Gr.b gs,Ent.dp grD.list gs,Ent.dp (bY 211).list sl,Ent.bo s [(.map (some mb8))],Ent.mo .u32 mb8 (Kg Pg.me ps8) c8,Ent.bsO 211 Pg.cells Pg.b ps8]) (hME8:MEok (Kg Pg.me ps8) c8) (hlen8: ∀g∈ps8,g.bs.length=256) (hgn8:ps8.length<2^40) (h9:sl.length=9) (hs:ic sl i=true) (hev:(sl.getD i Slt.zero).ev=none) (hle:ps8.length≤(sl.getD i Slt.zero).pg) :
  Calls Kf 89 #[(ptr x 0),(vN i),(ptr s 0),(aa pc)] w (fun e w'=> ∃a,e=.returned (vN 0)∧(MEok (Kg Pg.me a.ps) a.cn∧(a.ps.map Pg.bare).Perm (ps8.map Pg.bare)∧a.num=i∧a.pc=pc)∧SltTo 211 w sl (sl.set i { sl.getD i Slt.zero with ev:=some a })∧Ke T w w' [.blk x (xoC k (sl.set i { sl.getD i Slt.zero with ev:=some a })) 146,Ent.bo k [(aa pk),hx,(ptr c 0),nv,bv,(aa 0)],.blk c [(aa pg),hv,(.map (some mb))] 196,Ent.ar hv 1 he.length (Kg aa he),.obj mb (mP .i64 (Kg Gr.me gs) cn),Ent.bs 199 Gr.cells Gr.b gs,Ent.dp grD.list gs,Ent.dp (bY 211).list (sl.set i { sl.getD i Slt.zero with ev:=some a }),Ent.bo s [(.map (some mb8))],Ent.mo .u32 mb8 (Kg Pg.me ps8) c8,Ent.bsO 211 Pg.cells Pg.b ps8]):=by
 refine enter Tryz.func89 O O ?_
 have hs9:=je hs
 refine ws<|wa O<|wn<|ap<|aB<|ws<|wm O<|wo (bG Fa.gE O O<|wm O<|wY O (au O<|wY O (bG Fa.pf O O<|wo (aN O O O<|wa O<|wn<|bF O O<|ws<|wm O<|wm O<|wo (az (Kd 104) O ((kU x k sl i _ (H.cellsAt (i:=0) O) h9).mono (fun e w1 hq=>?_)))))))
 obtain ⟨rfl,hf1⟩:=hq
 refine ⟨_,rfl,?_⟩
 have H1:=H.fr' hf1
 refine wo (cQ O<|wa O<|wn<|bF O (by rw [hs]; rfl)<|ws<|wm O<|wm O<|wo (aJ O<|wo (ab O Fa.fN<|wo (cC A143 Fa.iT O O hs9.2.1<|wo (ab O Fa.nU<|wo (aj O (H1.cell (i:=0) O (gJ (j:=2) h9 hs9.2.1 (by decide) (by rw [lm,hev]; rfl))) A140 O<|wo (fy Fa.qE O O<|wa O<|wn<|bF O O<|aA<|aE<|ao<|ap<|ws<|wm O<|wm O<|wm O<|wo (cq H1 (Kd 133) O (Av x k sl s mb8 c8 ps8 i _ (H1.cellsAt (i:=0) O) (H1.cellsAtO (i:=8) O) (H1.mpO (i:=9) O) (H1.bsR (i:=10) O) hME8 hgn8 h9 hs9.2.1 hle) fun w2 H2=>(wn<|bF O O<|aA<|ao<|ws<|wm O<|wm O<|wm O ?_)))))))))
 have hsz:w.heap.size≤w2.heap.size:=H2.fr.size
 refine wo (az (Kd 134) O ((Ac s mb8 c8 ps8 i pc _ (H2.cellsAtO (i:=8) O) (H2.mpO (i:=9) O) (H2.bsR (i:=10) O) hME8 hlen8 hs9.1 (by omega)).mono (fun e w3 hq=>?_)))
 obtain ⟨a3,rfl,hi3,hf3,hq3⟩:=hq
 refine ⟨_,rfl,?_⟩
 have H3:=H2.splice [] [] [Ent.dp (evD 211) a3] O O hq3 (cr hf3 aI)
 refine wm O<|we O O<|we O O<|wa O<|wa O<|wn<|ap<|ws<|wm O<|wo (dk (b:=0) O O<|wn<|bX O (by decide)<|aG<|wm O<|wm O<|wm O<|wo (aJ O<|wo (ab O Fa.fN<|wo (cC A143 Fa.iT O O hs9.2.1<|wo (ab O Fa.nU<|wo (xJ (j:=0) (a:=a3) H3 h9 hs9.2.1 O O O Fa.Iu (fun w4 H4=>(wn<|ws<|wm O<|wa O<|wn<|aC<|aD (.tmp O .nil) ?_))))))))
 have h3:=Owl.Own.dpWith (D:=bY 211) (l:=sl) (l':=sl.set i { sl.getD i Slt.zero with ev:=some a3 }) (a:={ sl.getD i Slt.zero with ev:=some a3 }) (i:=7) (j:=11) H4 O O (fun w h h2=>ln h h2) wj
 exact ⟨a3,rfl,hi3,SltTo.set (fun b hb=>Nat.le_trans hsz (hf3 b hb)),h3.sel [0,1,2,3,4,5,6,12,8,9,10] O O⟩
end Go.Proofs.YtbjhccnffacbcaaGreat
