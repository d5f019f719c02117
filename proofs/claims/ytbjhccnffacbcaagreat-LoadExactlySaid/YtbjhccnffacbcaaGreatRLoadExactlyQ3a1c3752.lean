/- The claim's row and what it hangs on. No condition but what each theorem names. -/
import Derived.Test.YtbjhccnffacbcaaGreatQ231f7f09
import Derived.Test.YtbjhccnffacbcaaGreatQc70aff79
import Derived.Test.YtbjhccnffacbcaaGreatRows
set_option maxRecDepth 100000
set_option maxHeartbeats 8000000
open Go.Owl renaming Own→Ke
open Go.Proofs.Tryz renaming prog→Kf
open List renaming map→Kg
open List renaming flatMap→Kh
open List renaming replicate→Ki
open List renaming length_append→Kj
open Nat renaming zero_le→Kk
open UInt32 renaming ofNat→Kl
open UInt16 renaming ofNat→Km
open UInt64 renaming ofNat→Kn
namespace Go.Proofs.YtbjhccnffacbcaaGreat
open Go.Owl Go.Spec Go.ChangeShapes Go.WideShapes Go.RowKit
theorem rO:ownKnob Tryz.prog.godebug=none:=by kernel_rfl
theorem pr:laidOutB Kf=true:=by kernel_rfl
theorem loadExactly_lifted (os:Os) (started:os.Started) (H:Type) (enc:TypeId × Value→H) :
    ReturnsInHanded {} Tryz.checked os 9 .any (Rows.loadExactlySpec.pre6 enc Kf Tryz.f9 Rows.loadExactlyRow.domain false) (Rows.loadExactlySpec.post enc Kf Tryz.f9 false true false false):=by
  refine ze (C:=Tryz.checked) (tb:=4) rO started (by kernel_rfl) Tryz.func9
    (ChangeSpec.witness6 (enc:=enc) (C:=Tryz.checked) false ⟨#[],#[.agg #[.int .u32 0,.slice none 0 0],.string ⟨#[]⟩,.slice none 0 0,.slice none 0 0],[]⟩ 8 (by kernel_rfl) (by kernel_rfl) (by kernel_rfl) (by kernel_rfl))
    pr O O ?_ O A4 (by kernel_rfl) ?_
  · intro ds h
    match ds,h with
    | [_,_,_,_],_=>exact ⟨rfl,rfl,rfl⟩
  · intro W base args ds ps hval0 hA0 hwt0
    have hval: ∀(j:Nat) t v,Tryz.f9.params[j]?=some t→args[j]?=some v→Value.okWide Kf W .any base t v:=hval0
    have hA:DataW.TrodAll enc Kf W 0 (fun _=>true) true Tryz.f9.params.toList args.toList ds ps:=hA0
    have hwt: ∀k∈DataW.weightsEach Kf Tryz.f9.params.toList ds,k≤reachBytes:=hwt0
    clear hA0 hval0 hwt0
    rw [Tryz.params9] at hA hval hwt
    obtain ⟨al⟩:=args
    obtain ⟨v0,r0,d0,e0,p0,q0,hal,rfl,rfl,h0,hA0⟩:=trodAll_cons hA
    have hal:al=v0::r0:=hal
    subst hal
    obtain ⟨v1,r1,d1,e1,p1,q1,rfl,rfl,rfl,h1,hA1⟩:=trodAll_cons hA0
    obtain ⟨v2,r2,d2,e2,p2,q2,rfl,rfl,rfl,h2,hA2⟩:=trodAll_cons hA1
    obtain ⟨v3,r3,d3,e3,p3,q3,rfl,rfl,rfl,h3,hA3⟩:=trodAll_cons hA2
    obtain ⟨rfl,rfl,rfl⟩:=trodAll_nil hA3
    obtain ⟨⟨pg,⟨hev,he⟩,⟨⟩⟩,rfl,⟨-, ⟨hH, -, hn⟩, -⟩⟩:=yx A75 (vd (fs:=[_,_]) A75 (by kernel_rfl) (oD (k:=1) (by rfl) (by kernel_rfl) (rf A22) (oD (k:=1) (by rfl) (by kernel_rfl) (jJ (by_:=4) A73 (rf A22) (by kernel_rfl) (by kernel_rfl)) xI))) (hval 0 75 v0 O O) h0 (fun k hk=>hwt k (List.mem_append.2 (.inl hk)))
    obtain ⟨key,rfl,hk⟩:=pd (rg A9) (by rw [A9]) (hval 1 9 v1 O O) h1 (fun k hk=>hwt k (List.mem_append.2 (.inr (List.mem_append.2 (.inl hk)))))
    obtain ⟨⟨lv,l⟩,rfl,hAl,hBl,hnl⟩:=pd (jJ (by_:=16) A59 (rg A9) (by kernel_rfl) (by kernel_rfl)) (by rw [A59]) (hval 2 59 v2 O O) h2 (fun k hk=>hwt k (List.mem_append.2 (.inr (List.mem_append.2 (.inr (List.mem_append.2 (.inl hk)))))))
    obtain ⟨⟨gv,g⟩,rfl,hG, -, hng⟩:=pd (jJ (by_:=8) A83 (zw A3) (by kernel_rfl) (by kernel_rfl)) (by rw [A83]) (hval 3 83 v3 O O) h3 (fun k hk=>hwt k (List.mem_append.2 (.inr (List.mem_append.2 (.inr (List.mem_append.2 (.inr (List.mem_append.2 (.inl hk)))))))))
    exact tj pg hev he key v2 l v3 g W hH hAl hBl hk (by have h:he.length * 4≤140737488351232:=hn; omega) (by have h:l.length * 16≤140737488351232:=hnl; omega) hG (by have h:g.length * 8≤140737488351232:=hng; omega)
theorem loadExactly_holds:Rows.LoadExactlySaid :=
 OpenClaim.holds_of_wide 9 Tryz.f9 O O O O O O O ⟨rfl,rfl,rfl,rfl,rfl⟩ O O O O O (by kernel_rfl) Tryz.func9 (by kernel_rfl)
  (dT (by kernel_rfl)) (by unfold Func.isWrapper; rw [if_neg (dF (by kernel_rfl))]; exact ⟨rfl,rfl⟩)
  (fun os started H enc _=>loadExactly_lifted os started H enc)
end Go.Proofs.YtbjhccnffacbcaaGreat
