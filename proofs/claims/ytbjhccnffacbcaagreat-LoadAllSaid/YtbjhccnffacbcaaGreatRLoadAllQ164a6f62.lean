/- The claim's row and what it hangs on: RLoadAll. No condition but what each theorem names. -/
import Derived.Test.YtbjhccnffacbcaaGreatQ7cb26bab
import Derived.Test.YtbjhccnffacbcaaGreatQcb9860f8
import Derived.Test.YtbjhccnffacbcaaGreatRows
set_option maxRecDepth 100000
set_option maxHeartbeats 8000000
namespace Go.Proofs.YtbjhccnffacbcaaGreat
open Go.Owl Go.Spec Go.ChangeShapes Go.WideShapes Go.RowKit
theorem loadAll_own:ownKnob Tryz.prog.godebug=none:=by kernel_rfl
theorem loadAll_laidOut:laidOutB Tryz.prog=true:=by kernel_rfl
theorem loadAll_lifted (os:Os) (started:os.Started) (H:Type) (enc:TypeId × Value→H) :
    ReturnsInHanded {} Tryz.checked os 7 .any (Rows.loadAllSpec.pre6 enc Tryz.prog Tryz.f7 Rows.loadAllRow.domain false) (Rows.loadAllSpec.post enc Tryz.prog Tryz.f7 false true false false):=by
  refine row_sized (C:=Tryz.checked) (tb:=4) loadAll_own started (by kernel_rfl) Tryz.func7
    (ChangeSpec.witness6 (enc:=enc) (C:=Tryz.checked) false ⟨#[],#[.agg #[.int .u32 0,.slice none 0 0],.string ⟨#[]⟩,.slice none 0 0],[]⟩ 8 (by kernel_rfl) (by kernel_rfl) (by kernel_rfl) (by kernel_rfl))
    loadAll_laidOut rfl rfl ?_ rfl Tryz.underlying4 (by kernel_rfl) ?_
  · intro ds h
    match ds,h with
    | [_,_,_],_=>exact ⟨rfl,rfl,rfl⟩
  · intro W base args ds ps hval0 hA0 hwt0
    have hval: ∀(j:Nat) t v,Tryz.f7.params[j]?=some t→args[j]?=some v→Value.okWide Tryz.prog W .any base t v:=hval0
    have hA:DataW.TrodAll enc Tryz.prog W 0 (fun _=>true) true Tryz.f7.params.toList args.toList ds ps:=hA0
    have hwt: ∀k∈DataW.weightsEach Tryz.prog Tryz.f7.params.toList ds,k≤reachBytes:=hwt0
    clear hA0 hval0 hwt0
    rw [Tryz.params7] at hA hval hwt
    obtain ⟨al⟩:=args
    obtain ⟨v0,r0,d0,e0,p0,q0,hal,rfl,rfl,h0,hA0⟩:=trodAll_cons hA
    have hal:al=v0::r0:=hal
    subst hal
    obtain ⟨v1,r1,d1,e1,p1,q1,rfl,rfl,rfl,h1,hA1⟩:=trodAll_cons hA0
    obtain ⟨v2,r2,d2,e2,p2,q2,rfl,rfl,rfl,h2,hA2⟩:=trodAll_cons hA1
    obtain ⟨rfl,rfl,rfl⟩:=trodAll_nil hA2
    obtain ⟨⟨pg,⟨hev,he⟩,⟨⟩⟩,rfl,⟨-, ⟨hH, -, hn⟩, -⟩⟩:=arg_struct Tryz.underlying75 (opens_struct (fs:=[_,_]) Tryz.underlying75 (by kernel_rfl) (opensF_cons (k:=1) (by rfl) (by kernel_rfl) (opens_u32 Tryz.underlying22) (opensF_cons (k:=1) (by rfl) (by kernel_rfl) (opens_slice1 (by_:=4) Tryz.underlying73 (opens_u32 Tryz.underlying22) (by kernel_rfl) (by kernel_rfl)) opensF_nil))) (hval 0 75 v0 rfl rfl) h0 (fun k hk=>hwt k (List.mem_append.2 (.inl hk)))
    obtain ⟨key,rfl,hk⟩:=arg_scal (opens_str Tryz.underlying9) (by rw [Tryz.underlying9]) (hval 1 9 v1 rfl rfl) h1 (fun k hk=>hwt k (List.mem_append.2 (.inr (List.mem_append.2 (.inl hk)))))
    obtain ⟨⟨lv,l⟩,rfl,hAl,hBl,hnl⟩:=arg_scal (opens_slice1 (by_:=16) Tryz.underlying59 (opens_str Tryz.underlying9) (by kernel_rfl) (by kernel_rfl)) (by rw [Tryz.underlying59]) (hval 2 59 v2 rfl rfl) h2 (fun k hk=>hwt k (List.mem_append.2 (.inr (List.mem_append.2 (.inr (List.mem_append.2 (.inl hk)))))))
    exact loadAll_ok pg hev he key v2 l W hH hAl hBl hk (by have h:he.length * 4≤140737488351232:=hn; omega) (by have h:l.length * 16≤140737488351232:=hnl; omega)
theorem loadAll_holds:Rows.LoadAllSaid :=
 OpenClaim.holds_of_wide 7 Tryz.f7 rfl rfl rfl rfl rfl rfl rfl ⟨rfl,rfl,rfl,rfl,rfl⟩ rfl rfl rfl rfl rfl (by kernel_rfl) Tryz.func7 (by kernel_rfl)
  (dT (by kernel_rfl)) (by unfold Func.isWrapper; rw [if_neg (dF (by kernel_rfl))]; exact ⟨rfl,rfl⟩)
  (fun os started H enc _=>loadAll_lifted os started H enc)
end Go.Proofs.YtbjhccnffacbcaaGreat
