/- The claim's row and what it hangs on: RSlotsBoots. No condition but what each theorem names. -/
import Derived.Test.YtbjhccnffacbcaaGreatQedabfa33
import Derived.Test.YtbjhccnffacbcaaGreatQa8c57553
import Derived.Test.YtbjhccnffacbcaaGreatRows
set_option maxRecDepth 100000
set_option maxHeartbeats 8000000
namespace Go.Proofs.YtbjhccnffacbcaaGreat
open Go.Owl Go.Spec Go.ChangeShapes Go.WideShapes Go.RowKit
theorem slotsBoots_own:ownKnob Tryz.prog.godebug=none:=by kernel_rfl
theorem slotsBoots_laidOut:laidOutB Tryz.prog=true:=by kernel_rfl
theorem slotsBoots_lifted (os:Os) (started:os.Started) (H:Type) (enc:TypeId × Value→H) :
    ReturnsInHanded {} Tryz.checked os 4 .any (Rows.slotsBootsSpec.pre6 enc Tryz.prog Tryz.f4 Rows.slotsBootsRow.domain false) (Rows.slotsBootsSpec.post enc Tryz.prog Tryz.f4 false true false false):=by
  refine row_sized (C:=Tryz.checked) (tb:=4) slotsBoots_own started (by kernel_rfl) Tryz.func4
    (ChangeSpec.witness6 (enc:=enc) (C:=Tryz.checked) false ⟨#[],#[.string ⟨#[]⟩,.agg #[.int .u32 0,.slice none 0 0,.slice none 0 0,.bool false,.int .u32 0,.slice none 0 0],.string ⟨#[]⟩,.bool false],[]⟩ 8 (by kernel_rfl) (by kernel_rfl) (by kernel_rfl) (by kernel_rfl))
    slotsBoots_laidOut rfl rfl ?_ rfl Tryz.underlying4 (by kernel_rfl) ?_
  · intro ds h
    match ds,h with
    | [_,_,_,_],_=>exact ⟨rfl,rfl,rfl⟩
  · intro W base args ds ps hval0 hA0 hwt0
    have hval: ∀(j:Nat) t v,Tryz.f4.params[j]?=some t→args[j]?=some v→Value.okWide Tryz.prog W .any base t v:=hval0
    have hA:DataW.TrodAll enc Tryz.prog W 0 (fun _=>true) true Tryz.f4.params.toList args.toList ds ps:=hA0
    have hwt: ∀k∈DataW.weightsEach Tryz.prog Tryz.f4.params.toList ds,k≤reachBytes:=hwt0
    clear hA0 hval0 hwt0
    rw [Tryz.params4] at hA hval hwt
    obtain ⟨al⟩:=args
    obtain ⟨v0,r0,d0,e0,p0,q0,hal,rfl,rfl,h0,hA0⟩:=trodAll_cons hA
    have hal:al=v0::r0:=hal
    subst hal
    obtain ⟨v1,r1,d1,e1,p1,q1,rfl,rfl,rfl,h1,hA1⟩:=trodAll_cons hA0
    obtain ⟨v2,r2,d2,e2,p2,q2,rfl,rfl,rfl,h2,hA2⟩:=trodAll_cons hA1
    obtain ⟨v3,r3,d3,e3,p3,q3,rfl,rfl,rfl,h3,hA3⟩:=trodAll_cons hA2
    obtain ⟨rfl,rfl,rfl⟩:=trodAll_nil hA3
    obtain ⟨key,rfl,hk⟩:=arg_scal (opens_str Tryz.underlying9) (by rw [Tryz.underlying9]) (hval 0 9 v0 rfl rfl) h0 (fun k hk=>hwt k (List.mem_append.2 (.inl hk)))
    obtain ⟨⟨⟨pg1,⟨ev1,xs1⟩,⟨pv1,ps1⟩,c1,⟨⟩⟩,en1,⟨sv1,sg1⟩,⟨⟩⟩,rfl,⟨⟨-, ⟨hE1, -, hn1⟩,⟨hP1, -, hm1⟩, -, -⟩, -, ⟨hS1,hB1,hk1⟩, -⟩⟩:=arg_struct Tryz.underlying43 (opens_struct (fs:=[_,_,_]) Tryz.underlying43 (by kernel_rfl) (opensF_cons (k:=4) (by rfl) (by kernel_rfl) (opens_struct (fs:=[_,_,_,_]) Tryz.underlying40 (by kernel_rfl) (opensF_cons (k:=1) (by rfl) (by kernel_rfl) (opens_u32 Tryz.underlying22) (opensF_cons (k:=1) (by rfl) (by kernel_rfl) (opens_slice (by_:=8) (sz:=2) Tryz.underlying37 (Opens.map (opens_struct (fs:=[_,_]) Tryz.underlying207 (by kernel_rfl) (opensF_cons (k:=1) (by rfl) (by kernel_rfl) (opens_u32 Tryz.underlying22) (opensF_cons (k:=1) (by rfl) (by kernel_rfl) (opens_u32 Tryz.underlying22) opensF_nil))) (f':=xtc) (ok':=fun _ _=>True) (fun p=>Xt.mk p.1 p.2.1) (fun _=>rfl) (fun _ _ _=>True.intro)) (fun _=>rfl) (by kernel_rfl) (by decide) (by kernel_rfl)) (opensF_cons (k:=1) (by rfl) (by kernel_rfl) (opens_slice1 (by_:=2) Tryz.underlying38 (opens_u16 Tryz.underlying203) (by kernel_rfl) (by kernel_rfl)) (opensF_cons (k:=1) (by rfl) (by kernel_rfl) (opens_bool Tryz.underlying4) opensF_nil))))) (opensF_cons (k:=1) (by rfl) (by kernel_rfl) (opens_u32 Tryz.underlying22) (opensF_cons (k:=1) (by rfl) (by kernel_rfl) (opens_slice (by_:=24) (sz:=3) Tryz.underlying41 (Opens.map (opens_struct (fs:=[_,_,_]) Tryz.underlying116 (by kernel_rfl) (opensF_cons (k:=1) (by rfl) (by kernel_rfl) (opens_u32 Tryz.underlying22) (opensF_cons (k:=1) (by rfl) (by kernel_rfl) (opens_u8 Tryz.underlying5) (opensF_cons (k:=1) (by rfl) (by kernel_rfl) (opens_str Tryz.underlying9) opensF_nil)))) (f':=sgc) (ok':=fun _ a=>a.b.length≤140737488351232) (fun p=>Sg.mk p.1 p.2.1 p.2.2.1) (fun _=>rfl) (fun _ _ h=>h.2.2.1)) (fun _=>rfl) (by kernel_rfl) (by decide) (by kernel_rfl)) opensF_nil)))) (hval 1 43 v1 rfl rfl) h1 (fun k hk=>hwt k (List.mem_append.2 (.inr (List.mem_append.2 (.inl hk)))))
    obtain ⟨text,rfl, -⟩:=arg_scal (opens_str Tryz.underlying9) (by rw [Tryz.underlying9]) (hval 2 9 v2 rfl rfl) h2 (fun k hk=>hwt k (List.mem_append.2 (.inr (List.mem_append.2 (.inr (List.mem_append.2 (.inl hk)))))))
    obtain ⟨sealed,rfl, -⟩:=arg_scal (opens_bool Tryz.underlying4) (by rw [Tryz.underlying4]) (hval 3 4 v3 rfl rfl) h3 (fun k hk=>hwt k (List.mem_append.2 (.inr (List.mem_append.2 (.inr (List.mem_append.2 (.inr (List.mem_append.2 (.inl hk)))))))))
    exact slotsBoots_ok key pg1 ev1 pv1 sv1 xs1 ps1 c1 en1 sg1 text sealed W hE1 hP1 hS1 (by have h:xs1.length * 8≤140737488351232:=hn1; omega) (by have h:ps1.length * 2≤140737488351232:=hm1; omega) (by have h:sg1.length * 24≤140737488351232:=hk1; omega) hB1 hk
theorem slotsBoots_holds:Rows.SlotsBootsSaid :=
 OpenClaim.holds_of_wide 4 Tryz.f4 rfl rfl rfl rfl rfl rfl rfl ⟨rfl,rfl,rfl,rfl,rfl⟩ rfl rfl rfl rfl rfl (by kernel_rfl) Tryz.func4 (by kernel_rfl)
  (dT (by kernel_rfl)) (by unfold Func.isWrapper; rw [if_neg (dF (by kernel_rfl))]; exact ⟨rfl,rfl⟩)
  (fun os started H enc _=>slotsBoots_lifted os started H enc)
end Go.Proofs.YtbjhccnffacbcaaGreat
