/- General lemmas and walks. No condition but what each theorem names. -/
import Derived.Test.YtbjhccnffacbcaaGreatQa576578f
import Derived.Test.YtbjhccnffacbcaaGreatQ70044d33
set_option maxRecDepth 100000
set_option maxHeartbeats 8000000
namespace Go.Spec
end Go.Spec
namespace Go.Owl
open Go.Spec
section
variable {P:Program} {n:Nat} {D:List Deferred} {ρ:Env} {w:World} {R:Value→World→Prop} {dst:Option Tmp} {ty:TypeId} {pos:String} {af:Array Edge} {g:Option (Nat × Bool)} {t t':TypeId} {x y:Operand}
end
end Go.Owl
