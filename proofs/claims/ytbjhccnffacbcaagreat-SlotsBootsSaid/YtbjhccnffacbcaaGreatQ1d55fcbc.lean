/- General lemmas and walks: Owl34. No condition but what each theorem names. -/
import Derived.Test.YtbjhccnffacbcaaGreatQ36a60414
import Derived.Test.YtbjhccnffacbcaaGreatQ8b263436
namespace Go.Spec
end Go.Spec
namespace Go.Owl
open Go.Spec
section
variable {P:Program} {n:Nat} {D:List Deferred} {ρ:Env} {w:World} {R:Value→World→Prop} {dst:Option Tmp} {ty:TypeId} {pos:String} {af:Array Edge} {g:Option (Nat × Bool)} {t t':TypeId} {x y:Operand}
end
end Go.Owl
