/- Words of the walks: of the lemmas that the kit's print tool lays beside a claim, those that the texts of this claim use. No condition but those that each states. -/
import Derived.Test.YtojaioejdfibhaaWInv
import Derived.Test.YtojaioejdfibhaaWFootNe
namespace Go.Proofs.YtojaioejdfibhaaW.PrintWords
open Go.RowKit
end Go.Proofs.YtojaioejdfibhaaW.PrintWords
namespace Go.Proofs.YtojaioejdfibhaaW.PrintLast
section
variable {ops : Array Oper} {a : Act} {o og : Oper} {g : Nat} {t : Tmp} {u : Bool}
end
end Go.Proofs.YtojaioejdfibhaaW.PrintLast
