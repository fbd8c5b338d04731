/- Words of the walks: of the lemmas that the kit's print tool lays beside a claim, those that the texts of this claim use. No condition but those that each states. -/
import Derived.Test.YtojaioejdfibhaaWTab
namespace Go.Proofs.YtojaioejdfibhaaW.PrintLast
section
variable {P : Program} {ops : Array Oper} {Q : Exit → Act → World → Prop} {md : Region.Mode} {S : World → Prop} {ds : List Nat} {T : Bool × List (List Nat × List Nat)}
end
end Go.Proofs.YtojaioejdfibhaaW.PrintLast
