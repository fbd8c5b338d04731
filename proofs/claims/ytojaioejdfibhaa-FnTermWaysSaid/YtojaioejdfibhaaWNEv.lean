/- Words of the walks: of the lemmas that the kit's print tool lays beside a claim, those that the texts of this claim use. No condition but those that each states. -/
import Derived.Test.YtojaioejdfibhaaWN
namespace Go.Proofs.YtojaioejdfibhaaW.PrintWords
open Go.RowKit
namespace Kd
section
variable {α : Type} {d : Kd α} {e base n cap g : Nat} {ok ok' okp : Nat → Prop} {w w1 W : World} {v v1 : Value} {xs ys : List α}
end
section
variable {P : Program} {ops : Array Oper} {rest : List Oper} {o : Oper} {a : Act} {Q : Exit → Act → World → Prop} {Kc : Act → World → Prop} {α : Type}
end
end Kd
end Go.Proofs.YtojaioejdfibhaaW.PrintWords
