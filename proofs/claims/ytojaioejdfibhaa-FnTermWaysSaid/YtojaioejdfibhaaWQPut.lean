/- Words of the walks: of the lemmas that the kit's print tool lays beside a claim, those that the texts of this claim use. No condition but those that each states. -/
import Derived.Test.YtojaioejdfibhaaWWords
import Derived.Test.YtojaioejdfibhaaWLast
namespace Go.Proofs.YtojaioejdfibhaaW.PrintWords
open Go.RowKit
namespace Kd
section
variable {α : Type} {d : Kd α} {e base g o n cap : Nat} {ok okp : Nat → Prop} {w W : World} {v : Value} {xs : List α}
end
section
variable {α : Type} {enc : α → Value} {h1 : ∀ x, (enc x).oneCell' = true} {e base g o n cap : Nat} {ok : Nat → Prop} {W : World} {xs : List α}
end
end Kd
end Go.Proofs.YtojaioejdfibhaaW.PrintWords
