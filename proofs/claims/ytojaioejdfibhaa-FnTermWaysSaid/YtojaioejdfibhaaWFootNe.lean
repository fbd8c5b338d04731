/- Words of the walks: of the lemmas that the kit's print tool lays beside a claim, those that the texts of this claim use. No condition but those that each states. -/
import Derived.Test.YtojaioejdfibhaaWN
namespace Go.Proofs.YtojaioejdfibhaaW.PrintWords
open Go.RowKit
namespace Kd
section
variable {α : Type} {d : Kd α} {W : World} {g n : Nat} {S ok : Nat → Prop} {A : Option Addr} {ad : Addr} {xs : List α}
end
end Kd
end Go.Proofs.YtojaioejdfibhaaW.PrintWords
