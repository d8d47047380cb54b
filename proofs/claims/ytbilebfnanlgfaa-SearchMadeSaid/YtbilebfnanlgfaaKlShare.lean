/- Rows that share an array: 'append' leaves alone what is ahead. -/
import Derived.Test.YtbilebfnanlgfaaKlHeap
namespace Go.KL
open Go.RowKit
variable {P : Program}

variable {d : Option Tmp} {ty : TypeId} {pos : String} {af : Array Edge} {g : Option (Nat × Bool)} {a : Act} {σ : GW}

end Go.KL
