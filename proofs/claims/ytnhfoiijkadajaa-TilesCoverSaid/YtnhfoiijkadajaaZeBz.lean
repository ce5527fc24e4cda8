/- A grid's noughts. -/
import Derived.Test.YtnhfoiijkadajaaZeA
namespace Go.Zt
open Go Go.Sim Go.Proofs
noncomputable abbrev zc1024 : Array Value := (List.replicate 1024 (Value.int .i64 0)).toArray
end Go.Zt

