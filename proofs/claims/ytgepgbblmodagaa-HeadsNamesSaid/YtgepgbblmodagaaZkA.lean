/- Layer 20: what is known ahead: the machine has run 'awake' to its end (in stages: ZkA0 .. ZkA6). -/
import Derived.Test.YtgepgbblmodagaaZkA6
set_option maxRecDepth 100000
namespace Go.Zy
open Go Go.Sim Go.Proofs Go.RowKit
theorem known0 (w:World):Calls Try.prog 17 #[] w fun e w'=>e=.returned (.bool true)∧Below w.heap.size w w':=
  calls_true named mixed (fun f v h=>by cases h) (args0:=#[]) (awake w.heap) vrs_nil
end Go.Zy
namespace Go.Zt
open Go Go.Sim Go.Proofs Go.RowKit
theorem named:Named Try.prog:=Go.Zy.named
theorem mixed:Try.prog.follows .mixedOrders=true:=Go.Zy.mixed
instance:Orc Try.prog:=⟨[(17,.bool true)]⟩
theorem known:Known Try.prog (Orc.tab Try.prog):=by
  intro f v h
  have h':(match f == 17 with | true=>some (Value.bool true) | false=>none)=some v:=h
  cases hf:f == 17 with
  | true=>
    rw [hf] at h'
    obtain rfl:=Option.some.inj h'
    obtain rfl:=eq_of_beq hf
    exact ⟨rfl,fun w=>Go.Zy.known0 w⟩
  | false=>rw [hf] at h'; cases h'
end Go.Zt
