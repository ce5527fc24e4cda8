/-
  No cell of these rows narrows 'for every input' (looked for: loops, veiled, ifaces, maps, wideKeys, modest, calm, conditions, laid).
  DERIVED. THE GIVEN ROWS OF THIS SEAT. 7 by the template 'for every input the law returns true; each argument reads behind the call as it read before'; 0 by the template 'total and deterministic' (their statements: YtbbdggpfhcgbpaaTotals.lean).
  GIVEN WITH THE SEED: the statements are not yours to turn. If you find one false, say at which input.
  Laid BY PROGRAM, IN A SANDBOX (cutbox-rows.mjs): the forced cells as the released guide's own fill.sh prints them over the translation 34cd995d105bbbf1… (all of the seat's roots in one cut). By AI agents, Wed Nov 11 2026. No macro, syntax, notation, axiom, sorry.
-/
import Derived.Test.YtbbdggpfhcgbpaaChecked
import GoSem.Claim
import GoSem.ClaimJoined
import GoSem.ClaimMapViews
import Derived.JoinedTies
import Derived.KernelRfl
namespace Go.Proofs.Ytbbdggpfhcgbpaa
/- THE CELL 'sum', in the pinned program and in every row, IS THE sha256 OF THE DUMP (.gsa) THAT YtbbdggpfhcgbpaaProg.lean LOADS. Nothing in Lean hashes anything: it is a label: what it is worth is what the hold of that sum in a sandbox is worth. -/
noncomputable def Try.pinned : Pinned := { name := "ytbbdggpfhcgbpaa", sum := "34cd995d105bbbf14969df0fe152e212cff894bcba32acee4dc9851002bd24bf", checked := Try.checked }
namespace Rows
def none {H : Type} : Left H := { results := [], args := [] }

/-- 'zoetropelaw19.UnitsSplits': WHATEVER THE INPUT: true; the input reads as it did. -/
def unitsSplitsSpec : ChangeSpec := { name := "unitsSplits", fn := fun _ => fun
  | [d] => { results := [.lit (.bool true)], args := [d] }
  | _ => none }
def unitsSplitsRow : OpenClaim := { program := "ytbbdggpfhcgbpaa", sum := "34cd995d105bbbf14969df0fe152e212cff894bcba32acee4dc9851002bd24bf", func := "zoetrope/zoetropelaw19.UnitsSplits", spec := "unitsSplits", apart := false }
def UnitsSplitsSaid : Prop := unitsSplitsRow.holds Try.pinned (OpenSpec.ofChange unitsSplitsSpec)

/-- ITS FALSE NEIGHBOUR: 'it returns false'. Refute it at one input. -/
def unitsSplitsWrong : ChangeSpec := { name := "unitsSplits", fn := fun _ => fun
  | [d] => { results := [.lit (.bool false)], args := [d] }
  | _ => none }
def UnitsSplitsWrongFalsely : Prop := unitsSplitsRow.holds Try.pinned (OpenSpec.ofChange unitsSplitsWrong)

/-- 'zoetropelaw19.UnitsJoins': WHATEVER THE INPUT: true; the input reads as it did. -/
def unitsJoinsSpec : ChangeSpec := { name := "unitsJoins", fn := fun _ => fun
  | [d] => { results := [.lit (.bool true)], args := [d] }
  | _ => none }
def unitsJoinsRow : OpenClaim := { program := "ytbbdggpfhcgbpaa", sum := "34cd995d105bbbf14969df0fe152e212cff894bcba32acee4dc9851002bd24bf", func := "zoetrope/zoetropelaw19.UnitsJoins", spec := "unitsJoins", apart := false }
def UnitsJoinsSaid : Prop := unitsJoinsRow.holds Try.pinned (OpenSpec.ofChange unitsJoinsSpec)

/-- ITS FALSE NEIGHBOUR: 'it returns false'. Refute it at one input. -/
def unitsJoinsWrong : ChangeSpec := { name := "unitsJoins", fn := fun _ => fun
  | [d] => { results := [.lit (.bool false)], args := [d] }
  | _ => none }
def UnitsJoinsWrongFalsely : Prop := unitsJoinsRow.holds Try.pinned (OpenSpec.ofChange unitsJoinsWrong)

/-- 'zoetropelaw19.UnitsGroups': WHATEVER THE INPUT: true; the input reads as it did. -/
def unitsGroupsSpec : ChangeSpec := { name := "unitsGroups", fn := fun _ => fun
  | [d] => { results := [.lit (.bool true)], args := [d] }
  | _ => none }
def unitsGroupsRow : OpenClaim := { program := "ytbbdggpfhcgbpaa", sum := "34cd995d105bbbf14969df0fe152e212cff894bcba32acee4dc9851002bd24bf", func := "zoetrope/zoetropelaw19.UnitsGroups", spec := "unitsGroups", apart := false }
def UnitsGroupsSaid : Prop := unitsGroupsRow.holds Try.pinned (OpenSpec.ofChange unitsGroupsSpec)

/-- ITS FALSE NEIGHBOUR: 'it returns false'. Refute it at one input. -/
def unitsGroupsWrong : ChangeSpec := { name := "unitsGroups", fn := fun _ => fun
  | [d] => { results := [.lit (.bool false)], args := [d] }
  | _ => none }
def UnitsGroupsWrongFalsely : Prop := unitsGroupsRow.holds Try.pinned (OpenSpec.ofChange unitsGroupsWrong)

/-- 'zoetropelaw19.UnitsBack': WHATEVER THE INPUT: true; the input reads as it did. -/
def unitsBackSpec : ChangeSpec := { name := "unitsBack", fn := fun _ => fun
  | [d1, d2] => { results := [.lit (.bool true)], args := [d1, d2] }
  | _ => none }
def unitsBackRow : OpenClaim := { program := "ytbbdggpfhcgbpaa", sum := "34cd995d105bbbf14969df0fe152e212cff894bcba32acee4dc9851002bd24bf", func := "zoetrope/zoetropelaw19.UnitsBack", spec := "unitsBack", apart := false }
def UnitsBackSaid : Prop := unitsBackRow.holds Try.pinned (OpenSpec.ofChange unitsBackSpec)

/-- ITS FALSE NEIGHBOUR: 'it returns false'. Refute it at one input. -/
def unitsBackWrong : ChangeSpec := { name := "unitsBack", fn := fun _ => fun
  | [d1, d2] => { results := [.lit (.bool false)], args := [d1, d2] }
  | _ => none }
def UnitsBackWrongFalsely : Prop := unitsBackRow.holds Try.pinned (OpenSpec.ofChange unitsBackWrong)

/-- 'zoetropelaw19.UnitsAhead': WHATEVER THE INPUT: true; the input reads as it did. -/
def unitsAheadSpec : ChangeSpec := { name := "unitsAhead", fn := fun _ => fun
  | [d1, d2, d3] => { results := [.lit (.bool true)], args := [d1, d2, d3] }
  | _ => none }
def unitsAheadRow : OpenClaim := { program := "ytbbdggpfhcgbpaa", sum := "34cd995d105bbbf14969df0fe152e212cff894bcba32acee4dc9851002bd24bf", func := "zoetrope/zoetropelaw19.UnitsAhead", spec := "unitsAhead", apart := false }
def UnitsAheadSaid : Prop := unitsAheadRow.holds Try.pinned (OpenSpec.ofChange unitsAheadSpec)

/-- ITS FALSE NEIGHBOUR: 'it returns false'. Refute it at one input. -/
def unitsAheadWrong : ChangeSpec := { name := "unitsAhead", fn := fun _ => fun
  | [d1, d2, d3] => { results := [.lit (.bool false)], args := [d1, d2, d3] }
  | _ => none }
def UnitsAheadWrongFalsely : Prop := unitsAheadRow.holds Try.pinned (OpenSpec.ofChange unitsAheadWrong)

/-- 'zoetropelaw19.UnitsAll': WHATEVER THE INPUT: true; the input reads as it did. -/
def unitsAllSpec : ChangeSpec := { name := "unitsAll", fn := fun _ => fun
  | [d] => { results := [.lit (.bool true)], args := [d] }
  | _ => none }
def unitsAllRow : OpenClaim := { program := "ytbbdggpfhcgbpaa", sum := "34cd995d105bbbf14969df0fe152e212cff894bcba32acee4dc9851002bd24bf", func := "zoetrope/zoetropelaw19.UnitsAll", spec := "unitsAll", apart := false }
def UnitsAllSaid : Prop := unitsAllRow.holds Try.pinned (OpenSpec.ofChange unitsAllSpec)

/-- ITS FALSE NEIGHBOUR: 'it returns false'. Refute it at one input. -/
def unitsAllWrong : ChangeSpec := { name := "unitsAll", fn := fun _ => fun
  | [d] => { results := [.lit (.bool false)], args := [d] }
  | _ => none }
def UnitsAllWrongFalsely : Prop := unitsAllRow.holds Try.pinned (OpenSpec.ofChange unitsAllWrong)

/-- 'zoetropelaw19.UnitsKnown': WHATEVER THE INPUT: true; the input reads as it did. -/
def unitsKnownSpec : ChangeSpec := { name := "unitsKnown", fn := fun _ => fun
  | [] => { results := [.lit (.bool true)], args := [] }
  | _ => none }
def unitsKnownRow : OpenClaim := { program := "ytbbdggpfhcgbpaa", sum := "34cd995d105bbbf14969df0fe152e212cff894bcba32acee4dc9851002bd24bf", func := "zoetrope/zoetropelaw19.UnitsKnown", spec := "unitsKnown", apart := false }
def UnitsKnownSaid : Prop := unitsKnownRow.holds Try.pinned (OpenSpec.ofChange unitsKnownSpec)

/-- ITS FALSE NEIGHBOUR: 'it returns false'. Refute it at one input. -/
def unitsKnownWrong : ChangeSpec := { name := "unitsKnown", fn := fun _ => fun
  | [] => { results := [.lit (.bool false)], args := [] }
  | _ => none }
def UnitsKnownWrongFalsely : Prop := unitsKnownRow.holds Try.pinned (OpenSpec.ofChange unitsKnownWrong)

/- THE SECOND FORM. 'bulk': how many values and letters a reading holds, each counted each time it is reached (what is shared counts as often as it is met; a slice's spare places count too). A statement '..UptoSaid' is the law's where the arguments, and the package variables that the reading takes, are together of bulk at most 1048576: NARROWER than '..Said'. Prove '..Said' where nothing that the law and all that it calls make is longer than what came in: it says more and counts as full. Else prove '..UptoSaid'. A law counts once. -/
mutual
def uptoBulk {H : Type} : DataW H → Nat
  | .lit (.string bytes) => bytes.length + 1
  | .lit _ => 1
  | .nil => 1
  | .ptr d => uptoBulk d + 1
  | .slice elems spare => uptoBulkAll elems + uptoBulkAll spare + 1
  | .agg parts => uptoBulkAll parts + 1
  | .iface _ d => uptoBulk d + 1
  | .map entries => uptoBulkEntries entries + 1
  | .held _ => 1
def uptoBulkAll {H : Type} : List (DataW H) → Nat
  | [] => 0
  | d :: r => uptoBulk d + uptoBulkAll r
def uptoBulkEntries {H : Type} : List (Lit × DataW H) → Nat
  | [] => 0
  | x :: r => uptoBulkEntry x + uptoBulkEntries r
def uptoBulkEntry {H : Type} : Lit × DataW H → Nat
  | (.string bytes, d) => bytes.length + uptoBulk d + 1
  | (_, d) => uptoBulk d + 1
 end
def uptoSmall : (H : Type) → List (DataW H) → Bool := fun _ ds => decide (uptoBulkAll ds ≤ 1048576)
def OpenSpec.upto (s : _root_.Go.ChangeSpec) : _root_.Go.OpenSpec := { _root_.Go.OpenSpec.ofChange s with cond := some uptoSmall }

/-- 'zoetropelaw19.UnitsSplits', WHERE WHAT IT READS IS OF BULK AT MOST 1048576: true; the input reads as it did. -/
def unitsSplitsUptoRow : OpenClaim := { program := "ytbbdggpfhcgbpaa", sum := "34cd995d105bbbf14969df0fe152e212cff894bcba32acee4dc9851002bd24bf", func := "zoetrope/zoetropelaw19.UnitsSplits", spec := "unitsSplits", apart := false, narrowed := true }
def UnitsSplitsUptoSaid : Prop := unitsSplitsUptoRow.holds Try.pinned (OpenSpec.upto unitsSplitsSpec)

/-- 'zoetropelaw19.UnitsJoins', WHERE WHAT IT READS IS OF BULK AT MOST 1048576: true; the input reads as it did. -/
def unitsJoinsUptoRow : OpenClaim := { program := "ytbbdggpfhcgbpaa", sum := "34cd995d105bbbf14969df0fe152e212cff894bcba32acee4dc9851002bd24bf", func := "zoetrope/zoetropelaw19.UnitsJoins", spec := "unitsJoins", apart := false, narrowed := true }
def UnitsJoinsUptoSaid : Prop := unitsJoinsUptoRow.holds Try.pinned (OpenSpec.upto unitsJoinsSpec)

/-- 'zoetropelaw19.UnitsGroups', WHERE WHAT IT READS IS OF BULK AT MOST 1048576: true; the input reads as it did. -/
def unitsGroupsUptoRow : OpenClaim := { program := "ytbbdggpfhcgbpaa", sum := "34cd995d105bbbf14969df0fe152e212cff894bcba32acee4dc9851002bd24bf", func := "zoetrope/zoetropelaw19.UnitsGroups", spec := "unitsGroups", apart := false, narrowed := true }
def UnitsGroupsUptoSaid : Prop := unitsGroupsUptoRow.holds Try.pinned (OpenSpec.upto unitsGroupsSpec)

/-- 'zoetropelaw19.UnitsBack', WHERE WHAT IT READS IS OF BULK AT MOST 1048576: true; the input reads as it did. -/
def unitsBackUptoRow : OpenClaim := { program := "ytbbdggpfhcgbpaa", sum := "34cd995d105bbbf14969df0fe152e212cff894bcba32acee4dc9851002bd24bf", func := "zoetrope/zoetropelaw19.UnitsBack", spec := "unitsBack", apart := false, narrowed := true }
def UnitsBackUptoSaid : Prop := unitsBackUptoRow.holds Try.pinned (OpenSpec.upto unitsBackSpec)

/-- 'zoetropelaw19.UnitsAhead', WHERE WHAT IT READS IS OF BULK AT MOST 1048576: true; the input reads as it did. -/
def unitsAheadUptoRow : OpenClaim := { program := "ytbbdggpfhcgbpaa", sum := "34cd995d105bbbf14969df0fe152e212cff894bcba32acee4dc9851002bd24bf", func := "zoetrope/zoetropelaw19.UnitsAhead", spec := "unitsAhead", apart := false, narrowed := true }
def UnitsAheadUptoSaid : Prop := unitsAheadUptoRow.holds Try.pinned (OpenSpec.upto unitsAheadSpec)

/-- 'zoetropelaw19.UnitsAll', WHERE WHAT IT READS IS OF BULK AT MOST 1048576: true; the input reads as it did. -/
def unitsAllUptoRow : OpenClaim := { program := "ytbbdggpfhcgbpaa", sum := "34cd995d105bbbf14969df0fe152e212cff894bcba32acee4dc9851002bd24bf", func := "zoetrope/zoetropelaw19.UnitsAll", spec := "unitsAll", apart := false, narrowed := true }
def UnitsAllUptoSaid : Prop := unitsAllUptoRow.holds Try.pinned (OpenSpec.upto unitsAllSpec)

/-- 'zoetropelaw19.UnitsKnown', WHERE WHAT IT READS IS OF BULK AT MOST 1048576: true; the input reads as it did. -/
def unitsKnownUptoRow : OpenClaim := { program := "ytbbdggpfhcgbpaa", sum := "34cd995d105bbbf14969df0fe152e212cff894bcba32acee4dc9851002bd24bf", func := "zoetrope/zoetropelaw19.UnitsKnown", spec := "unitsKnown", apart := false, narrowed := true }
def UnitsKnownUptoSaid : Prop := unitsKnownUptoRow.holds Try.pinned (OpenSpec.upto unitsKnownSpec)

end Rows
end Go.Proofs.Ytbbdggpfhcgbpaa
