/-
  No cell of these rows narrows 'for every input' (looked for: loops, veiled, ifaces, maps, wideKeys, modest, calm, conditions, laid).
  DERIVED. THE GIVEN ROWS OF THIS SEAT. 4 by the template 'for every input the law returns true; each argument reads behind the call as it read before'; 0 by the template 'total and deterministic' (their statements: YtamlmpeiamkllaaTotals.lean).
  GIVEN WITH THE SEED: the statements are not yours to turn. If you find one false, say at which input.
  Laid BY PROGRAM, IN A SANDBOX (cutbox-rows.mjs): the forced cells as the released guide's own fill.sh prints them over the translation 9d98078c2a923d6f… (all of the seat's roots in one cut). By AI agents, Wed Nov 11 2026. No macro, syntax, notation, axiom, sorry.
-/
import Derived.Test.YtamlmpeiamkllaaChecked
import GoSem.Claim
import GoSem.ClaimJoined
import GoSem.ClaimMapViews
import Derived.JoinedTies
import Derived.KernelRfl
namespace Go.Proofs.Ytamlmpeiamkllaa
/- THE CELL 'sum', in the pinned program and in every row, IS THE sha256 OF THE DUMP (.gsa) THAT YtamlmpeiamkllaaProg.lean LOADS. Nothing in Lean hashes anything: it is a label: what it is worth is what the hold of that sum in a sandbox is worth. -/
noncomputable def Try.pinned : Pinned := { name := "ytamlmpeiamkllaa", sum := "9d98078c2a923d6fe9bccfa5b2b14772607ff9630f9faf5b01995a947cfd344e", checked := Try.checked }
namespace Rows
def none {H : Type} : Left H := { results := [], args := [] }

/-- 'zoetropelaw17.GridNear': WHATEVER THE INPUT: true; the input reads as it did. -/
def gridNearSpec : ChangeSpec := { name := "gridNear", fn := fun _ => fun
  | [d1, d2, d3] => { results := [.lit (.bool true)], args := [d1, d2, d3] }
  | _ => none }
def gridNearRow : OpenClaim := { program := "ytamlmpeiamkllaa", sum := "9d98078c2a923d6fe9bccfa5b2b14772607ff9630f9faf5b01995a947cfd344e", func := "zoetrope/zoetropelaw17.GridNear", spec := "gridNear", unfollowed := true, recurses := true, plainKeys := false, apart := false }
def GridNearSaid : Prop := gridNearRow.holds Try.pinned (OpenSpec.ofChange gridNearSpec)

/-- ITS FALSE NEIGHBOUR: 'it returns false'. Refute it at one input. -/
def gridNearWrong : ChangeSpec := { name := "gridNear", fn := fun _ => fun
  | [d1, d2, d3] => { results := [.lit (.bool false)], args := [d1, d2, d3] }
  | _ => none }
def GridNearWrongFalsely : Prop := gridNearRow.holds Try.pinned (OpenSpec.ofChange gridNearWrong)

/-- 'zoetropelaw17.GridOnce': WHATEVER THE INPUT: true; the input reads as it did. -/
def gridOnceSpec : ChangeSpec := { name := "gridOnce", fn := fun _ => fun
  | [d1, d2] => { results := [.lit (.bool true)], args := [d1, d2] }
  | _ => none }
def gridOnceRow : OpenClaim := { program := "ytamlmpeiamkllaa", sum := "9d98078c2a923d6fe9bccfa5b2b14772607ff9630f9faf5b01995a947cfd344e", func := "zoetrope/zoetropelaw17.GridOnce", spec := "gridOnce", unfollowed := true, recurses := true, plainKeys := false, apart := false }
def GridOnceSaid : Prop := gridOnceRow.holds Try.pinned (OpenSpec.ofChange gridOnceSpec)

/-- ITS FALSE NEIGHBOUR: 'it returns false'. Refute it at one input. -/
def gridOnceWrong : ChangeSpec := { name := "gridOnce", fn := fun _ => fun
  | [d1, d2] => { results := [.lit (.bool false)], args := [d1, d2] }
  | _ => none }
def GridOnceWrongFalsely : Prop := gridOnceRow.holds Try.pinned (OpenSpec.ofChange gridOnceWrong)

/-- 'zoetropelaw17.GridPlays': WHATEVER THE INPUT: true; the input reads as it did. -/
def gridPlaysSpec : ChangeSpec := { name := "gridPlays", fn := fun _ => fun
  | [d1, d2, d3] => { results := [.lit (.bool true)], args := [d1, d2, d3] }
  | _ => none }
def gridPlaysRow : OpenClaim := { program := "ytamlmpeiamkllaa", sum := "9d98078c2a923d6fe9bccfa5b2b14772607ff9630f9faf5b01995a947cfd344e", func := "zoetrope/zoetropelaw17.GridPlays", spec := "gridPlays", unfollowed := true, recurses := true, plainKeys := false, apart := false }
def GridPlaysSaid : Prop := gridPlaysRow.holds Try.pinned (OpenSpec.ofChange gridPlaysSpec)

/-- ITS FALSE NEIGHBOUR: 'it returns false'. Refute it at one input. -/
def gridPlaysWrong : ChangeSpec := { name := "gridPlays", fn := fun _ => fun
  | [d1, d2, d3] => { results := [.lit (.bool false)], args := [d1, d2, d3] }
  | _ => none }
def GridPlaysWrongFalsely : Prop := gridPlaysRow.holds Try.pinned (OpenSpec.ofChange gridPlaysWrong)

/-- 'zoetropelaw17.GridNames': WHATEVER THE INPUT: true; the input reads as it did. -/
def gridNamesSpec : ChangeSpec := { name := "gridNames", fn := fun _ => fun
  | [] => { results := [.lit (.bool true)], args := [] }
  | _ => none }
def gridNamesRow : OpenClaim := { program := "ytamlmpeiamkllaa", sum := "9d98078c2a923d6fe9bccfa5b2b14772607ff9630f9faf5b01995a947cfd344e", func := "zoetrope/zoetropelaw17.GridNames", spec := "gridNames", unfollowed := true, recurses := true, plainKeys := false, apart := false }
def GridNamesSaid : Prop := gridNamesRow.holds Try.pinned (OpenSpec.ofChange gridNamesSpec)

/-- ITS FALSE NEIGHBOUR: 'it returns false'. Refute it at one input. -/
def gridNamesWrong : ChangeSpec := { name := "gridNames", fn := fun _ => fun
  | [] => { results := [.lit (.bool false)], args := [] }
  | _ => none }
def GridNamesWrongFalsely : Prop := gridNamesRow.holds Try.pinned (OpenSpec.ofChange gridNamesWrong)

/- THE SECOND FORM. 'bulk': how many values and letters a reading holds, each counted each time it is reached (what is shared counts as often as it is met; a slice's spare places count too). A statement '..UptoSaid' is the law's where the arguments, and the package variables that the reading takes, are together of bulk at most 1048576: NARROWER than '..Said'. Prove '..Said' where nothing that the law and all that it calls make is longer than what came in: it says more and counts as full. Else prove '..UptoSaid'. A law counts once. -/
mutual
def uptoBulk {H : Type} : DataW H → Nat
  | .lit (.string bytes) => bytes.length + 1
  | .lit _ => 1
  | .nil => 1
  | .ptr d => uptoBulk d + 1
  | .slice elems spare => uptoBulkAll elems + uptoBulkAll spare + 1
  | .agg parts => uptoBulkAll parts + 1
  | .iface _ d => uptoBulk d + 1
  | .map entries => uptoBulkEntries entries + 1
  | .held _ => 1
def uptoBulkAll {H : Type} : List (DataW H) → Nat
  | [] => 0
  | d :: r => uptoBulk d + uptoBulkAll r
def uptoBulkEntries {H : Type} : List (Lit × DataW H) → Nat
  | [] => 0
  | x :: r => uptoBulkEntry x + uptoBulkEntries r
def uptoBulkEntry {H : Type} : Lit × DataW H → Nat
  | (.string bytes, d) => bytes.length + uptoBulk d + 1
  | (_, d) => uptoBulk d + 1
 end
def uptoSmall : (H : Type) → List (DataW H) → Bool := fun _ ds => decide (uptoBulkAll ds ≤ 1048576)
def OpenSpec.upto (s : _root_.Go.ChangeSpec) : _root_.Go.OpenSpec := { _root_.Go.OpenSpec.ofChange s with cond := some uptoSmall }

/-- 'zoetropelaw17.GridNear', WHERE WHAT IT READS IS OF BULK AT MOST 1048576: true; the input reads as it did. -/
def gridNearUptoRow : OpenClaim := { program := "ytamlmpeiamkllaa", sum := "9d98078c2a923d6fe9bccfa5b2b14772607ff9630f9faf5b01995a947cfd344e", func := "zoetrope/zoetropelaw17.GridNear", spec := "gridNear", unfollowed := true, recurses := true, plainKeys := false, apart := false, narrowed := true }
def GridNearUptoSaid : Prop := gridNearUptoRow.holds Try.pinned (OpenSpec.upto gridNearSpec)

/-- 'zoetropelaw17.GridOnce', WHERE WHAT IT READS IS OF BULK AT MOST 1048576: true; the input reads as it did. -/
def gridOnceUptoRow : OpenClaim := { program := "ytamlmpeiamkllaa", sum := "9d98078c2a923d6fe9bccfa5b2b14772607ff9630f9faf5b01995a947cfd344e", func := "zoetrope/zoetropelaw17.GridOnce", spec := "gridOnce", unfollowed := true, recurses := true, plainKeys := false, apart := false, narrowed := true }
def GridOnceUptoSaid : Prop := gridOnceUptoRow.holds Try.pinned (OpenSpec.upto gridOnceSpec)

/-- 'zoetropelaw17.GridPlays', WHERE WHAT IT READS IS OF BULK AT MOST 1048576: true; the input reads as it did. -/
def gridPlaysUptoRow : OpenClaim := { program := "ytamlmpeiamkllaa", sum := "9d98078c2a923d6fe9bccfa5b2b14772607ff9630f9faf5b01995a947cfd344e", func := "zoetrope/zoetropelaw17.GridPlays", spec := "gridPlays", unfollowed := true, recurses := true, plainKeys := false, apart := false, narrowed := true }
def GridPlaysUptoSaid : Prop := gridPlaysUptoRow.holds Try.pinned (OpenSpec.upto gridPlaysSpec)

/-- 'zoetropelaw17.GridNames', WHERE WHAT IT READS IS OF BULK AT MOST 1048576: true; the input reads as it did. -/
def gridNamesUptoRow : OpenClaim := { program := "ytamlmpeiamkllaa", sum := "9d98078c2a923d6fe9bccfa5b2b14772607ff9630f9faf5b01995a947cfd344e", func := "zoetrope/zoetropelaw17.GridNames", spec := "gridNames", unfollowed := true, recurses := true, plainKeys := false, apart := false, narrowed := true }
def GridNamesUptoSaid : Prop := gridNamesUptoRow.holds Try.pinned (OpenSpec.upto gridNamesSpec)

end Rows
end Go.Proofs.Ytamlmpeiamkllaa
