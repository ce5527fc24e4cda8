/-
  No cell of these rows narrows 'for every input' (looked for: loops, veiled, ifaces, maps, wideKeys, modest, calm, conditions, laid).
  DERIVED. THE GIVEN ROWS OF THIS SEAT. 7 by the template 'for every input the law returns true; each argument reads behind the call as it read before'; 0 by the template 'total and deterministic' (their statements: YtfaecnhaponcdaaTotals.lean).
  GIVEN WITH THE SEED: the statements are not yours to turn. If you find one false, say at which input.
  Laid BY PROGRAM, IN A SANDBOX (cutbox-rows.mjs): the forced cells as the released guide's own fill.sh prints them over the translation 895922fc47b1551a… (all of the seat's roots in one cut). By AI agents, Wed Nov 11 2026. No macro, syntax, notation, axiom, sorry.
-/
import Derived.Test.YtfaecnhaponcdaaChecked
import GoSem.Claim
import GoSem.ClaimJoined
import GoSem.ClaimMapViews
import Derived.JoinedTies
import Derived.KernelRfl
namespace Go.Proofs.Ytfaecnhaponcdaa
/- THE CELL 'sum', in the pinned program and in every row, IS THE sha256 OF THE DUMP (.gsa) THAT YtfaecnhaponcdaaProg.lean LOADS. Nothing in Lean hashes anything: it is a label: what it is worth is what the hold of that sum in a sandbox is worth. -/
noncomputable def Try.pinned : Pinned := { name := "ytfaecnhaponcdaa", sum := "895922fc47b1551a2ea38a4740eebed79d38b026d96d470ffe44654bf1adc3d0", checked := Try.checked }
namespace Rows
def none {H : Type} : Left H := { results := [], args := [] }

/-- 'zoetropelaw07.BasisTurns': WHATEVER THE INPUT: true; the input reads as it did. -/
def basisTurnsSpec : ChangeSpec := { name := "basisTurns", fn := fun _ => fun
  | [d1, d2] => { results := [.lit (.bool true)], args := [d1, d2] }
  | _ => none }
def basisTurnsRow : OpenClaim := { program := "ytfaecnhaponcdaa", sum := "895922fc47b1551a2ea38a4740eebed79d38b026d96d470ffe44654bf1adc3d0", func := "zoetrope/zoetropelaw07.BasisTurns", spec := "basisTurns", unfollowed := true, recurses := true, apart := false }
def BasisTurnsSaid : Prop := basisTurnsRow.holds Try.pinned (OpenSpec.ofChange basisTurnsSpec)

/-- ITS FALSE NEIGHBOUR: 'it returns false'. Refute it at one input. -/
def basisTurnsWrong : ChangeSpec := { name := "basisTurns", fn := fun _ => fun
  | [d1, d2] => { results := [.lit (.bool false)], args := [d1, d2] }
  | _ => none }
def BasisTurnsWrongFalsely : Prop := basisTurnsRow.holds Try.pinned (OpenSpec.ofChange basisTurnsWrong)

/-- 'zoetropelaw07.BasisLossless': WHATEVER THE INPUT: true; the input reads as it did. -/
def basisLosslessSpec : ChangeSpec := { name := "basisLossless", fn := fun _ => fun
  | [d] => { results := [.lit (.bool true)], args := [d] }
  | _ => none }
def basisLosslessRow : OpenClaim := { program := "ytfaecnhaponcdaa", sum := "895922fc47b1551a2ea38a4740eebed79d38b026d96d470ffe44654bf1adc3d0", func := "zoetrope/zoetropelaw07.BasisLossless", spec := "basisLossless", unfollowed := true, recurses := true, apart := false }
def BasisLosslessSaid : Prop := basisLosslessRow.holds Try.pinned (OpenSpec.ofChange basisLosslessSpec)

/-- ITS FALSE NEIGHBOUR: 'it returns false'. Refute it at one input. -/
def basisLosslessWrong : ChangeSpec := { name := "basisLossless", fn := fun _ => fun
  | [d] => { results := [.lit (.bool false)], args := [d] }
  | _ => none }
def BasisLosslessWrongFalsely : Prop := basisLosslessRow.holds Try.pinned (OpenSpec.ofChange basisLosslessWrong)

/-- 'zoetropelaw07.BasisNear': WHATEVER THE INPUT: true; the input reads as it did. -/
def basisNearSpec : ChangeSpec := { name := "basisNear", fn := fun _ => fun
  | [d] => { results := [.lit (.bool true)], args := [d] }
  | _ => none }
def basisNearRow : OpenClaim := { program := "ytfaecnhaponcdaa", sum := "895922fc47b1551a2ea38a4740eebed79d38b026d96d470ffe44654bf1adc3d0", func := "zoetrope/zoetropelaw07.BasisNear", spec := "basisNear", unfollowed := true, recurses := true, apart := false }
def BasisNearSaid : Prop := basisNearRow.holds Try.pinned (OpenSpec.ofChange basisNearSpec)

/-- ITS FALSE NEIGHBOUR: 'it returns false'. Refute it at one input. -/
def basisNearWrong : ChangeSpec := { name := "basisNear", fn := fun _ => fun
  | [d] => { results := [.lit (.bool false)], args := [d] }
  | _ => none }
def BasisNearWrongFalsely : Prop := basisNearRow.holds Try.pinned (OpenSpec.ofChange basisNearWrong)

/-- 'zoetropelaw07.BasisAdds': WHATEVER THE INPUT: true; the input reads as it did. -/
def basisAddsSpec : ChangeSpec := { name := "basisAdds", fn := fun _ => fun
  | [d1, d2, d3] => { results := [.lit (.bool true)], args := [d1, d2, d3] }
  | _ => none }
def basisAddsRow : OpenClaim := { program := "ytfaecnhaponcdaa", sum := "895922fc47b1551a2ea38a4740eebed79d38b026d96d470ffe44654bf1adc3d0", func := "zoetrope/zoetropelaw07.BasisAdds", spec := "basisAdds", unfollowed := true, recurses := true, apart := false }
def BasisAddsSaid : Prop := basisAddsRow.holds Try.pinned (OpenSpec.ofChange basisAddsSpec)

/-- ITS FALSE NEIGHBOUR: 'it returns false'. Refute it at one input. -/
def basisAddsWrong : ChangeSpec := { name := "basisAdds", fn := fun _ => fun
  | [d1, d2, d3] => { results := [.lit (.bool false)], args := [d1, d2, d3] }
  | _ => none }
def BasisAddsWrongFalsely : Prop := basisAddsRow.holds Try.pinned (OpenSpec.ofChange basisAddsWrong)

/-- 'zoetropelaw07.BasisBounded': WHATEVER THE INPUT: true; the input reads as it did. -/
def basisBoundedSpec : ChangeSpec := { name := "basisBounded", fn := fun _ => fun
  | [d] => { results := [.lit (.bool true)], args := [d] }
  | _ => none }
def basisBoundedRow : OpenClaim := { program := "ytfaecnhaponcdaa", sum := "895922fc47b1551a2ea38a4740eebed79d38b026d96d470ffe44654bf1adc3d0", func := "zoetrope/zoetropelaw07.BasisBounded", spec := "basisBounded", unfollowed := true, recurses := true, apart := false }
def BasisBoundedSaid : Prop := basisBoundedRow.holds Try.pinned (OpenSpec.ofChange basisBoundedSpec)

/-- ITS FALSE NEIGHBOUR: 'it returns false'. Refute it at one input. -/
def basisBoundedWrong : ChangeSpec := { name := "basisBounded", fn := fun _ => fun
  | [d] => { results := [.lit (.bool false)], args := [d] }
  | _ => none }
def BasisBoundedWrongFalsely : Prop := basisBoundedRow.holds Try.pinned (OpenSpec.ofChange basisBoundedWrong)

/-- 'zoetropelaw07.BasisCos': WHATEVER THE INPUT: true; the input reads as it did. -/
def basisCosSpec : ChangeSpec := { name := "basisCos", fn := fun _ => fun
  | [d] => { results := [.lit (.bool true)], args := [d] }
  | _ => none }
def basisCosRow : OpenClaim := { program := "ytfaecnhaponcdaa", sum := "895922fc47b1551a2ea38a4740eebed79d38b026d96d470ffe44654bf1adc3d0", func := "zoetrope/zoetropelaw07.BasisCos", spec := "basisCos", unfollowed := true, recurses := true, apart := false }
def BasisCosSaid : Prop := basisCosRow.holds Try.pinned (OpenSpec.ofChange basisCosSpec)

/-- ITS FALSE NEIGHBOUR: 'it returns false'. Refute it at one input. -/
def basisCosWrong : ChangeSpec := { name := "basisCos", fn := fun _ => fun
  | [d] => { results := [.lit (.bool false)], args := [d] }
  | _ => none }
def BasisCosWrongFalsely : Prop := basisCosRow.holds Try.pinned (OpenSpec.ofChange basisCosWrong)

/-- 'zoetropelaw07.BasisKnown': WHATEVER THE INPUT: true; the input reads as it did. -/
def basisKnownSpec : ChangeSpec := { name := "basisKnown", fn := fun _ => fun
  | [] => { results := [.lit (.bool true)], args := [] }
  | _ => none }
def basisKnownRow : OpenClaim := { program := "ytfaecnhaponcdaa", sum := "895922fc47b1551a2ea38a4740eebed79d38b026d96d470ffe44654bf1adc3d0", func := "zoetrope/zoetropelaw07.BasisKnown", spec := "basisKnown", unfollowed := true, recurses := true, apart := false }
def BasisKnownSaid : Prop := basisKnownRow.holds Try.pinned (OpenSpec.ofChange basisKnownSpec)

/-- ITS FALSE NEIGHBOUR: 'it returns false'. Refute it at one input. -/
def basisKnownWrong : ChangeSpec := { name := "basisKnown", fn := fun _ => fun
  | [] => { results := [.lit (.bool false)], args := [] }
  | _ => none }
def BasisKnownWrongFalsely : Prop := basisKnownRow.holds Try.pinned (OpenSpec.ofChange basisKnownWrong)

/- THE SECOND FORM. 'bulk': how many values and letters a reading holds, each counted each time it is reached (what is shared counts as often as it is met; a slice's spare places count too). A statement '..UptoSaid' is the law's where the arguments, and the package variables that the reading takes, are together of bulk at most 1048576: NARROWER than '..Said'. Prove '..Said' where nothing that the law and all that it calls make is longer than what came in: it says more and counts as full. Else prove '..UptoSaid'. A law counts once. -/
mutual
def uptoBulk {H : Type} : DataW H → Nat
  | .lit (.string bytes) => bytes.length + 1
  | .lit _ => 1
  | .nil => 1
  | .ptr d => uptoBulk d + 1
  | .slice elems spare => uptoBulkAll elems + uptoBulkAll spare + 1
  | .agg parts => uptoBulkAll parts + 1
  | .iface _ d => uptoBulk d + 1
  | .map entries => uptoBulkEntries entries + 1
  | .held _ => 1
def uptoBulkAll {H : Type} : List (DataW H) → Nat
  | [] => 0
  | d :: r => uptoBulk d + uptoBulkAll r
def uptoBulkEntries {H : Type} : List (Lit × DataW H) → Nat
  | [] => 0
  | x :: r => uptoBulkEntry x + uptoBulkEntries r
def uptoBulkEntry {H : Type} : Lit × DataW H → Nat
  | (.string bytes, d) => bytes.length + uptoBulk d + 1
  | (_, d) => uptoBulk d + 1
 end
def uptoSmall : (H : Type) → List (DataW H) → Bool := fun _ ds => decide (uptoBulkAll ds ≤ 1048576)
def OpenSpec.upto (s : _root_.Go.ChangeSpec) : _root_.Go.OpenSpec := { _root_.Go.OpenSpec.ofChange s with cond := some uptoSmall }

/-- 'zoetropelaw07.BasisTurns', WHERE WHAT IT READS IS OF BULK AT MOST 1048576: true; the input reads as it did. -/
def basisTurnsUptoRow : OpenClaim := { program := "ytfaecnhaponcdaa", sum := "895922fc47b1551a2ea38a4740eebed79d38b026d96d470ffe44654bf1adc3d0", func := "zoetrope/zoetropelaw07.BasisTurns", spec := "basisTurns", unfollowed := true, recurses := true, apart := false, narrowed := true }
def BasisTurnsUptoSaid : Prop := basisTurnsUptoRow.holds Try.pinned (OpenSpec.upto basisTurnsSpec)

/-- 'zoetropelaw07.BasisLossless', WHERE WHAT IT READS IS OF BULK AT MOST 1048576: true; the input reads as it did. -/
def basisLosslessUptoRow : OpenClaim := { program := "ytfaecnhaponcdaa", sum := "895922fc47b1551a2ea38a4740eebed79d38b026d96d470ffe44654bf1adc3d0", func := "zoetrope/zoetropelaw07.BasisLossless", spec := "basisLossless", unfollowed := true, recurses := true, apart := false, narrowed := true }
def BasisLosslessUptoSaid : Prop := basisLosslessUptoRow.holds Try.pinned (OpenSpec.upto basisLosslessSpec)

/-- 'zoetropelaw07.BasisNear', WHERE WHAT IT READS IS OF BULK AT MOST 1048576: true; the input reads as it did. -/
def basisNearUptoRow : OpenClaim := { program := "ytfaecnhaponcdaa", sum := "895922fc47b1551a2ea38a4740eebed79d38b026d96d470ffe44654bf1adc3d0", func := "zoetrope/zoetropelaw07.BasisNear", spec := "basisNear", unfollowed := true, recurses := true, apart := false, narrowed := true }
def BasisNearUptoSaid : Prop := basisNearUptoRow.holds Try.pinned (OpenSpec.upto basisNearSpec)

/-- 'zoetropelaw07.BasisAdds', WHERE WHAT IT READS IS OF BULK AT MOST 1048576: true; the input reads as it did. -/
def basisAddsUptoRow : OpenClaim := { program := "ytfaecnhaponcdaa", sum := "895922fc47b1551a2ea38a4740eebed79d38b026d96d470ffe44654bf1adc3d0", func := "zoetrope/zoetropelaw07.BasisAdds", spec := "basisAdds", unfollowed := true, recurses := true, apart := false, narrowed := true }
def BasisAddsUptoSaid : Prop := basisAddsUptoRow.holds Try.pinned (OpenSpec.upto basisAddsSpec)

/-- 'zoetropelaw07.BasisBounded', WHERE WHAT IT READS IS OF BULK AT MOST 1048576: true; the input reads as it did. -/
def basisBoundedUptoRow : OpenClaim := { program := "ytfaecnhaponcdaa", sum := "895922fc47b1551a2ea38a4740eebed79d38b026d96d470ffe44654bf1adc3d0", func := "zoetrope/zoetropelaw07.BasisBounded", spec := "basisBounded", unfollowed := true, recurses := true, apart := false, narrowed := true }
def BasisBoundedUptoSaid : Prop := basisBoundedUptoRow.holds Try.pinned (OpenSpec.upto basisBoundedSpec)

/-- 'zoetropelaw07.BasisCos', WHERE WHAT IT READS IS OF BULK AT MOST 1048576: true; the input reads as it did. -/
def basisCosUptoRow : OpenClaim := { program := "ytfaecnhaponcdaa", sum := "895922fc47b1551a2ea38a4740eebed79d38b026d96d470ffe44654bf1adc3d0", func := "zoetrope/zoetropelaw07.BasisCos", spec := "basisCos", unfollowed := true, recurses := true, apart := false, narrowed := true }
def BasisCosUptoSaid : Prop := basisCosUptoRow.holds Try.pinned (OpenSpec.upto basisCosSpec)

/-- 'zoetropelaw07.BasisKnown', WHERE WHAT IT READS IS OF BULK AT MOST 1048576: true; the input reads as it did. -/
def basisKnownUptoRow : OpenClaim := { program := "ytfaecnhaponcdaa", sum := "895922fc47b1551a2ea38a4740eebed79d38b026d96d470ffe44654bf1adc3d0", func := "zoetrope/zoetropelaw07.BasisKnown", spec := "basisKnown", unfollowed := true, recurses := true, apart := false, narrowed := true }
def BasisKnownUptoSaid : Prop := basisKnownUptoRow.holds Try.pinned (OpenSpec.upto basisKnownSpec)

end Rows
end Go.Proofs.Ytfaecnhaponcdaa
