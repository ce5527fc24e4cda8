/-
  No cell of these rows narrows 'for every input' (looked for: loops, veiled, ifaces, maps, wideKeys, modest, calm, conditions, laid).
  DERIVED. THE GIVEN ROWS OF THIS SEAT. 6 by the template 'for every input the law returns true; each argument reads behind the call as it read before'; 0 by the template 'total and deterministic' (their statements: YtfhlpnpghaombaaTotals.lean).
  GIVEN WITH THE SEED: the statements are not yours to turn. If you find one false, say at which input.
  Laid BY PROGRAM, IN A SANDBOX (cutbox-rows.mjs): the forced cells as the released guide's own fill.sh prints them over the translation f14d4a8efa941213… (all of the seat's roots in one cut). By AI agents, Wed Nov 11 2026. No macro, syntax, notation, axiom, sorry.
-/
import Derived.Test.YtfhlpnpghaombaaChecked
import GoSem.Claim
import GoSem.ClaimJoined
import GoSem.ClaimMapViews
import Derived.JoinedTies
import Derived.KernelRfl
namespace Go.Proofs.Ytfhlpnpghaombaa
/- THE CELL 'sum', in the pinned program and in every row, IS THE sha256 OF THE DUMP (.gsa) THAT YtfhlpnpghaombaaProg.lean LOADS. Nothing in Lean hashes anything: it is a label: what it is worth is what the hold of that sum in a sandbox is worth. -/
noncomputable def Try.pinned : Pinned := { name := "ytfhlpnpghaombaa", sum := "f14d4a8efa94121366d9d8ea0eebea475fd2c6a73dea33d26fcdf6396b042989", checked := Try.checked }
namespace Rows
def none {H : Type} : Left H := { results := [], args := [] }

/-- 'zoetropelaw10.ScanOrders': WHATEVER THE INPUT: true; the input reads as it did. -/
def scanOrdersSpec : ChangeSpec := { name := "scanOrders", fn := fun _ => fun
  | [d1, d2] => { results := [.lit (.bool true)], args := [d1, d2] }
  | _ => none }
def scanOrdersRow : OpenClaim := { program := "ytfhlpnpghaombaa", sum := "f14d4a8efa94121366d9d8ea0eebea475fd2c6a73dea33d26fcdf6396b042989", func := "zoetrope/zoetropelaw10.ScanOrders", spec := "scanOrders", apart := false }
def ScanOrdersSaid : Prop := scanOrdersRow.holds Try.pinned (OpenSpec.ofChange scanOrdersSpec)

/-- ITS FALSE NEIGHBOUR: 'it returns false'. Refute it at one input. -/
def scanOrdersWrong : ChangeSpec := { name := "scanOrders", fn := fun _ => fun
  | [d1, d2] => { results := [.lit (.bool false)], args := [d1, d2] }
  | _ => none }
def ScanOrdersWrongFalsely : Prop := scanOrdersRow.holds Try.pinned (OpenSpec.ofChange scanOrdersWrong)

/-- 'zoetropelaw10.ScanOnce': WHATEVER THE INPUT: true; the input reads as it did. -/
def scanOnceSpec : ChangeSpec := { name := "scanOnce", fn := fun _ => fun
  | [d] => { results := [.lit (.bool true)], args := [d] }
  | _ => none }
def scanOnceRow : OpenClaim := { program := "ytfhlpnpghaombaa", sum := "f14d4a8efa94121366d9d8ea0eebea475fd2c6a73dea33d26fcdf6396b042989", func := "zoetrope/zoetropelaw10.ScanOnce", spec := "scanOnce", apart := false }
def ScanOnceSaid : Prop := scanOnceRow.holds Try.pinned (OpenSpec.ofChange scanOnceSpec)

/-- ITS FALSE NEIGHBOUR: 'it returns false'. Refute it at one input. -/
def scanOnceWrong : ChangeSpec := { name := "scanOnce", fn := fun _ => fun
  | [d] => { results := [.lit (.bool false)], args := [d] }
  | _ => none }
def ScanOnceWrongFalsely : Prop := scanOnceRow.holds Try.pinned (OpenSpec.ofChange scanOnceWrong)

/-- 'zoetropelaw10.ScanEnds': WHATEVER THE INPUT: true; the input reads as it did. -/
def scanEndsSpec : ChangeSpec := { name := "scanEnds", fn := fun _ => fun
  | [d1, d2] => { results := [.lit (.bool true)], args := [d1, d2] }
  | _ => none }
def scanEndsRow : OpenClaim := { program := "ytfhlpnpghaombaa", sum := "f14d4a8efa94121366d9d8ea0eebea475fd2c6a73dea33d26fcdf6396b042989", func := "zoetrope/zoetropelaw10.ScanEnds", spec := "scanEnds", apart := false }
def ScanEndsSaid : Prop := scanEndsRow.holds Try.pinned (OpenSpec.ofChange scanEndsSpec)

/-- ITS FALSE NEIGHBOUR: 'it returns false'. Refute it at one input. -/
def scanEndsWrong : ChangeSpec := { name := "scanEnds", fn := fun _ => fun
  | [d1, d2] => { results := [.lit (.bool false)], args := [d1, d2] }
  | _ => none }
def ScanEndsWrongFalsely : Prop := scanEndsRow.holds Try.pinned (OpenSpec.ofChange scanEndsWrong)

/-- 'zoetropelaw10.ScanContexts': WHATEVER THE INPUT: true; the input reads as it did. -/
def scanContextsSpec : ChangeSpec := { name := "scanContexts", fn := fun _ => fun
  | [d1, d2, d3] => { results := [.lit (.bool true)], args := [d1, d2, d3] }
  | _ => none }
def scanContextsRow : OpenClaim := { program := "ytfhlpnpghaombaa", sum := "f14d4a8efa94121366d9d8ea0eebea475fd2c6a73dea33d26fcdf6396b042989", func := "zoetrope/zoetropelaw10.ScanContexts", spec := "scanContexts", apart := false }
def ScanContextsSaid : Prop := scanContextsRow.holds Try.pinned (OpenSpec.ofChange scanContextsSpec)

/-- ITS FALSE NEIGHBOUR: 'it returns false'. Refute it at one input. -/
def scanContextsWrong : ChangeSpec := { name := "scanContexts", fn := fun _ => fun
  | [d1, d2, d3] => { results := [.lit (.bool false)], args := [d1, d2, d3] }
  | _ => none }
def ScanContextsWrongFalsely : Prop := scanContextsRow.holds Try.pinned (OpenSpec.ofChange scanContextsWrong)

/-- 'zoetropelaw10.ScanSigns': WHATEVER THE INPUT: true; the input reads as it did. -/
def scanSignsSpec : ChangeSpec := { name := "scanSigns", fn := fun _ => fun
  | [d1, d2, d3] => { results := [.lit (.bool true)], args := [d1, d2, d3] }
  | _ => none }
def scanSignsRow : OpenClaim := { program := "ytfhlpnpghaombaa", sum := "f14d4a8efa94121366d9d8ea0eebea475fd2c6a73dea33d26fcdf6396b042989", func := "zoetrope/zoetropelaw10.ScanSigns", spec := "scanSigns", apart := false }
def ScanSignsSaid : Prop := scanSignsRow.holds Try.pinned (OpenSpec.ofChange scanSignsSpec)

/-- ITS FALSE NEIGHBOUR: 'it returns false'. Refute it at one input. -/
def scanSignsWrong : ChangeSpec := { name := "scanSigns", fn := fun _ => fun
  | [d1, d2, d3] => { results := [.lit (.bool false)], args := [d1, d2, d3] }
  | _ => none }
def ScanSignsWrongFalsely : Prop := scanSignsRow.holds Try.pinned (OpenSpec.ofChange scanSignsWrong)

/-- 'zoetropelaw10.ScanNames': WHATEVER THE INPUT: true; the input reads as it did. -/
def scanNamesSpec : ChangeSpec := { name := "scanNames", fn := fun _ => fun
  | [] => { results := [.lit (.bool true)], args := [] }
  | _ => none }
def scanNamesRow : OpenClaim := { program := "ytfhlpnpghaombaa", sum := "f14d4a8efa94121366d9d8ea0eebea475fd2c6a73dea33d26fcdf6396b042989", func := "zoetrope/zoetropelaw10.ScanNames", spec := "scanNames", apart := false }
def ScanNamesSaid : Prop := scanNamesRow.holds Try.pinned (OpenSpec.ofChange scanNamesSpec)

/-- ITS FALSE NEIGHBOUR: 'it returns false'. Refute it at one input. -/
def scanNamesWrong : ChangeSpec := { name := "scanNames", fn := fun _ => fun
  | [] => { results := [.lit (.bool false)], args := [] }
  | _ => none }
def ScanNamesWrongFalsely : Prop := scanNamesRow.holds Try.pinned (OpenSpec.ofChange scanNamesWrong)

/- THE SECOND FORM. 'bulk': how many values and letters a reading holds, each counted each time it is reached (what is shared counts as often as it is met; a slice's spare places count too). A statement '..UptoSaid' is the law's where the arguments, and the package variables that the reading takes, are together of bulk at most 1048576: NARROWER than '..Said'. Prove '..Said' where nothing that the law and all that it calls make is longer than what came in: it says more and counts as full. Else prove '..UptoSaid'. A law counts once. -/
mutual
def uptoBulk {H : Type} : DataW H → Nat
  | .lit (.string bytes) => bytes.length + 1
  | .lit _ => 1
  | .nil => 1
  | .ptr d => uptoBulk d + 1
  | .slice elems spare => uptoBulkAll elems + uptoBulkAll spare + 1
  | .agg parts => uptoBulkAll parts + 1
  | .iface _ d => uptoBulk d + 1
  | .map entries => uptoBulkEntries entries + 1
  | .held _ => 1
def uptoBulkAll {H : Type} : List (DataW H) → Nat
  | [] => 0
  | d :: r => uptoBulk d + uptoBulkAll r
def uptoBulkEntries {H : Type} : List (Lit × DataW H) → Nat
  | [] => 0
  | x :: r => uptoBulkEntry x + uptoBulkEntries r
def uptoBulkEntry {H : Type} : Lit × DataW H → Nat
  | (.string bytes, d) => bytes.length + uptoBulk d + 1
  | (_, d) => uptoBulk d + 1
 end
def uptoSmall : (H : Type) → List (DataW H) → Bool := fun _ ds => decide (uptoBulkAll ds ≤ 1048576)
def OpenSpec.upto (s : _root_.Go.ChangeSpec) : _root_.Go.OpenSpec := { _root_.Go.OpenSpec.ofChange s with cond := some uptoSmall }

/-- 'zoetropelaw10.ScanOrders', WHERE WHAT IT READS IS OF BULK AT MOST 1048576: true; the input reads as it did. -/
def scanOrdersUptoRow : OpenClaim := { program := "ytfhlpnpghaombaa", sum := "f14d4a8efa94121366d9d8ea0eebea475fd2c6a73dea33d26fcdf6396b042989", func := "zoetrope/zoetropelaw10.ScanOrders", spec := "scanOrders", apart := false, narrowed := true }
def ScanOrdersUptoSaid : Prop := scanOrdersUptoRow.holds Try.pinned (OpenSpec.upto scanOrdersSpec)

/-- 'zoetropelaw10.ScanOnce', WHERE WHAT IT READS IS OF BULK AT MOST 1048576: true; the input reads as it did. -/
def scanOnceUptoRow : OpenClaim := { program := "ytfhlpnpghaombaa", sum := "f14d4a8efa94121366d9d8ea0eebea475fd2c6a73dea33d26fcdf6396b042989", func := "zoetrope/zoetropelaw10.ScanOnce", spec := "scanOnce", apart := false, narrowed := true }
def ScanOnceUptoSaid : Prop := scanOnceUptoRow.holds Try.pinned (OpenSpec.upto scanOnceSpec)

/-- 'zoetropelaw10.ScanEnds', WHERE WHAT IT READS IS OF BULK AT MOST 1048576: true; the input reads as it did. -/
def scanEndsUptoRow : OpenClaim := { program := "ytfhlpnpghaombaa", sum := "f14d4a8efa94121366d9d8ea0eebea475fd2c6a73dea33d26fcdf6396b042989", func := "zoetrope/zoetropelaw10.ScanEnds", spec := "scanEnds", apart := false, narrowed := true }
def ScanEndsUptoSaid : Prop := scanEndsUptoRow.holds Try.pinned (OpenSpec.upto scanEndsSpec)

/-- 'zoetropelaw10.ScanContexts', WHERE WHAT IT READS IS OF BULK AT MOST 1048576: true; the input reads as it did. -/
def scanContextsUptoRow : OpenClaim := { program := "ytfhlpnpghaombaa", sum := "f14d4a8efa94121366d9d8ea0eebea475fd2c6a73dea33d26fcdf6396b042989", func := "zoetrope/zoetropelaw10.ScanContexts", spec := "scanContexts", apart := false, narrowed := true }
def ScanContextsUptoSaid : Prop := scanContextsUptoRow.holds Try.pinned (OpenSpec.upto scanContextsSpec)

/-- 'zoetropelaw10.ScanSigns', WHERE WHAT IT READS IS OF BULK AT MOST 1048576: true; the input reads as it did. -/
def scanSignsUptoRow : OpenClaim := { program := "ytfhlpnpghaombaa", sum := "f14d4a8efa94121366d9d8ea0eebea475fd2c6a73dea33d26fcdf6396b042989", func := "zoetrope/zoetropelaw10.ScanSigns", spec := "scanSigns", apart := false, narrowed := true }
def ScanSignsUptoSaid : Prop := scanSignsUptoRow.holds Try.pinned (OpenSpec.upto scanSignsSpec)

/-- 'zoetropelaw10.ScanNames', WHERE WHAT IT READS IS OF BULK AT MOST 1048576: true; the input reads as it did. -/
def scanNamesUptoRow : OpenClaim := { program := "ytfhlpnpghaombaa", sum := "f14d4a8efa94121366d9d8ea0eebea475fd2c6a73dea33d26fcdf6396b042989", func := "zoetrope/zoetropelaw10.ScanNames", spec := "scanNames", apart := false, narrowed := true }
def ScanNamesUptoSaid : Prop := scanNamesUptoRow.holds Try.pinned (OpenSpec.upto scanNamesSpec)

end Rows
end Go.Proofs.Ytfhlpnpghaombaa
