/-
  No cell of these rows narrows 'for every input' (looked for: loops, veiled, ifaces, maps, wideKeys, modest, calm, conditions, laid).
  DERIVED. THE GIVEN ROWS OF THIS SEAT. 6 by the template 'for every input the law returns true; each argument reads behind the call as it read before'; 0 by the template 'total and deterministic' (their statements: YtgepgbblmodagaaTotals.lean).
  GIVEN WITH THE SEED: the statements are not yours to turn. If you find one false, say at which input.
  Laid BY PROGRAM, IN A SANDBOX (cutbox-rows.mjs): the forced cells as the released guide's own fill.sh prints them over the translation 04caac70a2f0c33c… (all of the seat's roots in one cut). By AI agents, Wed Nov 11 2026. No macro, syntax, notation, axiom, sorry.
-/
import Derived.Test.YtgepgbblmodagaaChecked
import GoSem.Claim
import GoSem.ClaimJoined
import GoSem.ClaimMapViews
import Derived.JoinedTies
import Derived.KernelRfl
namespace Go.Proofs.Ytgepgbblmodagaa
/- THE CELL 'sum', in the pinned program and in every row, IS THE sha256 OF THE DUMP (.gsa) THAT YtgepgbblmodagaaProg.lean LOADS. Nothing in Lean hashes anything: it is a label: what it is worth is what the hold of that sum in a sandbox is worth. -/
noncomputable def Try.pinned : Pinned := { name := "ytgepgbblmodagaa", sum := "04caac70a2f0c33c072b0c50a49fef152656d1d6cc4fb4ea163f89071ffee13c", checked := Try.checked }
namespace Rows
def none {H : Type} : Left H := { results := [], args := [] }

/-- 'zoetropelaw20.HeadsSeqs': WHATEVER THE INPUT: true; the input reads as it did. -/
def headsSeqsSpec : ChangeSpec := { name := "headsSeqs", fn := fun _ => fun
  | [d1, d2] => { results := [.lit (.bool true)], args := [d1, d2] }
  | _ => none }
def headsSeqsRow : OpenClaim := { program := "ytgepgbblmodagaa", sum := "04caac70a2f0c33c072b0c50a49fef152656d1d6cc4fb4ea163f89071ffee13c", func := "zoetrope/zoetropelaw20.HeadsSeqs", spec := "headsSeqs", apart := false }
def HeadsSeqsSaid : Prop := headsSeqsRow.holds Try.pinned (OpenSpec.ofChange headsSeqsSpec)

/-- ITS FALSE NEIGHBOUR: 'it returns false'. Refute it at one input. -/
def headsSeqsWrong : ChangeSpec := { name := "headsSeqs", fn := fun _ => fun
  | [d1, d2] => { results := [.lit (.bool false)], args := [d1, d2] }
  | _ => none }
def HeadsSeqsWrongFalsely : Prop := headsSeqsRow.holds Try.pinned (OpenSpec.ofChange headsSeqsWrong)

/-- 'zoetropelaw20.HeadsWrites': WHATEVER THE INPUT: true; the input reads as it did. -/
def headsWritesSpec : ChangeSpec := { name := "headsWrites", fn := fun _ => fun
  | [d1, d2, d3] => { results := [.lit (.bool true)], args := [d1, d2, d3] }
  | _ => none }
def headsWritesRow : OpenClaim := { program := "ytgepgbblmodagaa", sum := "04caac70a2f0c33c072b0c50a49fef152656d1d6cc4fb4ea163f89071ffee13c", func := "zoetrope/zoetropelaw20.HeadsWrites", spec := "headsWrites", apart := false }
def HeadsWritesSaid : Prop := headsWritesRow.holds Try.pinned (OpenSpec.ofChange headsWritesSpec)

/-- ITS FALSE NEIGHBOUR: 'it returns false'. Refute it at one input. -/
def headsWritesWrong : ChangeSpec := { name := "headsWrites", fn := fun _ => fun
  | [d1, d2, d3] => { results := [.lit (.bool false)], args := [d1, d2, d3] }
  | _ => none }
def HeadsWritesWrongFalsely : Prop := headsWritesRow.holds Try.pinned (OpenSpec.ofChange headsWritesWrong)

/-- 'zoetropelaw20.HeadsReads': WHATEVER THE INPUT: true; the input reads as it did. -/
def headsReadsSpec : ChangeSpec := { name := "headsReads", fn := fun _ => fun
  | [d1, d2, d3] => { results := [.lit (.bool true)], args := [d1, d2, d3] }
  | _ => none }
def headsReadsRow : OpenClaim := { program := "ytgepgbblmodagaa", sum := "04caac70a2f0c33c072b0c50a49fef152656d1d6cc4fb4ea163f89071ffee13c", func := "zoetrope/zoetropelaw20.HeadsReads", spec := "headsReads", apart := false }
def HeadsReadsSaid : Prop := headsReadsRow.holds Try.pinned (OpenSpec.ofChange headsReadsSpec)

/-- ITS FALSE NEIGHBOUR: 'it returns false'. Refute it at one input. -/
def headsReadsWrong : ChangeSpec := { name := "headsReads", fn := fun _ => fun
  | [d1, d2, d3] => { results := [.lit (.bool false)], args := [d1, d2, d3] }
  | _ => none }
def HeadsReadsWrongFalsely : Prop := headsReadsRow.holds Try.pinned (OpenSpec.ofChange headsReadsWrong)

/-- 'zoetropelaw20.HeadsBack': WHATEVER THE INPUT: true; the input reads as it did. -/
def headsBackSpec : ChangeSpec := { name := "headsBack", fn := fun _ => fun
  | [d1, d2] => { results := [.lit (.bool true)], args := [d1, d2] }
  | _ => none }
def headsBackRow : OpenClaim := { program := "ytgepgbblmodagaa", sum := "04caac70a2f0c33c072b0c50a49fef152656d1d6cc4fb4ea163f89071ffee13c", func := "zoetrope/zoetropelaw20.HeadsBack", spec := "headsBack", apart := false }
def HeadsBackSaid : Prop := headsBackRow.holds Try.pinned (OpenSpec.ofChange headsBackSpec)

/-- ITS FALSE NEIGHBOUR: 'it returns false'. Refute it at one input. -/
def headsBackWrong : ChangeSpec := { name := "headsBack", fn := fun _ => fun
  | [d1, d2] => { results := [.lit (.bool false)], args := [d1, d2] }
  | _ => none }
def HeadsBackWrongFalsely : Prop := headsBackRow.holds Try.pinned (OpenSpec.ofChange headsBackWrong)

/-- 'zoetropelaw20.HeadsAny': WHATEVER THE INPUT: true; the input reads as it did. -/
def headsAnySpec : ChangeSpec := { name := "headsAny", fn := fun _ => fun
  | [d1, d2] => { results := [.lit (.bool true)], args := [d1, d2] }
  | _ => none }
def headsAnyRow : OpenClaim := { program := "ytgepgbblmodagaa", sum := "04caac70a2f0c33c072b0c50a49fef152656d1d6cc4fb4ea163f89071ffee13c", func := "zoetrope/zoetropelaw20.HeadsAny", spec := "headsAny", apart := false }
def HeadsAnySaid : Prop := headsAnyRow.holds Try.pinned (OpenSpec.ofChange headsAnySpec)

/-- ITS FALSE NEIGHBOUR: 'it returns false'. Refute it at one input. -/
def headsAnyWrong : ChangeSpec := { name := "headsAny", fn := fun _ => fun
  | [d1, d2] => { results := [.lit (.bool false)], args := [d1, d2] }
  | _ => none }
def HeadsAnyWrongFalsely : Prop := headsAnyRow.holds Try.pinned (OpenSpec.ofChange headsAnyWrong)

/-- 'zoetropelaw20.HeadsNames': WHATEVER THE INPUT: true; the input reads as it did. -/
def headsNamesSpec : ChangeSpec := { name := "headsNames", fn := fun _ => fun
  | [] => { results := [.lit (.bool true)], args := [] }
  | _ => none }
def headsNamesRow : OpenClaim := { program := "ytgepgbblmodagaa", sum := "04caac70a2f0c33c072b0c50a49fef152656d1d6cc4fb4ea163f89071ffee13c", func := "zoetrope/zoetropelaw20.HeadsNames", spec := "headsNames", apart := false }
def HeadsNamesSaid : Prop := headsNamesRow.holds Try.pinned (OpenSpec.ofChange headsNamesSpec)

/-- ITS FALSE NEIGHBOUR: 'it returns false'. Refute it at one input. -/
def headsNamesWrong : ChangeSpec := { name := "headsNames", fn := fun _ => fun
  | [] => { results := [.lit (.bool false)], args := [] }
  | _ => none }
def HeadsNamesWrongFalsely : Prop := headsNamesRow.holds Try.pinned (OpenSpec.ofChange headsNamesWrong)

/- THE SECOND FORM. 'bulk': how many values and letters a reading holds, each counted each time it is reached (what is shared counts as often as it is met; a slice's spare places count too). A statement '..UptoSaid' is the law's where the arguments, and the package variables that the reading takes, are together of bulk at most 1048576: NARROWER than '..Said'. Prove '..Said' where nothing that the law and all that it calls make is longer than what came in: it says more and counts as full. Else prove '..UptoSaid'. A law counts once. -/
mutual
def uptoBulk {H : Type} : DataW H → Nat
  | .lit (.string bytes) => bytes.length + 1
  | .lit _ => 1
  | .nil => 1
  | .ptr d => uptoBulk d + 1
  | .slice elems spare => uptoBulkAll elems + uptoBulkAll spare + 1
  | .agg parts => uptoBulkAll parts + 1
  | .iface _ d => uptoBulk d + 1
  | .map entries => uptoBulkEntries entries + 1
  | .held _ => 1
def uptoBulkAll {H : Type} : List (DataW H) → Nat
  | [] => 0
  | d :: r => uptoBulk d + uptoBulkAll r
def uptoBulkEntries {H : Type} : List (Lit × DataW H) → Nat
  | [] => 0
  | x :: r => uptoBulkEntry x + uptoBulkEntries r
def uptoBulkEntry {H : Type} : Lit × DataW H → Nat
  | (.string bytes, d) => bytes.length + uptoBulk d + 1
  | (_, d) => uptoBulk d + 1
 end
def uptoSmall : (H : Type) → List (DataW H) → Bool := fun _ ds => decide (uptoBulkAll ds ≤ 1048576)
def OpenSpec.upto (s : _root_.Go.ChangeSpec) : _root_.Go.OpenSpec := { _root_.Go.OpenSpec.ofChange s with cond := some uptoSmall }

/-- 'zoetropelaw20.HeadsSeqs', WHERE WHAT IT READS IS OF BULK AT MOST 1048576: true; the input reads as it did. -/
def headsSeqsUptoRow : OpenClaim := { program := "ytgepgbblmodagaa", sum := "04caac70a2f0c33c072b0c50a49fef152656d1d6cc4fb4ea163f89071ffee13c", func := "zoetrope/zoetropelaw20.HeadsSeqs", spec := "headsSeqs", apart := false, narrowed := true }
def HeadsSeqsUptoSaid : Prop := headsSeqsUptoRow.holds Try.pinned (OpenSpec.upto headsSeqsSpec)

/-- 'zoetropelaw20.HeadsWrites', WHERE WHAT IT READS IS OF BULK AT MOST 1048576: true; the input reads as it did. -/
def headsWritesUptoRow : OpenClaim := { program := "ytgepgbblmodagaa", sum := "04caac70a2f0c33c072b0c50a49fef152656d1d6cc4fb4ea163f89071ffee13c", func := "zoetrope/zoetropelaw20.HeadsWrites", spec := "headsWrites", apart := false, narrowed := true }
def HeadsWritesUptoSaid : Prop := headsWritesUptoRow.holds Try.pinned (OpenSpec.upto headsWritesSpec)

/-- 'zoetropelaw20.HeadsReads', WHERE WHAT IT READS IS OF BULK AT MOST 1048576: true; the input reads as it did. -/
def headsReadsUptoRow : OpenClaim := { program := "ytgepgbblmodagaa", sum := "04caac70a2f0c33c072b0c50a49fef152656d1d6cc4fb4ea163f89071ffee13c", func := "zoetrope/zoetropelaw20.HeadsReads", spec := "headsReads", apart := false, narrowed := true }
def HeadsReadsUptoSaid : Prop := headsReadsUptoRow.holds Try.pinned (OpenSpec.upto headsReadsSpec)

/-- 'zoetropelaw20.HeadsBack', WHERE WHAT IT READS IS OF BULK AT MOST 1048576: true; the input reads as it did. -/
def headsBackUptoRow : OpenClaim := { program := "ytgepgbblmodagaa", sum := "04caac70a2f0c33c072b0c50a49fef152656d1d6cc4fb4ea163f89071ffee13c", func := "zoetrope/zoetropelaw20.HeadsBack", spec := "headsBack", apart := false, narrowed := true }
def HeadsBackUptoSaid : Prop := headsBackUptoRow.holds Try.pinned (OpenSpec.upto headsBackSpec)

/-- 'zoetropelaw20.HeadsAny', WHERE WHAT IT READS IS OF BULK AT MOST 1048576: true; the input reads as it did. -/
def headsAnyUptoRow : OpenClaim := { program := "ytgepgbblmodagaa", sum := "04caac70a2f0c33c072b0c50a49fef152656d1d6cc4fb4ea163f89071ffee13c", func := "zoetrope/zoetropelaw20.HeadsAny", spec := "headsAny", apart := false, narrowed := true }
def HeadsAnyUptoSaid : Prop := headsAnyUptoRow.holds Try.pinned (OpenSpec.upto headsAnySpec)

/-- 'zoetropelaw20.HeadsNames', WHERE WHAT IT READS IS OF BULK AT MOST 1048576: true; the input reads as it did. -/
def headsNamesUptoRow : OpenClaim := { program := "ytgepgbblmodagaa", sum := "04caac70a2f0c33c072b0c50a49fef152656d1d6cc4fb4ea163f89071ffee13c", func := "zoetrope/zoetropelaw20.HeadsNames", spec := "headsNames", apart := false, narrowed := true }
def HeadsNamesUptoSaid : Prop := headsNamesUptoRow.holds Try.pinned (OpenSpec.upto headsNamesSpec)

end Rows
end Go.Proofs.Ytgepgbblmodagaa
