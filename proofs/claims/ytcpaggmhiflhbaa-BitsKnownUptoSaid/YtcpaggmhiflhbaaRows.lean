/-
  No cell of these rows narrows 'for every input' (looked for: loops, veiled, ifaces, maps, wideKeys, modest, calm, conditions, laid).
  DERIVED. THE GIVEN ROWS OF THIS SEAT. 6 by the template 'for every input the law returns true; each argument reads behind the call as it read before'; 0 by the template 'total and deterministic' (their statements: YtcpaggmhiflhbaaTotals.lean).
  GIVEN WITH THE SEED: the statements are not yours to turn. If you find one false, say at which input.
  Laid BY PROGRAM, IN A SANDBOX (cutbox-rows.mjs): the forced cells as the released guide's own fill.sh prints them over the translation a442fb467e70f503… (all of the seat's roots in one cut). By AI agents, Wed Nov 11 2026. No macro, syntax, notation, axiom, sorry.
-/
import Derived.Test.YtcpaggmhiflhbaaChecked
import GoSem.Claim
import GoSem.ClaimJoined
import GoSem.ClaimMapViews
import Derived.JoinedTies
import Derived.KernelRfl
namespace Go.Proofs.Ytcpaggmhiflhbaa
/- THE CELL 'sum', in the pinned program and in every row, IS THE sha256 OF THE DUMP (.gsa) THAT YtcpaggmhiflhbaaProg.lean LOADS. Nothing in Lean hashes anything: it is a label: what it is worth is what the hold of that sum in a sandbox is worth. -/
noncomputable def Try.pinned : Pinned := { name := "ytcpaggmhiflhbaa", sum := "a442fb467e70f50387e6e91fbac54d4711024e6b0773944ab902ea9c1b1a5505", checked := Try.checked }
namespace Rows
def none {H : Type} : Left H := { results := [], args := [] }

/-- 'zoetropelaw01.BitsWrites': WHATEVER THE INPUT: true; the input reads as it did. -/
def bitsWritesSpec : ChangeSpec := { name := "bitsWrites", fn := fun _ => fun
  | [d] => { results := [.lit (.bool true)], args := [d] }
  | _ => none }
def bitsWritesRow : OpenClaim := { program := "ytcpaggmhiflhbaa", sum := "a442fb467e70f50387e6e91fbac54d4711024e6b0773944ab902ea9c1b1a5505", func := "zoetrope/zoetropelaw01.BitsWrites", spec := "bitsWrites", apart := false }
def BitsWritesSaid : Prop := bitsWritesRow.holds Try.pinned (OpenSpec.ofChange bitsWritesSpec)

/-- ITS FALSE NEIGHBOUR: 'it returns false'. Refute it at one input. -/
def bitsWritesWrong : ChangeSpec := { name := "bitsWrites", fn := fun _ => fun
  | [d] => { results := [.lit (.bool false)], args := [d] }
  | _ => none }
def BitsWritesWrongFalsely : Prop := bitsWritesRow.holds Try.pinned (OpenSpec.ofChange bitsWritesWrong)

/-- 'zoetropelaw01.BitsOnce': WHATEVER THE INPUT: true; the input reads as it did. -/
def bitsOnceSpec : ChangeSpec := { name := "bitsOnce", fn := fun _ => fun
  | [d1, d2] => { results := [.lit (.bool true)], args := [d1, d2] }
  | _ => none }
def bitsOnceRow : OpenClaim := { program := "ytcpaggmhiflhbaa", sum := "a442fb467e70f50387e6e91fbac54d4711024e6b0773944ab902ea9c1b1a5505", func := "zoetrope/zoetropelaw01.BitsOnce", spec := "bitsOnce", apart := false }
def BitsOnceSaid : Prop := bitsOnceRow.holds Try.pinned (OpenSpec.ofChange bitsOnceSpec)

/-- ITS FALSE NEIGHBOUR: 'it returns false'. Refute it at one input. -/
def bitsOnceWrong : ChangeSpec := { name := "bitsOnce", fn := fun _ => fun
  | [d1, d2] => { results := [.lit (.bool false)], args := [d1, d2] }
  | _ => none }
def BitsOnceWrongFalsely : Prop := bitsOnceRow.holds Try.pinned (OpenSpec.ofChange bitsOnceWrong)

/-- 'zoetropelaw01.BitsStays': WHATEVER THE INPUT: true; the input reads as it did. -/
def bitsStaysSpec : ChangeSpec := { name := "bitsStays", fn := fun _ => fun
  | [d1, d2] => { results := [.lit (.bool true)], args := [d1, d2] }
  | _ => none }
def bitsStaysRow : OpenClaim := { program := "ytcpaggmhiflhbaa", sum := "a442fb467e70f50387e6e91fbac54d4711024e6b0773944ab902ea9c1b1a5505", func := "zoetrope/zoetropelaw01.BitsStays", spec := "bitsStays", apart := false }
def BitsStaysSaid : Prop := bitsStaysRow.holds Try.pinned (OpenSpec.ofChange bitsStaysSpec)

/-- ITS FALSE NEIGHBOUR: 'it returns false'. Refute it at one input. -/
def bitsStaysWrong : ChangeSpec := { name := "bitsStays", fn := fun _ => fun
  | [d1, d2] => { results := [.lit (.bool false)], args := [d1, d2] }
  | _ => none }
def BitsStaysWrongFalsely : Prop := bitsStaysRow.holds Try.pinned (OpenSpec.ofChange bitsStaysWrong)

/-- 'zoetropelaw01.BitsReads': WHATEVER THE INPUT: true; the input reads as it did. -/
def bitsReadsSpec : ChangeSpec := { name := "bitsReads", fn := fun _ => fun
  | [d1, d2] => { results := [.lit (.bool true)], args := [d1, d2] }
  | _ => none }
def bitsReadsRow : OpenClaim := { program := "ytcpaggmhiflhbaa", sum := "a442fb467e70f50387e6e91fbac54d4711024e6b0773944ab902ea9c1b1a5505", func := "zoetrope/zoetropelaw01.BitsReads", spec := "bitsReads", apart := false }
def BitsReadsSaid : Prop := bitsReadsRow.holds Try.pinned (OpenSpec.ofChange bitsReadsSpec)

/-- ITS FALSE NEIGHBOUR: 'it returns false'. Refute it at one input. -/
def bitsReadsWrong : ChangeSpec := { name := "bitsReads", fn := fun _ => fun
  | [d1, d2] => { results := [.lit (.bool false)], args := [d1, d2] }
  | _ => none }
def BitsReadsWrongFalsely : Prop := bitsReadsRow.holds Try.pinned (OpenSpec.ofChange bitsReadsWrong)

/-- 'zoetropelaw01.BitsBack': WHATEVER THE INPUT: true; the input reads as it did. -/
def bitsBackSpec : ChangeSpec := { name := "bitsBack", fn := fun _ => fun
  | [d] => { results := [.lit (.bool true)], args := [d] }
  | _ => none }
def bitsBackRow : OpenClaim := { program := "ytcpaggmhiflhbaa", sum := "a442fb467e70f50387e6e91fbac54d4711024e6b0773944ab902ea9c1b1a5505", func := "zoetrope/zoetropelaw01.BitsBack", spec := "bitsBack", apart := false }
def BitsBackSaid : Prop := bitsBackRow.holds Try.pinned (OpenSpec.ofChange bitsBackSpec)

/-- ITS FALSE NEIGHBOUR: 'it returns false'. Refute it at one input. -/
def bitsBackWrong : ChangeSpec := { name := "bitsBack", fn := fun _ => fun
  | [d] => { results := [.lit (.bool false)], args := [d] }
  | _ => none }
def BitsBackWrongFalsely : Prop := bitsBackRow.holds Try.pinned (OpenSpec.ofChange bitsBackWrong)

/-- 'zoetropelaw01.BitsKnown': WHATEVER THE INPUT: true; the input reads as it did. -/
def bitsKnownSpec : ChangeSpec := { name := "bitsKnown", fn := fun _ => fun
  | [] => { results := [.lit (.bool true)], args := [] }
  | _ => none }
def bitsKnownRow : OpenClaim := { program := "ytcpaggmhiflhbaa", sum := "a442fb467e70f50387e6e91fbac54d4711024e6b0773944ab902ea9c1b1a5505", func := "zoetrope/zoetropelaw01.BitsKnown", spec := "bitsKnown", apart := false }
def BitsKnownSaid : Prop := bitsKnownRow.holds Try.pinned (OpenSpec.ofChange bitsKnownSpec)

/-- ITS FALSE NEIGHBOUR: 'it returns false'. Refute it at one input. -/
def bitsKnownWrong : ChangeSpec := { name := "bitsKnown", fn := fun _ => fun
  | [] => { results := [.lit (.bool false)], args := [] }
  | _ => none }
def BitsKnownWrongFalsely : Prop := bitsKnownRow.holds Try.pinned (OpenSpec.ofChange bitsKnownWrong)

/- THE SECOND FORM. 'bulk': how many values and letters a reading holds, each counted each time it is reached (what is shared counts as often as it is met; a slice's spare places count too). A statement '..UptoSaid' is the law's where the arguments, and the package variables that the reading takes, are together of bulk at most 1048576: NARROWER than '..Said'. Prove '..Said' where nothing that the law and all that it calls make is longer than what came in: it says more and counts as full. Else prove '..UptoSaid'. A law counts once. -/
mutual
def uptoBulk {H : Type} : DataW H → Nat
  | .lit (.string bytes) => bytes.length + 1
  | .lit _ => 1
  | .nil => 1
  | .ptr d => uptoBulk d + 1
  | .slice elems spare => uptoBulkAll elems + uptoBulkAll spare + 1
  | .agg parts => uptoBulkAll parts + 1
  | .iface _ d => uptoBulk d + 1
  | .map entries => uptoBulkEntries entries + 1
  | .held _ => 1
def uptoBulkAll {H : Type} : List (DataW H) → Nat
  | [] => 0
  | d :: r => uptoBulk d + uptoBulkAll r
def uptoBulkEntries {H : Type} : List (Lit × DataW H) → Nat
  | [] => 0
  | x :: r => uptoBulkEntry x + uptoBulkEntries r
def uptoBulkEntry {H : Type} : Lit × DataW H → Nat
  | (.string bytes, d) => bytes.length + uptoBulk d + 1
  | (_, d) => uptoBulk d + 1
 end
def uptoSmall : (H : Type) → List (DataW H) → Bool := fun _ ds => decide (uptoBulkAll ds ≤ 1048576)
def OpenSpec.upto (s : _root_.Go.ChangeSpec) : _root_.Go.OpenSpec := { _root_.Go.OpenSpec.ofChange s with cond := some uptoSmall }

/-- 'zoetropelaw01.BitsWrites', WHERE WHAT IT READS IS OF BULK AT MOST 1048576: true; the input reads as it did. -/
def bitsWritesUptoRow : OpenClaim := { program := "ytcpaggmhiflhbaa", sum := "a442fb467e70f50387e6e91fbac54d4711024e6b0773944ab902ea9c1b1a5505", func := "zoetrope/zoetropelaw01.BitsWrites", spec := "bitsWrites", apart := false, narrowed := true }
def BitsWritesUptoSaid : Prop := bitsWritesUptoRow.holds Try.pinned (OpenSpec.upto bitsWritesSpec)

/-- 'zoetropelaw01.BitsOnce', WHERE WHAT IT READS IS OF BULK AT MOST 1048576: true; the input reads as it did. -/
def bitsOnceUptoRow : OpenClaim := { program := "ytcpaggmhiflhbaa", sum := "a442fb467e70f50387e6e91fbac54d4711024e6b0773944ab902ea9c1b1a5505", func := "zoetrope/zoetropelaw01.BitsOnce", spec := "bitsOnce", apart := false, narrowed := true }
def BitsOnceUptoSaid : Prop := bitsOnceUptoRow.holds Try.pinned (OpenSpec.upto bitsOnceSpec)

/-- 'zoetropelaw01.BitsStays', WHERE WHAT IT READS IS OF BULK AT MOST 1048576: true; the input reads as it did. -/
def bitsStaysUptoRow : OpenClaim := { program := "ytcpaggmhiflhbaa", sum := "a442fb467e70f50387e6e91fbac54d4711024e6b0773944ab902ea9c1b1a5505", func := "zoetrope/zoetropelaw01.BitsStays", spec := "bitsStays", apart := false, narrowed := true }
def BitsStaysUptoSaid : Prop := bitsStaysUptoRow.holds Try.pinned (OpenSpec.upto bitsStaysSpec)

/-- 'zoetropelaw01.BitsReads', WHERE WHAT IT READS IS OF BULK AT MOST 1048576: true; the input reads as it did. -/
def bitsReadsUptoRow : OpenClaim := { program := "ytcpaggmhiflhbaa", sum := "a442fb467e70f50387e6e91fbac54d4711024e6b0773944ab902ea9c1b1a5505", func := "zoetrope/zoetropelaw01.BitsReads", spec := "bitsReads", apart := false, narrowed := true }
def BitsReadsUptoSaid : Prop := bitsReadsUptoRow.holds Try.pinned (OpenSpec.upto bitsReadsSpec)

/-- 'zoetropelaw01.BitsBack', WHERE WHAT IT READS IS OF BULK AT MOST 1048576: true; the input reads as it did. -/
def bitsBackUptoRow : OpenClaim := { program := "ytcpaggmhiflhbaa", sum := "a442fb467e70f50387e6e91fbac54d4711024e6b0773944ab902ea9c1b1a5505", func := "zoetrope/zoetropelaw01.BitsBack", spec := "bitsBack", apart := false, narrowed := true }
def BitsBackUptoSaid : Prop := bitsBackUptoRow.holds Try.pinned (OpenSpec.upto bitsBackSpec)

/-- 'zoetropelaw01.BitsKnown', WHERE WHAT IT READS IS OF BULK AT MOST 1048576: true; the input reads as it did. -/
def bitsKnownUptoRow : OpenClaim := { program := "ytcpaggmhiflhbaa", sum := "a442fb467e70f50387e6e91fbac54d4711024e6b0773944ab902ea9c1b1a5505", func := "zoetrope/zoetropelaw01.BitsKnown", spec := "bitsKnown", apart := false, narrowed := true }
def BitsKnownUptoSaid : Prop := bitsKnownUptoRow.holds Try.pinned (OpenSpec.upto bitsKnownSpec)

end Rows
end Go.Proofs.Ytcpaggmhiflhbaa
