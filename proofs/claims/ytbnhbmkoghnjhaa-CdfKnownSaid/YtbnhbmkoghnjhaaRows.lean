/-
  No cell of these rows narrows 'for every input' (looked for: loops, veiled, ifaces, maps, wideKeys, modest, calm, conditions, laid).
  DERIVED. THE GIVEN ROWS OF THIS SEAT. 7 by the template 'for every input the law returns true; each argument reads behind the call as it read before'; 0 by the template 'total and deterministic' (their statements: YtbnhbmkoghnjhaaTotals.lean).
  GIVEN WITH THE SEED: the statements are not yours to turn. If you find one false, say at which input.
  Laid BY PROGRAM, IN A SANDBOX (cutbox-rows.mjs): the forced cells as the released guide's own fill.sh prints them over the translation ebabc41ffe95642e… (all of the seat's roots in one cut). By AI agents, Wed Nov 11 2026. No macro, syntax, notation, axiom, sorry.
-/
import Derived.Test.YtbnhbmkoghnjhaaChecked
import GoSem.Claim
import GoSem.ClaimJoined
import GoSem.ClaimMapViews
import Derived.JoinedTies
import Derived.KernelRfl
namespace Go.Proofs.Ytbnhbmkoghnjhaa
/- THE CELL 'sum', in the pinned program and in every row, IS THE sha256 OF THE DUMP (.gsa) THAT YtbnhbmkoghnjhaaProg.lean LOADS. Nothing in Lean hashes anything: it is a label: what it is worth is what the hold of that sum in a sandbox is worth. -/
noncomputable def Try.pinned : Pinned := { name := "ytbnhbmkoghnjhaa", sum := "ebabc41ffe95642e4968831d71945575283735f524323f604b3b78e02f9fa223", checked := Try.checked }
namespace Rows
def none {H : Type} : Left H := { results := [], args := [] }

/-- 'zoetropelaw03.CdfLearns': WHATEVER THE INPUT: true; the input reads as it did. -/
def cdfLearnsSpec : ChangeSpec := { name := "cdfLearns", fn := fun _ => fun
  | [d1, d2] => { results := [.lit (.bool true)], args := [d1, d2] }
  | _ => none }
def cdfLearnsRow : OpenClaim := { program := "ytbnhbmkoghnjhaa", sum := "ebabc41ffe95642e4968831d71945575283735f524323f604b3b78e02f9fa223", func := "zoetrope/zoetropelaw03.CdfLearns", spec := "cdfLearns", apart := false }
def CdfLearnsSaid : Prop := cdfLearnsRow.holds Try.pinned (OpenSpec.ofChange cdfLearnsSpec)

/-- ITS FALSE NEIGHBOUR: 'it returns false'. Refute it at one input. -/
def cdfLearnsWrong : ChangeSpec := { name := "cdfLearns", fn := fun _ => fun
  | [d1, d2] => { results := [.lit (.bool false)], args := [d1, d2] }
  | _ => none }
def CdfLearnsWrongFalsely : Prop := cdfLearnsRow.holds Try.pinned (OpenSpec.ofChange cdfLearnsWrong)

/-- 'zoetropelaw03.CdfAverages': WHATEVER THE INPUT: true; the input reads as it did. -/
def cdfAveragesSpec : ChangeSpec := { name := "cdfAverages", fn := fun _ => fun
  | [d] => { results := [.lit (.bool true)], args := [d] }
  | _ => none }
def cdfAveragesRow : OpenClaim := { program := "ytbnhbmkoghnjhaa", sum := "ebabc41ffe95642e4968831d71945575283735f524323f604b3b78e02f9fa223", func := "zoetrope/zoetropelaw03.CdfAverages", spec := "cdfAverages", apart := false }
def CdfAveragesSaid : Prop := cdfAveragesRow.holds Try.pinned (OpenSpec.ofChange cdfAveragesSpec)

/-- ITS FALSE NEIGHBOUR: 'it returns false'. Refute it at one input. -/
def cdfAveragesWrong : ChangeSpec := { name := "cdfAverages", fn := fun _ => fun
  | [d] => { results := [.lit (.bool false)], args := [d] }
  | _ => none }
def CdfAveragesWrongFalsely : Prop := cdfAveragesRow.holds Try.pinned (OpenSpec.ofChange cdfAveragesWrong)

/-- 'zoetropelaw03.CdfParts': WHATEVER THE INPUT: true; the input reads as it did. -/
def cdfPartsSpec : ChangeSpec := { name := "cdfParts", fn := fun _ => fun
  | [d1, d2] => { results := [.lit (.bool true)], args := [d1, d2] }
  | _ => none }
def cdfPartsRow : OpenClaim := { program := "ytbnhbmkoghnjhaa", sum := "ebabc41ffe95642e4968831d71945575283735f524323f604b3b78e02f9fa223", func := "zoetrope/zoetropelaw03.CdfParts", spec := "cdfParts", apart := false }
def CdfPartsSaid : Prop := cdfPartsRow.holds Try.pinned (OpenSpec.ofChange cdfPartsSpec)

/-- ITS FALSE NEIGHBOUR: 'it returns false'. Refute it at one input. -/
def cdfPartsWrong : ChangeSpec := { name := "cdfParts", fn := fun _ => fun
  | [d1, d2] => { results := [.lit (.bool false)], args := [d1, d2] }
  | _ => none }
def CdfPartsWrongFalsely : Prop := cdfPartsRow.holds Try.pinned (OpenSpec.ofChange cdfPartsWrong)

/-- 'zoetropelaw03.CdfLearnt': WHATEVER THE INPUT: true; the input reads as it did. -/
def cdfLearntSpec : ChangeSpec := { name := "cdfLearnt", fn := fun _ => fun
  | [d1, d2] => { results := [.lit (.bool true)], args := [d1, d2] }
  | _ => none }
def cdfLearntRow : OpenClaim := { program := "ytbnhbmkoghnjhaa", sum := "ebabc41ffe95642e4968831d71945575283735f524323f604b3b78e02f9fa223", func := "zoetrope/zoetropelaw03.CdfLearnt", spec := "cdfLearnt", apart := false }
def CdfLearntSaid : Prop := cdfLearntRow.holds Try.pinned (OpenSpec.ofChange cdfLearntSpec)

/-- ITS FALSE NEIGHBOUR: 'it returns false'. Refute it at one input. -/
def cdfLearntWrong : ChangeSpec := { name := "cdfLearnt", fn := fun _ => fun
  | [d1, d2] => { results := [.lit (.bool false)], args := [d1, d2] }
  | _ => none }
def CdfLearntWrongFalsely : Prop := cdfLearntRow.holds Try.pinned (OpenSpec.ofChange cdfLearntWrong)

/-- 'zoetropelaw03.CdfMiddle': WHATEVER THE INPUT: true; the input reads as it did. -/
def cdfMiddleSpec : ChangeSpec := { name := "cdfMiddle", fn := fun _ => fun
  | [d1, d2] => { results := [.lit (.bool true)], args := [d1, d2] }
  | _ => none }
def cdfMiddleRow : OpenClaim := { program := "ytbnhbmkoghnjhaa", sum := "ebabc41ffe95642e4968831d71945575283735f524323f604b3b78e02f9fa223", func := "zoetrope/zoetropelaw03.CdfMiddle", spec := "cdfMiddle", apart := false }
def CdfMiddleSaid : Prop := cdfMiddleRow.holds Try.pinned (OpenSpec.ofChange cdfMiddleSpec)

/-- ITS FALSE NEIGHBOUR: 'it returns false'. Refute it at one input. -/
def cdfMiddleWrong : ChangeSpec := { name := "cdfMiddle", fn := fun _ => fun
  | [d1, d2] => { results := [.lit (.bool false)], args := [d1, d2] }
  | _ => none }
def CdfMiddleWrongFalsely : Prop := cdfMiddleRow.holds Try.pinned (OpenSpec.ofChange cdfMiddleWrong)

/-- 'zoetropelaw03.CdfTells': WHATEVER THE INPUT: true; the input reads as it did. -/
def cdfTellsSpec : ChangeSpec := { name := "cdfTells", fn := fun _ => fun
  | [d1, d2, d3] => { results := [.lit (.bool true)], args := [d1, d2, d3] }
  | _ => none }
def cdfTellsRow : OpenClaim := { program := "ytbnhbmkoghnjhaa", sum := "ebabc41ffe95642e4968831d71945575283735f524323f604b3b78e02f9fa223", func := "zoetrope/zoetropelaw03.CdfTells", spec := "cdfTells", apart := false }
def CdfTellsSaid : Prop := cdfTellsRow.holds Try.pinned (OpenSpec.ofChange cdfTellsSpec)

/-- ITS FALSE NEIGHBOUR: 'it returns false'. Refute it at one input. -/
def cdfTellsWrong : ChangeSpec := { name := "cdfTells", fn := fun _ => fun
  | [d1, d2, d3] => { results := [.lit (.bool false)], args := [d1, d2, d3] }
  | _ => none }
def CdfTellsWrongFalsely : Prop := cdfTellsRow.holds Try.pinned (OpenSpec.ofChange cdfTellsWrong)

/-- 'zoetropelaw03.CdfKnown': WHATEVER THE INPUT: true; the input reads as it did. -/
def cdfKnownSpec : ChangeSpec := { name := "cdfKnown", fn := fun _ => fun
  | [] => { results := [.lit (.bool true)], args := [] }
  | _ => none }
def cdfKnownRow : OpenClaim := { program := "ytbnhbmkoghnjhaa", sum := "ebabc41ffe95642e4968831d71945575283735f524323f604b3b78e02f9fa223", func := "zoetrope/zoetropelaw03.CdfKnown", spec := "cdfKnown", apart := false }
def CdfKnownSaid : Prop := cdfKnownRow.holds Try.pinned (OpenSpec.ofChange cdfKnownSpec)

/-- ITS FALSE NEIGHBOUR: 'it returns false'. Refute it at one input. -/
def cdfKnownWrong : ChangeSpec := { name := "cdfKnown", fn := fun _ => fun
  | [] => { results := [.lit (.bool false)], args := [] }
  | _ => none }
def CdfKnownWrongFalsely : Prop := cdfKnownRow.holds Try.pinned (OpenSpec.ofChange cdfKnownWrong)

/- THE SECOND FORM. 'bulk': how many values and letters a reading holds, each counted each time it is reached (what is shared counts as often as it is met; a slice's spare places count too). A statement '..UptoSaid' is the law's where the arguments, and the package variables that the reading takes, are together of bulk at most 1048576: NARROWER than '..Said'. Prove '..Said' where nothing that the law and all that it calls make is longer than what came in: it says more and counts as full. Else prove '..UptoSaid'. A law counts once. -/
mutual
def uptoBulk {H : Type} : DataW H → Nat
  | .lit (.string bytes) => bytes.length + 1
  | .lit _ => 1
  | .nil => 1
  | .ptr d => uptoBulk d + 1
  | .slice elems spare => uptoBulkAll elems + uptoBulkAll spare + 1
  | .agg parts => uptoBulkAll parts + 1
  | .iface _ d => uptoBulk d + 1
  | .map entries => uptoBulkEntries entries + 1
  | .held _ => 1
def uptoBulkAll {H : Type} : List (DataW H) → Nat
  | [] => 0
  | d :: r => uptoBulk d + uptoBulkAll r
def uptoBulkEntries {H : Type} : List (Lit × DataW H) → Nat
  | [] => 0
  | x :: r => uptoBulkEntry x + uptoBulkEntries r
def uptoBulkEntry {H : Type} : Lit × DataW H → Nat
  | (.string bytes, d) => bytes.length + uptoBulk d + 1
  | (_, d) => uptoBulk d + 1
 end
def uptoSmall : (H : Type) → List (DataW H) → Bool := fun _ ds => decide (uptoBulkAll ds ≤ 1048576)
def OpenSpec.upto (s : _root_.Go.ChangeSpec) : _root_.Go.OpenSpec := { _root_.Go.OpenSpec.ofChange s with cond := some uptoSmall }

/-- 'zoetropelaw03.CdfLearns', WHERE WHAT IT READS IS OF BULK AT MOST 1048576: true; the input reads as it did. -/
def cdfLearnsUptoRow : OpenClaim := { program := "ytbnhbmkoghnjhaa", sum := "ebabc41ffe95642e4968831d71945575283735f524323f604b3b78e02f9fa223", func := "zoetrope/zoetropelaw03.CdfLearns", spec := "cdfLearns", apart := false, narrowed := true }
def CdfLearnsUptoSaid : Prop := cdfLearnsUptoRow.holds Try.pinned (OpenSpec.upto cdfLearnsSpec)

/-- 'zoetropelaw03.CdfAverages', WHERE WHAT IT READS IS OF BULK AT MOST 1048576: true; the input reads as it did. -/
def cdfAveragesUptoRow : OpenClaim := { program := "ytbnhbmkoghnjhaa", sum := "ebabc41ffe95642e4968831d71945575283735f524323f604b3b78e02f9fa223", func := "zoetrope/zoetropelaw03.CdfAverages", spec := "cdfAverages", apart := false, narrowed := true }
def CdfAveragesUptoSaid : Prop := cdfAveragesUptoRow.holds Try.pinned (OpenSpec.upto cdfAveragesSpec)

/-- 'zoetropelaw03.CdfParts', WHERE WHAT IT READS IS OF BULK AT MOST 1048576: true; the input reads as it did. -/
def cdfPartsUptoRow : OpenClaim := { program := "ytbnhbmkoghnjhaa", sum := "ebabc41ffe95642e4968831d71945575283735f524323f604b3b78e02f9fa223", func := "zoetrope/zoetropelaw03.CdfParts", spec := "cdfParts", apart := false, narrowed := true }
def CdfPartsUptoSaid : Prop := cdfPartsUptoRow.holds Try.pinned (OpenSpec.upto cdfPartsSpec)

/-- 'zoetropelaw03.CdfLearnt', WHERE WHAT IT READS IS OF BULK AT MOST 1048576: true; the input reads as it did. -/
def cdfLearntUptoRow : OpenClaim := { program := "ytbnhbmkoghnjhaa", sum := "ebabc41ffe95642e4968831d71945575283735f524323f604b3b78e02f9fa223", func := "zoetrope/zoetropelaw03.CdfLearnt", spec := "cdfLearnt", apart := false, narrowed := true }
def CdfLearntUptoSaid : Prop := cdfLearntUptoRow.holds Try.pinned (OpenSpec.upto cdfLearntSpec)

/-- 'zoetropelaw03.CdfMiddle', WHERE WHAT IT READS IS OF BULK AT MOST 1048576: true; the input reads as it did. -/
def cdfMiddleUptoRow : OpenClaim := { program := "ytbnhbmkoghnjhaa", sum := "ebabc41ffe95642e4968831d71945575283735f524323f604b3b78e02f9fa223", func := "zoetrope/zoetropelaw03.CdfMiddle", spec := "cdfMiddle", apart := false, narrowed := true }
def CdfMiddleUptoSaid : Prop := cdfMiddleUptoRow.holds Try.pinned (OpenSpec.upto cdfMiddleSpec)

/-- 'zoetropelaw03.CdfTells', WHERE WHAT IT READS IS OF BULK AT MOST 1048576: true; the input reads as it did. -/
def cdfTellsUptoRow : OpenClaim := { program := "ytbnhbmkoghnjhaa", sum := "ebabc41ffe95642e4968831d71945575283735f524323f604b3b78e02f9fa223", func := "zoetrope/zoetropelaw03.CdfTells", spec := "cdfTells", apart := false, narrowed := true }
def CdfTellsUptoSaid : Prop := cdfTellsUptoRow.holds Try.pinned (OpenSpec.upto cdfTellsSpec)

/-- 'zoetropelaw03.CdfKnown', WHERE WHAT IT READS IS OF BULK AT MOST 1048576: true; the input reads as it did. -/
def cdfKnownUptoRow : OpenClaim := { program := "ytbnhbmkoghnjhaa", sum := "ebabc41ffe95642e4968831d71945575283735f524323f604b3b78e02f9fa223", func := "zoetrope/zoetropelaw03.CdfKnown", spec := "cdfKnown", apart := false, narrowed := true }
def CdfKnownUptoSaid : Prop := cdfKnownUptoRow.holds Try.pinned (OpenSpec.upto cdfKnownSpec)

end Rows
end Go.Proofs.Ytbnhbmkoghnjhaa
