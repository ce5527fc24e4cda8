/-
  No cell of these rows narrows 'for every input' (looked for: loops, veiled, ifaces, maps, wideKeys, modest, calm, conditions, laid).
  DERIVED. THE GIVEN ROWS OF THIS SEAT. 8 by the template 'for every input the law returns true; each argument reads behind the call as it read before'; 0 by the template 'total and deterministic' (their statements: YtpfhalehdgcbeaaTotals.lean).
  GIVEN WITH THE SEED: the statements are not yours to turn. If you find one false, say at which input.
  Laid BY PROGRAM, IN A SANDBOX (cutbox-rows.mjs): the forced cells as the released guide's own fill.sh prints them over the translation 0a1b515255c52fc3… (all of the seat's roots in one cut). By AI agents, Wed Nov 11 2026. No macro, syntax, notation, axiom, sorry.
-/
import Derived.Test.YtpfhalehdgcbeaaChecked
import GoSem.Claim
import GoSem.ClaimJoined
import GoSem.ClaimMapViews
import Derived.JoinedTies
import Derived.KernelRfl
namespace Go.Proofs.Ytpfhalehdgcbeaa
/- THE CELL 'sum', in the pinned program and in every row, IS THE sha256 OF THE DUMP (.gsa) THAT YtpfhalehdgcbeaaProg.lean LOADS. Nothing in Lean hashes anything: it is a label: what it is worth is what the hold of that sum in a sandbox is worth. -/
noncomputable def Try.pinned : Pinned := { name := "ytpfhalehdgcbeaa", sum := "0a1b515255c52fc3754003f82d835e5b11dd87e8d6904295f2c087ef732d2aba", checked := Try.checked }
namespace Rows
def none {H : Type} : Left H := { results := [], args := [] }

/-- 'zoetropelaw08.TxfmInverts': WHATEVER THE INPUT: true; the input reads as it did. -/
def txfmInvertsSpec : ChangeSpec := { name := "txfmInverts", fn := fun _ => fun
  | [d1, d2, d3] => { results := [.lit (.bool true)], args := [d1, d2, d3] }
  | _ => none }
def txfmInvertsRow : OpenClaim := { program := "ytpfhalehdgcbeaa", sum := "0a1b515255c52fc3754003f82d835e5b11dd87e8d6904295f2c087ef732d2aba", func := "zoetrope/zoetropelaw08.TxfmInverts", spec := "txfmInverts", unfollowed := true, recurses := true, apart := false }
def TxfmInvertsSaid : Prop := txfmInvertsRow.holds Try.pinned (OpenSpec.ofChange txfmInvertsSpec)

/-- ITS FALSE NEIGHBOUR: 'it returns false'. Refute it at one input. -/
def txfmInvertsWrong : ChangeSpec := { name := "txfmInverts", fn := fun _ => fun
  | [d1, d2, d3] => { results := [.lit (.bool false)], args := [d1, d2, d3] }
  | _ => none }
def TxfmInvertsWrongFalsely : Prop := txfmInvertsRow.holds Try.pinned (OpenSpec.ofChange txfmInvertsWrong)

/-- 'zoetropelaw08.TxfmForwards': WHATEVER THE INPUT: true; the input reads as it did. -/
def txfmForwardsSpec : ChangeSpec := { name := "txfmForwards", fn := fun _ => fun
  | [d1, d2, d3] => { results := [.lit (.bool true)], args := [d1, d2, d3] }
  | _ => none }
def txfmForwardsRow : OpenClaim := { program := "ytpfhalehdgcbeaa", sum := "0a1b515255c52fc3754003f82d835e5b11dd87e8d6904295f2c087ef732d2aba", func := "zoetrope/zoetropelaw08.TxfmForwards", spec := "txfmForwards", unfollowed := true, recurses := true, apart := false }
def TxfmForwardsSaid : Prop := txfmForwardsRow.holds Try.pinned (OpenSpec.ofChange txfmForwardsSpec)

/-- ITS FALSE NEIGHBOUR: 'it returns false'. Refute it at one input. -/
def txfmForwardsWrong : ChangeSpec := { name := "txfmForwards", fn := fun _ => fun
  | [d1, d2, d3] => { results := [.lit (.bool false)], args := [d1, d2, d3] }
  | _ => none }
def TxfmForwardsWrongFalsely : Prop := txfmForwardsRow.holds Try.pinned (OpenSpec.ofChange txfmForwardsWrong)

/-- 'zoetropelaw08.TxfmLossless': WHATEVER THE INPUT: true; the input reads as it did. -/
def txfmLosslessSpec : ChangeSpec := { name := "txfmLossless", fn := fun _ => fun
  | [d] => { results := [.lit (.bool true)], args := [d] }
  | _ => none }
def txfmLosslessRow : OpenClaim := { program := "ytpfhalehdgcbeaa", sum := "0a1b515255c52fc3754003f82d835e5b11dd87e8d6904295f2c087ef732d2aba", func := "zoetrope/zoetropelaw08.TxfmLossless", spec := "txfmLossless", unfollowed := true, recurses := true, apart := false }
def TxfmLosslessSaid : Prop := txfmLosslessRow.holds Try.pinned (OpenSpec.ofChange txfmLosslessSpec)

/-- ITS FALSE NEIGHBOUR: 'it returns false'. Refute it at one input. -/
def txfmLosslessWrong : ChangeSpec := { name := "txfmLossless", fn := fun _ => fun
  | [d] => { results := [.lit (.bool false)], args := [d] }
  | _ => none }
def TxfmLosslessWrongFalsely : Prop := txfmLosslessRow.holds Try.pinned (OpenSpec.ofChange txfmLosslessWrong)

/-- 'zoetropelaw08.TxfmFlat': WHATEVER THE INPUT: true; the input reads as it did. -/
def txfmFlatSpec : ChangeSpec := { name := "txfmFlat", fn := fun _ => fun
  | [d] => { results := [.lit (.bool true)], args := [d] }
  | _ => none }
def txfmFlatRow : OpenClaim := { program := "ytpfhalehdgcbeaa", sum := "0a1b515255c52fc3754003f82d835e5b11dd87e8d6904295f2c087ef732d2aba", func := "zoetrope/zoetropelaw08.TxfmFlat", spec := "txfmFlat", unfollowed := true, recurses := true, apart := false }
def TxfmFlatSaid : Prop := txfmFlatRow.holds Try.pinned (OpenSpec.ofChange txfmFlatSpec)

/-- ITS FALSE NEIGHBOUR: 'it returns false'. Refute it at one input. -/
def txfmFlatWrong : ChangeSpec := { name := "txfmFlat", fn := fun _ => fun
  | [d] => { results := [.lit (.bool false)], args := [d] }
  | _ => none }
def TxfmFlatWrongFalsely : Prop := txfmFlatRow.holds Try.pinned (OpenSpec.ofChange txfmFlatWrong)

/-- 'zoetropelaw08.TxfmNear': WHATEVER THE INPUT: true; the input reads as it did. -/
def txfmNearSpec : ChangeSpec := { name := "txfmNear", fn := fun _ => fun
  | [d1, d2] => { results := [.lit (.bool true)], args := [d1, d2] }
  | _ => none }
def txfmNearRow : OpenClaim := { program := "ytpfhalehdgcbeaa", sum := "0a1b515255c52fc3754003f82d835e5b11dd87e8d6904295f2c087ef732d2aba", func := "zoetrope/zoetropelaw08.TxfmNear", spec := "txfmNear", unfollowed := true, recurses := true, apart := false }
def TxfmNearSaid : Prop := txfmNearRow.holds Try.pinned (OpenSpec.ofChange txfmNearSpec)

/-- ITS FALSE NEIGHBOUR: 'it returns false'. Refute it at one input. -/
def txfmNearWrong : ChangeSpec := { name := "txfmNear", fn := fun _ => fun
  | [d1, d2] => { results := [.lit (.bool false)], args := [d1, d2] }
  | _ => none }
def TxfmNearWrongFalsely : Prop := txfmNearRow.holds Try.pinned (OpenSpec.ofChange txfmNearWrong)

/-- 'zoetropelaw08.TxfmKnown': WHATEVER THE INPUT: true; the input reads as it did. -/
def txfmKnownSpec : ChangeSpec := { name := "txfmKnown", fn := fun _ => fun
  | [] => { results := [.lit (.bool true)], args := [] }
  | _ => none }
def txfmKnownRow : OpenClaim := { program := "ytpfhalehdgcbeaa", sum := "0a1b515255c52fc3754003f82d835e5b11dd87e8d6904295f2c087ef732d2aba", func := "zoetrope/zoetropelaw08.TxfmKnown", spec := "txfmKnown", unfollowed := true, recurses := true, apart := false }
def TxfmKnownSaid : Prop := txfmKnownRow.holds Try.pinned (OpenSpec.ofChange txfmKnownSpec)

/-- ITS FALSE NEIGHBOUR: 'it returns false'. Refute it at one input. -/
def txfmKnownWrong : ChangeSpec := { name := "txfmKnown", fn := fun _ => fun
  | [] => { results := [.lit (.bool false)], args := [] }
  | _ => none }
def TxfmKnownWrongFalsely : Prop := txfmKnownRow.holds Try.pinned (OpenSpec.ofChange txfmKnownWrong)

/-- 'zoetropelaw08.TxfmTypes': WHATEVER THE INPUT: true; the input reads as it did. -/
def txfmTypesSpec : ChangeSpec := { name := "txfmTypes", fn := fun _ => fun
  | [d] => { results := [.lit (.bool true)], args := [d] }
  | _ => none }
def txfmTypesRow : OpenClaim := { program := "ytpfhalehdgcbeaa", sum := "0a1b515255c52fc3754003f82d835e5b11dd87e8d6904295f2c087ef732d2aba", func := "zoetrope/zoetropelaw08.TxfmTypes", spec := "txfmTypes", unfollowed := true, recurses := true, apart := false }
def TxfmTypesSaid : Prop := txfmTypesRow.holds Try.pinned (OpenSpec.ofChange txfmTypesSpec)

/-- ITS FALSE NEIGHBOUR: 'it returns false'. Refute it at one input. -/
def txfmTypesWrong : ChangeSpec := { name := "txfmTypes", fn := fun _ => fun
  | [d] => { results := [.lit (.bool false)], args := [d] }
  | _ => none }
def TxfmTypesWrongFalsely : Prop := txfmTypesRow.holds Try.pinned (OpenSpec.ofChange txfmTypesWrong)

/-- 'zoetropelaw08.TxfmBounded': WHATEVER THE INPUT: true; the input reads as it did. -/
def txfmBoundedSpec : ChangeSpec := { name := "txfmBounded", fn := fun _ => fun
  | [d1, d2] => { results := [.lit (.bool true)], args := [d1, d2] }
  | _ => none }
def txfmBoundedRow : OpenClaim := { program := "ytpfhalehdgcbeaa", sum := "0a1b515255c52fc3754003f82d835e5b11dd87e8d6904295f2c087ef732d2aba", func := "zoetrope/zoetropelaw08.TxfmBounded", spec := "txfmBounded", unfollowed := true, recurses := true, apart := false }
def TxfmBoundedSaid : Prop := txfmBoundedRow.holds Try.pinned (OpenSpec.ofChange txfmBoundedSpec)

/-- ITS FALSE NEIGHBOUR: 'it returns false'. Refute it at one input. -/
def txfmBoundedWrong : ChangeSpec := { name := "txfmBounded", fn := fun _ => fun
  | [d1, d2] => { results := [.lit (.bool false)], args := [d1, d2] }
  | _ => none }
def TxfmBoundedWrongFalsely : Prop := txfmBoundedRow.holds Try.pinned (OpenSpec.ofChange txfmBoundedWrong)

/- THE SECOND FORM. 'bulk': how many values and letters a reading holds, each counted each time it is reached (what is shared counts as often as it is met; a slice's spare places count too). A statement '..UptoSaid' is the law's where the arguments, and the package variables that the reading takes, are together of bulk at most 1048576: NARROWER than '..Said'. Prove '..Said' where nothing that the law and all that it calls make is longer than what came in: it says more and counts as full. Else prove '..UptoSaid'. A law counts once. -/
mutual
def uptoBulk {H : Type} : DataW H → Nat
  | .lit (.string bytes) => bytes.length + 1
  | .lit _ => 1
  | .nil => 1
  | .ptr d => uptoBulk d + 1
  | .slice elems spare => uptoBulkAll elems + uptoBulkAll spare + 1
  | .agg parts => uptoBulkAll parts + 1
  | .iface _ d => uptoBulk d + 1
  | .map entries => uptoBulkEntries entries + 1
  | .held _ => 1
def uptoBulkAll {H : Type} : List (DataW H) → Nat
  | [] => 0
  | d :: r => uptoBulk d + uptoBulkAll r
def uptoBulkEntries {H : Type} : List (Lit × DataW H) → Nat
  | [] => 0
  | x :: r => uptoBulkEntry x + uptoBulkEntries r
def uptoBulkEntry {H : Type} : Lit × DataW H → Nat
  | (.string bytes, d) => bytes.length + uptoBulk d + 1
  | (_, d) => uptoBulk d + 1
 end
def uptoSmall : (H : Type) → List (DataW H) → Bool := fun _ ds => decide (uptoBulkAll ds ≤ 1048576)
def OpenSpec.upto (s : _root_.Go.ChangeSpec) : _root_.Go.OpenSpec := { _root_.Go.OpenSpec.ofChange s with cond := some uptoSmall }

/-- 'zoetropelaw08.TxfmInverts', WHERE WHAT IT READS IS OF BULK AT MOST 1048576: true; the input reads as it did. -/
def txfmInvertsUptoRow : OpenClaim := { program := "ytpfhalehdgcbeaa", sum := "0a1b515255c52fc3754003f82d835e5b11dd87e8d6904295f2c087ef732d2aba", func := "zoetrope/zoetropelaw08.TxfmInverts", spec := "txfmInverts", unfollowed := true, recurses := true, apart := false, narrowed := true }
def TxfmInvertsUptoSaid : Prop := txfmInvertsUptoRow.holds Try.pinned (OpenSpec.upto txfmInvertsSpec)

/-- 'zoetropelaw08.TxfmForwards', WHERE WHAT IT READS IS OF BULK AT MOST 1048576: true; the input reads as it did. -/
def txfmForwardsUptoRow : OpenClaim := { program := "ytpfhalehdgcbeaa", sum := "0a1b515255c52fc3754003f82d835e5b11dd87e8d6904295f2c087ef732d2aba", func := "zoetrope/zoetropelaw08.TxfmForwards", spec := "txfmForwards", unfollowed := true, recurses := true, apart := false, narrowed := true }
def TxfmForwardsUptoSaid : Prop := txfmForwardsUptoRow.holds Try.pinned (OpenSpec.upto txfmForwardsSpec)

/-- 'zoetropelaw08.TxfmLossless', WHERE WHAT IT READS IS OF BULK AT MOST 1048576: true; the input reads as it did. -/
def txfmLosslessUptoRow : OpenClaim := { program := "ytpfhalehdgcbeaa", sum := "0a1b515255c52fc3754003f82d835e5b11dd87e8d6904295f2c087ef732d2aba", func := "zoetrope/zoetropelaw08.TxfmLossless", spec := "txfmLossless", unfollowed := true, recurses := true, apart := false, narrowed := true }
def TxfmLosslessUptoSaid : Prop := txfmLosslessUptoRow.holds Try.pinned (OpenSpec.upto txfmLosslessSpec)

/-- 'zoetropelaw08.TxfmFlat', WHERE WHAT IT READS IS OF BULK AT MOST 1048576: true; the input reads as it did. -/
def txfmFlatUptoRow : OpenClaim := { program := "ytpfhalehdgcbeaa", sum := "0a1b515255c52fc3754003f82d835e5b11dd87e8d6904295f2c087ef732d2aba", func := "zoetrope/zoetropelaw08.TxfmFlat", spec := "txfmFlat", unfollowed := true, recurses := true, apart := false, narrowed := true }
def TxfmFlatUptoSaid : Prop := txfmFlatUptoRow.holds Try.pinned (OpenSpec.upto txfmFlatSpec)

/-- 'zoetropelaw08.TxfmNear', WHERE WHAT IT READS IS OF BULK AT MOST 1048576: true; the input reads as it did. -/
def txfmNearUptoRow : OpenClaim := { program := "ytpfhalehdgcbeaa", sum := "0a1b515255c52fc3754003f82d835e5b11dd87e8d6904295f2c087ef732d2aba", func := "zoetrope/zoetropelaw08.TxfmNear", spec := "txfmNear", unfollowed := true, recurses := true, apart := false, narrowed := true }
def TxfmNearUptoSaid : Prop := txfmNearUptoRow.holds Try.pinned (OpenSpec.upto txfmNearSpec)

/-- 'zoetropelaw08.TxfmKnown', WHERE WHAT IT READS IS OF BULK AT MOST 1048576: true; the input reads as it did. -/
def txfmKnownUptoRow : OpenClaim := { program := "ytpfhalehdgcbeaa", sum := "0a1b515255c52fc3754003f82d835e5b11dd87e8d6904295f2c087ef732d2aba", func := "zoetrope/zoetropelaw08.TxfmKnown", spec := "txfmKnown", unfollowed := true, recurses := true, apart := false, narrowed := true }
def TxfmKnownUptoSaid : Prop := txfmKnownUptoRow.holds Try.pinned (OpenSpec.upto txfmKnownSpec)

/-- 'zoetropelaw08.TxfmTypes', WHERE WHAT IT READS IS OF BULK AT MOST 1048576: true; the input reads as it did. -/
def txfmTypesUptoRow : OpenClaim := { program := "ytpfhalehdgcbeaa", sum := "0a1b515255c52fc3754003f82d835e5b11dd87e8d6904295f2c087ef732d2aba", func := "zoetrope/zoetropelaw08.TxfmTypes", spec := "txfmTypes", unfollowed := true, recurses := true, apart := false, narrowed := true }
def TxfmTypesUptoSaid : Prop := txfmTypesUptoRow.holds Try.pinned (OpenSpec.upto txfmTypesSpec)

/-- 'zoetropelaw08.TxfmBounded', WHERE WHAT IT READS IS OF BULK AT MOST 1048576: true; the input reads as it did. -/
def txfmBoundedUptoRow : OpenClaim := { program := "ytpfhalehdgcbeaa", sum := "0a1b515255c52fc3754003f82d835e5b11dd87e8d6904295f2c087ef732d2aba", func := "zoetrope/zoetropelaw08.TxfmBounded", spec := "txfmBounded", unfollowed := true, recurses := true, apart := false, narrowed := true }
def TxfmBoundedUptoSaid : Prop := txfmBoundedUptoRow.holds Try.pinned (OpenSpec.upto txfmBoundedSpec)

end Rows
end Go.Proofs.Ytpfhalehdgcbeaa
