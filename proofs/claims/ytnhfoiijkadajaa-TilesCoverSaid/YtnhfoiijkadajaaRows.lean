/-
  No cell of these rows narrows 'for every input' (looked for: loops, veiled, ifaces, maps, wideKeys, modest, calm, conditions, laid).
  DERIVED. THE GIVEN ROWS OF THIS SEAT. 7 by the template 'for every input the law returns true; each argument reads behind the call as it read before'; 0 by the template 'total and deterministic' (their statements: YtnhfoiijkadajaaTotals.lean).
  GIVEN WITH THE SEED: the statements are not yours to turn. If you find one false, say at which input.
  Laid BY PROGRAM, IN A SANDBOX (cutbox-rows.mjs): the forced cells as the released guide's own fill.sh prints them over the translation f4b70cd394f53148… (all of the seat's roots in one cut). By AI agents, Wed Nov 11 2026. No macro, syntax, notation, axiom, sorry.
-/
import Derived.Test.YtnhfoiijkadajaaChecked
import GoSem.Claim
import GoSem.ClaimJoined
import GoSem.ClaimMapViews
import Derived.JoinedTies
import Derived.KernelRfl
namespace Go.Proofs.Ytnhfoiijkadajaa
/- THE CELL 'sum', in the pinned program and in every row, IS THE sha256 OF THE DUMP (.gsa) THAT YtnhfoiijkadajaaProg.lean LOADS. Nothing in Lean hashes anything: it is a label: what it is worth is what the hold of that sum in a sandbox is worth. -/
noncomputable def Try.pinned : Pinned := { name := "ytnhfoiijkadajaa", sum := "f4b70cd394f531484faa4c5869202714543b6e8b5ec84c339a0c3187946e8942", checked := Try.checked }
namespace Rows
def none {H : Type} : Left H := { results := [], args := [] }

/-- 'zoetropelaw21.TilesTurns': WHATEVER THE INPUT: true; the input reads as it did. -/
def tilesTurnsSpec : ChangeSpec := { name := "tilesTurns", fn := fun _ => fun
  | [d1, d2, d3] => { results := [.lit (.bool true)], args := [d1, d2, d3] }
  | _ => none }
def tilesTurnsRow : OpenClaim := { program := "ytnhfoiijkadajaa", sum := "f4b70cd394f531484faa4c5869202714543b6e8b5ec84c339a0c3187946e8942", func := "zoetrope/zoetropelaw21.TilesTurns", spec := "tilesTurns", apart := false }
def TilesTurnsSaid : Prop := tilesTurnsRow.holds Try.pinned (OpenSpec.ofChange tilesTurnsSpec)

/-- ITS FALSE NEIGHBOUR: 'it returns false'. Refute it at one input. -/
def tilesTurnsWrong : ChangeSpec := { name := "tilesTurns", fn := fun _ => fun
  | [d1, d2, d3] => { results := [.lit (.bool false)], args := [d1, d2, d3] }
  | _ => none }
def TilesTurnsWrongFalsely : Prop := tilesTurnsRow.holds Try.pinned (OpenSpec.ofChange tilesTurnsWrong)

/-- 'zoetropelaw21.TilesFair': WHATEVER THE INPUT: true; the input reads as it did. -/
def tilesFairSpec : ChangeSpec := { name := "tilesFair", fn := fun _ => fun
  | [d1, d2, d3] => { results := [.lit (.bool true)], args := [d1, d2, d3] }
  | _ => none }
def tilesFairRow : OpenClaim := { program := "ytnhfoiijkadajaa", sum := "f4b70cd394f531484faa4c5869202714543b6e8b5ec84c339a0c3187946e8942", func := "zoetrope/zoetropelaw21.TilesFair", spec := "tilesFair", apart := false }
def TilesFairSaid : Prop := tilesFairRow.holds Try.pinned (OpenSpec.ofChange tilesFairSpec)

/-- ITS FALSE NEIGHBOUR: 'it returns false'. Refute it at one input. -/
def tilesFairWrong : ChangeSpec := { name := "tilesFair", fn := fun _ => fun
  | [d1, d2, d3] => { results := [.lit (.bool false)], args := [d1, d2, d3] }
  | _ => none }
def TilesFairWrongFalsely : Prop := tilesFairRow.holds Try.pinned (OpenSpec.ofChange tilesFairWrong)

/-- 'zoetropelaw21.TilesLays': WHATEVER THE INPUT: true; the input reads as it did. -/
def tilesLaysSpec : ChangeSpec := { name := "tilesLays", fn := fun _ => fun
  | [d1, d2, d3] => { results := [.lit (.bool true)], args := [d1, d2, d3] }
  | _ => none }
def tilesLaysRow : OpenClaim := { program := "ytnhfoiijkadajaa", sum := "f4b70cd394f531484faa4c5869202714543b6e8b5ec84c339a0c3187946e8942", func := "zoetrope/zoetropelaw21.TilesLays", spec := "tilesLays", apart := false }
def TilesLaysSaid : Prop := tilesLaysRow.holds Try.pinned (OpenSpec.ofChange tilesLaysSpec)

/-- ITS FALSE NEIGHBOUR: 'it returns false'. Refute it at one input. -/
def tilesLaysWrong : ChangeSpec := { name := "tilesLays", fn := fun _ => fun
  | [d1, d2, d3] => { results := [.lit (.bool false)], args := [d1, d2, d3] }
  | _ => none }
def TilesLaysWrongFalsely : Prop := tilesLaysRow.holds Try.pinned (OpenSpec.ofChange tilesLaysWrong)

/-- 'zoetropelaw21.TilesCover': WHATEVER THE INPUT: true; the input reads as it did. -/
def tilesCoverSpec : ChangeSpec := { name := "tilesCover", fn := fun _ => fun
  | [d1, d2, d3] => { results := [.lit (.bool true)], args := [d1, d2, d3] }
  | _ => none }
def tilesCoverRow : OpenClaim := { program := "ytnhfoiijkadajaa", sum := "f4b70cd394f531484faa4c5869202714543b6e8b5ec84c339a0c3187946e8942", func := "zoetrope/zoetropelaw21.TilesCover", spec := "tilesCover", apart := false }
def TilesCoverSaid : Prop := tilesCoverRow.holds Try.pinned (OpenSpec.ofChange tilesCoverSpec)

/-- ITS FALSE NEIGHBOUR: 'it returns false'. Refute it at one input. -/
def tilesCoverWrong : ChangeSpec := { name := "tilesCover", fn := fun _ => fun
  | [d1, d2, d3] => { results := [.lit (.bool false)], args := [d1, d2, d3] }
  | _ => none }
def TilesCoverWrongFalsely : Prop := tilesCoverRow.holds Try.pinned (OpenSpec.ofChange tilesCoverWrong)

/-- 'zoetropelaw21.TilesBodies': WHATEVER THE INPUT: true; the input reads as it did. -/
def tilesBodiesSpec : ChangeSpec := { name := "tilesBodies", fn := fun _ => fun
  | [d1, d2, d3] => { results := [.lit (.bool true)], args := [d1, d2, d3] }
  | _ => none }
def tilesBodiesRow : OpenClaim := { program := "ytnhfoiijkadajaa", sum := "f4b70cd394f531484faa4c5869202714543b6e8b5ec84c339a0c3187946e8942", func := "zoetrope/zoetropelaw21.TilesBodies", spec := "tilesBodies", apart := false }
def TilesBodiesSaid : Prop := tilesBodiesRow.holds Try.pinned (OpenSpec.ofChange tilesBodiesSpec)

/-- ITS FALSE NEIGHBOUR: 'it returns false'. Refute it at one input. -/
def tilesBodiesWrong : ChangeSpec := { name := "tilesBodies", fn := fun _ => fun
  | [d1, d2, d3] => { results := [.lit (.bool false)], args := [d1, d2, d3] }
  | _ => none }
def TilesBodiesWrongFalsely : Prop := tilesBodiesRow.holds Try.pinned (OpenSpec.ofChange tilesBodiesWrong)

/-- 'zoetropelaw21.TilesBack': WHATEVER THE INPUT: true; the input reads as it did. -/
def tilesBackSpec : ChangeSpec := { name := "tilesBack", fn := fun _ => fun
  | [d1, d2, d3] => { results := [.lit (.bool true)], args := [d1, d2, d3] }
  | _ => none }
def tilesBackRow : OpenClaim := { program := "ytnhfoiijkadajaa", sum := "f4b70cd394f531484faa4c5869202714543b6e8b5ec84c339a0c3187946e8942", func := "zoetrope/zoetropelaw21.TilesBack", spec := "tilesBack", apart := false }
def TilesBackSaid : Prop := tilesBackRow.holds Try.pinned (OpenSpec.ofChange tilesBackSpec)

/-- ITS FALSE NEIGHBOUR: 'it returns false'. Refute it at one input. -/
def tilesBackWrong : ChangeSpec := { name := "tilesBack", fn := fun _ => fun
  | [d1, d2, d3] => { results := [.lit (.bool false)], args := [d1, d2, d3] }
  | _ => none }
def TilesBackWrongFalsely : Prop := tilesBackRow.holds Try.pinned (OpenSpec.ofChange tilesBackWrong)

/-- 'zoetropelaw21.TilesNames': WHATEVER THE INPUT: true; the input reads as it did. -/
def tilesNamesSpec : ChangeSpec := { name := "tilesNames", fn := fun _ => fun
  | [] => { results := [.lit (.bool true)], args := [] }
  | _ => none }
def tilesNamesRow : OpenClaim := { program := "ytnhfoiijkadajaa", sum := "f4b70cd394f531484faa4c5869202714543b6e8b5ec84c339a0c3187946e8942", func := "zoetrope/zoetropelaw21.TilesNames", spec := "tilesNames", apart := false }
def TilesNamesSaid : Prop := tilesNamesRow.holds Try.pinned (OpenSpec.ofChange tilesNamesSpec)

/-- ITS FALSE NEIGHBOUR: 'it returns false'. Refute it at one input. -/
def tilesNamesWrong : ChangeSpec := { name := "tilesNames", fn := fun _ => fun
  | [] => { results := [.lit (.bool false)], args := [] }
  | _ => none }
def TilesNamesWrongFalsely : Prop := tilesNamesRow.holds Try.pinned (OpenSpec.ofChange tilesNamesWrong)

/- THE SECOND FORM. 'bulk': how many values and letters a reading holds, each counted each time it is reached (what is shared counts as often as it is met; a slice's spare places count too). A statement '..UptoSaid' is the law's where the arguments, and the package variables that the reading takes, are together of bulk at most 1048576: NARROWER than '..Said'. Prove '..Said' where nothing that the law and all that it calls make is longer than what came in: it says more and counts as full. Else prove '..UptoSaid'. A law counts once. -/
mutual
def uptoBulk {H : Type} : DataW H → Nat
  | .lit (.string bytes) => bytes.length + 1
  | .lit _ => 1
  | .nil => 1
  | .ptr d => uptoBulk d + 1
  | .slice elems spare => uptoBulkAll elems + uptoBulkAll spare + 1
  | .agg parts => uptoBulkAll parts + 1
  | .iface _ d => uptoBulk d + 1
  | .map entries => uptoBulkEntries entries + 1
  | .held _ => 1
def uptoBulkAll {H : Type} : List (DataW H) → Nat
  | [] => 0
  | d :: r => uptoBulk d + uptoBulkAll r
def uptoBulkEntries {H : Type} : List (Lit × DataW H) → Nat
  | [] => 0
  | x :: r => uptoBulkEntry x + uptoBulkEntries r
def uptoBulkEntry {H : Type} : Lit × DataW H → Nat
  | (.string bytes, d) => bytes.length + uptoBulk d + 1
  | (_, d) => uptoBulk d + 1
 end
def uptoSmall : (H : Type) → List (DataW H) → Bool := fun _ ds => decide (uptoBulkAll ds ≤ 1048576)
def OpenSpec.upto (s : _root_.Go.ChangeSpec) : _root_.Go.OpenSpec := { _root_.Go.OpenSpec.ofChange s with cond := some uptoSmall }

/-- 'zoetropelaw21.TilesTurns', WHERE WHAT IT READS IS OF BULK AT MOST 1048576: true; the input reads as it did. -/
def tilesTurnsUptoRow : OpenClaim := { program := "ytnhfoiijkadajaa", sum := "f4b70cd394f531484faa4c5869202714543b6e8b5ec84c339a0c3187946e8942", func := "zoetrope/zoetropelaw21.TilesTurns", spec := "tilesTurns", apart := false, narrowed := true }
def TilesTurnsUptoSaid : Prop := tilesTurnsUptoRow.holds Try.pinned (OpenSpec.upto tilesTurnsSpec)

/-- 'zoetropelaw21.TilesFair', WHERE WHAT IT READS IS OF BULK AT MOST 1048576: true; the input reads as it did. -/
def tilesFairUptoRow : OpenClaim := { program := "ytnhfoiijkadajaa", sum := "f4b70cd394f531484faa4c5869202714543b6e8b5ec84c339a0c3187946e8942", func := "zoetrope/zoetropelaw21.TilesFair", spec := "tilesFair", apart := false, narrowed := true }
def TilesFairUptoSaid : Prop := tilesFairUptoRow.holds Try.pinned (OpenSpec.upto tilesFairSpec)

/-- 'zoetropelaw21.TilesLays', WHERE WHAT IT READS IS OF BULK AT MOST 1048576: true; the input reads as it did. -/
def tilesLaysUptoRow : OpenClaim := { program := "ytnhfoiijkadajaa", sum := "f4b70cd394f531484faa4c5869202714543b6e8b5ec84c339a0c3187946e8942", func := "zoetrope/zoetropelaw21.TilesLays", spec := "tilesLays", apart := false, narrowed := true }
def TilesLaysUptoSaid : Prop := tilesLaysUptoRow.holds Try.pinned (OpenSpec.upto tilesLaysSpec)

/-- 'zoetropelaw21.TilesCover', WHERE WHAT IT READS IS OF BULK AT MOST 1048576: true; the input reads as it did. -/
def tilesCoverUptoRow : OpenClaim := { program := "ytnhfoiijkadajaa", sum := "f4b70cd394f531484faa4c5869202714543b6e8b5ec84c339a0c3187946e8942", func := "zoetrope/zoetropelaw21.TilesCover", spec := "tilesCover", apart := false, narrowed := true }
def TilesCoverUptoSaid : Prop := tilesCoverUptoRow.holds Try.pinned (OpenSpec.upto tilesCoverSpec)

/-- 'zoetropelaw21.TilesBodies', WHERE WHAT IT READS IS OF BULK AT MOST 1048576: true; the input reads as it did. -/
def tilesBodiesUptoRow : OpenClaim := { program := "ytnhfoiijkadajaa", sum := "f4b70cd394f531484faa4c5869202714543b6e8b5ec84c339a0c3187946e8942", func := "zoetrope/zoetropelaw21.TilesBodies", spec := "tilesBodies", apart := false, narrowed := true }
def TilesBodiesUptoSaid : Prop := tilesBodiesUptoRow.holds Try.pinned (OpenSpec.upto tilesBodiesSpec)

/-- 'zoetropelaw21.TilesBack', WHERE WHAT IT READS IS OF BULK AT MOST 1048576: true; the input reads as it did. -/
def tilesBackUptoRow : OpenClaim := { program := "ytnhfoiijkadajaa", sum := "f4b70cd394f531484faa4c5869202714543b6e8b5ec84c339a0c3187946e8942", func := "zoetrope/zoetropelaw21.TilesBack", spec := "tilesBack", apart := false, narrowed := true }
def TilesBackUptoSaid : Prop := tilesBackUptoRow.holds Try.pinned (OpenSpec.upto tilesBackSpec)

/-- 'zoetropelaw21.TilesNames', WHERE WHAT IT READS IS OF BULK AT MOST 1048576: true; the input reads as it did. -/
def tilesNamesUptoRow : OpenClaim := { program := "ytnhfoiijkadajaa", sum := "f4b70cd394f531484faa4c5869202714543b6e8b5ec84c339a0c3187946e8942", func := "zoetrope/zoetropelaw21.TilesNames", spec := "tilesNames", apart := false, narrowed := true }
def TilesNamesUptoSaid : Prop := tilesNamesUptoRow.holds Try.pinned (OpenSpec.upto tilesNamesSpec)

end Rows
end Go.Proofs.Ytnhfoiijkadajaa
