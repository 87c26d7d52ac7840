/-
  No cell of these rows narrows 'for every input' (looked for: loops, veiled, ifaces, maps, wideKeys, modest, calm, conditions, laid).
  DERIVED. THE GIVEN ROWS OF THIS SEAT. 6 by the template 'for every input the law returns true; each argument reads behind the call as it read before'; 0 by the template 'total and deterministic' (their statements: YtameldglfobjkaaTotals.lean).
  GIVEN WITH THE SEED: the statements are not yours to turn. If you find one false, say at which input.
  Laid BY PROGRAM, IN A SANDBOX (cutbox-rows.mjs): the forced cells as the released guide's own fill.sh prints them over the translation f906f028d26d3ef3… (all of the seat's roots in one cut). By AI agents, Wed Nov 11 2026. No macro, syntax, notation, axiom, sorry.
-/
import Derived.Test.YtameldglfobjkaaChecked
import GoSem.Claim
import GoSem.ClaimJoined
import GoSem.ClaimMapViews
import Derived.JoinedTies
import Derived.KernelRfl
namespace Go.Proofs.Ytameldglfobjkaa
/- THE CELL 'sum', in the pinned program and in every row, IS THE sha256 OF THE DUMP (.gsa) THAT YtameldglfobjkaaProg.lean LOADS. Nothing in Lean hashes anything: it is a label: what it is worth is what the hold of that sum in a sandbox is worth. -/
noncomputable def Try.pinned : Pinned := { name := "ytameldglfobjkaa", sum := "f906f028d26d3ef3f294b8520a6502e984a8b94dab3e51b2f9c21272eaa9e1ae", checked := Try.checked }
namespace Rows
def none {H : Type} : Left H := { results := [], args := [] }

/-- 'arborlaw16.AugmentTurn': WHATEVER THE INPUT: true; the input reads as it did. -/
def augmentTurnSpec : ChangeSpec := { name := "augmentTurn", fn := fun _ => fun
  | [d1, d2] => { results := [.lit (.bool true)], args := [d1, d2] }
  | _ => none }
def augmentTurnRow : OpenClaim := { program := "ytameldglfobjkaa", sum := "f906f028d26d3ef3f294b8520a6502e984a8b94dab3e51b2f9c21272eaa9e1ae", func := "arbor/arborlaw16.AugmentTurn", spec := "augmentTurn", unfollowed := true, recurses := true, apart := false }
def AugmentTurnSaid : Prop := augmentTurnRow.holds Try.pinned (OpenSpec.ofChange augmentTurnSpec)

/-- ITS FALSE NEIGHBOUR: 'it returns false'. Refute it at one input. -/
def augmentTurnWrong : ChangeSpec := { name := "augmentTurn", fn := fun _ => fun
  | [d1, d2] => { results := [.lit (.bool false)], args := [d1, d2] }
  | _ => none }
def AugmentTurnWrongFalsely : Prop := augmentTurnRow.holds Try.pinned (OpenSpec.ofChange augmentTurnWrong)

/-- 'arborlaw04.BlockParts': WHATEVER THE INPUT: true; the input reads as it did. -/
def blockPartsSpec : ChangeSpec := { name := "blockParts", fn := fun _ => fun
  | [d] => { results := [.lit (.bool true)], args := [d] }
  | _ => none }
def blockPartsRow : OpenClaim := { program := "ytameldglfobjkaa", sum := "f906f028d26d3ef3f294b8520a6502e984a8b94dab3e51b2f9c21272eaa9e1ae", func := "arbor/arborlaw04.BlockParts", spec := "blockParts", unfollowed := true, recurses := true, apart := false }
def BlockPartsSaid : Prop := blockPartsRow.holds Try.pinned (OpenSpec.ofChange blockPartsSpec)

/-- ITS FALSE NEIGHBOUR: 'it returns false'. Refute it at one input. -/
def blockPartsWrong : ChangeSpec := { name := "blockParts", fn := fun _ => fun
  | [d] => { results := [.lit (.bool false)], args := [d] }
  | _ => none }
def BlockPartsWrongFalsely : Prop := blockPartsRow.holds Try.pinned (OpenSpec.ofChange blockPartsWrong)

/-- 'arborlaw04.BlockGrows': WHATEVER THE INPUT: true; the input reads as it did. -/
def blockGrowsSpec : ChangeSpec := { name := "blockGrows", fn := fun _ => fun
  | [d1, d2, d3] => { results := [.lit (.bool true)], args := [d1, d2, d3] }
  | _ => none }
def blockGrowsRow : OpenClaim := { program := "ytameldglfobjkaa", sum := "f906f028d26d3ef3f294b8520a6502e984a8b94dab3e51b2f9c21272eaa9e1ae", func := "arbor/arborlaw04.BlockGrows", spec := "blockGrows", unfollowed := true, recurses := true, apart := false }
def BlockGrowsSaid : Prop := blockGrowsRow.holds Try.pinned (OpenSpec.ofChange blockGrowsSpec)

/-- ITS FALSE NEIGHBOUR: 'it returns false'. Refute it at one input. -/
def blockGrowsWrong : ChangeSpec := { name := "blockGrows", fn := fun _ => fun
  | [d1, d2, d3] => { results := [.lit (.bool false)], args := [d1, d2, d3] }
  | _ => none }
def BlockGrowsWrongFalsely : Prop := blockGrowsRow.holds Try.pinned (OpenSpec.ofChange blockGrowsWrong)

/-- 'arborlaw04.BlockTells': WHATEVER THE INPUT: true; the input reads as it did. -/
def blockTellsSpec : ChangeSpec := { name := "blockTells", fn := fun _ => fun
  | [d] => { results := [.lit (.bool true)], args := [d] }
  | _ => none }
def blockTellsRow : OpenClaim := { program := "ytameldglfobjkaa", sum := "f906f028d26d3ef3f294b8520a6502e984a8b94dab3e51b2f9c21272eaa9e1ae", func := "arbor/arborlaw04.BlockTells", spec := "blockTells", unfollowed := true, recurses := true, apart := false }
def BlockTellsSaid : Prop := blockTellsRow.holds Try.pinned (OpenSpec.ofChange blockTellsSpec)

/-- ITS FALSE NEIGHBOUR: 'it returns false'. Refute it at one input. -/
def blockTellsWrong : ChangeSpec := { name := "blockTells", fn := fun _ => fun
  | [d] => { results := [.lit (.bool false)], args := [d] }
  | _ => none }
def BlockTellsWrongFalsely : Prop := blockTellsRow.holds Try.pinned (OpenSpec.ofChange blockTellsWrong)

/-- 'arborlaw04.BlockTree': WHATEVER THE INPUT: true; the input reads as it did. -/
def blockTreeSpec : ChangeSpec := { name := "blockTree", fn := fun _ => fun
  | [d] => { results := [.lit (.bool true)], args := [d] }
  | _ => none }
def blockTreeRow : OpenClaim := { program := "ytameldglfobjkaa", sum := "f906f028d26d3ef3f294b8520a6502e984a8b94dab3e51b2f9c21272eaa9e1ae", func := "arbor/arborlaw04.BlockTree", spec := "blockTree", unfollowed := true, recurses := true, apart := false }
def BlockTreeSaid : Prop := blockTreeRow.holds Try.pinned (OpenSpec.ofChange blockTreeSpec)

/-- ITS FALSE NEIGHBOUR: 'it returns false'. Refute it at one input. -/
def blockTreeWrong : ChangeSpec := { name := "blockTree", fn := fun _ => fun
  | [d] => { results := [.lit (.bool false)], args := [d] }
  | _ => none }
def BlockTreeWrongFalsely : Prop := blockTreeRow.holds Try.pinned (OpenSpec.ofChange blockTreeWrong)

/-- 'arborlaw04.BlockCuts': WHATEVER THE INPUT: true; the input reads as it did. -/
def blockCutsSpec : ChangeSpec := { name := "blockCuts", fn := fun _ => fun
  | [d] => { results := [.lit (.bool true)], args := [d] }
  | _ => none }
def blockCutsRow : OpenClaim := { program := "ytameldglfobjkaa", sum := "f906f028d26d3ef3f294b8520a6502e984a8b94dab3e51b2f9c21272eaa9e1ae", func := "arbor/arborlaw04.BlockCuts", spec := "blockCuts", unfollowed := true, recurses := true, apart := false }
def BlockCutsSaid : Prop := blockCutsRow.holds Try.pinned (OpenSpec.ofChange blockCutsSpec)

/-- ITS FALSE NEIGHBOUR: 'it returns false'. Refute it at one input. -/
def blockCutsWrong : ChangeSpec := { name := "blockCuts", fn := fun _ => fun
  | [d] => { results := [.lit (.bool false)], args := [d] }
  | _ => none }
def BlockCutsWrongFalsely : Prop := blockCutsRow.holds Try.pinned (OpenSpec.ofChange blockCutsWrong)

/- THE SECOND FORM. 'bulk': how many values and letters a reading holds, each counted each time it is reached (what is shared counts as often as it is met; a slice's spare places count too). A statement '..UptoSaid' is the law's where the arguments, and the package variables that the reading takes, are together of bulk at most 1048576: NARROWER than '..Said'. Prove '..Said' where nothing that the law and all that it calls make is longer than what came in: it says more and counts as full. Else prove '..UptoSaid'. A law counts once. -/
mutual
def uptoBulk {H : Type} : DataW H → Nat
  | .lit (.string bytes) => bytes.length + 1
  | .lit _ => 1
  | .nil => 1
  | .ptr d => uptoBulk d + 1
  | .slice elems spare => uptoBulkAll elems + uptoBulkAll spare + 1
  | .agg parts => uptoBulkAll parts + 1
  | .iface _ d => uptoBulk d + 1
  | .map entries => uptoBulkEntries entries + 1
  | .held _ => 1
def uptoBulkAll {H : Type} : List (DataW H) → Nat
  | [] => 0
  | d :: r => uptoBulk d + uptoBulkAll r
def uptoBulkEntries {H : Type} : List (Lit × DataW H) → Nat
  | [] => 0
  | x :: r => uptoBulkEntry x + uptoBulkEntries r
def uptoBulkEntry {H : Type} : Lit × DataW H → Nat
  | (.string bytes, d) => bytes.length + uptoBulk d + 1
  | (_, d) => uptoBulk d + 1
 end
def uptoSmall : (H : Type) → List (DataW H) → Bool := fun _ ds => decide (uptoBulkAll ds ≤ 1048576)
def OpenSpec.upto (s : _root_.Go.ChangeSpec) : _root_.Go.OpenSpec := { _root_.Go.OpenSpec.ofChange s with cond := some uptoSmall }

/-- 'arborlaw16.AugmentTurn', WHERE WHAT IT READS IS OF BULK AT MOST 1048576: true; the input reads as it did. -/
def augmentTurnUptoRow : OpenClaim := { program := "ytameldglfobjkaa", sum := "f906f028d26d3ef3f294b8520a6502e984a8b94dab3e51b2f9c21272eaa9e1ae", func := "arbor/arborlaw16.AugmentTurn", spec := "augmentTurn", unfollowed := true, recurses := true, apart := false, narrowed := true }
def AugmentTurnUptoSaid : Prop := augmentTurnUptoRow.holds Try.pinned (OpenSpec.upto augmentTurnSpec)

/-- 'arborlaw04.BlockParts', WHERE WHAT IT READS IS OF BULK AT MOST 1048576: true; the input reads as it did. -/
def blockPartsUptoRow : OpenClaim := { program := "ytameldglfobjkaa", sum := "f906f028d26d3ef3f294b8520a6502e984a8b94dab3e51b2f9c21272eaa9e1ae", func := "arbor/arborlaw04.BlockParts", spec := "blockParts", unfollowed := true, recurses := true, apart := false, narrowed := true }
def BlockPartsUptoSaid : Prop := blockPartsUptoRow.holds Try.pinned (OpenSpec.upto blockPartsSpec)

/-- 'arborlaw04.BlockGrows', WHERE WHAT IT READS IS OF BULK AT MOST 1048576: true; the input reads as it did. -/
def blockGrowsUptoRow : OpenClaim := { program := "ytameldglfobjkaa", sum := "f906f028d26d3ef3f294b8520a6502e984a8b94dab3e51b2f9c21272eaa9e1ae", func := "arbor/arborlaw04.BlockGrows", spec := "blockGrows", unfollowed := true, recurses := true, apart := false, narrowed := true }
def BlockGrowsUptoSaid : Prop := blockGrowsUptoRow.holds Try.pinned (OpenSpec.upto blockGrowsSpec)

/-- 'arborlaw04.BlockTells', WHERE WHAT IT READS IS OF BULK AT MOST 1048576: true; the input reads as it did. -/
def blockTellsUptoRow : OpenClaim := { program := "ytameldglfobjkaa", sum := "f906f028d26d3ef3f294b8520a6502e984a8b94dab3e51b2f9c21272eaa9e1ae", func := "arbor/arborlaw04.BlockTells", spec := "blockTells", unfollowed := true, recurses := true, apart := false, narrowed := true }
def BlockTellsUptoSaid : Prop := blockTellsUptoRow.holds Try.pinned (OpenSpec.upto blockTellsSpec)

/-- 'arborlaw04.BlockTree', WHERE WHAT IT READS IS OF BULK AT MOST 1048576: true; the input reads as it did. -/
def blockTreeUptoRow : OpenClaim := { program := "ytameldglfobjkaa", sum := "f906f028d26d3ef3f294b8520a6502e984a8b94dab3e51b2f9c21272eaa9e1ae", func := "arbor/arborlaw04.BlockTree", spec := "blockTree", unfollowed := true, recurses := true, apart := false, narrowed := true }
def BlockTreeUptoSaid : Prop := blockTreeUptoRow.holds Try.pinned (OpenSpec.upto blockTreeSpec)

/-- 'arborlaw04.BlockCuts', WHERE WHAT IT READS IS OF BULK AT MOST 1048576: true; the input reads as it did. -/
def blockCutsUptoRow : OpenClaim := { program := "ytameldglfobjkaa", sum := "f906f028d26d3ef3f294b8520a6502e984a8b94dab3e51b2f9c21272eaa9e1ae", func := "arbor/arborlaw04.BlockCuts", spec := "blockCuts", unfollowed := true, recurses := true, apart := false, narrowed := true }
def BlockCutsUptoSaid : Prop := blockCutsUptoRow.holds Try.pinned (OpenSpec.upto blockCutsSpec)

end Rows
end Go.Proofs.Ytameldglfobjkaa
