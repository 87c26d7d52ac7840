/-
  No cell of these rows narrows 'for every input' (looked for: loops, veiled, ifaces, maps, wideKeys, modest, calm, conditions, laid).
  DERIVED. THE GIVEN ROWS OF THIS SEAT. 12 by the template 'for every input the law returns true; each argument reads behind the call as it read before'; 0 by the template 'total and deterministic' (their statements: YtjmaiddbinlooaaGreatTotals.lean).
  GIVEN WITH THE SEED: the statements are not yours to turn. If you find one false, say at which input.
  Laid BY PROGRAM, IN A SANDBOX (cutbox-rows.mjs): the forced cells as the released guide's own fill.sh prints them over the translation db6f655827b00645… (all of the seat's roots in one cut). By AI agents, Wed Nov 11 2026. No macro, syntax, notation, axiom, sorry.
-/
import Derived.Test.YtjmaiddbinlooaaGreatChecked
import GoSem.Claim
import GoSem.ClaimJoined
import GoSem.ClaimMapViews
import Derived.JoinedTies
import Derived.KernelRfl
namespace Go.Proofs.YtjmaiddbinlooaaGreat
/- THE CELL 'sum', in the pinned program and in every row, IS THE sha256 OF THE DUMP (.gsa) THAT YtjmaiddbinlooaaGreatProg.lean LOADS. Nothing in Lean hashes anything: it is a label: what it is worth is what the hold of that sum in a sandbox is worth. -/
noncomputable def Tryz.pinned : Pinned := { name := "ytjmaiddbinlooaagreat", sum := "db6f655827b00645337ffffe60c0ef82d01b6071b708280312bfb8542630d838", checked := Tryz.checked }
namespace Rows
def none {H : Type} : Left H := { results := [], args := [] }

/-- 'arborlaw18.DualSides': WHATEVER THE INPUT: true; the input reads as it did. -/
def dualSidesSpec : ChangeSpec := { name := "dualSides", fn := fun _ => fun
  | [d1, d2] => { results := [.lit (.bool true)], args := [d1, d2] }
  | _ => none }
def dualSidesRow : OpenClaim := { program := "ytjmaiddbinlooaagreat", sum := "db6f655827b00645337ffffe60c0ef82d01b6071b708280312bfb8542630d838", func := "arbor/arborlaw18.DualSides", spec := "dualSides", unfollowed := true, recurses := true, apart := false }
def DualSidesSaid : Prop := dualSidesRow.holds Tryz.pinned (OpenSpec.ofChange dualSidesSpec)

/-- ITS FALSE NEIGHBOUR: 'it returns false'. Refute it at one input. -/
def dualSidesWrong : ChangeSpec := { name := "dualSides", fn := fun _ => fun
  | [d1, d2] => { results := [.lit (.bool false)], args := [d1, d2] }
  | _ => none }
def DualSidesWrongFalsely : Prop := dualSidesRow.holds Tryz.pinned (OpenSpec.ofChange dualSidesWrong)

/-- 'arborlaw18.DualTells': WHATEVER THE INPUT: true; the input reads as it did. -/
def dualTellsSpec : ChangeSpec := { name := "dualTells", fn := fun _ => fun
  | [d1, d2] => { results := [.lit (.bool true)], args := [d1, d2] }
  | _ => none }
def dualTellsRow : OpenClaim := { program := "ytjmaiddbinlooaagreat", sum := "db6f655827b00645337ffffe60c0ef82d01b6071b708280312bfb8542630d838", func := "arbor/arborlaw18.DualTells", spec := "dualTells", unfollowed := true, recurses := true, apart := false }
def DualTellsSaid : Prop := dualTellsRow.holds Tryz.pinned (OpenSpec.ofChange dualTellsSpec)

/-- ITS FALSE NEIGHBOUR: 'it returns false'. Refute it at one input. -/
def dualTellsWrong : ChangeSpec := { name := "dualTells", fn := fun _ => fun
  | [d1, d2] => { results := [.lit (.bool false)], args := [d1, d2] }
  | _ => none }
def DualTellsWrongFalsely : Prop := dualTellsRow.holds Tryz.pinned (OpenSpec.ofChange dualTellsWrong)

/-- 'arborlaw18.DualMirror': WHATEVER THE INPUT: true; the input reads as it did. -/
def dualMirrorSpec : ChangeSpec := { name := "dualMirror", fn := fun _ => fun
  | [d1, d2] => { results := [.lit (.bool true)], args := [d1, d2] }
  | _ => none }
def dualMirrorRow : OpenClaim := { program := "ytjmaiddbinlooaagreat", sum := "db6f655827b00645337ffffe60c0ef82d01b6071b708280312bfb8542630d838", func := "arbor/arborlaw18.DualMirror", spec := "dualMirror", unfollowed := true, recurses := true, apart := false }
def DualMirrorSaid : Prop := dualMirrorRow.holds Tryz.pinned (OpenSpec.ofChange dualMirrorSpec)

/-- ITS FALSE NEIGHBOUR: 'it returns false'. Refute it at one input. -/
def dualMirrorWrong : ChangeSpec := { name := "dualMirror", fn := fun _ => fun
  | [d1, d2] => { results := [.lit (.bool false)], args := [d1, d2] }
  | _ => none }
def DualMirrorWrongFalsely : Prop := dualMirrorRow.holds Tryz.pinned (OpenSpec.ofChange dualMirrorWrong)

/-- 'arborlaw18.DualOrder': WHATEVER THE INPUT: true; the input reads as it did. -/
def dualOrderSpec : ChangeSpec := { name := "dualOrder", fn := fun _ => fun
  | [d1, d2] => { results := [.lit (.bool true)], args := [d1, d2] }
  | _ => none }
def dualOrderRow : OpenClaim := { program := "ytjmaiddbinlooaagreat", sum := "db6f655827b00645337ffffe60c0ef82d01b6071b708280312bfb8542630d838", func := "arbor/arborlaw18.DualOrder", spec := "dualOrder", unfollowed := true, recurses := true, apart := false }
def DualOrderSaid : Prop := dualOrderRow.holds Tryz.pinned (OpenSpec.ofChange dualOrderSpec)

/-- ITS FALSE NEIGHBOUR: 'it returns false'. Refute it at one input. -/
def dualOrderWrong : ChangeSpec := { name := "dualOrder", fn := fun _ => fun
  | [d1, d2] => { results := [.lit (.bool false)], args := [d1, d2] }
  | _ => none }
def DualOrderWrongFalsely : Prop := dualOrderRow.holds Tryz.pinned (OpenSpec.ofChange dualOrderWrong)

/-- 'arborlaw18.DualTurns': WHATEVER THE INPUT: true; the input reads as it did. -/
def dualTurnsSpec : ChangeSpec := { name := "dualTurns", fn := fun _ => fun
  | [d1, d2] => { results := [.lit (.bool true)], args := [d1, d2] }
  | _ => none }
def dualTurnsRow : OpenClaim := { program := "ytjmaiddbinlooaagreat", sum := "db6f655827b00645337ffffe60c0ef82d01b6071b708280312bfb8542630d838", func := "arbor/arborlaw18.DualTurns", spec := "dualTurns", unfollowed := true, recurses := true, apart := false }
def DualTurnsSaid : Prop := dualTurnsRow.holds Tryz.pinned (OpenSpec.ofChange dualTurnsSpec)

/-- ITS FALSE NEIGHBOUR: 'it returns false'. Refute it at one input. -/
def dualTurnsWrong : ChangeSpec := { name := "dualTurns", fn := fun _ => fun
  | [d1, d2] => { results := [.lit (.bool false)], args := [d1, d2] }
  | _ => none }
def DualTurnsWrongFalsely : Prop := dualTurnsRow.holds Tryz.pinned (OpenSpec.ofChange dualTurnsWrong)

/-- 'arborlaw18.DualFour': WHATEVER THE INPUT: true; the input reads as it did. -/
def dualFourSpec : ChangeSpec := { name := "dualFour", fn := fun _ => fun
  | [d1, d2] => { results := [.lit (.bool true)], args := [d1, d2] }
  | _ => none }
def dualFourRow : OpenClaim := { program := "ytjmaiddbinlooaagreat", sum := "db6f655827b00645337ffffe60c0ef82d01b6071b708280312bfb8542630d838", func := "arbor/arborlaw18.DualFour", spec := "dualFour", unfollowed := true, recurses := true, apart := false }
def DualFourSaid : Prop := dualFourRow.holds Tryz.pinned (OpenSpec.ofChange dualFourSpec)

/-- ITS FALSE NEIGHBOUR: 'it returns false'. Refute it at one input. -/
def dualFourWrong : ChangeSpec := { name := "dualFour", fn := fun _ => fun
  | [d1, d2] => { results := [.lit (.bool false)], args := [d1, d2] }
  | _ => none }
def DualFourWrongFalsely : Prop := dualFourRow.holds Tryz.pinned (OpenSpec.ofChange dualFourWrong)

/-- 'arborlaw19.BarsDraw': WHATEVER THE INPUT: true; the input reads as it did. -/
def barsDrawSpec : ChangeSpec := { name := "barsDraw", fn := fun _ => fun
  | [d1, d2] => { results := [.lit (.bool true)], args := [d1, d2] }
  | _ => none }
def barsDrawRow : OpenClaim := { program := "ytjmaiddbinlooaagreat", sum := "db6f655827b00645337ffffe60c0ef82d01b6071b708280312bfb8542630d838", func := "arbor/arborlaw19.BarsDraw", spec := "barsDraw", unfollowed := true, recurses := true, apart := false }
def BarsDrawSaid : Prop := barsDrawRow.holds Tryz.pinned (OpenSpec.ofChange barsDrawSpec)

/-- ITS FALSE NEIGHBOUR: 'it returns false'. Refute it at one input. -/
def barsDrawWrong : ChangeSpec := { name := "barsDraw", fn := fun _ => fun
  | [d1, d2] => { results := [.lit (.bool false)], args := [d1, d2] }
  | _ => none }
def BarsDrawWrongFalsely : Prop := barsDrawRow.holds Tryz.pinned (OpenSpec.ofChange barsDrawWrong)

/-- 'arborlaw19.BarsWide': WHATEVER THE INPUT: true; the input reads as it did. -/
def barsWideSpec : ChangeSpec := { name := "barsWide", fn := fun _ => fun
  | [d1, d2] => { results := [.lit (.bool true)], args := [d1, d2] }
  | _ => none }
def barsWideRow : OpenClaim := { program := "ytjmaiddbinlooaagreat", sum := "db6f655827b00645337ffffe60c0ef82d01b6071b708280312bfb8542630d838", func := "arbor/arborlaw19.BarsWide", spec := "barsWide", unfollowed := true, recurses := true, apart := false }
def BarsWideSaid : Prop := barsWideRow.holds Tryz.pinned (OpenSpec.ofChange barsWideSpec)

/-- ITS FALSE NEIGHBOUR: 'it returns false'. Refute it at one input. -/
def barsWideWrong : ChangeSpec := { name := "barsWide", fn := fun _ => fun
  | [d1, d2] => { results := [.lit (.bool false)], args := [d1, d2] }
  | _ => none }
def BarsWideWrongFalsely : Prop := barsWideRow.holds Tryz.pinned (OpenSpec.ofChange barsWideWrong)

/-- 'arborlaw19.BarsMoved': WHATEVER THE INPUT: true; the input reads as it did. -/
def barsMovedSpec : ChangeSpec := { name := "barsMoved", fn := fun _ => fun
  | [d1, d2] => { results := [.lit (.bool true)], args := [d1, d2] }
  | _ => none }
def barsMovedRow : OpenClaim := { program := "ytjmaiddbinlooaagreat", sum := "db6f655827b00645337ffffe60c0ef82d01b6071b708280312bfb8542630d838", func := "arbor/arborlaw19.BarsMoved", spec := "barsMoved", unfollowed := true, recurses := true, apart := false }
def BarsMovedSaid : Prop := barsMovedRow.holds Tryz.pinned (OpenSpec.ofChange barsMovedSpec)

/-- ITS FALSE NEIGHBOUR: 'it returns false'. Refute it at one input. -/
def barsMovedWrong : ChangeSpec := { name := "barsMoved", fn := fun _ => fun
  | [d1, d2] => { results := [.lit (.bool false)], args := [d1, d2] }
  | _ => none }
def BarsMovedWrongFalsely : Prop := barsMovedRow.holds Tryz.pinned (OpenSpec.ofChange barsMovedWrong)

/-- 'arborlaw19.BarsRight': WHATEVER THE INPUT: true; the input reads as it did. -/
def barsRightSpec : ChangeSpec := { name := "barsRight", fn := fun _ => fun
  | [d1, d2] => { results := [.lit (.bool true)], args := [d1, d2] }
  | _ => none }
def barsRightRow : OpenClaim := { program := "ytjmaiddbinlooaagreat", sum := "db6f655827b00645337ffffe60c0ef82d01b6071b708280312bfb8542630d838", func := "arbor/arborlaw19.BarsRight", spec := "barsRight", unfollowed := true, recurses := true, apart := false }
def BarsRightSaid : Prop := barsRightRow.holds Tryz.pinned (OpenSpec.ofChange barsRightSpec)

/-- ITS FALSE NEIGHBOUR: 'it returns false'. Refute it at one input. -/
def barsRightWrong : ChangeSpec := { name := "barsRight", fn := fun _ => fun
  | [d1, d2] => { results := [.lit (.bool false)], args := [d1, d2] }
  | _ => none }
def BarsRightWrongFalsely : Prop := barsRightRow.holds Tryz.pinned (OpenSpec.ofChange barsRightWrong)

/-- 'arborlaw19.BarsUp': WHATEVER THE INPUT: true; the input reads as it did. -/
def barsUpSpec : ChangeSpec := { name := "barsUp", fn := fun _ => fun
  | [d1, d2] => { results := [.lit (.bool true)], args := [d1, d2] }
  | _ => none }
def barsUpRow : OpenClaim := { program := "ytjmaiddbinlooaagreat", sum := "db6f655827b00645337ffffe60c0ef82d01b6071b708280312bfb8542630d838", func := "arbor/arborlaw19.BarsUp", spec := "barsUp", unfollowed := true, recurses := true, apart := false }
def BarsUpSaid : Prop := barsUpRow.holds Tryz.pinned (OpenSpec.ofChange barsUpSpec)

/-- ITS FALSE NEIGHBOUR: 'it returns false'. Refute it at one input. -/
def barsUpWrong : ChangeSpec := { name := "barsUp", fn := fun _ => fun
  | [d1, d2] => { results := [.lit (.bool false)], args := [d1, d2] }
  | _ => none }
def BarsUpWrongFalsely : Prop := barsUpRow.holds Tryz.pinned (OpenSpec.ofChange barsUpWrong)

/-- 'arborlaw19.BarsGood': WHATEVER THE INPUT: true; the input reads as it did. -/
def barsGoodSpec : ChangeSpec := { name := "barsGood", fn := fun _ => fun
  | [d1, d2] => { results := [.lit (.bool true)], args := [d1, d2] }
  | _ => none }
def barsGoodRow : OpenClaim := { program := "ytjmaiddbinlooaagreat", sum := "db6f655827b00645337ffffe60c0ef82d01b6071b708280312bfb8542630d838", func := "arbor/arborlaw19.BarsGood", spec := "barsGood", unfollowed := true, recurses := true, apart := false }
def BarsGoodSaid : Prop := barsGoodRow.holds Tryz.pinned (OpenSpec.ofChange barsGoodSpec)

/-- ITS FALSE NEIGHBOUR: 'it returns false'. Refute it at one input. -/
def barsGoodWrong : ChangeSpec := { name := "barsGood", fn := fun _ => fun
  | [d1, d2] => { results := [.lit (.bool false)], args := [d1, d2] }
  | _ => none }
def BarsGoodWrongFalsely : Prop := barsGoodRow.holds Tryz.pinned (OpenSpec.ofChange barsGoodWrong)

/- THE SECOND FORM. 'bulk': how many values and letters a reading holds, each counted each time it is reached (what is shared counts as often as it is met; a slice's spare places count too). A statement '..UptoSaid' is the law's where the arguments, and the package variables that the reading takes, are together of bulk at most 1048576: NARROWER than '..Said'. Prove '..Said' where nothing that the law and all that it calls make is longer than what came in: it says more and counts as full. Else prove '..UptoSaid'. A law counts once. -/
mutual
def uptoBulk {H : Type} : DataW H → Nat
  | .lit (.string bytes) => bytes.length + 1
  | .lit _ => 1
  | .nil => 1
  | .ptr d => uptoBulk d + 1
  | .slice elems spare => uptoBulkAll elems + uptoBulkAll spare + 1
  | .agg parts => uptoBulkAll parts + 1
  | .iface _ d => uptoBulk d + 1
  | .map entries => uptoBulkEntries entries + 1
  | .held _ => 1
def uptoBulkAll {H : Type} : List (DataW H) → Nat
  | [] => 0
  | d :: r => uptoBulk d + uptoBulkAll r
def uptoBulkEntries {H : Type} : List (Lit × DataW H) → Nat
  | [] => 0
  | x :: r => uptoBulkEntry x + uptoBulkEntries r
def uptoBulkEntry {H : Type} : Lit × DataW H → Nat
  | (.string bytes, d) => bytes.length + uptoBulk d + 1
  | (_, d) => uptoBulk d + 1
 end
def uptoSmall : (H : Type) → List (DataW H) → Bool := fun _ ds => decide (uptoBulkAll ds ≤ 1048576)
def OpenSpec.upto (s : _root_.Go.ChangeSpec) : _root_.Go.OpenSpec := { _root_.Go.OpenSpec.ofChange s with cond := some uptoSmall }

/-- 'arborlaw18.DualSides', WHERE WHAT IT READS IS OF BULK AT MOST 1048576: true; the input reads as it did. -/
def dualSidesUptoRow : OpenClaim := { program := "ytjmaiddbinlooaagreat", sum := "db6f655827b00645337ffffe60c0ef82d01b6071b708280312bfb8542630d838", func := "arbor/arborlaw18.DualSides", spec := "dualSides", unfollowed := true, recurses := true, apart := false, narrowed := true }
def DualSidesUptoSaid : Prop := dualSidesUptoRow.holds Tryz.pinned (OpenSpec.upto dualSidesSpec)

/-- 'arborlaw18.DualTells', WHERE WHAT IT READS IS OF BULK AT MOST 1048576: true; the input reads as it did. -/
def dualTellsUptoRow : OpenClaim := { program := "ytjmaiddbinlooaagreat", sum := "db6f655827b00645337ffffe60c0ef82d01b6071b708280312bfb8542630d838", func := "arbor/arborlaw18.DualTells", spec := "dualTells", unfollowed := true, recurses := true, apart := false, narrowed := true }
def DualTellsUptoSaid : Prop := dualTellsUptoRow.holds Tryz.pinned (OpenSpec.upto dualTellsSpec)

/-- 'arborlaw18.DualMirror', WHERE WHAT IT READS IS OF BULK AT MOST 1048576: true; the input reads as it did. -/
def dualMirrorUptoRow : OpenClaim := { program := "ytjmaiddbinlooaagreat", sum := "db6f655827b00645337ffffe60c0ef82d01b6071b708280312bfb8542630d838", func := "arbor/arborlaw18.DualMirror", spec := "dualMirror", unfollowed := true, recurses := true, apart := false, narrowed := true }
def DualMirrorUptoSaid : Prop := dualMirrorUptoRow.holds Tryz.pinned (OpenSpec.upto dualMirrorSpec)

/-- 'arborlaw18.DualOrder', WHERE WHAT IT READS IS OF BULK AT MOST 1048576: true; the input reads as it did. -/
def dualOrderUptoRow : OpenClaim := { program := "ytjmaiddbinlooaagreat", sum := "db6f655827b00645337ffffe60c0ef82d01b6071b708280312bfb8542630d838", func := "arbor/arborlaw18.DualOrder", spec := "dualOrder", unfollowed := true, recurses := true, apart := false, narrowed := true }
def DualOrderUptoSaid : Prop := dualOrderUptoRow.holds Tryz.pinned (OpenSpec.upto dualOrderSpec)

/-- 'arborlaw18.DualTurns', WHERE WHAT IT READS IS OF BULK AT MOST 1048576: true; the input reads as it did. -/
def dualTurnsUptoRow : OpenClaim := { program := "ytjmaiddbinlooaagreat", sum := "db6f655827b00645337ffffe60c0ef82d01b6071b708280312bfb8542630d838", func := "arbor/arborlaw18.DualTurns", spec := "dualTurns", unfollowed := true, recurses := true, apart := false, narrowed := true }
def DualTurnsUptoSaid : Prop := dualTurnsUptoRow.holds Tryz.pinned (OpenSpec.upto dualTurnsSpec)

/-- 'arborlaw18.DualFour', WHERE WHAT IT READS IS OF BULK AT MOST 1048576: true; the input reads as it did. -/
def dualFourUptoRow : OpenClaim := { program := "ytjmaiddbinlooaagreat", sum := "db6f655827b00645337ffffe60c0ef82d01b6071b708280312bfb8542630d838", func := "arbor/arborlaw18.DualFour", spec := "dualFour", unfollowed := true, recurses := true, apart := false, narrowed := true }
def DualFourUptoSaid : Prop := dualFourUptoRow.holds Tryz.pinned (OpenSpec.upto dualFourSpec)

/-- 'arborlaw19.BarsDraw', WHERE WHAT IT READS IS OF BULK AT MOST 1048576: true; the input reads as it did. -/
def barsDrawUptoRow : OpenClaim := { program := "ytjmaiddbinlooaagreat", sum := "db6f655827b00645337ffffe60c0ef82d01b6071b708280312bfb8542630d838", func := "arbor/arborlaw19.BarsDraw", spec := "barsDraw", unfollowed := true, recurses := true, apart := false, narrowed := true }
def BarsDrawUptoSaid : Prop := barsDrawUptoRow.holds Tryz.pinned (OpenSpec.upto barsDrawSpec)

/-- 'arborlaw19.BarsWide', WHERE WHAT IT READS IS OF BULK AT MOST 1048576: true; the input reads as it did. -/
def barsWideUptoRow : OpenClaim := { program := "ytjmaiddbinlooaagreat", sum := "db6f655827b00645337ffffe60c0ef82d01b6071b708280312bfb8542630d838", func := "arbor/arborlaw19.BarsWide", spec := "barsWide", unfollowed := true, recurses := true, apart := false, narrowed := true }
def BarsWideUptoSaid : Prop := barsWideUptoRow.holds Tryz.pinned (OpenSpec.upto barsWideSpec)

/-- 'arborlaw19.BarsMoved', WHERE WHAT IT READS IS OF BULK AT MOST 1048576: true; the input reads as it did. -/
def barsMovedUptoRow : OpenClaim := { program := "ytjmaiddbinlooaagreat", sum := "db6f655827b00645337ffffe60c0ef82d01b6071b708280312bfb8542630d838", func := "arbor/arborlaw19.BarsMoved", spec := "barsMoved", unfollowed := true, recurses := true, apart := false, narrowed := true }
def BarsMovedUptoSaid : Prop := barsMovedUptoRow.holds Tryz.pinned (OpenSpec.upto barsMovedSpec)

/-- 'arborlaw19.BarsRight', WHERE WHAT IT READS IS OF BULK AT MOST 1048576: true; the input reads as it did. -/
def barsRightUptoRow : OpenClaim := { program := "ytjmaiddbinlooaagreat", sum := "db6f655827b00645337ffffe60c0ef82d01b6071b708280312bfb8542630d838", func := "arbor/arborlaw19.BarsRight", spec := "barsRight", unfollowed := true, recurses := true, apart := false, narrowed := true }
def BarsRightUptoSaid : Prop := barsRightUptoRow.holds Tryz.pinned (OpenSpec.upto barsRightSpec)

/-- 'arborlaw19.BarsUp', WHERE WHAT IT READS IS OF BULK AT MOST 1048576: true; the input reads as it did. -/
def barsUpUptoRow : OpenClaim := { program := "ytjmaiddbinlooaagreat", sum := "db6f655827b00645337ffffe60c0ef82d01b6071b708280312bfb8542630d838", func := "arbor/arborlaw19.BarsUp", spec := "barsUp", unfollowed := true, recurses := true, apart := false, narrowed := true }
def BarsUpUptoSaid : Prop := barsUpUptoRow.holds Tryz.pinned (OpenSpec.upto barsUpSpec)

/-- 'arborlaw19.BarsGood', WHERE WHAT IT READS IS OF BULK AT MOST 1048576: true; the input reads as it did. -/
def barsGoodUptoRow : OpenClaim := { program := "ytjmaiddbinlooaagreat", sum := "db6f655827b00645337ffffe60c0ef82d01b6071b708280312bfb8542630d838", func := "arbor/arborlaw19.BarsGood", spec := "barsGood", unfollowed := true, recurses := true, apart := false, narrowed := true }
def BarsGoodUptoSaid : Prop := barsGoodUptoRow.holds Tryz.pinned (OpenSpec.upto barsGoodSpec)

end Rows
end Go.Proofs.YtjmaiddbinlooaaGreat
