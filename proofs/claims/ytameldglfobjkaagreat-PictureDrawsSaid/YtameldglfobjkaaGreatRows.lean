/-
  No cell of these rows narrows 'for every input' (looked for: loops, veiled, ifaces, maps, wideKeys, modest, calm, conditions, laid).
  DERIVED. THE GIVEN ROWS OF THIS SEAT. 6 by the template 'for every input the law returns true; each argument reads behind the call as it read before'; 0 by the template 'total and deterministic' (their statements: YtameldglfobjkaaGreatTotals.lean).
  GIVEN WITH THE SEED: the statements are not yours to turn. If you find one false, say at which input.
  Laid BY PROGRAM, IN A SANDBOX (cutbox-rows.mjs): the forced cells as the released guide's own fill.sh prints them over the translation 2af0bfd8852a3f6b… (all of the seat's roots in one cut). By AI agents, Wed Nov 11 2026. No macro, syntax, notation, axiom, sorry.
-/
import Derived.Test.YtameldglfobjkaaGreatChecked
import GoSem.Claim
import GoSem.ClaimJoined
import GoSem.ClaimMapViews
import Derived.JoinedTies
import Derived.KernelRfl
namespace Go.Proofs.YtameldglfobjkaaGreat
/- THE CELL 'sum', in the pinned program and in every row, IS THE sha256 OF THE DUMP (.gsa) THAT YtameldglfobjkaaGreatProg.lean LOADS. Nothing in Lean hashes anything: it is a label: what it is worth is what the hold of that sum in a sandbox is worth. -/
noncomputable def Tryz.pinned : Pinned := { name := "ytameldglfobjkaagreat", sum := "2af0bfd8852a3f6bb9a5b8b17906e7d3496ef9aec234f8690ac14a81e8f7ad7c", checked := Tryz.checked }
namespace Rows
def none {H : Type} : Left H := { results := [], args := [] }

/-- 'arborlaw18.DualTurns': WHATEVER THE INPUT: true; the input reads as it did. -/
def dualTurnsSpec : ChangeSpec := { name := "dualTurns", fn := fun _ => fun
  | [d1, d2] => { results := [.lit (.bool true)], args := [d1, d2] }
  | _ => none }
def dualTurnsRow : OpenClaim := { program := "ytameldglfobjkaagreat", sum := "2af0bfd8852a3f6bb9a5b8b17906e7d3496ef9aec234f8690ac14a81e8f7ad7c", func := "arbor/arborlaw18.DualTurns", spec := "dualTurns", unfollowed := true, recurses := true, plainKeys := false, apart := false }
def DualTurnsSaid : Prop := dualTurnsRow.holds Tryz.pinned (OpenSpec.ofChange dualTurnsSpec)

/-- ITS FALSE NEIGHBOUR: 'it returns false'. Refute it at one input. -/
def dualTurnsWrong : ChangeSpec := { name := "dualTurns", fn := fun _ => fun
  | [d1, d2] => { results := [.lit (.bool false)], args := [d1, d2] }
  | _ => none }
def DualTurnsWrongFalsely : Prop := dualTurnsRow.holds Tryz.pinned (OpenSpec.ofChange dualTurnsWrong)

/-- 'arborlaw19.BarsWide': WHATEVER THE INPUT: true; the input reads as it did. -/
def barsWideSpec : ChangeSpec := { name := "barsWide", fn := fun _ => fun
  | [d1, d2] => { results := [.lit (.bool true)], args := [d1, d2] }
  | _ => none }
def barsWideRow : OpenClaim := { program := "ytameldglfobjkaagreat", sum := "2af0bfd8852a3f6bb9a5b8b17906e7d3496ef9aec234f8690ac14a81e8f7ad7c", func := "arbor/arborlaw19.BarsWide", spec := "barsWide", unfollowed := true, recurses := true, plainKeys := false, apart := false }
def BarsWideSaid : Prop := barsWideRow.holds Tryz.pinned (OpenSpec.ofChange barsWideSpec)

/-- ITS FALSE NEIGHBOUR: 'it returns false'. Refute it at one input. -/
def barsWideWrong : ChangeSpec := { name := "barsWide", fn := fun _ => fun
  | [d1, d2] => { results := [.lit (.bool false)], args := [d1, d2] }
  | _ => none }
def BarsWideWrongFalsely : Prop := barsWideRow.holds Tryz.pinned (OpenSpec.ofChange barsWideWrong)

/-- 'arborlaw21.DrawRises': WHATEVER THE INPUT: true; the input reads as it did. -/
def drawRisesSpec : ChangeSpec := { name := "drawRises", fn := fun _ => fun
  | [d1, d2] => { results := [.lit (.bool true)], args := [d1, d2] }
  | _ => none }
def drawRisesRow : OpenClaim := { program := "ytameldglfobjkaagreat", sum := "2af0bfd8852a3f6bb9a5b8b17906e7d3496ef9aec234f8690ac14a81e8f7ad7c", func := "arbor/arborlaw21.DrawRises", spec := "drawRises", inPlace := ["slices.overlaps[int]"], unfollowed := true, recurses := true, plainKeys := false, apart := false }
def DrawRisesSaid : Prop := drawRisesRow.holds Tryz.pinned (OpenSpec.ofChange drawRisesSpec)

/-- ITS FALSE NEIGHBOUR: 'it returns false'. Refute it at one input. -/
def drawRisesWrong : ChangeSpec := { name := "drawRises", fn := fun _ => fun
  | [d1, d2] => { results := [.lit (.bool false)], args := [d1, d2] }
  | _ => none }
def DrawRisesWrongFalsely : Prop := drawRisesRow.holds Tryz.pinned (OpenSpec.ofChange drawRisesWrong)

/-- 'arborlaw23.PictureMoved': WHATEVER THE INPUT: true; the input reads as it did. -/
def pictureMovedSpec : ChangeSpec := { name := "pictureMoved", fn := fun _ => fun
  | [d1, d2, d3] => { results := [.lit (.bool true)], args := [d1, d2, d3] }
  | _ => none }
def pictureMovedRow : OpenClaim := { program := "ytameldglfobjkaagreat", sum := "2af0bfd8852a3f6bb9a5b8b17906e7d3496ef9aec234f8690ac14a81e8f7ad7c", func := "arbor/arborlaw23.PictureMoved", spec := "pictureMoved", unfollowed := true, recurses := true, plainKeys := false, apart := false }
def PictureMovedSaid : Prop := pictureMovedRow.holds Tryz.pinned (OpenSpec.ofChange pictureMovedSpec)

/-- ITS FALSE NEIGHBOUR: 'it returns false'. Refute it at one input. -/
def pictureMovedWrong : ChangeSpec := { name := "pictureMoved", fn := fun _ => fun
  | [d1, d2, d3] => { results := [.lit (.bool false)], args := [d1, d2, d3] }
  | _ => none }
def PictureMovedWrongFalsely : Prop := pictureMovedRow.holds Tryz.pinned (OpenSpec.ofChange pictureMovedWrong)

/-- 'arborlaw19.BarsGood': WHATEVER THE INPUT: true; the input reads as it did. -/
def barsGoodSpec : ChangeSpec := { name := "barsGood", fn := fun _ => fun
  | [d1, d2] => { results := [.lit (.bool true)], args := [d1, d2] }
  | _ => none }
def barsGoodRow : OpenClaim := { program := "ytameldglfobjkaagreat", sum := "2af0bfd8852a3f6bb9a5b8b17906e7d3496ef9aec234f8690ac14a81e8f7ad7c", func := "arbor/arborlaw19.BarsGood", spec := "barsGood", unfollowed := true, recurses := true, plainKeys := false, apart := false }
def BarsGoodSaid : Prop := barsGoodRow.holds Tryz.pinned (OpenSpec.ofChange barsGoodSpec)

/-- ITS FALSE NEIGHBOUR: 'it returns false'. Refute it at one input. -/
def barsGoodWrong : ChangeSpec := { name := "barsGood", fn := fun _ => fun
  | [d1, d2] => { results := [.lit (.bool false)], args := [d1, d2] }
  | _ => none }
def BarsGoodWrongFalsely : Prop := barsGoodRow.holds Tryz.pinned (OpenSpec.ofChange barsGoodWrong)

/-- 'arborlaw23.PictureDraws': WHATEVER THE INPUT: true; the input reads as it did. -/
def pictureDrawsSpec : ChangeSpec := { name := "pictureDraws", fn := fun _ => fun
  | [d1, d2] => { results := [.lit (.bool true)], args := [d1, d2] }
  | _ => none }
def pictureDrawsRow : OpenClaim := { program := "ytameldglfobjkaagreat", sum := "2af0bfd8852a3f6bb9a5b8b17906e7d3496ef9aec234f8690ac14a81e8f7ad7c", func := "arbor/arborlaw23.PictureDraws", spec := "pictureDraws", inPlace := ["slices.overlaps[int]"], unfollowed := true, recurses := true, plainKeys := false, apart := false }
def PictureDrawsSaid : Prop := pictureDrawsRow.holds Tryz.pinned (OpenSpec.ofChange pictureDrawsSpec)

/-- ITS FALSE NEIGHBOUR: 'it returns false'. Refute it at one input. -/
def pictureDrawsWrong : ChangeSpec := { name := "pictureDraws", fn := fun _ => fun
  | [d1, d2] => { results := [.lit (.bool false)], args := [d1, d2] }
  | _ => none }
def PictureDrawsWrongFalsely : Prop := pictureDrawsRow.holds Tryz.pinned (OpenSpec.ofChange pictureDrawsWrong)

/- THE SECOND FORM. 'bulk': how many values and letters a reading holds, each counted each time it is reached (what is shared counts as often as it is met; a slice's spare places count too). A statement '..UptoSaid' is the law's where the arguments, and the package variables that the reading takes, are together of bulk at most 1048576: NARROWER than '..Said'. Prove '..Said' where nothing that the law and all that it calls make is longer than what came in: it says more and counts as full. Else prove '..UptoSaid'. A law counts once. -/
mutual
def uptoBulk {H : Type} : DataW H → Nat
  | .lit (.string bytes) => bytes.length + 1
  | .lit _ => 1
  | .nil => 1
  | .ptr d => uptoBulk d + 1
  | .slice elems spare => uptoBulkAll elems + uptoBulkAll spare + 1
  | .agg parts => uptoBulkAll parts + 1
  | .iface _ d => uptoBulk d + 1
  | .map entries => uptoBulkEntries entries + 1
  | .held _ => 1
def uptoBulkAll {H : Type} : List (DataW H) → Nat
  | [] => 0
  | d :: r => uptoBulk d + uptoBulkAll r
def uptoBulkEntries {H : Type} : List (Lit × DataW H) → Nat
  | [] => 0
  | x :: r => uptoBulkEntry x + uptoBulkEntries r
def uptoBulkEntry {H : Type} : Lit × DataW H → Nat
  | (.string bytes, d) => bytes.length + uptoBulk d + 1
  | (_, d) => uptoBulk d + 1
 end
def uptoSmall : (H : Type) → List (DataW H) → Bool := fun _ ds => decide (uptoBulkAll ds ≤ 1048576)
def OpenSpec.upto (s : _root_.Go.ChangeSpec) : _root_.Go.OpenSpec := { _root_.Go.OpenSpec.ofChange s with cond := some uptoSmall }

/-- 'arborlaw18.DualTurns', WHERE WHAT IT READS IS OF BULK AT MOST 1048576: true; the input reads as it did. -/
def dualTurnsUptoRow : OpenClaim := { program := "ytameldglfobjkaagreat", sum := "2af0bfd8852a3f6bb9a5b8b17906e7d3496ef9aec234f8690ac14a81e8f7ad7c", func := "arbor/arborlaw18.DualTurns", spec := "dualTurns", unfollowed := true, recurses := true, plainKeys := false, apart := false, narrowed := true }
def DualTurnsUptoSaid : Prop := dualTurnsUptoRow.holds Tryz.pinned (OpenSpec.upto dualTurnsSpec)

/-- 'arborlaw19.BarsWide', WHERE WHAT IT READS IS OF BULK AT MOST 1048576: true; the input reads as it did. -/
def barsWideUptoRow : OpenClaim := { program := "ytameldglfobjkaagreat", sum := "2af0bfd8852a3f6bb9a5b8b17906e7d3496ef9aec234f8690ac14a81e8f7ad7c", func := "arbor/arborlaw19.BarsWide", spec := "barsWide", unfollowed := true, recurses := true, plainKeys := false, apart := false, narrowed := true }
def BarsWideUptoSaid : Prop := barsWideUptoRow.holds Tryz.pinned (OpenSpec.upto barsWideSpec)

/-- 'arborlaw21.DrawRises', WHERE WHAT IT READS IS OF BULK AT MOST 1048576: true; the input reads as it did. -/
def drawRisesUptoRow : OpenClaim := { program := "ytameldglfobjkaagreat", sum := "2af0bfd8852a3f6bb9a5b8b17906e7d3496ef9aec234f8690ac14a81e8f7ad7c", func := "arbor/arborlaw21.DrawRises", spec := "drawRises", inPlace := ["slices.overlaps[int]"], unfollowed := true, recurses := true, plainKeys := false, apart := false, narrowed := true }
def DrawRisesUptoSaid : Prop := drawRisesUptoRow.holds Tryz.pinned (OpenSpec.upto drawRisesSpec)

/-- 'arborlaw23.PictureMoved', WHERE WHAT IT READS IS OF BULK AT MOST 1048576: true; the input reads as it did. -/
def pictureMovedUptoRow : OpenClaim := { program := "ytameldglfobjkaagreat", sum := "2af0bfd8852a3f6bb9a5b8b17906e7d3496ef9aec234f8690ac14a81e8f7ad7c", func := "arbor/arborlaw23.PictureMoved", spec := "pictureMoved", unfollowed := true, recurses := true, plainKeys := false, apart := false, narrowed := true }
def PictureMovedUptoSaid : Prop := pictureMovedUptoRow.holds Tryz.pinned (OpenSpec.upto pictureMovedSpec)

/-- 'arborlaw19.BarsGood', WHERE WHAT IT READS IS OF BULK AT MOST 1048576: true; the input reads as it did. -/
def barsGoodUptoRow : OpenClaim := { program := "ytameldglfobjkaagreat", sum := "2af0bfd8852a3f6bb9a5b8b17906e7d3496ef9aec234f8690ac14a81e8f7ad7c", func := "arbor/arborlaw19.BarsGood", spec := "barsGood", unfollowed := true, recurses := true, plainKeys := false, apart := false, narrowed := true }
def BarsGoodUptoSaid : Prop := barsGoodUptoRow.holds Tryz.pinned (OpenSpec.upto barsGoodSpec)

/-- 'arborlaw23.PictureDraws', WHERE WHAT IT READS IS OF BULK AT MOST 1048576: true; the input reads as it did. -/
def pictureDrawsUptoRow : OpenClaim := { program := "ytameldglfobjkaagreat", sum := "2af0bfd8852a3f6bb9a5b8b17906e7d3496ef9aec234f8690ac14a81e8f7ad7c", func := "arbor/arborlaw23.PictureDraws", spec := "pictureDraws", inPlace := ["slices.overlaps[int]"], unfollowed := true, recurses := true, plainKeys := false, apart := false, narrowed := true }
def PictureDrawsUptoSaid : Prop := pictureDrawsUptoRow.holds Tryz.pinned (OpenSpec.upto pictureDrawsSpec)

end Rows
end Go.Proofs.YtameldglfobjkaaGreat
