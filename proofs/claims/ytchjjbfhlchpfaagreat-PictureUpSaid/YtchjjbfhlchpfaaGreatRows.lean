/-
  No cell of these rows narrows 'for every input' (looked for: loops, veiled, ifaces, maps, wideKeys, modest, calm, conditions, laid).
  DERIVED. THE GIVEN ROWS OF THIS SEAT. 11 by the template 'for every input the law returns true; each argument reads behind the call as it read before'; 0 by the template 'total and deterministic' (their statements: YtchjjbfhlchpfaaGreatTotals.lean).
  GIVEN WITH THE SEED: the statements are not yours to turn. If you find one false, say at which input.
  Laid BY PROGRAM, IN A SANDBOX (cutbox-rows.mjs): the forced cells as the released guide's own fill.sh prints them over the translation 5c37e31c2dcd56e7… (all of the seat's roots in one cut). By AI agents, Wed Nov 11 2026. No macro, syntax, notation, axiom, sorry.
-/
import Derived.Test.YtchjjbfhlchpfaaGreatChecked
import GoSem.Claim
import GoSem.ClaimJoined
import GoSem.ClaimMapViews
import Derived.JoinedTies
import Derived.KernelRfl
namespace Go.Proofs.YtchjjbfhlchpfaaGreat
/- THE CELL 'sum', in the pinned program and in every row, IS THE sha256 OF THE DUMP (.gsa) THAT YtchjjbfhlchpfaaGreatProg.lean LOADS. Nothing in Lean hashes anything: it is a label: what it is worth is what the hold of that sum in a sandbox is worth. -/
noncomputable def Tryz.pinned : Pinned := { name := "ytchjjbfhlchpfaagreat", sum := "5c37e31c2dcd56e7eb8815c3910e6f8ffc7c844b494f29c72678db5f1541b148", checked := Tryz.checked }
namespace Rows
def none {H : Type} : Left H := { results := [], args := [] }

/-- 'arborlaw23.PicturePlans': WHATEVER THE INPUT: true; the input reads as it did. -/
def picturePlansSpec : ChangeSpec := { name := "picturePlans", fn := fun _ => fun
  | [d1, d2] => { results := [.lit (.bool true)], args := [d1, d2] }
  | _ => none }
def picturePlansRow : OpenClaim := { program := "ytchjjbfhlchpfaagreat", sum := "5c37e31c2dcd56e7eb8815c3910e6f8ffc7c844b494f29c72678db5f1541b148", func := "arbor/arborlaw23.PicturePlans", spec := "picturePlans", unfollowed := true, recurses := true, plainKeys := false, apart := false }
def PicturePlansSaid : Prop := picturePlansRow.holds Tryz.pinned (OpenSpec.ofChange picturePlansSpec)

/-- ITS FALSE NEIGHBOUR: 'it returns false'. Refute it at one input. -/
def picturePlansWrong : ChangeSpec := { name := "picturePlans", fn := fun _ => fun
  | [d1, d2] => { results := [.lit (.bool false)], args := [d1, d2] }
  | _ => none }
def PicturePlansWrongFalsely : Prop := picturePlansRow.holds Tryz.pinned (OpenSpec.ofChange picturePlansWrong)

/-- 'arborlaw23.PictureUp': WHATEVER THE INPUT: true; the input reads as it did. -/
def pictureUpSpec : ChangeSpec := { name := "pictureUp", fn := fun _ => fun
  | [d1, d2] => { results := [.lit (.bool true)], args := [d1, d2] }
  | _ => none }
def pictureUpRow : OpenClaim := { program := "ytchjjbfhlchpfaagreat", sum := "5c37e31c2dcd56e7eb8815c3910e6f8ffc7c844b494f29c72678db5f1541b148", func := "arbor/arborlaw23.PictureUp", spec := "pictureUp", unfollowed := true, recurses := true, plainKeys := false, apart := false }
def PictureUpSaid : Prop := pictureUpRow.holds Tryz.pinned (OpenSpec.ofChange pictureUpSpec)

/-- ITS FALSE NEIGHBOUR: 'it returns false'. Refute it at one input. -/
def pictureUpWrong : ChangeSpec := { name := "pictureUp", fn := fun _ => fun
  | [d1, d2] => { results := [.lit (.bool false)], args := [d1, d2] }
  | _ => none }
def PictureUpWrongFalsely : Prop := pictureUpRow.holds Tryz.pinned (OpenSpec.ofChange pictureUpWrong)

/-- 'arborlaw20.RankReach': WHATEVER THE INPUT: true; the input reads as it did. -/
def rankReachSpec : ChangeSpec := { name := "rankReach", fn := fun _ => fun
  | [d1, d2] => { results := [.lit (.bool true)], args := [d1, d2] }
  | _ => none }
def rankReachRow : OpenClaim := { program := "ytchjjbfhlchpfaagreat", sum := "5c37e31c2dcd56e7eb8815c3910e6f8ffc7c844b494f29c72678db5f1541b148", func := "arbor/arborlaw20.RankReach", spec := "rankReach", unfollowed := true, recurses := true, plainKeys := false, apart := false }
def RankReachSaid : Prop := rankReachRow.holds Tryz.pinned (OpenSpec.ofChange rankReachSpec)

/-- ITS FALSE NEIGHBOUR: 'it returns false'. Refute it at one input. -/
def rankReachWrong : ChangeSpec := { name := "rankReach", fn := fun _ => fun
  | [d1, d2] => { results := [.lit (.bool false)], args := [d1, d2] }
  | _ => none }
def RankReachWrongFalsely : Prop := rankReachRow.holds Tryz.pinned (OpenSpec.ofChange rankReachWrong)

/-- 'arborlaw20.RankSides': WHATEVER THE INPUT: true; the input reads as it did. -/
def rankSidesSpec : ChangeSpec := { name := "rankSides", fn := fun _ => fun
  | [d1, d2] => { results := [.lit (.bool true)], args := [d1, d2] }
  | _ => none }
def rankSidesRow : OpenClaim := { program := "ytchjjbfhlchpfaagreat", sum := "5c37e31c2dcd56e7eb8815c3910e6f8ffc7c844b494f29c72678db5f1541b148", func := "arbor/arborlaw20.RankSides", spec := "rankSides", unfollowed := true, recurses := true, plainKeys := false, apart := false }
def RankSidesSaid : Prop := rankSidesRow.holds Tryz.pinned (OpenSpec.ofChange rankSidesSpec)

/-- ITS FALSE NEIGHBOUR: 'it returns false'. Refute it at one input. -/
def rankSidesWrong : ChangeSpec := { name := "rankSides", fn := fun _ => fun
  | [d1, d2] => { results := [.lit (.bool false)], args := [d1, d2] }
  | _ => none }
def RankSidesWrongFalsely : Prop := rankSidesRow.holds Tryz.pinned (OpenSpec.ofChange rankSidesWrong)

/-- 'arborlaw21.DrawTells': WHATEVER THE INPUT: true; the input reads as it did. -/
def drawTellsSpec : ChangeSpec := { name := "drawTells", fn := fun _ => fun
  | [d1, d2] => { results := [.lit (.bool true)], args := [d1, d2] }
  | _ => none }
def drawTellsRow : OpenClaim := { program := "ytchjjbfhlchpfaagreat", sum := "5c37e31c2dcd56e7eb8815c3910e6f8ffc7c844b494f29c72678db5f1541b148", func := "arbor/arborlaw21.DrawTells", spec := "drawTells", inPlace := ["slices.overlaps[int]"], unfollowed := true, recurses := true, plainKeys := false, apart := false }
def DrawTellsSaid : Prop := drawTellsRow.holds Tryz.pinned (OpenSpec.ofChange drawTellsSpec)

/-- ITS FALSE NEIGHBOUR: 'it returns false'. Refute it at one input. -/
def drawTellsWrong : ChangeSpec := { name := "drawTells", fn := fun _ => fun
  | [d1, d2] => { results := [.lit (.bool false)], args := [d1, d2] }
  | _ => none }
def DrawTellsWrongFalsely : Prop := drawTellsRow.holds Tryz.pinned (OpenSpec.ofChange drawTellsWrong)

/-- 'arborlaw21.DrawFits': WHATEVER THE INPUT: true; the input reads as it did. -/
def drawFitsSpec : ChangeSpec := { name := "drawFits", fn := fun _ => fun
  | [d1, d2] => { results := [.lit (.bool true)], args := [d1, d2] }
  | _ => none }
def drawFitsRow : OpenClaim := { program := "ytchjjbfhlchpfaagreat", sum := "5c37e31c2dcd56e7eb8815c3910e6f8ffc7c844b494f29c72678db5f1541b148", func := "arbor/arborlaw21.DrawFits", spec := "drawFits", inPlace := ["slices.overlaps[int]"], unfollowed := true, recurses := true, plainKeys := false, apart := false }
def DrawFitsSaid : Prop := drawFitsRow.holds Tryz.pinned (OpenSpec.ofChange drawFitsSpec)

/-- ITS FALSE NEIGHBOUR: 'it returns false'. Refute it at one input. -/
def drawFitsWrong : ChangeSpec := { name := "drawFits", fn := fun _ => fun
  | [d1, d2] => { results := [.lit (.bool false)], args := [d1, d2] }
  | _ => none }
def DrawFitsWrongFalsely : Prop := drawFitsRow.holds Tryz.pinned (OpenSpec.ofChange drawFitsWrong)

/-- 'arborlaw21.DrawRises': WHATEVER THE INPUT: true; the input reads as it did. -/
def drawRisesSpec : ChangeSpec := { name := "drawRises", fn := fun _ => fun
  | [d1, d2] => { results := [.lit (.bool true)], args := [d1, d2] }
  | _ => none }
def drawRisesRow : OpenClaim := { program := "ytchjjbfhlchpfaagreat", sum := "5c37e31c2dcd56e7eb8815c3910e6f8ffc7c844b494f29c72678db5f1541b148", func := "arbor/arborlaw21.DrawRises", spec := "drawRises", inPlace := ["slices.overlaps[int]"], unfollowed := true, recurses := true, plainKeys := false, apart := false }
def DrawRisesSaid : Prop := drawRisesRow.holds Tryz.pinned (OpenSpec.ofChange drawRisesSpec)

/-- ITS FALSE NEIGHBOUR: 'it returns false'. Refute it at one input. -/
def drawRisesWrong : ChangeSpec := { name := "drawRises", fn := fun _ => fun
  | [d1, d2] => { results := [.lit (.bool false)], args := [d1, d2] }
  | _ => none }
def DrawRisesWrongFalsely : Prop := drawRisesRow.holds Tryz.pinned (OpenSpec.ofChange drawRisesWrong)

/-- 'arborlaw21.DrawReduces': WHATEVER THE INPUT: true; the input reads as it did. -/
def drawReducesSpec : ChangeSpec := { name := "drawReduces", fn := fun _ => fun
  | [d1, d2] => { results := [.lit (.bool true)], args := [d1, d2] }
  | _ => none }
def drawReducesRow : OpenClaim := { program := "ytchjjbfhlchpfaagreat", sum := "5c37e31c2dcd56e7eb8815c3910e6f8ffc7c844b494f29c72678db5f1541b148", func := "arbor/arborlaw21.DrawReduces", spec := "drawReduces", inPlace := ["slices.overlaps[int]"], unfollowed := true, recurses := true, plainKeys := false, apart := false }
def DrawReducesSaid : Prop := drawReducesRow.holds Tryz.pinned (OpenSpec.ofChange drawReducesSpec)

/-- ITS FALSE NEIGHBOUR: 'it returns false'. Refute it at one input. -/
def drawReducesWrong : ChangeSpec := { name := "drawReduces", fn := fun _ => fun
  | [d1, d2] => { results := [.lit (.bool false)], args := [d1, d2] }
  | _ => none }
def DrawReducesWrongFalsely : Prop := drawReducesRow.holds Tryz.pinned (OpenSpec.ofChange drawReducesWrong)

/-- 'arborlaw21.DrawReach': WHATEVER THE INPUT: true; the input reads as it did. -/
def drawReachSpec : ChangeSpec := { name := "drawReach", fn := fun _ => fun
  | [d1, d2] => { results := [.lit (.bool true)], args := [d1, d2] }
  | _ => none }
def drawReachRow : OpenClaim := { program := "ytchjjbfhlchpfaagreat", sum := "5c37e31c2dcd56e7eb8815c3910e6f8ffc7c844b494f29c72678db5f1541b148", func := "arbor/arborlaw21.DrawReach", spec := "drawReach", inPlace := ["slices.overlaps[int]"], unfollowed := true, recurses := true, plainKeys := false, apart := false }
def DrawReachSaid : Prop := drawReachRow.holds Tryz.pinned (OpenSpec.ofChange drawReachSpec)

/-- ITS FALSE NEIGHBOUR: 'it returns false'. Refute it at one input. -/
def drawReachWrong : ChangeSpec := { name := "drawReach", fn := fun _ => fun
  | [d1, d2] => { results := [.lit (.bool false)], args := [d1, d2] }
  | _ => none }
def DrawReachWrongFalsely : Prop := drawReachRow.holds Tryz.pinned (OpenSpec.ofChange drawReachWrong)

/-- 'arborlaw21.DrawMirrors': WHATEVER THE INPUT: true; the input reads as it did. -/
def drawMirrorsSpec : ChangeSpec := { name := "drawMirrors", fn := fun _ => fun
  | [d1, d2] => { results := [.lit (.bool true)], args := [d1, d2] }
  | _ => none }
def drawMirrorsRow : OpenClaim := { program := "ytchjjbfhlchpfaagreat", sum := "5c37e31c2dcd56e7eb8815c3910e6f8ffc7c844b494f29c72678db5f1541b148", func := "arbor/arborlaw21.DrawMirrors", spec := "drawMirrors", inPlace := ["slices.overlaps[int]"], unfollowed := true, recurses := true, plainKeys := false, apart := false }
def DrawMirrorsSaid : Prop := drawMirrorsRow.holds Tryz.pinned (OpenSpec.ofChange drawMirrorsSpec)

/-- ITS FALSE NEIGHBOUR: 'it returns false'. Refute it at one input. -/
def drawMirrorsWrong : ChangeSpec := { name := "drawMirrors", fn := fun _ => fun
  | [d1, d2] => { results := [.lit (.bool false)], args := [d1, d2] }
  | _ => none }
def DrawMirrorsWrongFalsely : Prop := drawMirrorsRow.holds Tryz.pinned (OpenSpec.ofChange drawMirrorsWrong)

/-- 'arborlaw21.DrawReduced': WHATEVER THE INPUT: true; the input reads as it did. -/
def drawReducedSpec : ChangeSpec := { name := "drawReduced", fn := fun _ => fun
  | [d1, d2] => { results := [.lit (.bool true)], args := [d1, d2] }
  | _ => none }
def drawReducedRow : OpenClaim := { program := "ytchjjbfhlchpfaagreat", sum := "5c37e31c2dcd56e7eb8815c3910e6f8ffc7c844b494f29c72678db5f1541b148", func := "arbor/arborlaw21.DrawReduced", spec := "drawReduced", inPlace := ["slices.overlaps[int]"], unfollowed := true, recurses := true, plainKeys := false, apart := false }
def DrawReducedSaid : Prop := drawReducedRow.holds Tryz.pinned (OpenSpec.ofChange drawReducedSpec)

/-- ITS FALSE NEIGHBOUR: 'it returns false'. Refute it at one input. -/
def drawReducedWrong : ChangeSpec := { name := "drawReduced", fn := fun _ => fun
  | [d1, d2] => { results := [.lit (.bool false)], args := [d1, d2] }
  | _ => none }
def DrawReducedWrongFalsely : Prop := drawReducedRow.holds Tryz.pinned (OpenSpec.ofChange drawReducedWrong)

/- THE SECOND FORM. 'bulk': how many values and letters a reading holds, each counted each time it is reached (what is shared counts as often as it is met; a slice's spare places count too). A statement '..UptoSaid' is the law's where the arguments, and the package variables that the reading takes, are together of bulk at most 1048576: NARROWER than '..Said'. Prove '..Said' where nothing that the law and all that it calls make is longer than what came in: it says more and counts as full. Else prove '..UptoSaid'. A law counts once. -/
mutual
def uptoBulk {H : Type} : DataW H → Nat
  | .lit (.string bytes) => bytes.length + 1
  | .lit _ => 1
  | .nil => 1
  | .ptr d => uptoBulk d + 1
  | .slice elems spare => uptoBulkAll elems + uptoBulkAll spare + 1
  | .agg parts => uptoBulkAll parts + 1
  | .iface _ d => uptoBulk d + 1
  | .map entries => uptoBulkEntries entries + 1
  | .held _ => 1
def uptoBulkAll {H : Type} : List (DataW H) → Nat
  | [] => 0
  | d :: r => uptoBulk d + uptoBulkAll r
def uptoBulkEntries {H : Type} : List (Lit × DataW H) → Nat
  | [] => 0
  | x :: r => uptoBulkEntry x + uptoBulkEntries r
def uptoBulkEntry {H : Type} : Lit × DataW H → Nat
  | (.string bytes, d) => bytes.length + uptoBulk d + 1
  | (_, d) => uptoBulk d + 1
 end
def uptoSmall : (H : Type) → List (DataW H) → Bool := fun _ ds => decide (uptoBulkAll ds ≤ 1048576)
def OpenSpec.upto (s : _root_.Go.ChangeSpec) : _root_.Go.OpenSpec := { _root_.Go.OpenSpec.ofChange s with cond := some uptoSmall }

/-- 'arborlaw23.PicturePlans', WHERE WHAT IT READS IS OF BULK AT MOST 1048576: true; the input reads as it did. -/
def picturePlansUptoRow : OpenClaim := { program := "ytchjjbfhlchpfaagreat", sum := "5c37e31c2dcd56e7eb8815c3910e6f8ffc7c844b494f29c72678db5f1541b148", func := "arbor/arborlaw23.PicturePlans", spec := "picturePlans", unfollowed := true, recurses := true, plainKeys := false, apart := false, narrowed := true }
def PicturePlansUptoSaid : Prop := picturePlansUptoRow.holds Tryz.pinned (OpenSpec.upto picturePlansSpec)

/-- 'arborlaw23.PictureUp', WHERE WHAT IT READS IS OF BULK AT MOST 1048576: true; the input reads as it did. -/
def pictureUpUptoRow : OpenClaim := { program := "ytchjjbfhlchpfaagreat", sum := "5c37e31c2dcd56e7eb8815c3910e6f8ffc7c844b494f29c72678db5f1541b148", func := "arbor/arborlaw23.PictureUp", spec := "pictureUp", unfollowed := true, recurses := true, plainKeys := false, apart := false, narrowed := true }
def PictureUpUptoSaid : Prop := pictureUpUptoRow.holds Tryz.pinned (OpenSpec.upto pictureUpSpec)

/-- 'arborlaw20.RankReach', WHERE WHAT IT READS IS OF BULK AT MOST 1048576: true; the input reads as it did. -/
def rankReachUptoRow : OpenClaim := { program := "ytchjjbfhlchpfaagreat", sum := "5c37e31c2dcd56e7eb8815c3910e6f8ffc7c844b494f29c72678db5f1541b148", func := "arbor/arborlaw20.RankReach", spec := "rankReach", unfollowed := true, recurses := true, plainKeys := false, apart := false, narrowed := true }
def RankReachUptoSaid : Prop := rankReachUptoRow.holds Tryz.pinned (OpenSpec.upto rankReachSpec)

/-- 'arborlaw20.RankSides', WHERE WHAT IT READS IS OF BULK AT MOST 1048576: true; the input reads as it did. -/
def rankSidesUptoRow : OpenClaim := { program := "ytchjjbfhlchpfaagreat", sum := "5c37e31c2dcd56e7eb8815c3910e6f8ffc7c844b494f29c72678db5f1541b148", func := "arbor/arborlaw20.RankSides", spec := "rankSides", unfollowed := true, recurses := true, plainKeys := false, apart := false, narrowed := true }
def RankSidesUptoSaid : Prop := rankSidesUptoRow.holds Tryz.pinned (OpenSpec.upto rankSidesSpec)

/-- 'arborlaw21.DrawTells', WHERE WHAT IT READS IS OF BULK AT MOST 1048576: true; the input reads as it did. -/
def drawTellsUptoRow : OpenClaim := { program := "ytchjjbfhlchpfaagreat", sum := "5c37e31c2dcd56e7eb8815c3910e6f8ffc7c844b494f29c72678db5f1541b148", func := "arbor/arborlaw21.DrawTells", spec := "drawTells", inPlace := ["slices.overlaps[int]"], unfollowed := true, recurses := true, plainKeys := false, apart := false, narrowed := true }
def DrawTellsUptoSaid : Prop := drawTellsUptoRow.holds Tryz.pinned (OpenSpec.upto drawTellsSpec)

/-- 'arborlaw21.DrawFits', WHERE WHAT IT READS IS OF BULK AT MOST 1048576: true; the input reads as it did. -/
def drawFitsUptoRow : OpenClaim := { program := "ytchjjbfhlchpfaagreat", sum := "5c37e31c2dcd56e7eb8815c3910e6f8ffc7c844b494f29c72678db5f1541b148", func := "arbor/arborlaw21.DrawFits", spec := "drawFits", inPlace := ["slices.overlaps[int]"], unfollowed := true, recurses := true, plainKeys := false, apart := false, narrowed := true }
def DrawFitsUptoSaid : Prop := drawFitsUptoRow.holds Tryz.pinned (OpenSpec.upto drawFitsSpec)

/-- 'arborlaw21.DrawRises', WHERE WHAT IT READS IS OF BULK AT MOST 1048576: true; the input reads as it did. -/
def drawRisesUptoRow : OpenClaim := { program := "ytchjjbfhlchpfaagreat", sum := "5c37e31c2dcd56e7eb8815c3910e6f8ffc7c844b494f29c72678db5f1541b148", func := "arbor/arborlaw21.DrawRises", spec := "drawRises", inPlace := ["slices.overlaps[int]"], unfollowed := true, recurses := true, plainKeys := false, apart := false, narrowed := true }
def DrawRisesUptoSaid : Prop := drawRisesUptoRow.holds Tryz.pinned (OpenSpec.upto drawRisesSpec)

/-- 'arborlaw21.DrawReduces', WHERE WHAT IT READS IS OF BULK AT MOST 1048576: true; the input reads as it did. -/
def drawReducesUptoRow : OpenClaim := { program := "ytchjjbfhlchpfaagreat", sum := "5c37e31c2dcd56e7eb8815c3910e6f8ffc7c844b494f29c72678db5f1541b148", func := "arbor/arborlaw21.DrawReduces", spec := "drawReduces", inPlace := ["slices.overlaps[int]"], unfollowed := true, recurses := true, plainKeys := false, apart := false, narrowed := true }
def DrawReducesUptoSaid : Prop := drawReducesUptoRow.holds Tryz.pinned (OpenSpec.upto drawReducesSpec)

/-- 'arborlaw21.DrawReach', WHERE WHAT IT READS IS OF BULK AT MOST 1048576: true; the input reads as it did. -/
def drawReachUptoRow : OpenClaim := { program := "ytchjjbfhlchpfaagreat", sum := "5c37e31c2dcd56e7eb8815c3910e6f8ffc7c844b494f29c72678db5f1541b148", func := "arbor/arborlaw21.DrawReach", spec := "drawReach", inPlace := ["slices.overlaps[int]"], unfollowed := true, recurses := true, plainKeys := false, apart := false, narrowed := true }
def DrawReachUptoSaid : Prop := drawReachUptoRow.holds Tryz.pinned (OpenSpec.upto drawReachSpec)

/-- 'arborlaw21.DrawMirrors', WHERE WHAT IT READS IS OF BULK AT MOST 1048576: true; the input reads as it did. -/
def drawMirrorsUptoRow : OpenClaim := { program := "ytchjjbfhlchpfaagreat", sum := "5c37e31c2dcd56e7eb8815c3910e6f8ffc7c844b494f29c72678db5f1541b148", func := "arbor/arborlaw21.DrawMirrors", spec := "drawMirrors", inPlace := ["slices.overlaps[int]"], unfollowed := true, recurses := true, plainKeys := false, apart := false, narrowed := true }
def DrawMirrorsUptoSaid : Prop := drawMirrorsUptoRow.holds Tryz.pinned (OpenSpec.upto drawMirrorsSpec)

/-- 'arborlaw21.DrawReduced', WHERE WHAT IT READS IS OF BULK AT MOST 1048576: true; the input reads as it did. -/
def drawReducedUptoRow : OpenClaim := { program := "ytchjjbfhlchpfaagreat", sum := "5c37e31c2dcd56e7eb8815c3910e6f8ffc7c844b494f29c72678db5f1541b148", func := "arbor/arborlaw21.DrawReduced", spec := "drawReduced", inPlace := ["slices.overlaps[int]"], unfollowed := true, recurses := true, plainKeys := false, apart := false, narrowed := true }
def DrawReducedUptoSaid : Prop := drawReducedUptoRow.holds Tryz.pinned (OpenSpec.upto drawReducedSpec)

end Rows
end Go.Proofs.YtchjjbfhlchpfaaGreat
