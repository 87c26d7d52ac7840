/-
  No cell of these rows narrows 'for every input' (looked for: loops, veiled, ifaces, maps, wideKeys, modest, calm, conditions, laid).
  DERIVED. THE GIVEN ROWS OF THIS SEAT. 8 by the template 'for every input the law returns true; each argument reads behind the call as it read before'; 0 by the template 'total and deterministic' (their statements: YtilamojcledkaaaTotals.lean).
  GIVEN WITH THE SEED: the statements are not yours to turn. If you find one false, say at which input.
  Laid BY PROGRAM, IN A SANDBOX (cutbox-rows.mjs): the forced cells as the released guide's own fill.sh prints them over the translation e9fa5e8b3c6abcef… (all of the seat's roots in one cut). By AI agents, Wed Nov 11 2026. No macro, syntax, notation, axiom, sorry.
-/
import Derived.Test.YtilamojcledkaaaChecked
import GoSem.Claim
import GoSem.ClaimJoined
import GoSem.ClaimMapViews
import Derived.JoinedTies
import Derived.KernelRfl
namespace Go.Proofs.Ytilamojcledkaaa
/- THE CELL 'sum', in the pinned program and in every row, IS THE sha256 OF THE DUMP (.gsa) THAT YtilamojcledkaaaProg.lean LOADS. Nothing in Lean hashes anything: it is a label: what it is worth is what the hold of that sum in a sandbox is worth. -/
noncomputable def Try.pinned : Pinned := { name := "ytilamojcledkaaa", sum := "e9fa5e8b3c6abcef746638b154a5c9968aadf8fc30f9b21c7a0790fcf5e8e6cf", checked := Try.checked }
namespace Rows
def none {H : Type} : Left H := { results := [], args := [] }

/-- 'arborlaw23.PictureChecks': WHATEVER THE INPUT: true; the input reads as it did. -/
def pictureChecksSpec : ChangeSpec := { name := "pictureChecks", fn := fun _ => fun
  | [d1, d2] => { results := [.lit (.bool true)], args := [d1, d2] }
  | _ => none }
def pictureChecksRow : OpenClaim := { program := "ytilamojcledkaaa", sum := "e9fa5e8b3c6abcef746638b154a5c9968aadf8fc30f9b21c7a0790fcf5e8e6cf", func := "arbor/arborlaw23.PictureChecks", spec := "pictureChecks", unfollowed := true, recurses := true, plainKeys := false, apart := false }
def PictureChecksSaid : Prop := pictureChecksRow.holds Try.pinned (OpenSpec.ofChange pictureChecksSpec)

/-- ITS FALSE NEIGHBOUR: 'it returns false'. Refute it at one input. -/
def pictureChecksWrong : ChangeSpec := { name := "pictureChecks", fn := fun _ => fun
  | [d1, d2] => { results := [.lit (.bool false)], args := [d1, d2] }
  | _ => none }
def PictureChecksWrongFalsely : Prop := pictureChecksRow.holds Try.pinned (OpenSpec.ofChange pictureChecksWrong)

/-- 'arborlaw23.PictureBent': WHATEVER THE INPUT: true; the input reads as it did. -/
def pictureBentSpec : ChangeSpec := { name := "pictureBent", fn := fun _ => fun
  | [d1, d2, d3, d4] => { results := [.lit (.bool true)], args := [d1, d2, d3, d4] }
  | _ => none }
def pictureBentRow : OpenClaim := { program := "ytilamojcledkaaa", sum := "e9fa5e8b3c6abcef746638b154a5c9968aadf8fc30f9b21c7a0790fcf5e8e6cf", func := "arbor/arborlaw23.PictureBent", spec := "pictureBent", unfollowed := true, recurses := true, plainKeys := false, apart := false }
def PictureBentSaid : Prop := pictureBentRow.holds Try.pinned (OpenSpec.ofChange pictureBentSpec)

/-- ITS FALSE NEIGHBOUR: 'it returns false'. Refute it at one input. -/
def pictureBentWrong : ChangeSpec := { name := "pictureBent", fn := fun _ => fun
  | [d1, d2, d3, d4] => { results := [.lit (.bool false)], args := [d1, d2, d3, d4] }
  | _ => none }
def PictureBentWrongFalsely : Prop := pictureBentRow.holds Try.pinned (OpenSpec.ofChange pictureBentWrong)

/-- 'arborlaw16.AugmentTells': WHATEVER THE INPUT: true; the input reads as it did. -/
def augmentTellsSpec : ChangeSpec := { name := "augmentTells", fn := fun _ => fun
  | [d1, d2] => { results := [.lit (.bool true)], args := [d1, d2] }
  | _ => none }
def augmentTellsRow : OpenClaim := { program := "ytilamojcledkaaa", sum := "e9fa5e8b3c6abcef746638b154a5c9968aadf8fc30f9b21c7a0790fcf5e8e6cf", func := "arbor/arborlaw16.AugmentTells", spec := "augmentTells", unfollowed := true, recurses := true, plainKeys := false, apart := false }
def AugmentTellsSaid : Prop := augmentTellsRow.holds Try.pinned (OpenSpec.ofChange augmentTellsSpec)

/-- ITS FALSE NEIGHBOUR: 'it returns false'. Refute it at one input. -/
def augmentTellsWrong : ChangeSpec := { name := "augmentTells", fn := fun _ => fun
  | [d1, d2] => { results := [.lit (.bool false)], args := [d1, d2] }
  | _ => none }
def AugmentTellsWrongFalsely : Prop := augmentTellsRow.holds Try.pinned (OpenSpec.ofChange augmentTellsWrong)

/-- 'arborlaw16.AugmentAgain': WHATEVER THE INPUT: true; the input reads as it did. -/
def augmentAgainSpec : ChangeSpec := { name := "augmentAgain", fn := fun _ => fun
  | [d1, d2] => { results := [.lit (.bool true)], args := [d1, d2] }
  | _ => none }
def augmentAgainRow : OpenClaim := { program := "ytilamojcledkaaa", sum := "e9fa5e8b3c6abcef746638b154a5c9968aadf8fc30f9b21c7a0790fcf5e8e6cf", func := "arbor/arborlaw16.AugmentAgain", spec := "augmentAgain", unfollowed := true, recurses := true, plainKeys := false, apart := false }
def AugmentAgainSaid : Prop := augmentAgainRow.holds Try.pinned (OpenSpec.ofChange augmentAgainSpec)

/-- ITS FALSE NEIGHBOUR: 'it returns false'. Refute it at one input. -/
def augmentAgainWrong : ChangeSpec := { name := "augmentAgain", fn := fun _ => fun
  | [d1, d2] => { results := [.lit (.bool false)], args := [d1, d2] }
  | _ => none }
def AugmentAgainWrongFalsely : Prop := augmentAgainRow.holds Try.pinned (OpenSpec.ofChange augmentAgainWrong)

/-- 'arborlaw16.AugmentPart': WHATEVER THE INPUT: true; the input reads as it did. -/
def augmentPartSpec : ChangeSpec := { name := "augmentPart", fn := fun _ => fun
  | [d1, d2, d3] => { results := [.lit (.bool true)], args := [d1, d2, d3] }
  | _ => none }
def augmentPartRow : OpenClaim := { program := "ytilamojcledkaaa", sum := "e9fa5e8b3c6abcef746638b154a5c9968aadf8fc30f9b21c7a0790fcf5e8e6cf", func := "arbor/arborlaw16.AugmentPart", spec := "augmentPart", unfollowed := true, recurses := true, plainKeys := false, apart := false }
def AugmentPartSaid : Prop := augmentPartRow.holds Try.pinned (OpenSpec.ofChange augmentPartSpec)

/-- ITS FALSE NEIGHBOUR: 'it returns false'. Refute it at one input. -/
def augmentPartWrong : ChangeSpec := { name := "augmentPart", fn := fun _ => fun
  | [d1, d2, d3] => { results := [.lit (.bool false)], args := [d1, d2, d3] }
  | _ => none }
def AugmentPartWrongFalsely : Prop := augmentPartRow.holds Try.pinned (OpenSpec.ofChange augmentPartWrong)

/-- 'arborlaw16.AugmentSt': WHATEVER THE INPUT: true; the input reads as it did. -/
def augmentStSpec : ChangeSpec := { name := "augmentSt", fn := fun _ => fun
  | [d1, d2] => { results := [.lit (.bool true)], args := [d1, d2] }
  | _ => none }
def augmentStRow : OpenClaim := { program := "ytilamojcledkaaa", sum := "e9fa5e8b3c6abcef746638b154a5c9968aadf8fc30f9b21c7a0790fcf5e8e6cf", func := "arbor/arborlaw16.AugmentSt", spec := "augmentSt", unfollowed := true, recurses := true, plainKeys := false, apart := false }
def AugmentStSaid : Prop := augmentStRow.holds Try.pinned (OpenSpec.ofChange augmentStSpec)

/-- ITS FALSE NEIGHBOUR: 'it returns false'. Refute it at one input. -/
def augmentStWrong : ChangeSpec := { name := "augmentSt", fn := fun _ => fun
  | [d1, d2] => { results := [.lit (.bool false)], args := [d1, d2] }
  | _ => none }
def AugmentStWrongFalsely : Prop := augmentStRow.holds Try.pinned (OpenSpec.ofChange augmentStWrong)

/-- 'arborlaw20.RankBelow': WHATEVER THE INPUT: true; the input reads as it did. -/
def rankBelowSpec : ChangeSpec := { name := "rankBelow", fn := fun _ => fun
  | [d1, d2, d3, d4] => { results := [.lit (.bool true)], args := [d1, d2, d3, d4] }
  | _ => none }
def rankBelowRow : OpenClaim := { program := "ytilamojcledkaaa", sum := "e9fa5e8b3c6abcef746638b154a5c9968aadf8fc30f9b21c7a0790fcf5e8e6cf", func := "arbor/arborlaw20.RankBelow", spec := "rankBelow", unfollowed := true, recurses := true, plainKeys := false, apart := false }
def RankBelowSaid : Prop := rankBelowRow.holds Try.pinned (OpenSpec.ofChange rankBelowSpec)

/-- ITS FALSE NEIGHBOUR: 'it returns false'. Refute it at one input. -/
def rankBelowWrong : ChangeSpec := { name := "rankBelow", fn := fun _ => fun
  | [d1, d2, d3, d4] => { results := [.lit (.bool false)], args := [d1, d2, d3, d4] }
  | _ => none }
def RankBelowWrongFalsely : Prop := rankBelowRow.holds Try.pinned (OpenSpec.ofChange rankBelowWrong)

/-- 'arborlaw16.AugmentTurn': WHATEVER THE INPUT: true; the input reads as it did. -/
def augmentTurnSpec : ChangeSpec := { name := "augmentTurn", fn := fun _ => fun
  | [d1, d2] => { results := [.lit (.bool true)], args := [d1, d2] }
  | _ => none }
def augmentTurnRow : OpenClaim := { program := "ytilamojcledkaaa", sum := "e9fa5e8b3c6abcef746638b154a5c9968aadf8fc30f9b21c7a0790fcf5e8e6cf", func := "arbor/arborlaw16.AugmentTurn", spec := "augmentTurn", unfollowed := true, recurses := true, plainKeys := false, apart := false }
def AugmentTurnSaid : Prop := augmentTurnRow.holds Try.pinned (OpenSpec.ofChange augmentTurnSpec)

/-- ITS FALSE NEIGHBOUR: 'it returns false'. Refute it at one input. -/
def augmentTurnWrong : ChangeSpec := { name := "augmentTurn", fn := fun _ => fun
  | [d1, d2] => { results := [.lit (.bool false)], args := [d1, d2] }
  | _ => none }
def AugmentTurnWrongFalsely : Prop := augmentTurnRow.holds Try.pinned (OpenSpec.ofChange augmentTurnWrong)

/- THE SECOND FORM. 'bulk': how many values and letters a reading holds, each counted each time it is reached (what is shared counts as often as it is met; a slice's spare places count too). A statement '..UptoSaid' is the law's where the arguments, and the package variables that the reading takes, are together of bulk at most 1048576: NARROWER than '..Said'. Prove '..Said' where nothing that the law and all that it calls make is longer than what came in: it says more and counts as full. Else prove '..UptoSaid'. A law counts once. -/
mutual
def uptoBulk {H : Type} : DataW H → Nat
  | .lit (.string bytes) => bytes.length + 1
  | .lit _ => 1
  | .nil => 1
  | .ptr d => uptoBulk d + 1
  | .slice elems spare => uptoBulkAll elems + uptoBulkAll spare + 1
  | .agg parts => uptoBulkAll parts + 1
  | .iface _ d => uptoBulk d + 1
  | .map entries => uptoBulkEntries entries + 1
  | .held _ => 1
def uptoBulkAll {H : Type} : List (DataW H) → Nat
  | [] => 0
  | d :: r => uptoBulk d + uptoBulkAll r
def uptoBulkEntries {H : Type} : List (Lit × DataW H) → Nat
  | [] => 0
  | x :: r => uptoBulkEntry x + uptoBulkEntries r
def uptoBulkEntry {H : Type} : Lit × DataW H → Nat
  | (.string bytes, d) => bytes.length + uptoBulk d + 1
  | (_, d) => uptoBulk d + 1
 end
def uptoSmall : (H : Type) → List (DataW H) → Bool := fun _ ds => decide (uptoBulkAll ds ≤ 1048576)
def OpenSpec.upto (s : _root_.Go.ChangeSpec) : _root_.Go.OpenSpec := { _root_.Go.OpenSpec.ofChange s with cond := some uptoSmall }

/-- 'arborlaw23.PictureChecks', WHERE WHAT IT READS IS OF BULK AT MOST 1048576: true; the input reads as it did. -/
def pictureChecksUptoRow : OpenClaim := { program := "ytilamojcledkaaa", sum := "e9fa5e8b3c6abcef746638b154a5c9968aadf8fc30f9b21c7a0790fcf5e8e6cf", func := "arbor/arborlaw23.PictureChecks", spec := "pictureChecks", unfollowed := true, recurses := true, plainKeys := false, apart := false, narrowed := true }
def PictureChecksUptoSaid : Prop := pictureChecksUptoRow.holds Try.pinned (OpenSpec.upto pictureChecksSpec)

/-- 'arborlaw23.PictureBent', WHERE WHAT IT READS IS OF BULK AT MOST 1048576: true; the input reads as it did. -/
def pictureBentUptoRow : OpenClaim := { program := "ytilamojcledkaaa", sum := "e9fa5e8b3c6abcef746638b154a5c9968aadf8fc30f9b21c7a0790fcf5e8e6cf", func := "arbor/arborlaw23.PictureBent", spec := "pictureBent", unfollowed := true, recurses := true, plainKeys := false, apart := false, narrowed := true }
def PictureBentUptoSaid : Prop := pictureBentUptoRow.holds Try.pinned (OpenSpec.upto pictureBentSpec)

/-- 'arborlaw16.AugmentTells', WHERE WHAT IT READS IS OF BULK AT MOST 1048576: true; the input reads as it did. -/
def augmentTellsUptoRow : OpenClaim := { program := "ytilamojcledkaaa", sum := "e9fa5e8b3c6abcef746638b154a5c9968aadf8fc30f9b21c7a0790fcf5e8e6cf", func := "arbor/arborlaw16.AugmentTells", spec := "augmentTells", unfollowed := true, recurses := true, plainKeys := false, apart := false, narrowed := true }
def AugmentTellsUptoSaid : Prop := augmentTellsUptoRow.holds Try.pinned (OpenSpec.upto augmentTellsSpec)

/-- 'arborlaw16.AugmentAgain', WHERE WHAT IT READS IS OF BULK AT MOST 1048576: true; the input reads as it did. -/
def augmentAgainUptoRow : OpenClaim := { program := "ytilamojcledkaaa", sum := "e9fa5e8b3c6abcef746638b154a5c9968aadf8fc30f9b21c7a0790fcf5e8e6cf", func := "arbor/arborlaw16.AugmentAgain", spec := "augmentAgain", unfollowed := true, recurses := true, plainKeys := false, apart := false, narrowed := true }
def AugmentAgainUptoSaid : Prop := augmentAgainUptoRow.holds Try.pinned (OpenSpec.upto augmentAgainSpec)

/-- 'arborlaw16.AugmentPart', WHERE WHAT IT READS IS OF BULK AT MOST 1048576: true; the input reads as it did. -/
def augmentPartUptoRow : OpenClaim := { program := "ytilamojcledkaaa", sum := "e9fa5e8b3c6abcef746638b154a5c9968aadf8fc30f9b21c7a0790fcf5e8e6cf", func := "arbor/arborlaw16.AugmentPart", spec := "augmentPart", unfollowed := true, recurses := true, plainKeys := false, apart := false, narrowed := true }
def AugmentPartUptoSaid : Prop := augmentPartUptoRow.holds Try.pinned (OpenSpec.upto augmentPartSpec)

/-- 'arborlaw16.AugmentSt', WHERE WHAT IT READS IS OF BULK AT MOST 1048576: true; the input reads as it did. -/
def augmentStUptoRow : OpenClaim := { program := "ytilamojcledkaaa", sum := "e9fa5e8b3c6abcef746638b154a5c9968aadf8fc30f9b21c7a0790fcf5e8e6cf", func := "arbor/arborlaw16.AugmentSt", spec := "augmentSt", unfollowed := true, recurses := true, plainKeys := false, apart := false, narrowed := true }
def AugmentStUptoSaid : Prop := augmentStUptoRow.holds Try.pinned (OpenSpec.upto augmentStSpec)

/-- 'arborlaw20.RankBelow', WHERE WHAT IT READS IS OF BULK AT MOST 1048576: true; the input reads as it did. -/
def rankBelowUptoRow : OpenClaim := { program := "ytilamojcledkaaa", sum := "e9fa5e8b3c6abcef746638b154a5c9968aadf8fc30f9b21c7a0790fcf5e8e6cf", func := "arbor/arborlaw20.RankBelow", spec := "rankBelow", unfollowed := true, recurses := true, plainKeys := false, apart := false, narrowed := true }
def RankBelowUptoSaid : Prop := rankBelowUptoRow.holds Try.pinned (OpenSpec.upto rankBelowSpec)

/-- 'arborlaw16.AugmentTurn', WHERE WHAT IT READS IS OF BULK AT MOST 1048576: true; the input reads as it did. -/
def augmentTurnUptoRow : OpenClaim := { program := "ytilamojcledkaaa", sum := "e9fa5e8b3c6abcef746638b154a5c9968aadf8fc30f9b21c7a0790fcf5e8e6cf", func := "arbor/arborlaw16.AugmentTurn", spec := "augmentTurn", unfollowed := true, recurses := true, plainKeys := false, apart := false, narrowed := true }
def AugmentTurnUptoSaid : Prop := augmentTurnUptoRow.holds Try.pinned (OpenSpec.upto augmentTurnSpec)

end Rows
end Go.Proofs.Ytilamojcledkaaa
