/-
  No cell of these rows narrows 'for every input' (looked for: loops, veiled, ifaces, maps, wideKeys, modest, calm, conditions, laid).
  DERIVED. THE GIVEN ROWS OF THIS SEAT. 9 by the template 'for every input the law returns true; each argument reads behind the call as it read before'; 0 by the template 'total and deterministic' (their statements: YtcajillldlhdpaaTotals.lean).
  GIVEN WITH THE SEED: the statements are not yours to turn. If you find one false, say at which input.
  Laid BY PROGRAM, IN A SANDBOX (cutbox-rows.mjs): the forced cells as the released guide's own fill.sh prints them over the translation 8c5cf2329e739ee0… (all of the seat's roots in one cut). By AI agents, Wed Nov 11 2026. No macro, syntax, notation, axiom, sorry.
-/
import Derived.Test.YtcajillldlhdpaaChecked
import GoSem.Claim
import GoSem.ClaimJoined
import GoSem.ClaimMapViews
import Derived.JoinedTies
import Derived.KernelRfl
namespace Go.Proofs.Ytcajillldlhdpaa
/- THE CELL 'sum', in the pinned program and in every row, IS THE sha256 OF THE DUMP (.gsa) THAT YtcajillldlhdpaaProg.lean LOADS. Nothing in Lean hashes anything: it is a label: what it is worth is what the hold of that sum in a sandbox is worth. -/
noncomputable def Try.pinned : Pinned := { name := "ytcajillldlhdpaa", sum := "8c5cf2329e739ee0ebd11b94963b2651b078d3593dbc57553a1dabdd016dbdfd", checked := Try.checked }
namespace Rows
def none {H : Type} : Left H := { results := [], args := [] }

/-- 'arborlaw02.GraphChecks': WHATEVER THE INPUT: true; the input reads as it did. -/
def graphChecksSpec : ChangeSpec := { name := "graphChecks", fn := fun _ => fun
  | [d] => { results := [.lit (.bool true)], args := [d] }
  | _ => none }
def graphChecksRow : OpenClaim := { program := "ytcajillldlhdpaa", sum := "8c5cf2329e739ee0ebd11b94963b2651b078d3593dbc57553a1dabdd016dbdfd", func := "arbor/arborlaw02.GraphChecks", spec := "graphChecks", unfollowed := true, recurses := true, apart := false }
def GraphChecksSaid : Prop := graphChecksRow.holds Try.pinned (OpenSpec.ofChange graphChecksSpec)

/-- ITS FALSE NEIGHBOUR: 'it returns false'. Refute it at one input. -/
def graphChecksWrong : ChangeSpec := { name := "graphChecks", fn := fun _ => fun
  | [d] => { results := [.lit (.bool false)], args := [d] }
  | _ => none }
def GraphChecksWrongFalsely : Prop := graphChecksRow.holds Try.pinned (OpenSpec.ofChange graphChecksWrong)

/-- 'arborlaw02.GraphLeast': WHATEVER THE INPUT: true; the input reads as it did. -/
def graphLeastSpec : ChangeSpec := { name := "graphLeast", fn := fun _ => fun
  | [d1, d2] => { results := [.lit (.bool true)], args := [d1, d2] }
  | _ => none }
def graphLeastRow : OpenClaim := { program := "ytcajillldlhdpaa", sum := "8c5cf2329e739ee0ebd11b94963b2651b078d3593dbc57553a1dabdd016dbdfd", func := "arbor/arborlaw02.GraphLeast", spec := "graphLeast", unfollowed := true, recurses := true, apart := false }
def GraphLeastSaid : Prop := graphLeastRow.holds Try.pinned (OpenSpec.ofChange graphLeastSpec)

/-- ITS FALSE NEIGHBOUR: 'it returns false'. Refute it at one input. -/
def graphLeastWrong : ChangeSpec := { name := "graphLeast", fn := fun _ => fun
  | [d1, d2] => { results := [.lit (.bool false)], args := [d1, d2] }
  | _ => none }
def GraphLeastWrongFalsely : Prop := graphLeastRow.holds Try.pinned (OpenSpec.ofChange graphLeastWrong)

/-- 'arborlaw02.GraphViews': WHATEVER THE INPUT: true; the input reads as it did. -/
def graphViewsSpec : ChangeSpec := { name := "graphViews", fn := fun _ => fun
  | [d] => { results := [.lit (.bool true)], args := [d] }
  | _ => none }
def graphViewsRow : OpenClaim := { program := "ytcajillldlhdpaa", sum := "8c5cf2329e739ee0ebd11b94963b2651b078d3593dbc57553a1dabdd016dbdfd", func := "arbor/arborlaw02.GraphViews", spec := "graphViews", unfollowed := true, recurses := true, apart := false }
def GraphViewsSaid : Prop := graphViewsRow.holds Try.pinned (OpenSpec.ofChange graphViewsSpec)

/-- ITS FALSE NEIGHBOUR: 'it returns false'. Refute it at one input. -/
def graphViewsWrong : ChangeSpec := { name := "graphViews", fn := fun _ => fun
  | [d] => { results := [.lit (.bool false)], args := [d] }
  | _ => none }
def GraphViewsWrongFalsely : Prop := graphViewsRow.holds Try.pinned (OpenSpec.ofChange graphViewsWrong)

/-- 'arborlaw02.GraphNames': WHATEVER THE INPUT: true; the input reads as it did. -/
def graphNamesSpec : ChangeSpec := { name := "graphNames", fn := fun _ => fun
  | [d1, d2, d3] => { results := [.lit (.bool true)], args := [d1, d2, d3] }
  | _ => none }
def graphNamesRow : OpenClaim := { program := "ytcajillldlhdpaa", sum := "8c5cf2329e739ee0ebd11b94963b2651b078d3593dbc57553a1dabdd016dbdfd", func := "arbor/arborlaw02.GraphNames", spec := "graphNames", unfollowed := true, recurses := true, apart := false }
def GraphNamesSaid : Prop := graphNamesRow.holds Try.pinned (OpenSpec.ofChange graphNamesSpec)

/-- ITS FALSE NEIGHBOUR: 'it returns false'. Refute it at one input. -/
def graphNamesWrong : ChangeSpec := { name := "graphNames", fn := fun _ => fun
  | [d1, d2, d3] => { results := [.lit (.bool false)], args := [d1, d2, d3] }
  | _ => none }
def GraphNamesWrongFalsely : Prop := graphNamesRow.holds Try.pinned (OpenSpec.ofChange graphNamesWrong)

/-- 'arborlaw02.GraphKinds': WHATEVER THE INPUT: true; the input reads as it did. -/
def graphKindsSpec : ChangeSpec := { name := "graphKinds", fn := fun _ => fun
  | [d1, d2, d3] => { results := [.lit (.bool true)], args := [d1, d2, d3] }
  | _ => none }
def graphKindsRow : OpenClaim := { program := "ytcajillldlhdpaa", sum := "8c5cf2329e739ee0ebd11b94963b2651b078d3593dbc57553a1dabdd016dbdfd", func := "arbor/arborlaw02.GraphKinds", spec := "graphKinds", unfollowed := true, recurses := true, apart := false }
def GraphKindsSaid : Prop := graphKindsRow.holds Try.pinned (OpenSpec.ofChange graphKindsSpec)

/-- ITS FALSE NEIGHBOUR: 'it returns false'. Refute it at one input. -/
def graphKindsWrong : ChangeSpec := { name := "graphKinds", fn := fun _ => fun
  | [d1, d2, d3] => { results := [.lit (.bool false)], args := [d1, d2, d3] }
  | _ => none }
def GraphKindsWrongFalsely : Prop := graphKindsRow.holds Try.pinned (OpenSpec.ofChange graphKindsWrong)

/-- 'arborlaw09.FrontAny': WHATEVER THE INPUT: true; the input reads as it did. -/
def frontAnySpec : ChangeSpec := { name := "frontAny", fn := fun _ => fun
  | [d1, d2] => { results := [.lit (.bool true)], args := [d1, d2] }
  | _ => none }
def frontAnyRow : OpenClaim := { program := "ytcajillldlhdpaa", sum := "8c5cf2329e739ee0ebd11b94963b2651b078d3593dbc57553a1dabdd016dbdfd", func := "arbor/arborlaw09.FrontAny", spec := "frontAny", unfollowed := true, recurses := true, apart := false }
def FrontAnySaid : Prop := frontAnyRow.holds Try.pinned (OpenSpec.ofChange frontAnySpec)

/-- ITS FALSE NEIGHBOUR: 'it returns false'. Refute it at one input. -/
def frontAnyWrong : ChangeSpec := { name := "frontAny", fn := fun _ => fun
  | [d1, d2] => { results := [.lit (.bool false)], args := [d1, d2] }
  | _ => none }
def FrontAnyWrongFalsely : Prop := frontAnyRow.holds Try.pinned (OpenSpec.ofChange frontAnyWrong)

/-- 'arborlaw09.FrontSwaps': WHATEVER THE INPUT: true; the input reads as it did. -/
def frontSwapsSpec : ChangeSpec := { name := "frontSwaps", fn := fun _ => fun
  | [d1, d2, d3, d4] => { results := [.lit (.bool true)], args := [d1, d2, d3, d4] }
  | _ => none }
def frontSwapsRow : OpenClaim := { program := "ytcajillldlhdpaa", sum := "8c5cf2329e739ee0ebd11b94963b2651b078d3593dbc57553a1dabdd016dbdfd", func := "arbor/arborlaw09.FrontSwaps", spec := "frontSwaps", unfollowed := true, recurses := true, apart := false }
def FrontSwapsSaid : Prop := frontSwapsRow.holds Try.pinned (OpenSpec.ofChange frontSwapsSpec)

/-- ITS FALSE NEIGHBOUR: 'it returns false'. Refute it at one input. -/
def frontSwapsWrong : ChangeSpec := { name := "frontSwaps", fn := fun _ => fun
  | [d1, d2, d3, d4] => { results := [.lit (.bool false)], args := [d1, d2, d3, d4] }
  | _ => none }
def FrontSwapsWrongFalsely : Prop := frontSwapsRow.holds Try.pinned (OpenSpec.ofChange frontSwapsWrong)

/-- 'arborlaw09.FrontTangled': WHATEVER THE INPUT: true; the input reads as it did. -/
def frontTangledSpec : ChangeSpec := { name := "frontTangled", fn := fun _ => fun
  | [d1, d2] => { results := [.lit (.bool true)], args := [d1, d2] }
  | _ => none }
def frontTangledRow : OpenClaim := { program := "ytcajillldlhdpaa", sum := "8c5cf2329e739ee0ebd11b94963b2651b078d3593dbc57553a1dabdd016dbdfd", func := "arbor/arborlaw09.FrontTangled", spec := "frontTangled", unfollowed := true, recurses := true, apart := false }
def FrontTangledSaid : Prop := frontTangledRow.holds Try.pinned (OpenSpec.ofChange frontTangledSpec)

/-- ITS FALSE NEIGHBOUR: 'it returns false'. Refute it at one input. -/
def frontTangledWrong : ChangeSpec := { name := "frontTangled", fn := fun _ => fun
  | [d1, d2] => { results := [.lit (.bool false)], args := [d1, d2] }
  | _ => none }
def FrontTangledWrongFalsely : Prop := frontTangledRow.holds Try.pinned (OpenSpec.ofChange frontTangledWrong)

/-- 'arborlaw09.FrontActs': WHATEVER THE INPUT: true; the input reads as it did. -/
def frontActsSpec : ChangeSpec := { name := "frontActs", fn := fun _ => fun
  | [d1, d2] => { results := [.lit (.bool true)], args := [d1, d2] }
  | _ => none }
def frontActsRow : OpenClaim := { program := "ytcajillldlhdpaa", sum := "8c5cf2329e739ee0ebd11b94963b2651b078d3593dbc57553a1dabdd016dbdfd", func := "arbor/arborlaw09.FrontActs", spec := "frontActs", unfollowed := true, recurses := true, apart := false }
def FrontActsSaid : Prop := frontActsRow.holds Try.pinned (OpenSpec.ofChange frontActsSpec)

/-- ITS FALSE NEIGHBOUR: 'it returns false'. Refute it at one input. -/
def frontActsWrong : ChangeSpec := { name := "frontActs", fn := fun _ => fun
  | [d1, d2] => { results := [.lit (.bool false)], args := [d1, d2] }
  | _ => none }
def FrontActsWrongFalsely : Prop := frontActsRow.holds Try.pinned (OpenSpec.ofChange frontActsWrong)

/- THE SECOND FORM. 'bulk': how many values and letters a reading holds, each counted each time it is reached (what is shared counts as often as it is met; a slice's spare places count too). A statement '..UptoSaid' is the law's where the arguments, and the package variables that the reading takes, are together of bulk at most 1048576: NARROWER than '..Said'. Prove '..Said' where nothing that the law and all that it calls make is longer than what came in: it says more and counts as full. Else prove '..UptoSaid'. A law counts once. -/
mutual
def uptoBulk {H : Type} : DataW H → Nat
  | .lit (.string bytes) => bytes.length + 1
  | .lit _ => 1
  | .nil => 1
  | .ptr d => uptoBulk d + 1
  | .slice elems spare => uptoBulkAll elems + uptoBulkAll spare + 1
  | .agg parts => uptoBulkAll parts + 1
  | .iface _ d => uptoBulk d + 1
  | .map entries => uptoBulkEntries entries + 1
  | .held _ => 1
def uptoBulkAll {H : Type} : List (DataW H) → Nat
  | [] => 0
  | d :: r => uptoBulk d + uptoBulkAll r
def uptoBulkEntries {H : Type} : List (Lit × DataW H) → Nat
  | [] => 0
  | x :: r => uptoBulkEntry x + uptoBulkEntries r
def uptoBulkEntry {H : Type} : Lit × DataW H → Nat
  | (.string bytes, d) => bytes.length + uptoBulk d + 1
  | (_, d) => uptoBulk d + 1
 end
def uptoSmall : (H : Type) → List (DataW H) → Bool := fun _ ds => decide (uptoBulkAll ds ≤ 1048576)
def OpenSpec.upto (s : _root_.Go.ChangeSpec) : _root_.Go.OpenSpec := { _root_.Go.OpenSpec.ofChange s with cond := some uptoSmall }

/-- 'arborlaw02.GraphChecks', WHERE WHAT IT READS IS OF BULK AT MOST 1048576: true; the input reads as it did. -/
def graphChecksUptoRow : OpenClaim := { program := "ytcajillldlhdpaa", sum := "8c5cf2329e739ee0ebd11b94963b2651b078d3593dbc57553a1dabdd016dbdfd", func := "arbor/arborlaw02.GraphChecks", spec := "graphChecks", unfollowed := true, recurses := true, apart := false, narrowed := true }
def GraphChecksUptoSaid : Prop := graphChecksUptoRow.holds Try.pinned (OpenSpec.upto graphChecksSpec)

/-- 'arborlaw02.GraphLeast', WHERE WHAT IT READS IS OF BULK AT MOST 1048576: true; the input reads as it did. -/
def graphLeastUptoRow : OpenClaim := { program := "ytcajillldlhdpaa", sum := "8c5cf2329e739ee0ebd11b94963b2651b078d3593dbc57553a1dabdd016dbdfd", func := "arbor/arborlaw02.GraphLeast", spec := "graphLeast", unfollowed := true, recurses := true, apart := false, narrowed := true }
def GraphLeastUptoSaid : Prop := graphLeastUptoRow.holds Try.pinned (OpenSpec.upto graphLeastSpec)

/-- 'arborlaw02.GraphViews', WHERE WHAT IT READS IS OF BULK AT MOST 1048576: true; the input reads as it did. -/
def graphViewsUptoRow : OpenClaim := { program := "ytcajillldlhdpaa", sum := "8c5cf2329e739ee0ebd11b94963b2651b078d3593dbc57553a1dabdd016dbdfd", func := "arbor/arborlaw02.GraphViews", spec := "graphViews", unfollowed := true, recurses := true, apart := false, narrowed := true }
def GraphViewsUptoSaid : Prop := graphViewsUptoRow.holds Try.pinned (OpenSpec.upto graphViewsSpec)

/-- 'arborlaw02.GraphNames', WHERE WHAT IT READS IS OF BULK AT MOST 1048576: true; the input reads as it did. -/
def graphNamesUptoRow : OpenClaim := { program := "ytcajillldlhdpaa", sum := "8c5cf2329e739ee0ebd11b94963b2651b078d3593dbc57553a1dabdd016dbdfd", func := "arbor/arborlaw02.GraphNames", spec := "graphNames", unfollowed := true, recurses := true, apart := false, narrowed := true }
def GraphNamesUptoSaid : Prop := graphNamesUptoRow.holds Try.pinned (OpenSpec.upto graphNamesSpec)

/-- 'arborlaw02.GraphKinds', WHERE WHAT IT READS IS OF BULK AT MOST 1048576: true; the input reads as it did. -/
def graphKindsUptoRow : OpenClaim := { program := "ytcajillldlhdpaa", sum := "8c5cf2329e739ee0ebd11b94963b2651b078d3593dbc57553a1dabdd016dbdfd", func := "arbor/arborlaw02.GraphKinds", spec := "graphKinds", unfollowed := true, recurses := true, apart := false, narrowed := true }
def GraphKindsUptoSaid : Prop := graphKindsUptoRow.holds Try.pinned (OpenSpec.upto graphKindsSpec)

/-- 'arborlaw09.FrontAny', WHERE WHAT IT READS IS OF BULK AT MOST 1048576: true; the input reads as it did. -/
def frontAnyUptoRow : OpenClaim := { program := "ytcajillldlhdpaa", sum := "8c5cf2329e739ee0ebd11b94963b2651b078d3593dbc57553a1dabdd016dbdfd", func := "arbor/arborlaw09.FrontAny", spec := "frontAny", unfollowed := true, recurses := true, apart := false, narrowed := true }
def FrontAnyUptoSaid : Prop := frontAnyUptoRow.holds Try.pinned (OpenSpec.upto frontAnySpec)

/-- 'arborlaw09.FrontSwaps', WHERE WHAT IT READS IS OF BULK AT MOST 1048576: true; the input reads as it did. -/
def frontSwapsUptoRow : OpenClaim := { program := "ytcajillldlhdpaa", sum := "8c5cf2329e739ee0ebd11b94963b2651b078d3593dbc57553a1dabdd016dbdfd", func := "arbor/arborlaw09.FrontSwaps", spec := "frontSwaps", unfollowed := true, recurses := true, apart := false, narrowed := true }
def FrontSwapsUptoSaid : Prop := frontSwapsUptoRow.holds Try.pinned (OpenSpec.upto frontSwapsSpec)

/-- 'arborlaw09.FrontTangled', WHERE WHAT IT READS IS OF BULK AT MOST 1048576: true; the input reads as it did. -/
def frontTangledUptoRow : OpenClaim := { program := "ytcajillldlhdpaa", sum := "8c5cf2329e739ee0ebd11b94963b2651b078d3593dbc57553a1dabdd016dbdfd", func := "arbor/arborlaw09.FrontTangled", spec := "frontTangled", unfollowed := true, recurses := true, apart := false, narrowed := true }
def FrontTangledUptoSaid : Prop := frontTangledUptoRow.holds Try.pinned (OpenSpec.upto frontTangledSpec)

/-- 'arborlaw09.FrontActs', WHERE WHAT IT READS IS OF BULK AT MOST 1048576: true; the input reads as it did. -/
def frontActsUptoRow : OpenClaim := { program := "ytcajillldlhdpaa", sum := "8c5cf2329e739ee0ebd11b94963b2651b078d3593dbc57553a1dabdd016dbdfd", func := "arbor/arborlaw09.FrontActs", spec := "frontActs", unfollowed := true, recurses := true, apart := false, narrowed := true }
def FrontActsUptoSaid : Prop := frontActsUptoRow.holds Try.pinned (OpenSpec.upto frontActsSpec)

end Rows
end Go.Proofs.Ytcajillldlhdpaa
