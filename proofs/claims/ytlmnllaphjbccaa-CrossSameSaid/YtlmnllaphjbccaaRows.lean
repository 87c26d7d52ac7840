/-
  No cell of these rows narrows 'for every input' (looked for: loops, veiled, ifaces, maps, wideKeys, modest, calm, conditions, laid).
  DERIVED. THE GIVEN ROWS OF THIS SEAT. 5 by the template 'for every input the law returns true; each argument reads behind the call as it read before'; 0 by the template 'total and deterministic' (their statements: YtlmnllaphjbccaaTotals.lean).
  GIVEN WITH THE SEED: the statements are not yours to turn. If you find one false, say at which input.
  Laid BY PROGRAM, IN A SANDBOX (cutbox-rows.mjs): the forced cells as the released guide's own fill.sh prints them over the translation 791361e1a24c1975… (all of the seat's roots in one cut). By AI agents, Wed Nov 11 2026. No macro, syntax, notation, axiom, sorry.
-/
import Derived.Test.YtlmnllaphjbccaaChecked
import GoSem.Claim
import GoSem.ClaimJoined
import GoSem.ClaimMapViews
import Derived.JoinedTies
import Derived.KernelRfl
namespace Go.Proofs.Ytlmnllaphjbccaa
/- THE CELL 'sum', in the pinned program and in every row, IS THE sha256 OF THE DUMP (.gsa) THAT YtlmnllaphjbccaaProg.lean LOADS. Nothing in Lean hashes anything: it is a label: what it is worth is what the hold of that sum in a sandbox is worth. -/
noncomputable def Try.pinned : Pinned := { name := "ytlmnllaphjbccaa", sum := "791361e1a24c1975e9f55ba30a665740168703044d391584f84e4a4398a526d4", checked := Try.checked }
namespace Rows
def none {H : Type} : Left H := { results := [], args := [] }

/-- 'arborlaw22.CrossMeets': WHATEVER THE INPUT: true; the input reads as it did. -/
def crossMeetsSpec : ChangeSpec := { name := "crossMeets", fn := fun _ => fun
  | [d1, d2, d3, d4] => { results := [.lit (.bool true)], args := [d1, d2, d3, d4] }
  | _ => none }
def crossMeetsRow : OpenClaim := { program := "ytlmnllaphjbccaa", sum := "791361e1a24c1975e9f55ba30a665740168703044d391584f84e4a4398a526d4", func := "arbor/arborlaw22.CrossMeets", spec := "crossMeets", unfollowed := true, recurses := true, plainKeys := false, apart := false }
def CrossMeetsSaid : Prop := crossMeetsRow.holds Try.pinned (OpenSpec.ofChange crossMeetsSpec)

/-- ITS FALSE NEIGHBOUR: 'it returns false'. Refute it at one input. -/
def crossMeetsWrong : ChangeSpec := { name := "crossMeets", fn := fun _ => fun
  | [d1, d2, d3, d4] => { results := [.lit (.bool false)], args := [d1, d2, d3, d4] }
  | _ => none }
def CrossMeetsWrongFalsely : Prop := crossMeetsRow.holds Try.pinned (OpenSpec.ofChange crossMeetsWrong)

/-- 'arborlaw22.CrossWhere': WHATEVER THE INPUT: true; the input reads as it did. -/
def crossWhereSpec : ChangeSpec := { name := "crossWhere", fn := fun _ => fun
  | [d1, d2, d3, d4] => { results := [.lit (.bool true)], args := [d1, d2, d3, d4] }
  | _ => none }
def crossWhereRow : OpenClaim := { program := "ytlmnllaphjbccaa", sum := "791361e1a24c1975e9f55ba30a665740168703044d391584f84e4a4398a526d4", func := "arbor/arborlaw22.CrossWhere", spec := "crossWhere", unfollowed := true, recurses := true, plainKeys := false, apart := false }
def CrossWhereSaid : Prop := crossWhereRow.holds Try.pinned (OpenSpec.ofChange crossWhereSpec)

/-- ITS FALSE NEIGHBOUR: 'it returns false'. Refute it at one input. -/
def crossWhereWrong : ChangeSpec := { name := "crossWhere", fn := fun _ => fun
  | [d1, d2, d3, d4] => { results := [.lit (.bool false)], args := [d1, d2, d3, d4] }
  | _ => none }
def CrossWhereWrongFalsely : Prop := crossWhereRow.holds Try.pinned (OpenSpec.ofChange crossWhereWrong)

/-- 'arborlaw22.CrossSame': WHATEVER THE INPUT: true; the input reads as it did. -/
def crossSameSpec : ChangeSpec := { name := "crossSame", fn := fun _ => fun
  | [d1, d2, d3, d4, d5] => { results := [.lit (.bool true)], args := [d1, d2, d3, d4, d5] }
  | _ => none }
def crossSameRow : OpenClaim := { program := "ytlmnllaphjbccaa", sum := "791361e1a24c1975e9f55ba30a665740168703044d391584f84e4a4398a526d4", func := "arbor/arborlaw22.CrossSame", spec := "crossSame", unfollowed := true, recurses := true, plainKeys := false, apart := false }
def CrossSameSaid : Prop := crossSameRow.holds Try.pinned (OpenSpec.ofChange crossSameSpec)

/-- ITS FALSE NEIGHBOUR: 'it returns false'. Refute it at one input. -/
def crossSameWrong : ChangeSpec := { name := "crossSame", fn := fun _ => fun
  | [d1, d2, d3, d4, d5] => { results := [.lit (.bool false)], args := [d1, d2, d3, d4, d5] }
  | _ => none }
def CrossSameWrongFalsely : Prop := crossSameRow.holds Try.pinned (OpenSpec.ofChange crossSameWrong)

/-- 'arborlaw22.CrossSides': WHATEVER THE INPUT: true; the input reads as it did. -/
def crossSidesSpec : ChangeSpec := { name := "crossSides", fn := fun _ => fun
  | [d1, d2, d3] => { results := [.lit (.bool true)], args := [d1, d2, d3] }
  | _ => none }
def crossSidesRow : OpenClaim := { program := "ytlmnllaphjbccaa", sum := "791361e1a24c1975e9f55ba30a665740168703044d391584f84e4a4398a526d4", func := "arbor/arborlaw22.CrossSides", spec := "crossSides", unfollowed := true, recurses := true, plainKeys := false, apart := false }
def CrossSidesSaid : Prop := crossSidesRow.holds Try.pinned (OpenSpec.ofChange crossSidesSpec)

/-- ITS FALSE NEIGHBOUR: 'it returns false'. Refute it at one input. -/
def crossSidesWrong : ChangeSpec := { name := "crossSides", fn := fun _ => fun
  | [d1, d2, d3] => { results := [.lit (.bool false)], args := [d1, d2, d3] }
  | _ => none }
def CrossSidesWrongFalsely : Prop := crossSidesRow.holds Try.pinned (OpenSpec.ofChange crossSidesWrong)

/-- 'arborlaw22.CrossTriangle': WHATEVER THE INPUT: true; the input reads as it did. -/
def crossTriangleSpec : ChangeSpec := { name := "crossTriangle", fn := fun _ => fun
  | [d1, d2, d3, d4, d5] => { results := [.lit (.bool true)], args := [d1, d2, d3, d4, d5] }
  | _ => none }
def crossTriangleRow : OpenClaim := { program := "ytlmnllaphjbccaa", sum := "791361e1a24c1975e9f55ba30a665740168703044d391584f84e4a4398a526d4", func := "arbor/arborlaw22.CrossTriangle", spec := "crossTriangle", unfollowed := true, recurses := true, plainKeys := false, apart := false }
def CrossTriangleSaid : Prop := crossTriangleRow.holds Try.pinned (OpenSpec.ofChange crossTriangleSpec)

/-- ITS FALSE NEIGHBOUR: 'it returns false'. Refute it at one input. -/
def crossTriangleWrong : ChangeSpec := { name := "crossTriangle", fn := fun _ => fun
  | [d1, d2, d3, d4, d5] => { results := [.lit (.bool false)], args := [d1, d2, d3, d4, d5] }
  | _ => none }
def CrossTriangleWrongFalsely : Prop := crossTriangleRow.holds Try.pinned (OpenSpec.ofChange crossTriangleWrong)

/- THE SECOND FORM. 'bulk': how many values and letters a reading holds, each counted each time it is reached (what is shared counts as often as it is met; a slice's spare places count too). A statement '..UptoSaid' is the law's where the arguments, and the package variables that the reading takes, are together of bulk at most 1048576: NARROWER than '..Said'. Prove '..Said' where nothing that the law and all that it calls make is longer than what came in: it says more and counts as full. Else prove '..UptoSaid'. A law counts once. -/
mutual
def uptoBulk {H : Type} : DataW H → Nat
  | .lit (.string bytes) => bytes.length + 1
  | .lit _ => 1
  | .nil => 1
  | .ptr d => uptoBulk d + 1
  | .slice elems spare => uptoBulkAll elems + uptoBulkAll spare + 1
  | .agg parts => uptoBulkAll parts + 1
  | .iface _ d => uptoBulk d + 1
  | .map entries => uptoBulkEntries entries + 1
  | .held _ => 1
def uptoBulkAll {H : Type} : List (DataW H) → Nat
  | [] => 0
  | d :: r => uptoBulk d + uptoBulkAll r
def uptoBulkEntries {H : Type} : List (Lit × DataW H) → Nat
  | [] => 0
  | x :: r => uptoBulkEntry x + uptoBulkEntries r
def uptoBulkEntry {H : Type} : Lit × DataW H → Nat
  | (.string bytes, d) => bytes.length + uptoBulk d + 1
  | (_, d) => uptoBulk d + 1
 end
def uptoSmall : (H : Type) → List (DataW H) → Bool := fun _ ds => decide (uptoBulkAll ds ≤ 1048576)
def OpenSpec.upto (s : _root_.Go.ChangeSpec) : _root_.Go.OpenSpec := { _root_.Go.OpenSpec.ofChange s with cond := some uptoSmall }

/-- 'arborlaw22.CrossMeets', WHERE WHAT IT READS IS OF BULK AT MOST 1048576: true; the input reads as it did. -/
def crossMeetsUptoRow : OpenClaim := { program := "ytlmnllaphjbccaa", sum := "791361e1a24c1975e9f55ba30a665740168703044d391584f84e4a4398a526d4", func := "arbor/arborlaw22.CrossMeets", spec := "crossMeets", unfollowed := true, recurses := true, plainKeys := false, apart := false, narrowed := true }
def CrossMeetsUptoSaid : Prop := crossMeetsUptoRow.holds Try.pinned (OpenSpec.upto crossMeetsSpec)

/-- 'arborlaw22.CrossWhere', WHERE WHAT IT READS IS OF BULK AT MOST 1048576: true; the input reads as it did. -/
def crossWhereUptoRow : OpenClaim := { program := "ytlmnllaphjbccaa", sum := "791361e1a24c1975e9f55ba30a665740168703044d391584f84e4a4398a526d4", func := "arbor/arborlaw22.CrossWhere", spec := "crossWhere", unfollowed := true, recurses := true, plainKeys := false, apart := false, narrowed := true }
def CrossWhereUptoSaid : Prop := crossWhereUptoRow.holds Try.pinned (OpenSpec.upto crossWhereSpec)

/-- 'arborlaw22.CrossSame', WHERE WHAT IT READS IS OF BULK AT MOST 1048576: true; the input reads as it did. -/
def crossSameUptoRow : OpenClaim := { program := "ytlmnllaphjbccaa", sum := "791361e1a24c1975e9f55ba30a665740168703044d391584f84e4a4398a526d4", func := "arbor/arborlaw22.CrossSame", spec := "crossSame", unfollowed := true, recurses := true, plainKeys := false, apart := false, narrowed := true }
def CrossSameUptoSaid : Prop := crossSameUptoRow.holds Try.pinned (OpenSpec.upto crossSameSpec)

/-- 'arborlaw22.CrossSides', WHERE WHAT IT READS IS OF BULK AT MOST 1048576: true; the input reads as it did. -/
def crossSidesUptoRow : OpenClaim := { program := "ytlmnllaphjbccaa", sum := "791361e1a24c1975e9f55ba30a665740168703044d391584f84e4a4398a526d4", func := "arbor/arborlaw22.CrossSides", spec := "crossSides", unfollowed := true, recurses := true, plainKeys := false, apart := false, narrowed := true }
def CrossSidesUptoSaid : Prop := crossSidesUptoRow.holds Try.pinned (OpenSpec.upto crossSidesSpec)

/-- 'arborlaw22.CrossTriangle', WHERE WHAT IT READS IS OF BULK AT MOST 1048576: true; the input reads as it did. -/
def crossTriangleUptoRow : OpenClaim := { program := "ytlmnllaphjbccaa", sum := "791361e1a24c1975e9f55ba30a665740168703044d391584f84e4a4398a526d4", func := "arbor/arborlaw22.CrossTriangle", spec := "crossTriangle", unfollowed := true, recurses := true, plainKeys := false, apart := false, narrowed := true }
def CrossTriangleUptoSaid : Prop := crossTriangleUptoRow.holds Try.pinned (OpenSpec.upto crossTriangleSpec)

end Rows
end Go.Proofs.Ytlmnllaphjbccaa
