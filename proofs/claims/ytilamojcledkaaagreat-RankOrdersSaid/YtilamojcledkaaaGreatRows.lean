/-
  No cell of these rows narrows 'for every input' (looked for: loops, veiled, ifaces, maps, wideKeys, modest, calm, conditions, laid).
  DERIVED. THE GIVEN ROWS OF THIS SEAT. 4 by the template 'for every input the law returns true; each argument reads behind the call as it read before'; 0 by the template 'total and deterministic' (their statements: YtilamojcledkaaaGreatTotals.lean).
  GIVEN WITH THE SEED: the statements are not yours to turn. If you find one false, say at which input.
  Laid BY PROGRAM, IN A SANDBOX (cutbox-rows.mjs): the forced cells as the released guide's own fill.sh prints them over the translation b9e34352c2b07d6f… (all of the seat's roots in one cut). By AI agents, Wed Nov 11 2026. No macro, syntax, notation, axiom, sorry.
-/
import Derived.Test.YtilamojcledkaaaGreatChecked
import GoSem.Claim
import GoSem.ClaimJoined
import GoSem.ClaimMapViews
import Derived.JoinedTies
import Derived.KernelRfl
namespace Go.Proofs.YtilamojcledkaaaGreat
/- THE CELL 'sum', in the pinned program and in every row, IS THE sha256 OF THE DUMP (.gsa) THAT YtilamojcledkaaaGreatProg.lean LOADS. Nothing in Lean hashes anything: it is a label: what it is worth is what the hold of that sum in a sandbox is worth. -/
noncomputable def Tryz.pinned : Pinned := { name := "ytilamojcledkaaagreat", sum := "b9e34352c2b07d6fb133e0792e99e2a2579e6ad67ed47da42c8fac7980001577", checked := Tryz.checked }
namespace Rows
def none {H : Type} : Left H := { results := [], args := [] }

/-- 'arborlaw20.RankTells': WHATEVER THE INPUT: true; the input reads as it did. -/
def rankTellsSpec : ChangeSpec := { name := "rankTells", fn := fun _ => fun
  | [d1, d2] => { results := [.lit (.bool true)], args := [d1, d2] }
  | _ => none }
def rankTellsRow : OpenClaim := { program := "ytilamojcledkaaagreat", sum := "b9e34352c2b07d6fb133e0792e99e2a2579e6ad67ed47da42c8fac7980001577", func := "arbor/arborlaw20.RankTells", spec := "rankTells", unfollowed := true, recurses := true, plainKeys := false, apart := false }
def RankTellsSaid : Prop := rankTellsRow.holds Tryz.pinned (OpenSpec.ofChange rankTellsSpec)

/-- ITS FALSE NEIGHBOUR: 'it returns false'. Refute it at one input. -/
def rankTellsWrong : ChangeSpec := { name := "rankTells", fn := fun _ => fun
  | [d1, d2] => { results := [.lit (.bool false)], args := [d1, d2] }
  | _ => none }
def RankTellsWrongFalsely : Prop := rankTellsRow.holds Tryz.pinned (OpenSpec.ofChange rankTellsWrong)

/-- 'arborlaw23.PicturePlans': WHATEVER THE INPUT: true; the input reads as it did. -/
def picturePlansSpec : ChangeSpec := { name := "picturePlans", fn := fun _ => fun
  | [d1, d2] => { results := [.lit (.bool true)], args := [d1, d2] }
  | _ => none }
def picturePlansRow : OpenClaim := { program := "ytilamojcledkaaagreat", sum := "b9e34352c2b07d6fb133e0792e99e2a2579e6ad67ed47da42c8fac7980001577", func := "arbor/arborlaw23.PicturePlans", spec := "picturePlans", unfollowed := true, recurses := true, plainKeys := false, apart := false }
def PicturePlansSaid : Prop := picturePlansRow.holds Tryz.pinned (OpenSpec.ofChange picturePlansSpec)

/-- ITS FALSE NEIGHBOUR: 'it returns false'. Refute it at one input. -/
def picturePlansWrong : ChangeSpec := { name := "picturePlans", fn := fun _ => fun
  | [d1, d2] => { results := [.lit (.bool false)], args := [d1, d2] }
  | _ => none }
def PicturePlansWrongFalsely : Prop := picturePlansRow.holds Tryz.pinned (OpenSpec.ofChange picturePlansWrong)

/-- 'arborlaw23.PictureUp': WHATEVER THE INPUT: true; the input reads as it did. -/
def pictureUpSpec : ChangeSpec := { name := "pictureUp", fn := fun _ => fun
  | [d1, d2] => { results := [.lit (.bool true)], args := [d1, d2] }
  | _ => none }
def pictureUpRow : OpenClaim := { program := "ytilamojcledkaaagreat", sum := "b9e34352c2b07d6fb133e0792e99e2a2579e6ad67ed47da42c8fac7980001577", func := "arbor/arborlaw23.PictureUp", spec := "pictureUp", unfollowed := true, recurses := true, plainKeys := false, apart := false }
def PictureUpSaid : Prop := pictureUpRow.holds Tryz.pinned (OpenSpec.ofChange pictureUpSpec)

/-- ITS FALSE NEIGHBOUR: 'it returns false'. Refute it at one input. -/
def pictureUpWrong : ChangeSpec := { name := "pictureUp", fn := fun _ => fun
  | [d1, d2] => { results := [.lit (.bool false)], args := [d1, d2] }
  | _ => none }
def PictureUpWrongFalsely : Prop := pictureUpRow.holds Tryz.pinned (OpenSpec.ofChange pictureUpWrong)

/-- 'arborlaw20.RankOrders': WHATEVER THE INPUT: true; the input reads as it did. -/
def rankOrdersSpec : ChangeSpec := { name := "rankOrders", fn := fun _ => fun
  | [d1, d2] => { results := [.lit (.bool true)], args := [d1, d2] }
  | _ => none }
def rankOrdersRow : OpenClaim := { program := "ytilamojcledkaaagreat", sum := "b9e34352c2b07d6fb133e0792e99e2a2579e6ad67ed47da42c8fac7980001577", func := "arbor/arborlaw20.RankOrders", spec := "rankOrders", unfollowed := true, recurses := true, plainKeys := false, apart := false }
def RankOrdersSaid : Prop := rankOrdersRow.holds Tryz.pinned (OpenSpec.ofChange rankOrdersSpec)

/-- ITS FALSE NEIGHBOUR: 'it returns false'. Refute it at one input. -/
def rankOrdersWrong : ChangeSpec := { name := "rankOrders", fn := fun _ => fun
  | [d1, d2] => { results := [.lit (.bool false)], args := [d1, d2] }
  | _ => none }
def RankOrdersWrongFalsely : Prop := rankOrdersRow.holds Tryz.pinned (OpenSpec.ofChange rankOrdersWrong)

/- THE SECOND FORM. 'bulk': how many values and letters a reading holds, each counted each time it is reached (what is shared counts as often as it is met; a slice's spare places count too). A statement '..UptoSaid' is the law's where the arguments, and the package variables that the reading takes, are together of bulk at most 1048576: NARROWER than '..Said'. Prove '..Said' where nothing that the law and all that it calls make is longer than what came in: it says more and counts as full. Else prove '..UptoSaid'. A law counts once. -/
mutual
def uptoBulk {H : Type} : DataW H → Nat
  | .lit (.string bytes) => bytes.length + 1
  | .lit _ => 1
  | .nil => 1
  | .ptr d => uptoBulk d + 1
  | .slice elems spare => uptoBulkAll elems + uptoBulkAll spare + 1
  | .agg parts => uptoBulkAll parts + 1
  | .iface _ d => uptoBulk d + 1
  | .map entries => uptoBulkEntries entries + 1
  | .held _ => 1
def uptoBulkAll {H : Type} : List (DataW H) → Nat
  | [] => 0
  | d :: r => uptoBulk d + uptoBulkAll r
def uptoBulkEntries {H : Type} : List (Lit × DataW H) → Nat
  | [] => 0
  | x :: r => uptoBulkEntry x + uptoBulkEntries r
def uptoBulkEntry {H : Type} : Lit × DataW H → Nat
  | (.string bytes, d) => bytes.length + uptoBulk d + 1
  | (_, d) => uptoBulk d + 1
 end
def uptoSmall : (H : Type) → List (DataW H) → Bool := fun _ ds => decide (uptoBulkAll ds ≤ 1048576)
def OpenSpec.upto (s : _root_.Go.ChangeSpec) : _root_.Go.OpenSpec := { _root_.Go.OpenSpec.ofChange s with cond := some uptoSmall }

/-- 'arborlaw20.RankTells', WHERE WHAT IT READS IS OF BULK AT MOST 1048576: true; the input reads as it did. -/
def rankTellsUptoRow : OpenClaim := { program := "ytilamojcledkaaagreat", sum := "b9e34352c2b07d6fb133e0792e99e2a2579e6ad67ed47da42c8fac7980001577", func := "arbor/arborlaw20.RankTells", spec := "rankTells", unfollowed := true, recurses := true, plainKeys := false, apart := false, narrowed := true }
def RankTellsUptoSaid : Prop := rankTellsUptoRow.holds Tryz.pinned (OpenSpec.upto rankTellsSpec)

/-- 'arborlaw23.PicturePlans', WHERE WHAT IT READS IS OF BULK AT MOST 1048576: true; the input reads as it did. -/
def picturePlansUptoRow : OpenClaim := { program := "ytilamojcledkaaagreat", sum := "b9e34352c2b07d6fb133e0792e99e2a2579e6ad67ed47da42c8fac7980001577", func := "arbor/arborlaw23.PicturePlans", spec := "picturePlans", unfollowed := true, recurses := true, plainKeys := false, apart := false, narrowed := true }
def PicturePlansUptoSaid : Prop := picturePlansUptoRow.holds Tryz.pinned (OpenSpec.upto picturePlansSpec)

/-- 'arborlaw23.PictureUp', WHERE WHAT IT READS IS OF BULK AT MOST 1048576: true; the input reads as it did. -/
def pictureUpUptoRow : OpenClaim := { program := "ytilamojcledkaaagreat", sum := "b9e34352c2b07d6fb133e0792e99e2a2579e6ad67ed47da42c8fac7980001577", func := "arbor/arborlaw23.PictureUp", spec := "pictureUp", unfollowed := true, recurses := true, plainKeys := false, apart := false, narrowed := true }
def PictureUpUptoSaid : Prop := pictureUpUptoRow.holds Tryz.pinned (OpenSpec.upto pictureUpSpec)

/-- 'arborlaw20.RankOrders', WHERE WHAT IT READS IS OF BULK AT MOST 1048576: true; the input reads as it did. -/
def rankOrdersUptoRow : OpenClaim := { program := "ytilamojcledkaaagreat", sum := "b9e34352c2b07d6fb133e0792e99e2a2579e6ad67ed47da42c8fac7980001577", func := "arbor/arborlaw20.RankOrders", spec := "rankOrders", unfollowed := true, recurses := true, plainKeys := false, apart := false, narrowed := true }
def RankOrdersUptoSaid : Prop := rankOrdersUptoRow.holds Tryz.pinned (OpenSpec.upto rankOrdersSpec)

end Rows
end Go.Proofs.YtilamojcledkaaaGreat
