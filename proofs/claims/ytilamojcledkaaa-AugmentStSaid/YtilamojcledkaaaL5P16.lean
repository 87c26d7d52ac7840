/- From contracts to what the given statements ask: the world in which a law is called, its arguments, what it leaves. -/
import Derived.ProofKit
import Derived.Test.YtilamojcledkaaaL5P15
set_option linter.unusedSimpArgs false
set_option linter.unusedVariables false
namespace Go.Ab
open Go.ChangeShapes Go.WideShapes Go.ChangeAt Go.RowKit

/-- Everything that is there is taken for frozen. -/
def lawE (W : World) : Env := ⟨fun _ => none, fun _ => default, fun b => match W.heap[b]? with | some (.cells cs _ _) => cs.size | _ => 0⟩

theorem lawE_good (W : World) : Good [] (lawE W) W := by
  have hs : ∀ l, see [] l = none := fun l => by unfold see; split <;> rfl
  refine ⟨fun l h => by simp [look] at h, fun l l' b h => by simp [hs] at h, fun l o h => by simp [hs] at h, fun b hb => ?_⟩
  simp [lawE, Array.getElem?_eq_none hb]

/-- A law's contract, at its call. -/
theorem law_calls {P : Program} {f : Nat} {avs : List AV} {b : Bool} (hs : Spec P f (Args avs) [] (.d (.sc (.bool b))) []) {W : World} {args : Array Value} (hA : AVrs W (lawE W) avs args.toList) :
    Calls P f args W fun e W' => e = .returned (.bool b) ∧ Below W.heap.size W W' := by
  have h := hs.calls (lawE W) W args.toList (lawE_good W) hA
  rw [Array.toArray_toList] at h
  refine h.mono fun e W' ⟨v, E', he, hst, _, _, hv⟩ => ?_
  refine ⟨by rw [he, AVr_sc hv], hst.os, hst.tape, hst.output, hst.size, fun k hk => (hst.frame k hk (by rintro ⟨l, o, hl, _⟩; have hs : see [] l = none := (by unfold see; split <;> rfl); simp [hs] at hl)).1⟩

theorem wf_i64 {n : Int} (h : (Lit.int .i64 n).wf = true) : -9223372036854775808 ≤ n ∧ n ≤ 9223372036854775807 := by
  simp only [Lit.wf, Bool.and_eq_true, decide_eq_true_eq] at h
  have e1 : IntKind.i64.min = -9223372036854775808 := by decide
  have e2 : IntKind.i64.max = 9223372036854775807 := by decide
  rw [e1, e2] at h
  omega

/-- A struct of two whole numbers. -/
theorem open_two {H : Type} {enc : TypeId × Value → H} {P : Program} {W : World} {base : Nat} {spare : Nat → Bool} {held : Bool} {r : Reach} {b0 t : Nat} {f g : Field} {v : Value} {d : DataW H} {ps : List MemPlace}
    (ht : P.underlying t = some (.struct #[f, g])) (hf : P.underlying f.type = some (.int .i64)) (hg : P.underlying g.type = some (.int .i64)) (hf0 : f.offset = 0) (hg0 : g.offset = 1)
    (hcf : P.cellsOf f.type = 1) (hcg : P.cellsOf g.type = 1) (hct : P.cellsOf t = 2) (hval : Value.okWide P W r b0 t v) (hd : DataW.Trod enc P W base spare held t v d ps) :
    ∃ x y : Int, v = .agg #[.int .i64 x, .int .i64 y] ∧ ps = [] ∧ (-9223372036854775808 ≤ x ∧ x ≤ 9223372036854775807) ∧ (-9223372036854775808 ≤ y ∧ y ≤ 9223372036854775807) := by
  simp only [Value.okWide, ht] at hval
  obtain ⟨cs, rfl, hsz, _⟩ := hval
  obtain ⟨fuel, h⟩ := hd
  obtain ⟨y0, y1, n, hx, hl, h0, h1⟩ := trod_struct2 ht h
  obtain ⟨x, hx0, hx1, hx2⟩ := DataW.trod_int hf h0
  obtain ⟨y, hy0, hy1, hy2⟩ := DataW.trod_int hg h1
  refine ⟨x, y, ?_, ?_, wf_i64 hx2, wf_i64 hy2⟩
  · congr 1
    apply Array.toList_inj.1
    simp only [Value.cells] at hx0 hy0
    rw [hf0, hcf] at hx0
    rw [hg0, hcg] at hy0
    match hq : cs.toList with
    | [] => rw [hq] at hx0; simp at hx0
    | [p] => rw [hct] at hsz; have := congrArg List.length hq; simp at this; omega
    | [p, q] => rw [hq] at hx0 hy0; simp at hx0 hy0; rw [hx0, hy0]
    | p :: q :: r :: l => rw [hct] at hsz; have := congrArg List.length hq; simp at this; omega
  · simp only [Prod.mk.injEq] at hx
    rw [hx.2, hx1, hy1]; rfl
end Go.Ab
