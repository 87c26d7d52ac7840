/- Whatever two pieces are, and whatever all points are moved by: the answers are the same, whichever piece and whichever end is named first, and moved or mirrored: CrossSame, for every input, without a condition. -/
import Derived.Test.YtlmnllaphjbccaaRows
import Derived.ProofKit
import Derived.Test.YtlmnllaphjbccaaL4P11
set_option linter.unusedSimpArgs false
set_option linter.unusedVariables false
namespace Go.Proofs.Ytlmnllaphjbccaa
open Go.ChangeShapes Go.WideShapes Go.ChangeAt Go.RowKit Go.Ab

theorem Try.own : ownKnob Try.prog.godebug = none := by kernel_rfl
theorem Try.laidOut : laidOutB Try.prog = true := by kernel_rfl

theorem eP_rel {w : World} {E : Env} (x y : Int) : AVr w E (eP (x, y)) (.agg #[.int .i64 x, .int .i64 y]) :=
  ⟨_, rfl, _, _, rfl, AVr_scI _ rfl, _, _, rfl, AVr_scI _ rfl, rfl⟩

theorem open_pt {H : Type} {enc : TypeId × Value → H} {W : World} {base : Nat} {spare : Nat → Bool} {held : Bool} {r : Reach} {b0 : Nat} {v : Value} {d : DataW H} {ps : List MemPlace}
    (hval : Value.okWide Try.prog W r b0 23 v) (hd : DataW.Trod enc Try.prog W base spare held 23 v d ps) :
    ∃ x y : Int, v = .agg #[.int .i64 x, .int .i64 y] ∧ ps = [] ∧ (-9223372036854775808 ≤ x ∧ x ≤ 9223372036854775807) ∧ (-9223372036854775808 ≤ y ∧ y ≤ 9223372036854775807) :=
  open_two Try.underlying23 Try.underlying3 Try.underlying3 rfl rfl (by kernel_rfl) (by kernel_rfl) (by kernel_rfl) hval hd

theorem keep_pt {H : Type} {enc : TypeId × Value → H} {W W' : World} {v : Value} {d : DataW H} (h : DataW.Trod enc Try.prog W 0 (fun _ => true) true 23 v d []) (hb : Below W.heap.size W W') :
    DataW.Trod enc Try.prog W' 0 (fun b => decide (b < W.heap.size)) true 23 v d [] :=
  Below.trod Try.laidOut (by kernel_rfl) (of_decide_eq_true (by kernel_rfl)) h hb (by simp)

section
variable {H : Type} {enc : TypeId × Value → H} {P : Program} {w : World} {base : Nat} {spare : Nat → Bool} {held : Bool}
theorem open_all {t : TypeId} {args : Array Value} {ds : List (DataW H)} {ps : List MemPlace} (h : DataW.TrodAll enc P w base spare held [t, t, t, t, t] args.toList ds ps) :
    ∃ v0 v1 v2 v3 v4 d0 d1 d2 d3 d4 p0 p1 p2 p3 p4, args = #[v0, v1, v2, v3, v4] ∧ ds = [d0, d1, d2, d3, d4] ∧ ps = p0 ++ p1 ++ p2 ++ p3 ++ p4 ∧ DataW.Trod enc P w base spare held t v0 d0 p0 ∧ DataW.Trod enc P w base spare held t v1 d1 p1 ∧ DataW.Trod enc P w base spare held t v2 d2 p2 ∧ DataW.Trod enc P w base spare held t v3 d3 p3 ∧ DataW.Trod enc P w base spare held t v4 d4 p4 := by
  obtain ⟨v0, vs0, d0, ds0, p0, q0, hargs, rfl, rfl, k0, r0⟩ := trodAll_cons h
  obtain ⟨v1, vs1, d1, ds1, p1, q1, rfl, rfl, rfl, k1, r1⟩ := trodAll_cons r0
  obtain ⟨v2, vs2, d2, ds2, p2, q2, rfl, rfl, rfl, k2, r2⟩ := trodAll_cons r1
  obtain ⟨v3, vs3, d3, ds3, p3, q3, rfl, rfl, rfl, k3, r3⟩ := trodAll_cons r2
  obtain ⟨v4, vs4, d4, ds4, p4, q4, rfl, rfl, rfl, k4, r4⟩ := trodAll_cons r3
  obtain ⟨rfl, rfl, rfl⟩ := trodAll_nil r4
  exact ⟨v0, v1, v2, v3, v4, d0, d1, d2, d3, d4, p0, p1, p2, p3, p4, by cases args; simp_all, rfl, by simp, k0, k1, k2, k3, k4⟩
theorem shut_all {t : TypeId} {v0 v1 v2 v3 v4 : Value} {d0 d1 d2 d3 d4 : DataW H} (h0 : DataW.Trod enc P w base spare held t v0 d0 []) (h1 : DataW.Trod enc P w base spare held t v1 d1 []) (h2 : DataW.Trod enc P w base spare held t v2 d2 []) (h3 : DataW.Trod enc P w base spare held t v3 d3 []) (h4 : DataW.Trod enc P w base spare held t v4 d4 []) :
    DataW.TrodAll enc P w base spare held [t, t, t, t, t] [v0, v1, v2, v3, v4] [d0, d1, d2, d3, d4] [] :=
  ⟨[], [], h0, ⟨[], [], h1, ⟨[], [], h2, ⟨[], [], h3, trodAll_mk1 h4, rfl⟩, rfl⟩, rfl⟩, rfl⟩
end

set_option maxRecDepth 100000 in
theorem crossSame_lifted (os : Os) (started : os.Started) (H : Type) (enc : TypeId × Value → H) :
    ReturnsInHanded {} Try.checked os 5 .any (Rows.crossSameSpec.pre6 enc Try.prog Try.f5 Rows.crossSameRow.domain false) (Rows.crossSameSpec.post enc Try.prog Try.f5 false true false false) := by
  refine returnsInHanded_of_change (C := Try.checked) Try.own started (by kernel_rfl) Try.func5
    (ChangeSpec.witness6 (enc := enc) (C := Try.checked) false ⟨#[], #[.agg #[.int .i64 0, .int .i64 0], .agg #[.int .i64 0, .int .i64 0], .agg #[.int .i64 0, .int .i64 0], .agg #[.int .i64 0, .int .i64 0], .agg #[.int .i64 0, .int .i64 0]], []⟩ 8 (by kernel_rfl) (by kernel_rfl) (by kernel_rfl) (by kernel_rfl)) ?_
  intro W base args ds gs before hval0 hW hcnd _
  have hval : ∀ (j : Nat) t v, Try.f5.params[j]? = some t → args[j]? = some v → Value.okWide Try.prog W .any base t v := hval0
  have hW' := hW
  obtain ⟨p, q, hA0, hV, rfl, hfz, hnd⟩ := hW
  have hA : DataW.TrodAll enc Try.prog W 0 (fun _ => true) true Try.f5.params.toList args.toList ds p := hA0
  rw [Try.params5] at hA hval
  obtain ⟨v0, v1, v2, v3, v4, d0, d1, d2, d3, d4, p0, p1, p2, p3, p4, rfl, rfl, rfl, h0, h1, h2, h3, h4⟩ := open_all hA
  obtain ⟨rfl, rfl⟩ := trodVars_none hV
  obtain ⟨x0, y0, rfl, rfl, wx0, wy0⟩ := open_pt (hval 0 23 v0 rfl rfl) h0
  obtain ⟨x1, y1, rfl, rfl, wx1, wy1⟩ := open_pt (hval 1 23 v1 rfl rfl) h1
  obtain ⟨x2, y2, rfl, rfl, wx2, wy2⟩ := open_pt (hval 2 23 v2 rfl rfl) h2
  obtain ⟨x3, y3, rfl, rfl, wx3, wy3⟩ := open_pt (hval 3 23 v3 rfl rfl) h3
  obtain ⟨x4, y4, rfl, rfl, wx4, wy4⟩ := open_pt (hval 4 23 v4 rfl rfl) h4
  clear hA0 hval0
  refine (law_calls (crossSame_spec (x0, y0) (x1, y1) (x2, y2) (x3, y3) (x4, y4)) (W := W) ⟨_, _, rfl, eP_rel _ _, _, _, rfl, eP_rel _ _, _, _, rfl, eP_rel _ _, _, _, rfl, eP_rel _ _, _, _, rfl, eP_rel _ _, rfl⟩).mono fun e W' ⟨he, hb⟩ => ?_
  subst he
  exact ⟨_, rfl, [d0, d1, d2, d3, d4], [], _, [], [], [], hW', trodAll_mk1 (shut_bool Try.underlying4 true), shut_all (keep_pt h0 hb) (keep_pt h1 hb) (keep_pt h2 hb) (keep_pt h3 hb) (keep_pt h4 hb), rfl, hb.frame _, fun h => by cases h⟩

theorem crossSame_holds : Rows.CrossSameSaid :=
  OpenClaim.holds_of_wide 5 Try.f5 rfl rfl rfl rfl rfl rfl rfl ⟨rfl, rfl, rfl, rfl, rfl⟩ rfl rfl rfl rfl rfl (by kernel_rfl) Try.func5 (by kernel_rfl)
    (of_decide_eq_true (by kernel_rfl)) (by unfold Func.isWrapper; first | (rw [if_pos (by decide +kernel)]; kernel_rfl) | (rw [if_neg (by decide +kernel)]; exact ⟨rfl, rfl⟩))
    (fun os started H enc _ => crossSame_lifted os started H enc)

end Go.Proofs.Ytlmnllaphjbccaa
