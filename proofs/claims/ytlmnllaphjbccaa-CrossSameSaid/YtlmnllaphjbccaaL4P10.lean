/- A part of the proof. -/
import Derived.ProofKit
import Derived.Test.YtlmnllaphjbccaaL4P9
set_option linter.unusedSimpArgs false
set_option linter.unusedVariables false
section
namespace Go.Ab
open Go.ChangeShapes Go.WideShapes Go.ChangeAt Go.RowKit

/-- Everything that is there is taken for frozen. -/
def lawE (W : World) : Env := ⟨fun _ => none, fun _ => default, fun b => match W.heap[b]? with | some (.cells cs _ _) => cs.size | _ => 0⟩

theorem lawE_good (W : World) : Good [] (lawE W) W := by
  refine ⟨fun l l' b h => by simp [look] at h, fun l o h => by simp [look] at h, fun b hb => ?_⟩
  simp [lawE, Array.getElem?_eq_none hb]

/-- A law's contract, at its call. -/
theorem law_calls {P : Program} {f : Nat} {avs : List AV} {b : Bool} (hs : Spec P f (Args avs) [] (.d (.sc (.bool b))) []) {W : World} {args : Array Value} (hA : AVrs W (lawE W) avs args.toList) :
    Calls P f args W fun e W' => e = .returned (.bool b) ∧ Below W.heap.size W W' := by
  have h := hs.calls (lawE W) W args.toList (lawE_good W) hA
  rw [Array.toArray_toList] at h
  refine h.mono fun e W' ⟨v, E', he, hst, _, _, hv⟩ => ?_
  refine ⟨by rw [he, AVr_sc hv], hst.os, hst.tape, hst.output, hst.size, fun k hk => (hst.frame k hk (by rintro ⟨l, o, hl, _⟩; simp [look] at hl)).1⟩

theorem wf_i64 {n : Int} (h : (Lit.int .i64 n).wf = true) : -9223372036854775808 ≤ n ∧ n ≤ 9223372036854775807 := by
  simp only [Lit.wf, Bool.and_eq_true, decide_eq_true_eq] at h
  have e1 : IntKind.i64.min = -9223372036854775808 := by decide
  have e2 : IntKind.i64.max = 9223372036854775807 := by decide
  rw [e1, e2] at h
  omega

/-- A struct of two whole numbers. -/
theorem open_two {H : Type} {enc : TypeId × Value → H} {P : Program} {W : World} {base : Nat} {spare : Nat → Bool} {held : Bool} {r : Reach} {b0 t : Nat} {f g : Field} {v : Value} {d : DataW H} {ps : List MemPlace}
    (ht : P.underlying t = some (.struct #[f, g])) (hf : P.underlying f.type = some (.int .i64)) (hg : P.underlying g.type = some (.int .i64)) (hf0 : f.offset = 0) (hg0 : g.offset = 1)
    (hcf : P.cellsOf f.type = 1) (hcg : P.cellsOf g.type = 1) (hct : P.cellsOf t = 2) (hval : Value.okWide P W r b0 t v) (hd : DataW.Trod enc P W base spare held t v d ps) :
    ∃ x y : Int, v = .agg #[.int .i64 x, .int .i64 y] ∧ ps = [] ∧ (-9223372036854775808 ≤ x ∧ x ≤ 9223372036854775807) ∧ (-9223372036854775808 ≤ y ∧ y ≤ 9223372036854775807) := by
  simp only [Value.okWide, ht] at hval
  obtain ⟨cs, rfl, hsz, _⟩ := hval
  obtain ⟨fuel, h⟩ := hd
  obtain ⟨y0, y1, n, hx, hl, h0, h1⟩ := trod_struct2 ht h
  obtain ⟨x, hx0, hx1, hx2⟩ := DataW.trod_int hf h0
  obtain ⟨y, hy0, hy1, hy2⟩ := DataW.trod_int hg h1
  refine ⟨x, y, ?_, ?_, wf_i64 hx2, wf_i64 hy2⟩
  · congr 1
    apply Array.toList_inj.1
    simp only [Value.cells] at hx0 hy0
    rw [hf0, hcf] at hx0
    rw [hg0, hcg] at hy0
    match hq : cs.toList with
    | [] => rw [hq] at hx0; simp at hx0
    | [p] => rw [hct] at hsz; have := congrArg List.length hq; simp at this; omega
    | [p, q] => rw [hq] at hx0 hy0; simp at hx0 hy0; rw [hx0, hy0]
    | p :: q :: r :: l => rw [hct] at hsz; have := congrArg List.length hq; simp at this; omega
  · simp only [Prod.mk.injEq] at hx
    rw [hx.2, hx1, hy1]; rfl
end Go.Ab
end
section
namespace Go.Ab
open Go.Proofs
attribute [local congr] ACall.congr
set_option maxRecDepth 10000
set_option maxHeartbeats 4000000

theorem where_c : Spec Try.prog 11 (Args [eP (0, 0), eP (2, 2), eP (0, 1), eP (1, 0)]) [] (resW ((1, 1, 2), true)) [] := by
  have h := where_spec (0, 0) (2, 2) (0, 1) (1, 0)
  rwa [show whereV (0, 0) (2, 2) (0, 1) (1, 0) = ((1, 1, 2), true) from by decide +kernel] at h
theorem meet_c : Spec Try.prog 9 (Args [eP (0, 0), eP (2, 2), eP (0, 1), eP (1, 0)]) [] (eN 1) [] := by
  have h := meet_spec (0, 0) (2, 2) (0, 1) (1, 0)
  rwa [show meetV (0, 0) (2, 2) (0, 1) (1, 0) = 1 from by decide +kernel] at h
theorem side_c : Spec Try.prog 15 (Args [eP (0, 0), eP (2, 2), eP (0, 1)]) [] (eN 1) [] := by
  have h := Side_spec (0, 0) (2, 2) (0, 1)
  rwa [show SideV (0, 0) (2, 2) (0, 1) = 1 from by decide +kernel] at h
theorem may_nil : Spec Try.prog 16 (Args [.d (.sl 2 [])]) [] (eB true) [] := may_in [] (by simp) (by simp)

theorem may_nil' : Spec Try.prog 16 (Args [.nil 23]) [] (eB true) [] := by
  refine ⟨may_nil.can, fun E w vals hg hA => may_nil.calls E w vals hg ?_⟩
  obtain ⟨u, us, h1, h2, h3⟩ := hA
  simp only [AVr] at h2
  subst h2
  exact ⟨_, us, h1, .nil 2, h3⟩

theorem speaks_spec : Spec Try.prog 8 (Args []) [] (eB true) [] := by
  (refine Spec.intro (C := T.cfg []) (rs := [0]) (T.cfg_ok _) Try.func8 rfl rfl Try.ntmps8 Try.results8 (by simp) (by kernel_rfl) ?_; intro X hX hP hC hn hm vals hA; refine ⟨_, by simp, hA, ?_⟩; have hmix : X.P.follows .mixedOrders = true := (by rw [hP]; exact T.mixed))
  repeat' (first | (first | ((with_reducible apply vcOps_n); exact rfl; intro K hK; simp only [go_sem, simprocAttr]) | (with_reducible apply vcOps_nil) | ((with_reducible apply vcOpsD_n); exact rfl; intro K hK; simp only [go_sem, simprocAttr]) | ((with_reducible refine vcOpsD_nil ?_ ?_); kernel_rfl) | ((with_reducible apply vcOps_s); exact rfl; exact rfl; exact rfl; all_goals (intro h; first | (exact absurd h (by decide)) | ((try simp only [go_sem, simprocAttr] at h); first | (intro K hK; simp only [go_sem, simprocAttr]) | (simp only [go_sem, simprocAttr])))) | ((with_reducible apply vcOpsD_s); exact rfl; exact rfl; exact rfl; all_goals (intro h; first | (exact absurd h (by decide)) | ((try simp only [go_sem, simprocAttr] at h); first | (intro K hK; simp only [go_sem, simprocAttr]) | (simp only [go_sem, simprocAttr])))) | ((with_reducible apply otvc_br); exact rfl; exact rfl; (intro K hK; simp only [go_sem, simprocAttr])) | (with_reducible apply otvc_done) | (with_reducible exact otvc_end)) | (refine hK _ ?_; clear hK K; simp only [LA.app, ASt.put, ASt.kill, subT, rmk, putM, rml, kl, AV.sub, AV.subs, AObj.sub, go_sem, simprocAttr]) | (first | fail | (with_reducible apply ablock_nn) | (with_reducible apply athen_n) | (with_reducible refine awp_R hX hC ?_) | (with_reducible refine awp_R0 hX hC ?_) | (with_reducible refine awp_RD hX hC hmix ?_) | (with_reducible refine awp_RD0 hX hC hmix ?_) | (with_reducible refine awp_seq ?_) | (with_reducible refine awp_block ?_) | ((with_reducible refine awp_skip ?_); simp only [athen, ablock, reduceIte, Nat.reduceEqDiff]) | ((with_reducible refine awp_exit ?_); simp only [athen, ablock, reduceIte, Nat.reduceEqDiff]) | ((with_reducible refine awp_ret ?_); simp only [go_sem, simprocAttr]) | ((with_reducible apply awp_cond); exact rfl; all_goals (intro h; first | (exact absurd h (by decide)) | (try simp only [go_sem, simprocAttr] at h)))) | first | (refine acall_simple hX hC hP (where_c) rfl rfl rfl (by simp only [go_sem, simprocAttr]) rfl ?_; simp only [go_sem, simprocAttr]) | (refine acall_simple hX hC hP (meet_c) rfl rfl rfl (by simp only [go_sem, simprocAttr]) rfl ?_; simp only [go_sem, simprocAttr]) | (refine acall_simple hX hC hP (side_c) rfl rfl rfl (by simp only [go_sem, simprocAttr]) rfl ?_; simp only [go_sem, simprocAttr]) | (refine acall_simple hX hC hP (speaks_spec) rfl rfl rfl (by simp only [go_sem, simprocAttr]) rfl ?_; simp only [go_sem, simprocAttr]) | (refine acall_simple hX hC hP may_nil' rfl rfl rfl (by simp only [go_sem, simprocAttr]) rfl ?_; simp only [go_sem, simprocAttr]) | (refine acall_look hX hC hP (may_in3 a b c (by assumption) (by assumption) (by assumption)) rfl rfl rfl (by simp only [go_sem, simprocAttr]) (by simp only [go_sem, simprocAttr]; done) rfl ?_; simp only [go_sem, simprocAttr]) | (refine acall_look hX hC hP (may_out3 a b c (by assumption)) rfl rfl rfl (by simp only [go_sem, simprocAttr]) (by simp only [go_sem, simprocAttr]; done) rfl ?_; simp only [go_sem, simprocAttr]) | (refine acall_simple hX hC hP (refMay_in _ (by assumption)) rfl rfl rfl (by simp only [go_sem, simprocAttr]) rfl ?_; simp only [go_sem, simprocAttr]) | (refine acall_simple hX hC hP (refMay_out _ (by assumption)) rfl rfl rfl (by simp only [go_sem, simprocAttr]) rfl ?_; simp only [go_sem, simprocAttr]) | (refine acall_simple hX hC hP (Side_spec _ _ _) rfl rfl rfl (by simp only [go_sem, simprocAttr]) rfl ?_; simp only [go_sem, simprocAttr]) | (refine acall_simple hX hC hP (refSide_spec' _ _ _) rfl rfl rfl (by simp only [go_sem, simprocAttr]) rfl ?_; simp only [go_sem, simprocAttr]) | (refine acall_simple hX hC hP (On_spec _ _ _) rfl rfl rfl (by simp only [go_sem, simprocAttr]) rfl ?_; simp only [go_sem, simprocAttr]) | (refine acall_simple hX hC hP (refOn_spec' _ _ _) rfl rfl rfl (by simp only [go_sem, simprocAttr]) rfl ?_; simp only [go_sem, simprocAttr]) | (with_reducible refine And.intro ?_ ?_) | omega | (intro h))

theorem area_tm (a b c : Pt) : areaV a b c = tm a b a c := by unfold areaV tm; grind
theorem side_eq (a b c : Pt) : refSideV a b c = SideV a b c := by unfold refSideV SideV sd; rw [area_tm]
theorem refSide_spec' (a b c : Pt) : Spec Try.prog 17 (Args [eP a, eP b, eP c]) [] (eN (SideV a b c)) [] := by
  rw [← side_eq]; exact refSide_spec a b c
theorem cmpI_zero (n : Int) : cmpI n 0 = 0 ↔ n = 0 := by unfold cmpI; split <;> (try split) <;> omega

theorem mul_neg_iff {u v : Int} : (min u v ≤ 0 ∧ 0 ≤ max u v) ↔ u * v ≤ 0 := by
  rcases Int.lt_trichotomy u 0 with hu | hu | hu <;> rcases Int.lt_trichotomy v 0 with hv | hv | hv
  · have := Int.mul_pos_of_neg_of_neg hu hv; omega
  · subst hv; simp; omega
  · have := Int.mul_neg_of_neg_of_pos hu hv; omega
  · subst hu; simp; omega
  · subst hu; simp; omega
  · subst hu; simp; omega
  · have := Int.mul_neg_of_pos_of_neg hu hv; omega
  · subst hv; simp; omega
  · have := Int.mul_pos hu hv; omega

theorem sq_nonneg (s : Int) : 0 ≤ s * s := by
  rcases Int.le_total 0 s with h | h
  · exact Int.mul_nonneg h h
  · exact Int.mul_nonneg_of_nonpos_of_nonpos h h

theorem dot_iff {u1 u2 v1 v2 : Int} (h : u1 * v2 = u2 * v1) : (u1 * v1 ≤ 0 ∧ u2 * v2 ≤ 0) ↔ u1 * v1 + u2 * v2 ≤ 0 := by
  constructor
  · omega
  · intro hs
    have key : (u1 * v1) * (u2 * v2) = (u1 * v2) * (u1 * v2) := by grind
    have h0 := sq_nonneg (u1 * v2)
    rw [← key] at h0
    constructor
    · refine Int.not_lt.1 fun hp => ?_
      have := Int.mul_neg_of_pos_of_neg hp (show u2 * v2 < 0 by omega)
      omega
    · refine Int.not_lt.1 fun hp => ?_
      have := Int.mul_neg_of_neg_of_pos (show u1 * v1 < 0 by omega) hp
      omega

theorem within_iff (a b n : Int) : withinI a b n = decide ((a - n) * (b - n) ≤ 0) := by
  rw [Bool.eq_iff_iff]
  simp only [withinI, Bool.and_eq_true, decide_eq_true_eq]
  rw [← mul_neg_iff]
  omega

theorem onP_eq (a b c : Pt) : onP a b c = (decide (areaV a b c = 0) && decide ((a.1 - c.1) * (b.1 - c.1) + (a.2 - c.2) * (b.2 - c.2) ≤ 0)) := by
  unfold onP sd
  rw [← area_tm, within_iff, within_iff]
  by_cases h : areaV a b c = 0
  · have h' : (a.1 - c.1) * (b.2 - c.2) = (a.2 - c.2) * (b.1 - c.1) := by unfold areaV at h; grind
    rw [Bool.eq_iff_iff]
    simp only [cmpI_zero, h, decide_true, Bool.true_and, Bool.and_eq_true, decide_eq_true_eq]
    exact dot_iff h'
  · simp [cmpI_zero, h]
theorem on_eq (a b c : Pt) : refOnV a b c = OnV a b c := by unfold refOnV OnV; rw [onP_eq]
theorem refOn_spec' (a b c : Pt) : Spec Try.prog 19 (Args [eP a, eP b, eP c]) [] (eB (OnV a b c)) [] := by
  rw [← on_eq]; exact refOn_spec a b c

theorem crossSides_spec (a b c : Pt) : Spec Try.prog 6 (Args [eP a, eP b, eP c]) [] (eB true) [] := by
  by_cases ha : InB a <;> by_cases hb : InB b <;> by_cases hc : InB c
  · (refine Spec.intro (C := T.cfg []) (rs := [6]) (T.cfg_ok _) Try.func6 rfl rfl Try.ntmps6 Try.results6 (by simp) (by kernel_rfl) ?_; intro X hX hP hC hn hm vals hA; refine ⟨_, by simp, hA, ?_⟩; have hmix : X.P.follows .mixedOrders = true := (by rw [hP]; exact T.mixed))
    repeat' (first | (first | ((with_reducible apply vcOps_n); exact rfl; intro K hK; simp only [go_sem, simprocAttr]) | (with_reducible apply vcOps_nil) | ((with_reducible apply vcOpsD_n); exact rfl; intro K hK; simp only [go_sem, simprocAttr]) | ((with_reducible refine vcOpsD_nil ?_ ?_); kernel_rfl) | ((with_reducible apply vcOps_s); exact rfl; exact rfl; exact rfl; all_goals (intro h; first | (exact absurd h (by decide)) | ((try simp only [go_sem, simprocAttr] at h); first | (intro K hK; simp only [go_sem, simprocAttr]) | (simp only [go_sem, simprocAttr])))) | ((with_reducible apply vcOpsD_s); exact rfl; exact rfl; exact rfl; all_goals (intro h; first | (exact absurd h (by decide)) | ((try simp only [go_sem, simprocAttr] at h); first | (intro K hK; simp only [go_sem, simprocAttr]) | (simp only [go_sem, simprocAttr])))) | ((with_reducible apply otvc_br); exact rfl; exact rfl; (intro K hK; simp only [go_sem, simprocAttr])) | (with_reducible apply otvc_done) | (with_reducible exact otvc_end)) | (refine hK _ ?_; clear hK K; simp only [LA.app, ASt.put, ASt.kill, subT, rmk, putM, rml, kl, AV.sub, AV.subs, AObj.sub, go_sem, simprocAttr]) | (first | fail | (with_reducible apply ablock_nn) | (with_reducible apply athen_n) | (with_reducible refine awp_R hX hC ?_) | (with_reducible refine awp_R0 hX hC ?_) | (with_reducible refine awp_RD hX hC hmix ?_) | (with_reducible refine awp_RD0 hX hC hmix ?_) | (with_reducible refine awp_seq ?_) | (with_reducible refine awp_block ?_) | ((with_reducible refine awp_skip ?_); simp only [athen, ablock, reduceIte, Nat.reduceEqDiff]) | ((with_reducible refine awp_exit ?_); simp only [athen, ablock, reduceIte, Nat.reduceEqDiff]) | ((with_reducible refine awp_ret ?_); simp only [go_sem, simprocAttr]) | ((with_reducible apply awp_cond); exact rfl; all_goals (intro h; first | (exact absurd h (by decide)) | (try simp only [go_sem, simprocAttr] at h)))) | first | (refine acall_simple hX hC hP (where_c) rfl rfl rfl (by simp only [go_sem, simprocAttr]) rfl ?_; simp only [go_sem, simprocAttr]) | (refine acall_simple hX hC hP (meet_c) rfl rfl rfl (by simp only [go_sem, simprocAttr]) rfl ?_; simp only [go_sem, simprocAttr]) | (refine acall_simple hX hC hP (side_c) rfl rfl rfl (by simp only [go_sem, simprocAttr]) rfl ?_; simp only [go_sem, simprocAttr]) | (refine acall_simple hX hC hP (speaks_spec) rfl rfl rfl (by simp only [go_sem, simprocAttr]) rfl ?_; simp only [go_sem, simprocAttr]) | (refine acall_simple hX hC hP may_nil' rfl rfl rfl (by simp only [go_sem, simprocAttr]) rfl ?_; simp only [go_sem, simprocAttr]) | (refine acall_look hX hC hP (may_in3 a b c (by assumption) (by assumption) (by assumption)) rfl rfl rfl (by simp only [go_sem, simprocAttr]) (by simp only [go_sem, simprocAttr]; done) rfl ?_; simp only [go_sem, simprocAttr]) | (refine acall_look hX hC hP (may_out3 a b c (by assumption)) rfl rfl rfl (by simp only [go_sem, simprocAttr]) (by simp only [go_sem, simprocAttr]; done) rfl ?_; simp only [go_sem, simprocAttr]) | (refine acall_simple hX hC hP (refMay_in _ (by assumption)) rfl rfl rfl (by simp only [go_sem, simprocAttr]) rfl ?_; simp only [go_sem, simprocAttr]) | (refine acall_simple hX hC hP (refMay_out _ (by assumption)) rfl rfl rfl (by simp only [go_sem, simprocAttr]) rfl ?_; simp only [go_sem, simprocAttr]) | (refine acall_simple hX hC hP (Side_spec _ _ _) rfl rfl rfl (by simp only [go_sem, simprocAttr]) rfl ?_; simp only [go_sem, simprocAttr]) | (refine acall_simple hX hC hP (refSide_spec' _ _ _) rfl rfl rfl (by simp only [go_sem, simprocAttr]) rfl ?_; simp only [go_sem, simprocAttr]) | (refine acall_simple hX hC hP (On_spec _ _ _) rfl rfl rfl (by simp only [go_sem, simprocAttr]) rfl ?_; simp only [go_sem, simprocAttr]) | (refine acall_simple hX hC hP (refOn_spec' _ _ _) rfl rfl rfl (by simp only [go_sem, simprocAttr]) rfl ?_; simp only [go_sem, simprocAttr]) | (with_reducible refine And.intro ?_ ?_) | omega | (intro h))
  all_goals
    have hn : ¬ (InB a ∧ InB b ∧ InB c) := by simp [ha, hb, hc]
    (refine Spec.intro (C := T.cfg []) (rs := [6]) (T.cfg_ok _) Try.func6 rfl rfl Try.ntmps6 Try.results6 (by simp) (by kernel_rfl) ?_; intro X hX hP hC hn hm vals hA; refine ⟨_, by simp, hA, ?_⟩; have hmix : X.P.follows .mixedOrders = true := (by rw [hP]; exact T.mixed))
    repeat' (first | (first | ((with_reducible apply vcOps_n); exact rfl; intro K hK; simp only [go_sem, simprocAttr]) | (with_reducible apply vcOps_nil) | ((with_reducible apply vcOpsD_n); exact rfl; intro K hK; simp only [go_sem, simprocAttr]) | ((with_reducible refine vcOpsD_nil ?_ ?_); kernel_rfl) | ((with_reducible apply vcOps_s); exact rfl; exact rfl; exact rfl; all_goals (intro h; first | (exact absurd h (by decide)) | ((try simp only [go_sem, simprocAttr] at h); first | (intro K hK; simp only [go_sem, simprocAttr]) | (simp only [go_sem, simprocAttr])))) | ((with_reducible apply vcOpsD_s); exact rfl; exact rfl; exact rfl; all_goals (intro h; first | (exact absurd h (by decide)) | ((try simp only [go_sem, simprocAttr] at h); first | (intro K hK; simp only [go_sem, simprocAttr]) | (simp only [go_sem, simprocAttr])))) | ((with_reducible apply otvc_br); exact rfl; exact rfl; (intro K hK; simp only [go_sem, simprocAttr])) | (with_reducible apply otvc_done) | (with_reducible exact otvc_end)) | (refine hK _ ?_; clear hK K; simp only [LA.app, ASt.put, ASt.kill, subT, rmk, putM, rml, kl, AV.sub, AV.subs, AObj.sub, go_sem, simprocAttr]) | (first | fail | (with_reducible apply ablock_nn) | (with_reducible apply athen_n) | (with_reducible refine awp_R hX hC ?_) | (with_reducible refine awp_R0 hX hC ?_) | (with_reducible refine awp_RD hX hC hmix ?_) | (with_reducible refine awp_RD0 hX hC hmix ?_) | (with_reducible refine awp_seq ?_) | (with_reducible refine awp_block ?_) | ((with_reducible refine awp_skip ?_); simp only [athen, ablock, reduceIte, Nat.reduceEqDiff]) | ((with_reducible refine awp_exit ?_); simp only [athen, ablock, reduceIte, Nat.reduceEqDiff]) | ((with_reducible refine awp_ret ?_); simp only [go_sem, simprocAttr]) | ((with_reducible apply awp_cond); exact rfl; all_goals (intro h; first | (exact absurd h (by decide)) | (try simp only [go_sem, simprocAttr] at h)))) | first | (refine acall_simple hX hC hP (where_c) rfl rfl rfl (by simp only [go_sem, simprocAttr]) rfl ?_; simp only [go_sem, simprocAttr]) | (refine acall_simple hX hC hP (meet_c) rfl rfl rfl (by simp only [go_sem, simprocAttr]) rfl ?_; simp only [go_sem, simprocAttr]) | (refine acall_simple hX hC hP (side_c) rfl rfl rfl (by simp only [go_sem, simprocAttr]) rfl ?_; simp only [go_sem, simprocAttr]) | (refine acall_simple hX hC hP (speaks_spec) rfl rfl rfl (by simp only [go_sem, simprocAttr]) rfl ?_; simp only [go_sem, simprocAttr]) | (refine acall_simple hX hC hP may_nil' rfl rfl rfl (by simp only [go_sem, simprocAttr]) rfl ?_; simp only [go_sem, simprocAttr]) | (refine acall_look hX hC hP (may_in3 a b c (by assumption) (by assumption) (by assumption)) rfl rfl rfl (by simp only [go_sem, simprocAttr]) (by simp only [go_sem, simprocAttr]; done) rfl ?_; simp only [go_sem, simprocAttr]) | (refine acall_look hX hC hP (may_out3 a b c (by assumption)) rfl rfl rfl (by simp only [go_sem, simprocAttr]) (by simp only [go_sem, simprocAttr]; done) rfl ?_; simp only [go_sem, simprocAttr]) | (refine acall_simple hX hC hP (refMay_in _ (by assumption)) rfl rfl rfl (by simp only [go_sem, simprocAttr]) rfl ?_; simp only [go_sem, simprocAttr]) | (refine acall_simple hX hC hP (refMay_out _ (by assumption)) rfl rfl rfl (by simp only [go_sem, simprocAttr]) rfl ?_; simp only [go_sem, simprocAttr]) | (refine acall_simple hX hC hP (Side_spec _ _ _) rfl rfl rfl (by simp only [go_sem, simprocAttr]) rfl ?_; simp only [go_sem, simprocAttr]) | (refine acall_simple hX hC hP (refSide_spec' _ _ _) rfl rfl rfl (by simp only [go_sem, simprocAttr]) rfl ?_; simp only [go_sem, simprocAttr]) | (refine acall_simple hX hC hP (On_spec _ _ _) rfl rfl rfl (by simp only [go_sem, simprocAttr]) rfl ?_; simp only [go_sem, simprocAttr]) | (refine acall_simple hX hC hP (refOn_spec' _ _ _) rfl rfl rfl (by simp only [go_sem, simprocAttr]) rfl ?_; simp only [go_sem, simprocAttr]) | (with_reducible refine And.intro ?_ ?_) | omega | (intro h))
end Go.Ab
end
section
namespace Go.Ab

def key (p : Pt) : List Int := [p.1, p.2]
theorem key_inj {p q : Pt} : key p = key q ↔ p = q := by simp [key, Prod.ext_iff]
theorem mem_addK {x : List Int} {p : Pt} {ks : List (List Int)} : x ∈ addK p ks ↔ x = key p ∨ x ∈ ks := by
  unfold addK
  split
  · rename_i h
    constructor
    · exact .inr
    · rintro (rfl | h')
      · exact h
      · exact h'
  · simp [key, or_comm]
theorem nodup_addK {p : Pt} {ks : List (List Int)} (h : ks.Nodup) : (addK p ks).Nodup := by
  unfold addK
  split
  · exact h
  · rename_i hn
    rw [List.nodup_append]
    exact ⟨h, by simp, fun a ha b hb => by simp at hb; subst hb; exact fun e => hn (e ▸ ha)⟩
theorem nodup_K4 (a b c d : Pt) : (K4 a b c d).Nodup := by
  have h1 : (K1 a b c d).Nodup := by unfold K1; split; exact nodup_addK List.nodup_nil; exact List.nodup_nil
  have h2 : (K2 a b c d).Nodup := by unfold K2; split; exact nodup_addK h1; exact h1
  have h3 : (K3 a b c d).Nodup := by unfold K3; split; exact nodup_addK h2; exact h2
  unfold K4; split; exact nodup_addK h3; exact h3
def Com (a b c d p : Pt) : Prop := (onP c d a = true ∧ p = a) ∨ (onP c d b = true ∧ p = b) ∨ (onP a b c = true ∧ p = c) ∨ (onP a b d = true ∧ p = d)
theorem mem_K4 {a b c d : Pt} {x : List Int} : x ∈ K4 a b c d ↔ ∃ p, Com a b c d p ∧ x = key p := by
  have h1 : x ∈ K1 a b c d ↔ onP c d a = true ∧ x = key a := by unfold K1; split <;> simp_all [mem_addK]
  have h2 : x ∈ K2 a b c d ↔ (onP c d b = true ∧ x = key b) ∨ x ∈ K1 a b c d := by unfold K2; split <;> simp_all [mem_addK]
  have h3 : x ∈ K3 a b c d ↔ (onP a b c = true ∧ x = key c) ∨ x ∈ K2 a b c d := by unfold K3; split <;> simp_all [mem_addK]
  have h4 : x ∈ K4 a b c d ↔ (onP a b d = true ∧ x = key d) ∨ x ∈ K3 a b c d := by unfold K4; split <;> simp_all [mem_addK]
  rw [h4, h3, h2, h1]
  unfold Com
  constructor
  · rintro (⟨h, rfl⟩ | ⟨h, rfl⟩ | ⟨h, rfl⟩ | ⟨h, rfl⟩)
    · exact ⟨d, .inr (.inr (.inr ⟨h, rfl⟩)), rfl⟩
    · exact ⟨c, .inr (.inr (.inl ⟨h, rfl⟩)), rfl⟩
    · exact ⟨b, .inr (.inl ⟨h, rfl⟩), rfl⟩
    · exact ⟨a, .inl ⟨h, rfl⟩, rfl⟩
  · rintro ⟨p, (⟨h, rfl⟩ | ⟨h, rfl⟩ | ⟨h, rfl⟩ | ⟨h, rfl⟩), rfl⟩
    · exact .inr (.inr (.inr ⟨h, rfl⟩))
    · exact .inr (.inr (.inl ⟨h, rfl⟩))
    · exact .inr (.inl ⟨h, rfl⟩)
    · exact .inl ⟨h, rfl⟩
/-- How many: none, one, more. -/
theorem K4_zero {a b c d : Pt} (h : ∀ p, ¬ Com a b c d p) : (K4 a b c d).length = 0 := by
  rw [List.length_eq_zero_iff, List.eq_nil_iff_forall_not_mem]
  intro x hx
  obtain ⟨p, hp, _⟩ := mem_K4.1 hx
  exact h p hp
theorem K4_one {a b c d p : Pt} (h : Com a b c d p) (h1 : ∀ q, Com a b c d q → q = p) : (K4 a b c d).length = 1 := by
  have e : (K4 a b c d).Perm [key p] := (List.perm_ext_iff_of_nodup (nodup_K4 a b c d) (by simp)).2 fun x => by
    rw [mem_K4]
    constructor
    · rintro ⟨q, hq, rfl⟩; rw [h1 q hq]; simp
    · intro hx; simp at hx; exact ⟨p, h, hx⟩
  exact e.length_eq
theorem K4_two {a b c d p q : Pt} (h : Com a b c d p) (h1 : Com a b c d q) (hn : p ≠ q) : 2 ≤ (K4 a b c d).length := by
  have := List.Nodup.length_le_of_subset (l₁ := [key p, key q]) (l₂ := K4 a b c d) (by simp [key_inj, hn]) (by
    intro x hx
    simp at hx
    rcases hx with rfl | rfl
    · exact mem_K4.2 ⟨p, h, rfl⟩
    · exact mem_K4.2 ⟨q, h1, rfl⟩)
  simpa using this

theorem sd_zero {a b c : Pt} : sd a b c = 0 ↔ areaV a b c = 0 := by unfold sd; rw [cmpI_zero, area_tm]
theorem onP_iff {a b c : Pt} : onP a b c = true ↔ areaV a b c = 0 ∧ (a.1 - c.1) * (b.1 - c.1) ≤ 0 ∧ (a.2 - c.2) * (b.2 - c.2) ≤ 0 := by
  unfold onP
  rw [within_iff, within_iff]
  simp only [Bool.and_eq_true, decide_eq_true_eq, sd_zero, and_assoc]

theorem mul_sq_nonpos {x s : Int} (hs : s ≠ 0) (h : x * (s * s) ≤ 0) : x ≤ 0 := by
  have h1 := sq_nonneg s
  have h2 : s * s ≠ 0 := Int.mul_ne_zero hs hs
  refine Int.not_lt.1 fun hp => ?_
  have := Int.mul_pos hp (show 0 < s * s by omega)
  omega
theorem nonpos_mul_sq {x s : Int} (h : x ≤ 0) : x * (s * s) ≤ 0 := Int.mul_nonpos_of_nonpos_of_nonneg h (sq_nonneg s)

theorem cross_x {a b c d : Pt} (h0 : areaV c d a = 0) : tm a b c d * (c.1 - a.1) = areaV a b c * (d.1 - c.1) := by unfold areaV at *; unfold tm; grind
theorem cross_x' {a b c d : Pt} (h0 : areaV c d a = 0) : tm a b c d * (d.1 - a.1) = areaV a b d * (d.1 - c.1) := by unfold areaV at *; unfold tm; grind
theorem cross_y {a b c d : Pt} (h0 : areaV c d a = 0) : tm a b c d * (c.2 - a.2) = areaV a b c * (d.2 - c.2) := by unfold areaV at *; unfold tm; grind
theorem cross_y' {a b c d : Pt} (h0 : areaV c d a = 0) : tm a b c d * (d.2 - a.2) = areaV a b d * (d.2 - c.2) := by unfold areaV at *; unfold tm; grind
theorem sq_of {t p q u v w : Int} (h1 : t * p = u * w) (h2 : t * q = v * w) : (p * q) * (t * t) = (u * v) * (w * w) := by grind
/-- Lines that cross: an end is on the other piece just if it is on its line, and that piece's ends are not at one side. -/
theorem on_cross {a b c d : Pt} (hT : tm a b c d ≠ 0) : onP c d a = true ↔ areaV c d a = 0 ∧ areaV a b c * areaV a b d ≤ 0 := by
  rw [onP_iff]
  refine and_congr_right fun h0 => ?_
  have e1 := sq_of (cross_x (b := b) h0) (cross_x' (b := b) h0)
  have e2 := sq_of (cross_y (b := b) h0) (cross_y' (b := b) h0)
  constructor
  · rintro ⟨h1, h2⟩
    by_cases hx : d.1 - c.1 = 0
    · have hy : d.2 - c.2 ≠ 0 := fun hy => hT (by unfold tm; simp [hx, hy])
      exact mul_sq_nonpos hy (e2 ▸ nonpos_mul_sq h2)
    · exact mul_sq_nonpos hx (e1 ▸ nonpos_mul_sq h1)
  · intro h
    exact ⟨mul_sq_nonpos hT (e1 ▸ nonpos_mul_sq h), mul_sq_nonpos hT (e2 ▸ nonpos_mul_sq h)⟩

theorem tm_swap (a b c d : Pt) : tm b a c d = - tm a b c d := by unfold tm; grind
theorem tm_pair (a b c d : Pt) : tm c d a b = - tm a b c d := by unfold tm; grind
theorem tm_swap2 (a b c d : Pt) : tm a b d c = - tm a b c d := by unfold tm; grind
theorem area_swap (a b c : Pt) : areaV b a c = - areaV a b c := by unfold areaV; grind
theorem area_diff (a b c d : Pt) : areaV a b d - areaV a b c = tm a b c d := by unfold areaV tm; grind
theorem area_diff' (a b c d : Pt) : areaV c d a - areaV c d b = tm a b c d := by unfold areaV tm; grind
theorem onP_swap (a b c : Pt) : onP b a c = onP a b c := by
  rw [Bool.eq_iff_iff, onP_iff, onP_iff, area_swap, Int.mul_comm (b.1 - c.1), Int.mul_comm (b.2 - c.2)]
  simp

theorem on_cross_b {a b c d : Pt} (hT : tm a b c d ≠ 0) : onP c d b = true ↔ areaV c d b = 0 ∧ areaV a b c * areaV a b d ≤ 0 := by
  rw [on_cross (a := b) (b := a) (by rw [tm_swap]; omega), area_swap a b c, area_swap a b d, Int.neg_mul_neg]
theorem on_cross_c {a b c d : Pt} (hT : tm a b c d ≠ 0) : onP a b c = true ↔ areaV a b c = 0 ∧ areaV c d a * areaV c d b ≤ 0 := by
  rw [on_cross (a := c) (b := d) (c := a) (d := b) (by rw [tm_pair]; omega)]
theorem on_cross_d {a b c d : Pt} (hT : tm a b c d ≠ 0) : onP a b d = true ↔ areaV a b d = 0 ∧ areaV c d a * areaV c d b ≤ 0 := by
  rw [on_cross (a := d) (b := c) (c := a) (d := b) (by rw [tm_pair, tm_swap2]; omega), area_swap c d a, area_swap c d b, Int.neg_mul_neg]

/-- The point where two lines cross is one. -/
theorem cross_one {a b c d : Pt} (hT : tm a b c d ≠ 0) (h1 : areaV c d a = 0) (h2 : areaV a b c = 0) : a = c := by
  have k1 := cross_x (b := b) h1
  have k2 := cross_y (b := b) h1
  rw [h2, Int.zero_mul] at k1 k2
  have e1 := (Int.mul_eq_zero.1 k1).resolve_left hT
  have e2 := (Int.mul_eq_zero.1 k2).resolve_left hT
  exact Prod.ext (by omega) (by omega)

theorem cmpI_mul (u v : Int) : cmpI u 0 * cmpI v 0 < 0 ↔ u * v < 0 := by
  unfold cmpI
  rcases Int.lt_trichotomy u 0 with hu | hu | hu <;> rcases Int.lt_trichotomy v 0 with hv | hv | hv
  · have := Int.mul_pos_of_neg_of_neg hu hv; simp [hu, hv]; omega
  · subst hv; simp
  · have := Int.mul_neg_of_neg_of_pos hu hv; simp [hu, hv, show ¬ v < 0 by omega, this]
  · subst hu; simp
  · subst hu; simp
  · subst hu; simp
  · have := Int.mul_neg_of_pos_of_neg hu hv; simp [hu, hv, show ¬ u < 0 by omega, this]
  · subst hv; simp
  · have := Int.mul_pos hu hv; simp [hu, hv, show ¬ u < 0 by omega, show ¬ v < 0 by omega]; omega
theorem cmpI_mul' (u v : Int) : cmpI u 0 * cmpI v 0 ≤ 0 ↔ u * v ≤ 0 := by
  unfold cmpI
  rcases Int.lt_trichotomy u 0 with hu | hu | hu <;> rcases Int.lt_trichotomy v 0 with hv | hv | hv
  · have := Int.mul_pos_of_neg_of_neg hu hv; simp [hu, hv]; omega
  · subst hv; simp
  · have := Int.mul_neg_of_neg_of_pos hu hv; simp [hu, hv, show ¬ v < 0 by omega]; omega
  · subst hu; simp
  · subst hu; simp
  · subst hu; simp
  · have := Int.mul_neg_of_pos_of_neg hu hv; simp [hu, hv, show ¬ u < 0 by omega]; omega
  · subst hv; simp
  · have := Int.mul_pos hu hv; simp [hu, hv, show ¬ u < 0 by omega, show ¬ v < 0 by omega]; omega
theorem sd_area (a b c : Pt) : sd a b c = cmpI (areaV a b c) 0 := by rw [area_tm]; rfl

def meetC (a b c d : Pt) : Int := if 0 < (K4 a b c d).length then min ((K4 a b c d).length : Int) 2 else if sd a b c * sd a b d < 0 ∧ sd c d a * sd c d b < 0 then 1 else 0

theorem meetC_cross {a b c d : Pt} (hT : tm a b c d ≠ 0) : meetC a b c d = if areaV a b c * areaV a b d ≤ 0 ∧ areaV c d a * areaV c d b ≤ 0 then 1 else 0 := by
  have oa := on_cross hT
  have ob := on_cross_b hT
  have oc := on_cross_c hT
  have od := on_cross_d hT
  have d1 := area_diff a b c d
  have d2 := area_diff' a b c d
  have one : ∀ p q, Com a b c d p → Com a b c d q → q = p := by
    have ab : onP c d a = true → onP c d b = true → False := fun h1 h2 => by have := oa.1 h1; have := ob.1 h2; omega
    have cd : onP a b c = true → onP a b d = true → False := fun h1 h2 => by have := oc.1 h1; have := od.1 h2; omega
    have ac : onP c d a = true → onP a b c = true → a = c := fun h1 h2 => cross_one hT (oa.1 h1).1 (oc.1 h2).1
    have ad : onP c d a = true → onP a b d = true → a = d := fun h1 h2 => cross_one (c := d) (d := c) (by rw [tm_swap2]; omega) (by rw [area_swap, (oa.1 h1).1]; rfl) (od.1 h2).1
    have bc : onP c d b = true → onP a b c = true → b = c := fun h1 h2 => cross_one (a := b) (b := a) (d := d) (by rw [tm_swap]; omega) (ob.1 h1).1 (by rw [area_swap, (oc.1 h2).1]; rfl)
    have bd : onP c d b = true → onP a b d = true → b = d := fun h1 h2 => cross_one (a := b) (b := a) (c := d) (d := c) (by rw [tm_swap, tm_swap2]; omega) (by rw [area_swap, (ob.1 h1).1]; rfl) (by rw [area_swap, (od.1 h2).1]; rfl)
    rintro p q (⟨h1, rfl⟩ | ⟨h1, rfl⟩ | ⟨h1, rfl⟩ | ⟨h1, rfl⟩) (⟨h2, rfl⟩ | ⟨h2, rfl⟩ | ⟨h2, rfl⟩ | ⟨h2, rfl⟩)
    · rfl
    · exact (ab h1 h2).elim
    · exact (ac h1 h2).symm
    · exact (ad h1 h2).symm
    · exact (ab h2 h1).elim
    · rfl
    · exact (bc h1 h2).symm
    · exact (bd h1 h2).symm
    · exact ac h2 h1
    · exact bc h2 h1
    · rfl
    · exact (cd h1 h2).elim
    · exact ad h2 h1
    · exact bd h2 h1
    · exact (cd h2 h1).elim
    · rfl
  unfold meetC
  simp only [sd_area, cmpI_mul]
  by_cases hc : ∃ p, Com a b c d p
  · obtain ⟨p, hp⟩ := hc
    rw [K4_one hp fun q hq => one p q hp hq]
    have : areaV a b c * areaV a b d ≤ 0 ∧ areaV c d a * areaV c d b ≤ 0 := by
      rcases hp with ⟨h, _⟩ | ⟨h, _⟩ | ⟨h, _⟩ | ⟨h, _⟩
      · have := oa.1 h; exact ⟨this.2, by rw [this.1]; simp⟩
      · have := ob.1 h; exact ⟨this.2, by rw [this.1]; simp⟩
      · have := oc.1 h; exact ⟨by rw [this.1]; simp, this.2⟩
      · have := od.1 h; exact ⟨by rw [this.1]; simp, this.2⟩
    rw [if_pos this]; rfl
  · have hn : ∀ p, ¬ Com a b c d p := fun p hp => hc ⟨p, hp⟩
    rw [K4_zero hn]
    simp only [Nat.lt_irrefl, if_false]
    by_cases h : areaV a b c * areaV a b d ≤ 0 ∧ areaV c d a * areaV c d b ≤ 0
    · rw [if_pos h, if_pos]
      have n1 : areaV a b c * areaV a b d ≠ 0 := fun h0 => by
        rcases Int.mul_eq_zero.1 h0 with h0 | h0
        · exact hn c (.inr (.inr (.inl ⟨oc.2 ⟨h0, h.2⟩, rfl⟩)))
        · exact hn d (.inr (.inr (.inr ⟨od.2 ⟨h0, h.2⟩, rfl⟩)))
      have n2 : areaV c d a * areaV c d b ≠ 0 := fun h0 => by
        rcases Int.mul_eq_zero.1 h0 with h0 | h0
        · exact hn a (.inl ⟨oa.2 ⟨h0, h.1⟩, rfl⟩)
        · exact hn b (.inr (.inl ⟨ob.2 ⟨h0, h.1⟩, rfl⟩))
      omega
    · rw [if_neg h, if_neg (by omega)]

section
variable {a b : Pt}
theorem line_x {p r : Pt} (hp : areaV a b p = 0) (hr : areaV a b r = 0) : alongV a b b * (p.1 - r.1) = (alongV a b p - alongV a b r) * (b.1 - a.1) := by unfold areaV at *; unfold alongV; grind
theorem line_y {p r : Pt} (hp : areaV a b p = 0) (hr : areaV a b r = 0) : alongV a b b * (p.2 - r.2) = (alongV a b p - alongV a b r) * (b.2 - a.2) := by unfold areaV at *; unfold alongV; grind
theorem along_pos (hab : a ≠ b) : 0 < alongV a b b := by
  unfold alongV
  have h1 := sq_nonneg (b.1 - a.1)
  have h2 := sq_nonneg (b.2 - a.2)
  by_cases hx : b.1 - a.1 = 0
  · have hy : b.2 - a.2 ≠ 0 := fun hy => hab (Prod.ext (by omega) (by omega))
    have := Int.mul_ne_zero hy hy
    omega
  · have := Int.mul_ne_zero hx hx
    omega
theorem along_a : alongV a b a = 0 := by unfold alongV; simp
theorem area_a : areaV a b a = 0 := by unfold areaV; grind
theorem area_b : areaV a b b = 0 := by unfold areaV; grind
theorem line_inj (hab : a ≠ b) {p r : Pt} (hp : areaV a b p = 0) (hr : areaV a b r = 0) (h : alongV a b p = alongV a b r) : p = r := by
  have hN := along_pos hab
  have h1 := line_x hp hr
  have h2 := line_y hp hr
  rw [h, Int.sub_self, Int.zero_mul] at h1 h2
  have e1 := (Int.mul_eq_zero.1 h1).resolve_left (by omega)
  have e2 := (Int.mul_eq_zero.1 h2).resolve_left (by omega)
  exact Prod.ext (by omega) (by omega)
theorem line_area (hab : a ≠ b) {p q r : Pt} (hp : areaV a b p = 0) (hq : areaV a b q = 0) (hr : areaV a b r = 0) : areaV p q r = 0 := by
  have h1 : (b.1 - a.1) * areaV p q r = 0 := by unfold areaV at *; grind
  have h2 : (b.2 - a.2) * areaV p q r = 0 := by unfold areaV at *; grind
  by_cases h : areaV p q r = 0
  · exact h
  · have e1 := (Int.mul_eq_zero.1 h1).resolve_right h
    have e2 := (Int.mul_eq_zero.1 h2).resolve_right h
    exact absurd (Prod.ext (by omega) (by omega)) hab
theorem sq_of' {N x y u v w : Int} (h1 : N * x = u * w) (h2 : N * y = v * w) : (x * y) * (N * N) = (u * v) * (w * w) := by grind
theorem on_line (hab : a ≠ b) {p q r : Pt} (hp : areaV a b p = 0) (hq : areaV a b q = 0) (hr : areaV a b r = 0) : onP p q r = true ↔ min (alongV a b p) (alongV a b q) ≤ alongV a b r ∧ alongV a b r ≤ max (alongV a b p) (alongV a b q) := by
  have hN := along_pos hab
  have e1 := sq_of' (line_x hp hr) (line_x hq hr)
  have e2 := sq_of' (line_y hp hr) (line_y hq hr)
  have e3 : (min (alongV a b p) (alongV a b q) ≤ alongV a b r ∧ alongV a b r ≤ max (alongV a b p) (alongV a b q)) ↔ (alongV a b p - alongV a b r) * (alongV a b q - alongV a b r) ≤ 0 := by
    rw [← mul_neg_iff]; omega
  rw [onP_iff, e3]
  constructor
  · rintro ⟨_, h1, h2⟩
    by_cases hx : b.1 - a.1 = 0
    · have hy : b.2 - a.2 ≠ 0 := fun hy => hab (Prod.ext (by omega) (by omega))
      exact mul_sq_nonpos hy (e2 ▸ nonpos_mul_sq h2)
    · exact mul_sq_nonpos hx (e1 ▸ nonpos_mul_sq h1)
  · intro h
    exact ⟨line_area hab hp hq hr, mul_sq_nonpos (by omega) (e1 ▸ nonpos_mul_sq h), mul_sq_nonpos (by omega) (e2 ▸ nonpos_mul_sq h)⟩
end

theorem meetC_line {a b c d : Pt} (hab : a ≠ b) (hcd : c ≠ d) (hc : areaV a b c = 0) (hd : areaV a b d = 0) :
    meetC a b c d = if min (alongV a b b) (max (alongV a b c) (alongV a b d)) < max (alongV a b a) (min (alongV a b c) (alongV a b d)) then 0
      else if max (alongV a b a) (min (alongV a b c) (alongV a b d)) = min (alongV a b b) (max (alongV a b c) (alongV a b d)) then 1 else 2 := by
  have hN := along_pos hab
  have h0 := along_a (a := a) (b := b)
  have oa := on_line hab hc hd area_a
  have ob := on_line hab hc hd area_b
  have oc := on_line hab area_a area_b hc
  have od := on_line hab area_a area_b hd
  have hne : alongV a b c ≠ alongV a b d := fun h => hcd (line_inj hab hc hd h)
  have on : ∀ p, Com a b c d p → areaV a b p = 0 ∧ max (alongV a b a) (min (alongV a b c) (alongV a b d)) ≤ alongV a b p ∧ alongV a b p ≤ min (alongV a b b) (max (alongV a b c) (alongV a b d)) := by
    rintro p (⟨h, rfl⟩ | ⟨h, rfl⟩ | ⟨h, rfl⟩ | ⟨h, rfl⟩)
    · have := oa.1 h; exact ⟨area_a, by omega⟩
    · have := ob.1 h; exact ⟨area_b, by omega⟩
    · have := oc.1 h; exact ⟨hc, by omega⟩
    · have := od.1 h; exact ⟨hd, by omega⟩
  have hz : ¬ (sd a b c * sd a b d < 0 ∧ sd c d a * sd c d b < 0) := by
    have : sd a b c = 0 := sd_zero.2 hc
    rw [this]; simp
  by_cases hlt : min (alongV a b b) (max (alongV a b c) (alongV a b d)) < max (alongV a b a) (min (alongV a b c) (alongV a b d))
  · unfold meetC
    rw [K4_zero fun p hp => by have := on p hp; omega, if_neg (by simp), if_neg hz, if_pos hlt]
  · rw [if_neg hlt]
    have lo : ∃ p, Com a b c d p ∧ alongV a b p = max (alongV a b a) (min (alongV a b c) (alongV a b d)) := by
      by_cases h1 : min (alongV a b c) (alongV a b d) ≤ alongV a b a
      · exact ⟨a, .inl ⟨oa.2 (by omega), rfl⟩, by omega⟩
      · by_cases h2 : alongV a b c ≤ alongV a b d
        · exact ⟨c, .inr (.inr (.inl ⟨oc.2 (by omega), rfl⟩)), by omega⟩
        · exact ⟨d, .inr (.inr (.inr ⟨od.2 (by omega), rfl⟩)), by omega⟩
    have hi : ∃ p, Com a b c d p ∧ alongV a b p = min (alongV a b b) (max (alongV a b c) (alongV a b d)) := by
      by_cases h1 : alongV a b b ≤ max (alongV a b c) (alongV a b d)
      · exact ⟨b, .inr (.inl ⟨ob.2 (by omega), rfl⟩), by omega⟩
      · by_cases h2 : alongV a b c ≤ alongV a b d
        · exact ⟨d, .inr (.inr (.inr ⟨od.2 (by omega), rfl⟩)), by omega⟩
        · exact ⟨c, .inr (.inr (.inl ⟨oc.2 (by omega), rfl⟩)), by omega⟩
    obtain ⟨p, hp, hp1⟩ := lo
    obtain ⟨q, hq, hq1⟩ := hi
    by_cases heq : max (alongV a b a) (min (alongV a b c) (alongV a b d)) = min (alongV a b b) (max (alongV a b c) (alongV a b d))
    · unfold meetC
      rw [if_pos heq, K4_one hp fun r hr => by
        have h1 := on r hr
        exact line_inj hab h1.1 (on p hp).1 (by omega)]
      rfl
    · have h2 := K4_two hp hq (fun e => by subst e; omega)
      unfold meetC
      rw [if_neg heq, if_pos (by omega)]
      omega

theorem onP_one {a c : Pt} : onP a a c = true ↔ c = a := by
  rw [onP_iff]
  constructor
  · rintro ⟨_, h1, h2⟩
    have e1 : a.1 - c.1 = 0 := by
      by_cases h : a.1 - c.1 = 0
      · exact h
      · have := Int.mul_ne_zero h h; have := sq_nonneg (a.1 - c.1); omega
    have e2 : a.2 - c.2 = 0 := by
      by_cases h : a.2 - c.2 = 0
      · exact h
      · have := Int.mul_ne_zero h h; have := sq_nonneg (a.2 - c.2); omega
    exact Prod.ext (by omega) (by omega)
  · rintro rfl
    exact ⟨by unfold areaV; grind, by simp, by simp⟩
theorem onP_end {a d : Pt} : onP a d a = true := by rw [onP_iff]; exact ⟨area_a, by simp, by simp⟩

theorem meetC_left {a c d : Pt} : meetC a a c d = if onP c d a = true then 1 else 0 := by
  have hz : sd a a c = 0 := sd_zero.2 (by unfold areaV; grind)
  have on : ∀ p, Com a a c d p → onP c d a = true ∧ p = a := by
    rintro p (⟨h, rfl⟩ | ⟨h, rfl⟩ | ⟨h, rfl⟩ | ⟨h, rfl⟩)
    · exact ⟨h, rfl⟩
    · exact ⟨h, rfl⟩
    · have := onP_one.1 h; subst this; exact ⟨onP_end, rfl⟩
    · have := onP_one.1 h; subst this; exact ⟨by rw [onP_swap]; exact onP_end, rfl⟩
  unfold meetC
  by_cases h : onP c d a = true
  · rw [K4_one (p := a) (.inl ⟨h, rfl⟩) fun q hq => (on q hq).2, if_pos h]; rfl
  · rw [K4_zero fun p hp => h (on p hp).1, if_neg h]
    simp [hz]

theorem meetC_pair (a b c d : Pt) : meetC c d a b = meetC a b c d := by
  have e : (K4 c d a b).Perm (K4 a b c d) := (List.perm_ext_iff_of_nodup (nodup_K4 _ _ _ _) (nodup_K4 _ _ _ _)).2 fun x => by
    rw [mem_K4, mem_K4]
    refine exists_congr fun p => and_congr_left fun _ => ?_
    unfold Com
    grind
  unfold meetC
  rw [e.length_eq]
  congr 1
  simp only [and_comm]
theorem meetC_swap (a b c d : Pt) : meetC b a c d = meetC a b c d := by
  have e : (K4 b a c d).Perm (K4 a b c d) := (List.perm_ext_iff_of_nodup (nodup_K4 _ _ _ _) (nodup_K4 _ _ _ _)).2 fun x => by
    rw [mem_K4, mem_K4]
    refine exists_congr fun p => and_congr_left fun _ => ?_
    unfold Com
    rw [onP_swap a b c, onP_swap a b d]
    grind
  unfold meetC
  rw [e.length_eq]
  simp only [sd_area, cmpI_mul, area_swap a b, Int.neg_mul_neg, Int.mul_comm (areaV c d b)]
theorem meetC_right {a b c : Pt} : meetC a b c c = if onP a b c = true then 1 else 0 := by rw [← meetC_pair, meetC_left]

theorem meetV_C (a b c d : Pt) : meetV a b c d = if InB a ∧ InB b ∧ InB c ∧ InB d then meetC a b c d else 0 := rfl

theorem meet_eq (a b c d : Pt) : refMeetV a b c d = meetV a b c d := by
  rw [meetV_C]
  unfold refMeetV
  split
  · rename_i hin
    have hon : ∀ x y z : Pt, InB x → InB y → InB z → refOnV x y z = onP x y z := fun x y z h1 h2 h3 => by rw [on_eq, OnV, decide_eq_true ⟨h1, h2, h3⟩, Bool.true_and]
    rw [hon c d a hin.2.2.1 hin.2.2.2 hin.1, hon a b c hin.1 hin.2.1 hin.2.2.1]
    split
    · rename_i hab; subst hab; rw [meetC_left]
    · rename_i hab
      split
      · rename_i hcd; subst hcd; rw [meetC_right]
      · rename_i hcd
        simp only [cmpI_zero, cmpI_mul']
        by_cases hT : tm a b c d = 0
        · have d1 := area_diff a b c d
          split
          · rename_i hz; rw [meetC_line hab hcd hz.1 hz.2]
          · rename_i hz
            -- one beside the other
            have hne : areaV a b c ≠ 0 := by omega
            have hcd' : ∀ p, onP c d p = true → p = a ∨ p = b → False := fun p hp h => by
              have h1 := (onP_iff.1 hp).1
              have d2 := area_diff' a b c d
              have h2 : areaV c d a = 0 ∧ areaV c d b = 0 := by rcases h with rfl | rfl <;> omega
              exact hne (line_area hcd h2.1 h2.2 area_a)
            have hn : ∀ p, ¬ Com a b c d p := by
              rintro p (⟨h, rfl⟩ | ⟨h, rfl⟩ | ⟨h, rfl⟩ | ⟨h, rfl⟩)
              · exact hcd' _ h (.inl rfl)
              · exact hcd' _ h (.inr rfl)
              · exact hne (onP_iff.1 h).1
              · have := (onP_iff.1 h).1; omega
            have hq : areaV a b d = areaV a b c := by omega
            have hp := sq_nonneg (areaV a b c)
            have hp' := Int.mul_ne_zero hne hne
            unfold meetC
            rw [K4_zero hn]
            simp only [sd_area, cmpI_mul, Nat.lt_irrefl, if_false]
            rw [if_neg (fun h => by have h := h.1; rw [hq] at h; omega), if_neg (fun h => by have h := h.1; rw [hq] at h; omega)]
        · rw [meetC_cross hT, if_neg]
          have d1 := area_diff a b c d
          omega
  · rfl

def g3 (x y w : Int) : Nat := Nat.gcd (Nat.gcd x.natAbs y.natAbs) w.natAbs
theorem gcdN3 (x y w : Int) : gcdN [x, y, w] = g3 x y w := by simp [gcdN, g3]
theorem gcdN2 (x y : Int) : gcdN [x, y] = Nat.gcd x.natAbs y.natAbs := by simp [gcdN]
theorem g3_dvd (x y w : Int) : (g3 x y w : Int) ∣ x ∧ (g3 x y w : Int) ∣ y ∧ (g3 x y w : Int) ∣ w := by
  unfold g3
  exact ⟨Int.ofNat_dvd_left.2 (Nat.dvd_trans (Nat.gcd_dvd_left _ _) (Nat.gcd_dvd_left _ _)), Int.ofNat_dvd_left.2 (Nat.dvd_trans (Nat.gcd_dvd_left _ _) (Nat.gcd_dvd_right _ _)), Int.ofNat_dvd_left.2 (Nat.gcd_dvd_right _ _)⟩
theorem g3_mul (k : Int) (x y w : Int) : g3 (k * x) (k * y) (k * w) = k.natAbs * g3 x y w := by
  simp only [g3, Int.natAbs_mul, Nat.gcd_mul_left]

/-- A point, told as shortly as can be: x/w, y/w of A/u, B/u. -/
structure Short (A B u : Int) (r : Int × Int × Int) : Prop where
  pos : 0 < r.2.2
  one : g3 r.1 r.2.1 r.2.2 = 1
  x : r.1 * u = r.2.2 * A
  y : r.2.1 * u = r.2.2 * B

theorem short_dvd {A B u : Int} (hu : u ≠ 0) {r s : Int × Int × Int} (h : Short A B u r) (k : Short A B u s) : r.2.2 ∣ s.2.2 := by
  have e1 : s.2.2 * r.1 = r.2.2 * s.1 := by
    have h1 := h.x; have h2 := k.x
    have : u * (s.2.2 * r.1) = u * (r.2.2 * s.1) := by grind
    exact Int.eq_of_mul_eq_mul_left hu this
  have e2 : s.2.2 * r.2.1 = r.2.2 * s.2.1 := by
    have h1 := h.y; have h2 := k.y
    have : u * (s.2.2 * r.2.1) = u * (r.2.2 * s.2.1) := by grind
    exact Int.eq_of_mul_eq_mul_left hu this
  have e3 := g3_mul s.2.2 r.1 r.2.1 r.2.2
  rw [h.one, Nat.mul_one, e1, e2, Int.mul_comm s.2.2 r.2.2, g3_mul] at e3
  rw [← Int.natAbs_dvd_natAbs, ← e3]
  exact Nat.dvd_mul_right _ _
theorem short_one {A B u : Int} (hu : u ≠ 0) {r s : Int × Int × Int} (h : Short A B u r) (k : Short A B u s) : r = s := by
  have hw : r.2.2 = s.2.2 := Int.dvd_antisymm (by have := h.pos; omega) (by have := k.pos; omega) (short_dvd hu h k) (short_dvd hu k h)
  have e1 : r.1 = s.1 := Int.eq_of_mul_eq_mul_right hu (by rw [h.x, k.x, hw])
  have e2 : r.2.1 = s.2.1 := Int.eq_of_mul_eq_mul_right hu (by rw [h.y, k.y, hw])
  exact Prod.ext e1 (Prod.ext e2 hw)
theorem Short.scale {A B u k : Int} (hk : k ≠ 0) {r : Int × Int × Int} : Short (k * A) (k * B) (k * u) r ↔ Short A B u r := by
  constructor
  · intro h
    exact ⟨h.pos, h.one, Int.eq_of_mul_eq_mul_left hk (by have := h.x; grind), Int.eq_of_mul_eq_mul_left hk (by have := h.y; grind)⟩
  · intro h
    exact ⟨h.pos, h.one, by have := h.x; grind, by have := h.y; grind⟩

theorem frac_short (a b : Pt) {u t : Int} (hu : 0 < u) : Short (a.1 * u + (b.1 - a.1) * t) (a.2 * u + (b.2 - a.2) * t) u (frac a b u t) := by
  obtain ⟨⟨u', hu'⟩, ⟨t', ht'⟩⟩ := gcdN_dvd2 u t
  have hg := gcdN2_pos (v := t) (show u ≠ 0 by omega)
  have hg0 : (gcdN [u, t] : Int) ≠ 0 := by omega
  unfold frac
  generalize gcdN [u, t] = g at *
  subst hu' ht'
  simp only [Int.mul_tdiv_cancel_left _ hg0]
  have hup : 0 < u' := by
    refine Int.not_le.1 fun h => ?_
    have := Int.mul_nonpos_of_nonneg_of_nonpos (show (0 : Int) ≤ g by omega) h
    omega
  rw [show a.1 * (↑g * u') + (b.1 - a.1) * (↑g * t') = g * (a.1 * u' + (b.1 - a.1) * t') by grind, show a.2 * (↑g * u') + (b.2 - a.2) * (↑g * t') = g * (a.2 * u' + (b.2 - a.2) * t') by grind, Short.scale hg0]
  generalize a.1 * u' + (b.1 - a.1) * t' = x
  generalize a.2 * u' + (b.2 - a.2) * t' = y
  have hm := gcdN3_pos (u := x) (v := y) (show u' ≠ 0 by omega)
  rw [gcdN3] at *
  obtain ⟨⟨x', hx'⟩, ⟨y', hy'⟩, ⟨w', hw'⟩⟩ := g3_dvd x y u'
  generalize hG : g3 x y u' = m at *
  subst hx' hy' hw'
  have hm0 : (m : Int) ≠ 0 := by omega
  rw [Int.mul_tdiv_cancel_left _ hm0, Int.mul_tdiv_cancel_left _ hm0, Int.mul_tdiv_cancel_left _ hm0]
  refine ⟨?_, ?_, ?_, ?_⟩
  · refine Int.not_le.1 fun h => ?_
    simp only at h
    have := Int.mul_nonpos_of_nonneg_of_nonpos (show (0 : Int) ≤ m by omega) h
    omega
  · rw [g3_mul, Int.natAbs_natCast] at hG
    exact Nat.eq_of_mul_eq_mul_left (show 0 < m by omega) (by rw [hG, Nat.mul_one])
  · simp only; grind
  · simp only; grind

/-- Where two lines cross. -/
def crX (a b c d : Pt) : Int := a.1 * tm a b c d + (b.1 - a.1) * tm a c c d
def crY (a b c d : Pt) : Int := a.2 * tm a b c d + (b.2 - a.2) * tm a c c d
theorem cr_turn (a b c d : Pt) : crX d c a b = crX a b c d ∧ crY d c a b = crY a b c d ∧ tm d c a b = tm a b c d := by
  unfold crX crY tm
  refine ⟨?_, ?_, ?_⟩ <;> grind

theorem where_cross {a b c d : Pt} (hm : meetV a b c d = 1) (hT : tm a b c d ≠ 0) : (whereV a b c d).2 = true ∧ Short (crX a b c d) (crY a b c d) (tm a b c d) (whereV a b c d).1 := by
  unfold whereV
  rw [if_pos hm, if_neg hT]
  split
  · rename_i h
    refine ⟨rfl, ?_⟩
    have := frac_short a b (u := -tm a b c d) (t := -tm a c c d) (by omega)
    refine (Short.scale (k := -1) (by omega)).1 ?_
    unfold crX crY
    rw [show -1 * (a.1 * tm a b c d + (b.1 - a.1) * tm a c c d) = a.1 * -tm a b c d + (b.1 - a.1) * -tm a c c d by grind, show -1 * (a.2 * tm a b c d + (b.2 - a.2) * tm a c c d) = a.2 * -tm a b c d + (b.2 - a.2) * -tm a c c d by grind, show -1 * tm a b c d = -tm a b c d by omega]
    exact this
  · exact ⟨rfl, frac_short a b (by omega)⟩

theorem K4_single {a b c d p q : Pt} (h : (K4 a b c d).length = 1) (hp : Com a b c d p) (hq : Com a b c d q) : p = q := by
  by_cases e : p = q
  · exact e
  · have := K4_two hp hq e; omega
theorem K4_some {a b c d : Pt} (h : (K4 a b c d).length = 1) : ∃ p, Com a b c d p := by
  obtain ⟨x, hx⟩ := List.exists_mem_of_length_pos (l := K4 a b c d) (by omega)
  obtain ⟨p, hp, _⟩ := mem_K4.1 hx
  exact ⟨p, hp⟩
theorem meet_par {a b c d : Pt} (hm : meetV a b c d = 1) (hT : tm a b c d = 0) : (K4 a b c d).length = 1 := by
  rw [meetV_C] at hm
  split at hm
  · unfold meetC at hm
    have := par hT
    split at hm
    · omega
    · rw [if_neg (fun h => this h.1)] at hm; omega
  · omega
theorem where_par {a b c d p : Pt} (hm : meetV a b c d = 1) (hT : tm a b c d = 0) (hp : Com a b c d p) : whereV a b c d = ((p.1, p.2, 1), true) := by
  have h1 := meet_par hm hT
  unfold whereV
  rw [if_pos hm, if_pos hT]
  by_cases ha : onP c d a = true
  · rw [if_pos ha, K4_single h1 (.inl ⟨ha, rfl⟩) hp]
  rw [if_neg ha]
  by_cases hb : onP c d b = true
  · rw [if_pos hb, K4_single h1 (.inr (.inl ⟨hb, rfl⟩)) hp]
  rw [if_neg hb]
  by_cases hc : onP a b c = true
  · rw [if_pos hc, K4_single h1 (.inr (.inr (.inl ⟨hc, rfl⟩))) hp]
  rw [if_neg hc]
  rcases hp with ⟨h, rfl⟩ | ⟨h, rfl⟩ | ⟨h, rfl⟩ | ⟨h, rfl⟩
  · exact absurd h ha
  · exact absurd h hb
  · exact absurd h hc
  · rfl
theorem com_turn {a b c d p : Pt} : Com d c a b p ↔ Com a b c d p := by
  unfold Com
  rw [onP_swap c d a, onP_swap c d b]
  grind
theorem meetV_turn (a b c d : Pt) : meetV d c a b = meetV a b c d := by
  rw [meetV_C, meetV_C, meetC_swap, meetC_pair]
  congr 1
  rw [eq_iff_iff]
  grind
theorem where_turn (a b c d : Pt) : whereV d c a b = whereV a b c d := by
  by_cases hm : meetV a b c d = 1
  · have hm' : meetV d c a b = 1 := by rw [meetV_turn]; exact hm
    obtain ⟨e1, e2, e3⟩ := cr_turn a b c d
    by_cases hT : tm a b c d = 0
    · obtain ⟨p, hp⟩ := K4_some (meet_par hm hT)
      rw [where_par hm hT hp, where_par hm' (by omega) (com_turn.2 hp)]
    · obtain ⟨f1, f2⟩ := where_cross hm hT
      obtain ⟨f3, f4⟩ := where_cross hm' (by omega)
      rw [e1, e2, e3] at f4
      exact Prod.ext (short_one hT f4 f2) (by rw [f1, f3])
  · have hm' : ¬ meetV d c a b = 1 := by rw [meetV_turn]; exact hm
    unfold whereV
    rw [if_neg hm, if_neg hm']

/-- All points moved alike, or mirrored. -/
theorem K4_le {f : Pt → Pt} {G : List Int → List Int} (hG : ∀ p, G (key p) = key (f p)) (hon : ∀ x y z, onP (f x) (f y) (f z) = onP x y z) (a b c d : Pt) : (K4 (f a) (f b) (f c) (f d)).length ≤ (K4 a b c d).length := by
  have := List.Nodup.length_le_of_subset (l₁ := K4 (f a) (f b) (f c) (f d)) (l₂ := (K4 a b c d).map G) (nodup_K4 _ _ _ _) (by
    intro x hx
    obtain ⟨p, hp, rfl⟩ := mem_K4.1 hx
    have : ∃ q, Com a b c d q ∧ p = f q := by
      unfold Com at hp ⊢
      simp only [hon] at hp
      rcases hp with ⟨h, rfl⟩ | ⟨h, rfl⟩ | ⟨h, rfl⟩ | ⟨h, rfl⟩
      · exact ⟨a, .inl ⟨h, rfl⟩, rfl⟩
      · exact ⟨b, .inr (.inl ⟨h, rfl⟩), rfl⟩
      · exact ⟨c, .inr (.inr (.inl ⟨h, rfl⟩)), rfl⟩
      · exact ⟨d, .inr (.inr (.inr ⟨h, rfl⟩)), rfl⟩
    obtain ⟨q, hq, rfl⟩ := this
    rw [← hG]
    exact List.mem_map.2 ⟨_, mem_K4.2 ⟨q, hq, rfl⟩, rfl⟩)
  simpa using this
def mv (v p : Pt) : Pt := (p.1 + v.1, p.2 + v.2)
def mi (p : Pt) : Pt := (-p.1, p.2)
theorem tm_mv (v a b c d : Pt) : tm (mv v a) (mv v b) (mv v c) (mv v d) = tm a b c d := by unfold tm mv; grind
theorem tm_mi (a b c d : Pt) : tm (mi a) (mi b) (mi c) (mi d) = -tm a b c d := by unfold tm mi; grind
theorem cmpI_neg (n : Int) : cmpI (-n) 0 = -cmpI n 0 := by unfold cmpI; repeat' split <;> omega
theorem sd_mv (v a b c : Pt) : sd (mv v a) (mv v b) (mv v c) = sd a b c := by unfold sd; rw [tm_mv]
theorem sd_mi (a b c : Pt) : sd (mi a) (mi b) (mi c) = -sd a b c := by unfold sd; rw [tm_mi, cmpI_neg]
theorem onP_mv (v a b c : Pt) : onP (mv v a) (mv v b) (mv v c) = onP a b c := by
  unfold onP; rw [sd_mv, within_iff, within_iff, within_iff, within_iff]
  unfold mv
  congr 3
  · rw [show a.1 + v.1 - (c.1 + v.1) = a.1 - c.1 by omega, show b.1 + v.1 - (c.1 + v.1) = b.1 - c.1 by omega]
  · rw [show a.2 + v.2 - (c.2 + v.2) = a.2 - c.2 by omega, show b.2 + v.2 - (c.2 + v.2) = b.2 - c.2 by omega]
theorem onP_mi (a b c : Pt) : onP (mi a) (mi b) (mi c) = onP a b c := by
  unfold onP; rw [sd_mi, within_iff, within_iff, within_iff, within_iff]
  unfold mi
  have e : (-a.1 - -c.1) * (-b.1 - -c.1) = (a.1 - c.1) * (b.1 - c.1) := by grind
  simp only [e, Int.neg_eq_zero]
theorem mv_back (v p : Pt) : mv (-v.1, -v.2) (mv v p) = p := by unfold mv; ext <;> simp <;> omega
theorem mi_back (p : Pt) : mi (mi p) = p := by unfold mi; ext <;> simp
theorem K4_mv (v a b c d : Pt) : (K4 (mv v a) (mv v b) (mv v c) (mv v d)).length = (K4 a b c d).length := by
  refine Nat.le_antisymm (K4_le (G := fun l => [l.getD 0 0 + v.1, l.getD 1 0 + v.2]) (fun p => by simp [key, mv]) (onP_mv v) a b c d) ?_
  have := K4_le (f := mv (-v.1, -v.2)) (G := fun l => [l.getD 0 0 + -v.1, l.getD 1 0 + -v.2]) (fun p => by simp [key, mv]) (onP_mv _) (mv v a) (mv v b) (mv v c) (mv v d)
  simpa only [mv_back] using this
theorem K4_mi (a b c d : Pt) : (K4 (mi a) (mi b) (mi c) (mi d)).length = (K4 a b c d).length := by
  refine Nat.le_antisymm (K4_le (G := fun l => [-l.getD 0 0, l.getD 1 0]) (fun p => by simp [key, mi]) onP_mi a b c d) ?_
  have := K4_le (f := mi) (G := fun l => [-l.getD 0 0, l.getD 1 0]) (fun p => by simp [key, mi]) onP_mi (mi a) (mi b) (mi c) (mi d)
  simpa only [mi_back] using this
theorem meetC_mv (v a b c d : Pt) : meetC (mv v a) (mv v b) (mv v c) (mv v d) = meetC a b c d := by unfold meetC; simp only [K4_mv, sd_mv]
theorem meetC_mi (a b c d : Pt) : meetC (mi a) (mi b) (mi c) (mi d) = meetC a b c d := by unfold meetC; simp only [K4_mi, sd_mi, Int.neg_mul_neg]
theorem sd_swap (a b c : Pt) : sd b a c = -sd a b c := by rw [sd_area, sd_area, area_swap, cmpI_neg]
theorem sd_turn (a b c : Pt) : sd b c a = sd a b c := by rw [sd_area, sd_area]; congr 1; unfold areaV; grind

/-- Three numbers each, of one sum: the plain law of CrossTriangle. -/
theorem tri_half {D1 D2 D3 E1 E2 E3 Q M1 M2 M3 : Int} (hD : D1 + D2 + D3 = Q) (hE : E1 + E2 + E3 = Q) (hQ : 0 < Q) (m1 : M1 = D2 * E3 - D3 * E2) (m2 : M2 = D3 * E1 - D1 * E3) (m3 : M3 = D1 * E2 - D2 * E1)
    (oE : ¬ (0 ≤ E1 ∧ 0 ≤ E2 ∧ 0 ≤ E3)) (H3 : M3 = 0 → ¬ (D1 * E1 < 0 ∧ D2 * E2 < 0)) (h3 : D3 < 0) (k3 : 0 < E3) (hM : M1 * M2 < 0) :
    ((D1 * E1 < 0 ∧ M2 * M3 < 0) ∧ ¬ (D2 * E2 < 0 ∧ M3 * M1 < 0)) ∨ (¬ (D1 * E1 < 0 ∧ M2 * M3 < 0) ∧ (D2 * E2 < 0 ∧ M3 * M1 < 0)) := by
  have s0 : M1 - M2 = Q * (E3 - D3) := by subst m1 m2; grind
  have s1 : 0 < Q * (E3 - D3) := Int.mul_pos hQ (by omega)
  have p1 : 0 < M1 ∧ M2 < 0 := by
    rcases Int.lt_trichotomy M1 0 with h | h | h
    · have : M2 < 0 := by omega
      have := Int.mul_pos_of_neg_of_neg h this; omega
    · subst h; simp at hM
    · refine ⟨h, Int.not_le.1 fun h' => ?_⟩
      have := Int.mul_nonneg (show 0 ≤ M1 by omega) h'; omega
  obtain ⟨p1, p2⟩ := p1
  have s2 : E3 * M3 = -E1 * M1 - E2 * M2 := by subst m1 m2 m3; grind
  have d1 : E1 < 0 → 0 < D1 := fun h => by
    have a1 := Int.mul_pos_of_neg_of_neg h3 h
    refine Int.not_le.1 fun h' => ?_
    have := Int.mul_nonpos_of_nonpos_of_nonneg h' (show 0 ≤ E3 by omega); omega
  have d2 : E2 < 0 → 0 < D2 := fun h => by
    have a1 := Int.mul_pos_of_neg_of_neg h3 h
    refine Int.not_le.1 fun h' => ?_
    have := Int.mul_nonpos_of_nonpos_of_nonneg h' (show 0 ≤ E3 by omega); omega
  have pos : 0 < M3 → M2 * M3 < 0 ∧ ¬ M3 * M1 < 0 := fun h => ⟨Int.mul_neg_of_neg_of_pos p2 h, by have := Int.mul_pos h p1; omega⟩
  have neg : M3 < 0 → ¬ M2 * M3 < 0 ∧ M3 * M1 < 0 := fun h => ⟨by have := Int.mul_pos_of_neg_of_neg p2 h; omega, Int.mul_neg_of_neg_of_pos h p1⟩
  by_cases h1 : E1 < 0
  · have e1 := Int.mul_neg_of_pos_of_neg (d1 h1) h1
    by_cases h2 : E2 < 0
    · have e2 := Int.mul_neg_of_pos_of_neg (d2 h2) h2
      rcases Int.lt_trichotomy M3 0 with h | h | h
      · have := neg h; exact .inr ⟨fun h => this.1 h.2, e2, this.2⟩
      · exact absurd ⟨e1, e2⟩ (H3 h)
      · have := pos h; exact .inl ⟨⟨e1, this.1⟩, fun h => this.2 h.2⟩
    · have a1 := Int.mul_pos (show 0 < -E1 by omega) p1
      have a2 := Int.mul_nonpos_of_nonneg_of_nonpos (show 0 ≤ E2 by omega) (show M2 ≤ 0 by omega)
      have : 0 < M3 := by
        refine Int.not_le.1 fun h' => ?_
        have := Int.mul_nonpos_of_nonneg_of_nonpos (show 0 ≤ E3 by omega) h'; omega
      have := pos this; exact .inl ⟨⟨e1, this.1⟩, fun h => this.2 h.2⟩
  · have h2 : E2 < 0 := by omega
    have e2 := Int.mul_neg_of_pos_of_neg (d2 h2) h2
    have a1 := Int.mul_nonpos_of_nonpos_of_nonneg (show -E1 ≤ 0 by omega) (show 0 ≤ M1 by omega)
    have a2 := Int.mul_pos_of_neg_of_neg h2 p2
    have : M3 < 0 := by
      refine Int.not_le.1 fun h' => ?_
      have := Int.mul_nonneg (show 0 ≤ E3 by omega) h'; omega
    have := neg this; exact .inr ⟨fun h => this.1 h.2, e2, this.2⟩

theorem tri_one {D1 D2 D3 E1 E2 E3 Q M1 M2 M3 : Int} (hD : D1 + D2 + D3 = Q) (hE : E1 + E2 + E3 = Q) (hQ : 0 < Q) (m1 : M1 = D2 * E3 - D3 * E2) (m2 : M2 = D3 * E1 - D1 * E3) (m3 : M3 = D1 * E2 - D2 * E1)
    (oD : ¬ (0 ≤ D1 ∧ 0 ≤ D2 ∧ 0 ≤ D3)) (oE : ¬ (0 ≤ E1 ∧ 0 ≤ E2 ∧ 0 ≤ E3)) (H3 : M3 = 0 → ¬ (D1 * E1 < 0 ∧ D2 * E2 < 0)) (h3 : D3 * E3 < 0) (hM : M1 * M2 < 0) :
    ((D1 * E1 < 0 ∧ M2 * M3 < 0) ∧ ¬ (D2 * E2 < 0 ∧ M3 * M1 < 0)) ∨ (¬ (D1 * E1 < 0 ∧ M2 * M3 < 0) ∧ (D2 * E2 < 0 ∧ M3 * M1 < 0)) := by
  rcases Int.lt_trichotomy D3 0 with h | h | h
  · have k : 0 < E3 := Int.not_le.1 fun h' => by have := Int.mul_nonneg_of_nonpos_of_nonpos (show D3 ≤ 0 by omega) h'; omega
    exact tri_half hD hE hQ m1 m2 m3 oE H3 h k hM
  · subst h; simp at h3
  · have k : E3 < 0 := Int.not_le.1 fun h' => by have := Int.mul_nonneg (show 0 ≤ D3 by omega) h'; omega
    have := tri_half (M1 := -M1) (M2 := -M2) (M3 := -M3) hE hD hQ (by subst m1; grind) (by subst m2; grind) (by subst m3; grind) oD (fun h0 h1 => H3 (by omega) ⟨by rw [Int.mul_comm]; exact h1.1, by rw [Int.mul_comm]; exact h1.2⟩) k h (by rw [Int.neg_mul_neg]; exact hM)
    simpa only [Int.neg_mul_neg, Int.mul_comm E1, Int.mul_comm E2] using this

section
variable {a b c d e : Pt}
theorem bary_sum (p : Pt) : areaV b c p + areaV c a p + areaV a b p = areaV a b c := by unfold areaV; grind
theorem bary_a : areaV a b c * areaV d e a = areaV c a d * areaV a b e - areaV a b d * areaV c a e := by unfold areaV; grind
theorem area_rot (a b c : Pt) : areaV b c a = areaV a b c := by unfold areaV; grind

def Inside (a b c p : Pt) : Prop := 0 ≤ sd a b p * sd a b c ∧ 0 ≤ sd b c p * sd a b c ∧ 0 ≤ sd c a p * sd a b c
theorem sd_nonneg {u v : Int} : 0 ≤ cmpI u 0 * cmpI v 0 ↔ 0 ≤ v * u := by
  have := cmpI_mul u v
  rw [Int.mul_comm v u]
  omega
theorem inside_iff {p : Pt} : Inside a b c p ↔ 0 ≤ areaV a b c * areaV a b p ∧ 0 ≤ areaV a b c * areaV b c p ∧ 0 ≤ areaV a b c * areaV c a p := by
  unfold Inside; simp only [sd_area, sd_nonneg]

theorem ne_of_area (hS : areaV a b c ≠ 0) : a ≠ b := fun h => hS (by subst h; unfold areaV; grind)

/-- On an edge is in the triangle. -/
theorem edge_inside (hS : areaV a b c ≠ 0) (h : onP a b d = true) : Inside a b c d := by
  have hab := ne_of_area hS
  have hz := (onP_iff.1 h).1
  have hN := along_pos hab
  have h1 := (on_line hab area_a area_b hz).1 h
  rw [along_a] at h1
  have k1 : areaV b c d * alongV a b b = areaV a b c * (alongV a b b - alongV a b d) := by unfold areaV at *; unfold alongV; grind
  have k2 : areaV c a d * alongV a b b = areaV a b c * alongV a b d := by unfold areaV at *; unfold alongV; grind
  have hq := sq_nonneg (areaV a b c)
  rw [inside_iff, hz]
  have pos : ∀ {x y n : Int}, 0 < n → 0 ≤ y → x * n = areaV a b c * y → 0 ≤ areaV a b c * x := fun {x y n} hn hy hx => by
    refine Int.not_lt.1 fun h => ?_
    have h2 := Int.mul_neg_of_neg_of_pos h hn
    have h3 : areaV a b c * x * n = (areaV a b c * areaV a b c) * y := by rw [Int.mul_assoc, hx, Int.mul_assoc]
    have h4 := Int.mul_nonneg hq hy
    omega
  exact ⟨by simp, pos hN (by omega) k1, pos hN (by omega) k2⟩
theorem inside_rot {p : Pt} : Inside b c a p ↔ Inside a b c p := by
  unfold Inside
  rw [sd_turn a b c]
  grind

theorem meet_edge (h1 : ¬ onP d e a = true) (h2 : ¬ onP d e b = true) (h3 : ¬ onP a b d = true) (h4 : ¬ onP a b e = true) :
    meetC a b d e = if areaV a b d * areaV a b e < 0 ∧ areaV d e a * areaV d e b < 0 then 1 else 0 := by
  unfold meetC
  rw [K4_zero (by rintro p (⟨h, _⟩ | ⟨h, _⟩ | ⟨h, _⟩ | ⟨h, _⟩) <;> contradiction)]
  simp only [Nat.lt_irrefl, if_false, sd_area, cmpI_mul]

/-- Where a line goes through a corner, between its two ends. -/
theorem corner_on (h0 : areaV d e c = 0) (h : areaV b c d * areaV b c e < 0) : onP d e c = true := by
  have hd := area_diff c b d e
  have e1 := area_swap b c d
  have e2 := area_swap b c e
  have hT : tm c b d e ≠ 0 := fun h' => by
    have : areaV b c d = areaV b c e := by omega
    rw [this] at h
    have := sq_nonneg (areaV b c e); omega
  rw [on_cross hT]
  refine ⟨h0, ?_⟩
  rw [e1, e2, Int.neg_mul_neg]; omega

theorem neg_sq {S x y : Int} (hS : S ≠ 0) : (S * x) * (S * y) < 0 ↔ x * y < 0 := by
  have h1 := sq_nonneg S
  have h2 := Int.mul_ne_zero hS hS
  have e : (S * x) * (S * y) = (S * S) * (x * y) := by grind
  rw [e]
  constructor
  · intro h
    refine Int.not_le.1 fun h' => ?_
    have := Int.mul_nonneg h1 h'; omega
  · exact fun h => Int.mul_neg_of_pos_of_neg (by omega) h

theorem tri_cyc (hS : areaV a b c ≠ 0) (id : ¬ Inside a b c d) (ie : ¬ Inside a b c e) (nc : ¬ onP d e c = true) (h3 : areaV a b d * areaV a b e < 0) (hM : areaV d e a * areaV d e b < 0) :
    ((areaV b c d * areaV b c e < 0 ∧ areaV d e b * areaV d e c < 0) ∧ ¬ (areaV c a d * areaV c a e < 0 ∧ areaV d e c * areaV d e a < 0)) ∨
    (¬ (areaV b c d * areaV b c e < 0 ∧ areaV d e b * areaV d e c < 0) ∧ (areaV c a d * areaV c a e < 0 ∧ areaV d e c * areaV d e a < 0)) := by
  have b1 := bary_a (a := a) (b := b) (c := c) (d := d) (e := e)
  have b2 := bary_a (a := b) (b := c) (c := a) (d := d) (e := e)
  have b3 := bary_a (a := c) (b := a) (c := b) (d := d) (e := e)
  rw [area_rot a b c] at b2
  rw [← area_rot c a b] at b3
  have sd' := bary_sum (a := a) (b := b) (c := c) d
  have se' := bary_sum (a := a) (b := b) (c := c) e
  rw [inside_iff] at id ie
  generalize hs : areaV a b c = S at *
  have hQ : 0 < S * S := by have := sq_nonneg S; have := Int.mul_ne_zero hS hS; omega
  have h3S : S * S * S ≠ 0 := Int.mul_ne_zero (Int.mul_ne_zero hS hS) hS
  have := tri_one (D1 := S * areaV b c d) (D2 := S * areaV c a d) (D3 := S * areaV a b d) (E1 := S * areaV b c e) (E2 := S * areaV c a e) (E3 := S * areaV a b e) (Q := S * S)
    (M1 := S * S * S * areaV d e a) (M2 := S * S * S * areaV d e b) (M3 := S * S * S * areaV d e c)
    (by rw [← Int.mul_add, ← Int.mul_add, sd']) (by rw [← Int.mul_add, ← Int.mul_add, se']) hQ (by grind) (by grind) (by grind) (by omega) (by omega)
    (fun h0 h1 => by
      rw [neg_sq hS, neg_sq hS] at h1
      exact nc (corner_on ((Int.mul_eq_zero.1 h0).resolve_left h3S) h1.1))
    ((neg_sq hS).2 h3) ((neg_sq h3S).2 hM)
  simpa only [neg_sq hS, neg_sq h3S] using this

theorem tri_law (hS : areaV a b c ≠ 0) (id : ¬ Inside a b c d) (ie : ¬ Inside a b c e) (na : ¬ onP d e a = true) (nb : ¬ onP d e b = true) (nc : ¬ onP d e c = true) :
    meetC a b d e + meetC b c d e + meetC c a d e = 0 ∨ meetC a b d e + meetC b c d e + meetC c a d e = 2 := by
  have hS1 : areaV b c a ≠ 0 := by rw [area_rot]; exact hS
  have hS2 : areaV c a b ≠ 0 := by rw [← area_rot]; exact hS
  have i1 : ∀ {p}, Inside b c a p → Inside a b c p := inside_rot.1
  have i2 : ∀ {p}, Inside c a b p → Inside a b c p := fun h => inside_rot.2 h
  rw [meet_edge na nb (fun h => id (edge_inside hS h)) (fun h => ie (edge_inside hS h)), meet_edge nb nc (fun h => id (i1 (edge_inside hS1 h))) (fun h => ie (i1 (edge_inside hS1 h))),
    meet_edge nc na (fun h => id (i2 (edge_inside hS2 h))) (fun h => ie (i2 (edge_inside hS2 h)))]
  by_cases k3 : areaV a b d * areaV a b e < 0 ∧ areaV d e a * areaV d e b < 0
  · rcases tri_cyc hS id ie nc k3.1 k3.2 with ⟨h1, h2⟩ | ⟨h1, h2⟩
    · rw [if_pos k3, if_pos h1, if_neg h2]; simp
    · rw [if_pos k3, if_neg h1, if_pos h2]; simp
  · by_cases k1 : areaV b c d * areaV b c e < 0 ∧ areaV d e b * areaV d e c < 0
    · rcases tri_cyc hS1 (fun h => id (i1 h)) (fun h => ie (i1 h)) na k1.1 k1.2 with ⟨h1, h2⟩ | ⟨h1, h2⟩
      · rw [if_neg k3, if_pos k1, if_pos h1]; simp
      · exact absurd h2 k3
    · by_cases k2 : areaV c a d * areaV c a e < 0 ∧ areaV d e c * areaV d e a < 0
      · rcases tri_cyc hS2 (fun h => id (i2 h)) (fun h => ie (i2 h)) nb k2.1 k2.2 with ⟨h1, h2⟩ | ⟨h1, h2⟩
        · exact absurd h1 k3
        · exact absurd h2 k1
      · rw [if_neg k3, if_neg k1, if_neg k2]; simp
end

/-- The point x/w, y/w is one of the piece from a to b. -/
structure OnFrac (a b : Pt) (r : Int × Int × Int) : Prop where
  x : min a.1 b.1 * r.2.2 ≤ r.1 ∧ r.1 ≤ max a.1 b.1 * r.2.2
  y : min a.2 b.2 * r.2.2 ≤ r.2.1 ∧ r.2.1 ≤ max a.2 b.2 * r.2.2
  line : (a.1 * b.2 - a.2 * b.1) * r.2.2 + (a.2 - b.2) * r.1 + (b.1 - a.1) * r.2.1 = 0

theorem between {p q x w : Int} (hw : 0 < w) (h : (x - p * w) * (x - q * w) ≤ 0) : min p q * w ≤ x ∧ x ≤ max p q * w := by
  have e := (mul_neg_iff (u := x - p * w) (v := x - q * w)).2 h
  have hm : min p q * w = min (p * w) (q * w) := by
    by_cases hpq : p ≤ q
    · have := Int.mul_le_mul_of_nonneg_right hpq (show 0 ≤ w by omega); rw [Int.min_eq_left hpq, Int.min_eq_left this]
    · have := Int.mul_le_mul_of_nonneg_right (show q ≤ p by omega) (show 0 ≤ w by omega); rw [Int.min_eq_right (by omega), Int.min_eq_right this]
  have hM : max p q * w = max (p * w) (q * w) := by
    by_cases hpq : p ≤ q
    · have := Int.mul_le_mul_of_nonneg_right hpq (show 0 ≤ w by omega); rw [Int.max_eq_right hpq, Int.max_eq_right this]
    · have := Int.mul_le_mul_of_nonneg_right (show q ≤ p by omega) (show 0 ≤ w by omega); rw [Int.max_eq_left (by omega), Int.max_eq_left this]
  omega

theorem crx_area (a b c d : Pt) : crX a b c d = a.1 * tm a b c d + (b.1 - a.1) * areaV c d a := by unfold crX areaV tm; grind
theorem cry_area (a b c d : Pt) : crY a b c d = a.2 * tm a b c d + (b.2 - a.2) * areaV c d a := by unfold crY areaV tm; grind

theorem short_sq {T w x p q R S A : Int} (hx : x * T = w * A) (hA : A = p * T + (q - p) * R) (hS : R - S = T) : ((x - p * w) * (x - q * w)) * (T * T) = (R * S) * ((w * (q - p)) * (w * (q - p))) := by
  have k1 : (x - p * w) * T = w * (q - p) * R := by grind
  have k2 : (x - q * w) * T = w * (q - p) * S := by grind
  grind

theorem short_on {a b c d : Pt} {r : Int × Int × Int} (hT : tm a b c d ≠ 0) (hr : Short (crX a b c d) (crY a b c d) (tm a b c d) r) (h : areaV c d a * areaV c d b ≤ 0) : OnFrac a b r := by
  have d2 := area_diff' a b c d
  refine ⟨between hr.pos ?_, between hr.pos ?_, ?_⟩
  · exact mul_sq_nonpos hT (short_sq hr.x (crx_area a b c d) d2 ▸ nonpos_mul_sq h)
  · exact mul_sq_nonpos hT (short_sq hr.y (cry_area a b c d) d2 ▸ nonpos_mul_sq h)
  · have h1 := hr.x
    have h2 := hr.y
    have e : (a.1 * b.2 - a.2 * b.1) * tm a b c d + (a.2 - b.2) * crX a b c d + (b.1 - a.1) * crY a b c d = 0 := by unfold crX crY; grind
    have : tm a b c d * ((a.1 * b.2 - a.2 * b.1) * r.2.2 + (a.2 - b.2) * r.1 + (b.1 - a.1) * r.2.1) = 0 := by
      generalize tm a b c d = T at *
      generalize crX a b c d = A at *
      generalize crY a b c d = B at *
      grind
    exact (Int.mul_eq_zero.1 this).resolve_left hT

theorem short_le {A B u : Int} (hu : u ≠ 0) {r : Int × Int × Int} (h : Short A B u r) : r.2.2 ≤ u.natAbs := by
  have e := g3_mul u r.1 r.2.1 r.2.2
  rw [h.one, Nat.mul_one, Int.mul_comm u r.1, Int.mul_comm u r.2.1, Int.mul_comm u r.2.2, h.x, h.y, g3_mul] at e
  have h1 : r.2.2.natAbs ∣ u.natAbs := ⟨_, e.symm⟩
  have := Nat.le_of_dvd (by omega) h1
  have := h.pos
  omega

theorem OnFrac.swap {a b : Pt} {r : Int × Int × Int} (h : OnFrac a b r) : OnFrac b a r :=
  ⟨by rw [Int.min_comm, Int.max_comm]; exact h.x, by rw [Int.min_comm, Int.max_comm]; exact h.y, by have := h.line; grind⟩
theorem OnFrac.one {a b p : Pt} (h : onP a b p = true) : OnFrac a b (p.1, p.2, 1) := by
  obtain ⟨h1, h2, h3⟩ := onP_iff.1 h
  refine ⟨between (by simp) ?_, between (by simp) ?_, ?_⟩
  · simp only [Int.mul_one]; rw [← Int.neg_mul_neg, Int.neg_sub, Int.neg_sub]; exact h2
  · simp only [Int.mul_one]; rw [← Int.neg_mul_neg, Int.neg_sub, Int.neg_sub]; exact h3
  · simp only [Int.mul_one]; unfold areaV at h1; grind
theorem onP_end' {a d : Pt} : onP d a a = true := by rw [onP_swap]; exact onP_end
theorem com_on {a b c d p : Pt} (h : Com a b c d p) : onP a b p = true ∧ onP c d p = true := by
  rcases h with ⟨h, rfl⟩ | ⟨h, rfl⟩ | ⟨h, rfl⟩ | ⟨h, rfl⟩
  · exact ⟨onP_end, h⟩
  · exact ⟨onP_end', h⟩
  · exact ⟨h, onP_end⟩
  · exact ⟨h, onP_end'⟩

/-- THE PLAIN LAW of CrossWhere. -/
theorem where_law {a b c d : Pt} (ha : InB a) (hb : InB b) (hc : InB c) (hd : InB d) (hm : meetV a b c d = 1) :
    (whereV a b c d).2 = true ∧ (0 < (whereV a b c d).1.2.2 ∧ (whereV a b c d).1.2.2 ≤ 549755813888) ∧ g3 (whereV a b c d).1.1 (whereV a b c d).1.2.1 (whereV a b c d).1.2.2 = 1 ∧
      OnFrac a b (whereV a b c d).1 ∧ OnFrac c d (whereV a b c d).1 := by
  by_cases hT : tm a b c d = 0
  · obtain ⟨p, hp⟩ := K4_some (meet_par hm hT)
    rw [where_par hm hT hp]
    have h := com_on hp
    exact ⟨rfl, by simp, by simp [g3], OnFrac.one h.1, OnFrac.one h.2⟩
  · obtain ⟨f1, f2⟩ := where_cross hm hT
    have hb := tm_b ha hb hc hd
    have hle := short_le hT f2
    obtain ⟨e1, e2, e3⟩ := cr_turn a b c d
    have f3 : Short (crX d c a b) (crY d c a b) (tm d c a b) (whereV a b c d).1 := by rw [e1, e2, e3]; exact f2
    rw [meetV_C] at hm
    split at hm
    · rw [meetC_cross hT] at hm
      split at hm
      · rename_i h
        refine ⟨f1, ⟨f2.pos, by omega⟩, f2.one, short_on hT f2 h.2, (short_on (by omega) f3 ?_).swap⟩
        rw [Int.mul_comm]; exact h.1
      · omega
    · omega

/-- What At reckons: the floor, and what is left. -/
theorem floor_facts {x w lo hi : Int} (hw : 0 < w) (h1 : lo * w ≤ x) (h2 : x ≤ hi * w) : lo ≤ x / w ∧ x / w ≤ hi ∧ (0 ≤ x - x / w * w ∧ x - x / w * w < w) ∧ (x / w = hi → x - x / w * w = 0) := by
  have e := Int.mul_ediv_add_emod x w
  have r1 := Int.emod_nonneg x (show w ≠ 0 by omega)
  have r2 := Int.emod_lt_of_pos x hw
  rw [Int.mul_comm] at e
  have l1 : lo ≤ x / w := Int.le_ediv_of_mul_le hw h1
  have l2 : x / w ≤ hi := by
    have : x / w ≤ hi * w / w := Int.ediv_le_ediv hw h2
    rwa [Int.mul_ediv_cancel _ (by omega)] at this
  refine ⟨l1, l2, by omega, fun h => ?_⟩
  rw [h] at e ⊢
  omega
theorem tdiv_floor {x w : Int} (hw : 0 < w) : (x.tmod w < 0 → x.tdiv w - 1 = x / w) ∧ (¬ x.tmod w < 0 → x.tdiv w = x / w) := by
  have e1 := Int.mul_tdiv_add_tmod x w
  have e2 := Int.mul_ediv_add_emod x w
  have r1 := Int.emod_nonneg x (show w ≠ 0 by omega)
  have r2 := Int.emod_lt_of_pos x hw
  have r3 : x.tmod w < w := Int.tmod_lt_of_pos x hw
  have r4 : -w < x.tmod w := by
    have := Int.tmod_lt_of_pos (-x) hw
    rw [Int.neg_tmod] at this; omega
  have uniq : ∀ {p q r s : Int}, w * p + r = w * q + s → 0 ≤ r → r < w → 0 ≤ s → s < w → p = q := fun {p q r s} h a1 a2 a3 a4 => by
    rcases Int.lt_trichotomy p q with h' | h' | h'
    · have := Int.mul_le_mul_of_nonneg_left (show p + 1 ≤ q by omega) (show 0 ≤ w by omega); rw [Int.mul_add] at this; omega
    · exact h'
    · have := Int.mul_le_mul_of_nonneg_left (show q + 1 ≤ p by omega) (show 0 ≤ w by omega); rw [Int.mul_add] at this; omega
  constructor
  · intro h
    exact uniq (p := x.tdiv w - 1) (r := x.tmod w + w) (s := x % w) (by rw [Int.mul_sub]; omega) (by omega) (by omega) r1 r2
  · intro h
    exact uniq (r := x.tmod w) (s := x % w) (by omega) (by omega) (by omega) r1 r2
theorem at_area {a b : Pt} {x y w : Int} (h : OnFrac a b (x, y, w)) : (a.2 - b.2) * (x - x / w * w) - (a.1 - b.1) * (y - y / w * w) = w * -areaV a b (x / w, y / w) := by
  have := h.line
  simp only at this
  unfold areaV
  simp only
  grind
end Go.Ab
end
