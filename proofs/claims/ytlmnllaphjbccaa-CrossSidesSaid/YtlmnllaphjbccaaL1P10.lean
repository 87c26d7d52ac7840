/- A part of the proof. -/
import Derived.ProofKit
import Derived.Test.YtlmnllaphjbccaaL1P9
set_option linter.unusedSimpArgs false
set_option linter.unusedVariables false
section
namespace Go.Ab
open Go.ChangeShapes Go.WideShapes Go.ChangeAt Go.RowKit

/-- Everything that is there is taken for frozen. -/
def lawE (W : World) : Env := ⟨fun _ => none, fun _ => default, fun b => match W.heap[b]? with | some (.cells cs _ _) => cs.size | _ => 0⟩

theorem lawE_good (W : World) : Good [] (lawE W) W := by
  refine ⟨fun l l' b h => by simp [look] at h, fun l o h => by simp [look] at h, fun b hb => ?_⟩
  simp [lawE, Array.getElem?_eq_none hb]

/-- A law's contract, at its call. -/
theorem law_calls {P : Program} {f : Nat} {avs : List AV} {b : Bool} (hs : Spec P f (Args avs) [] (.d (.sc (.bool b))) []) {W : World} {args : Array Value} (hA : AVrs W (lawE W) avs args.toList) :
    Calls P f args W fun e W' => e = .returned (.bool b) ∧ Below W.heap.size W W' := by
  have h := hs.calls (lawE W) W args.toList (lawE_good W) hA
  rw [Array.toArray_toList] at h
  refine h.mono fun e W' ⟨v, E', he, hst, _, _, hv⟩ => ?_
  refine ⟨by rw [he, AVr_sc hv], hst.os, hst.tape, hst.output, hst.size, fun k hk => (hst.frame k hk (by rintro ⟨l, o, hl, _⟩; simp [look] at hl)).1⟩

theorem wf_i64 {n : Int} (h : (Lit.int .i64 n).wf = true) : -9223372036854775808 ≤ n ∧ n ≤ 9223372036854775807 := by
  simp only [Lit.wf, Bool.and_eq_true, decide_eq_true_eq] at h
  have e1 : IntKind.i64.min = -9223372036854775808 := by decide
  have e2 : IntKind.i64.max = 9223372036854775807 := by decide
  rw [e1, e2] at h
  omega

/-- A struct of two whole numbers. -/
theorem open_two {H : Type} {enc : TypeId × Value → H} {P : Program} {W : World} {base : Nat} {spare : Nat → Bool} {held : Bool} {r : Reach} {b0 t : Nat} {f g : Field} {v : Value} {d : DataW H} {ps : List MemPlace}
    (ht : P.underlying t = some (.struct #[f, g])) (hf : P.underlying f.type = some (.int .i64)) (hg : P.underlying g.type = some (.int .i64)) (hf0 : f.offset = 0) (hg0 : g.offset = 1)
    (hcf : P.cellsOf f.type = 1) (hcg : P.cellsOf g.type = 1) (hct : P.cellsOf t = 2) (hval : Value.okWide P W r b0 t v) (hd : DataW.Trod enc P W base spare held t v d ps) :
    ∃ x y : Int, v = .agg #[.int .i64 x, .int .i64 y] ∧ ps = [] ∧ (-9223372036854775808 ≤ x ∧ x ≤ 9223372036854775807) ∧ (-9223372036854775808 ≤ y ∧ y ≤ 9223372036854775807) := by
  simp only [Value.okWide, ht] at hval
  obtain ⟨cs, rfl, hsz, _⟩ := hval
  obtain ⟨fuel, h⟩ := hd
  obtain ⟨y0, y1, n, hx, hl, h0, h1⟩ := trod_struct2 ht h
  obtain ⟨x, hx0, hx1, hx2⟩ := DataW.trod_int hf h0
  obtain ⟨y, hy0, hy1, hy2⟩ := DataW.trod_int hg h1
  refine ⟨x, y, ?_, ?_, wf_i64 hx2, wf_i64 hy2⟩
  · congr 1
    apply Array.toList_inj.1
    simp only [Value.cells] at hx0 hy0
    rw [hf0, hcf] at hx0
    rw [hg0, hcg] at hy0
    match hq : cs.toList with
    | [] => rw [hq] at hx0; simp at hx0
    | [p] => rw [hct] at hsz; have := congrArg List.length hq; simp at this; omega
    | [p, q] => rw [hq] at hx0 hy0; simp at hx0 hy0; rw [hx0, hy0]
    | p :: q :: r :: l => rw [hct] at hsz; have := congrArg List.length hq; simp at this; omega
  · simp only [Prod.mk.injEq] at hx
    rw [hx.2, hx1, hy1]; rfl
end Go.Ab
end
section
namespace Go.Ab
open Go.Proofs
attribute [local congr] ACall.congr
set_option maxRecDepth 10000
set_option maxHeartbeats 4000000

theorem where_c : Spec Try.prog 11 (Args [eP (0, 0), eP (2, 2), eP (0, 1), eP (1, 0)]) [] (resW ((1, 1, 2), true)) [] := by
  have h := where_spec (0, 0) (2, 2) (0, 1) (1, 0)
  rwa [show whereV (0, 0) (2, 2) (0, 1) (1, 0) = ((1, 1, 2), true) from by decide +kernel] at h
theorem meet_c : Spec Try.prog 9 (Args [eP (0, 0), eP (2, 2), eP (0, 1), eP (1, 0)]) [] (eN 1) [] := by
  have h := meet_spec (0, 0) (2, 2) (0, 1) (1, 0)
  rwa [show meetV (0, 0) (2, 2) (0, 1) (1, 0) = 1 from by decide +kernel] at h
theorem side_c : Spec Try.prog 15 (Args [eP (0, 0), eP (2, 2), eP (0, 1)]) [] (eN 1) [] := by
  have h := Side_spec (0, 0) (2, 2) (0, 1)
  rwa [show SideV (0, 0) (2, 2) (0, 1) = 1 from by decide +kernel] at h
theorem may_nil : Spec Try.prog 16 (Args [.d (.sl 2 [])]) [] (eB true) [] := may_in [] (by simp) (by simp)

theorem may_nil' : Spec Try.prog 16 (Args [.nil 23]) [] (eB true) [] := by
  refine ⟨may_nil.can, fun E w vals hg hA => may_nil.calls E w vals hg ?_⟩
  obtain ⟨u, us, h1, h2, h3⟩ := hA
  simp only [AVr] at h2
  subst h2
  exact ⟨_, us, h1, .nil 2, h3⟩

theorem speaks_spec : Spec Try.prog 8 (Args []) [] (eB true) [] := by
  (refine Spec.intro (C := T.cfg []) (rs := [0]) (T.cfg_ok _) Try.func8 rfl rfl Try.ntmps8 Try.results8 (by simp) (by kernel_rfl) ?_; intro X hX hP hC hn hm vals hA; refine ⟨_, by simp, hA, ?_⟩; have hmix : X.P.follows .mixedOrders = true := (by rw [hP]; exact T.mixed))
  repeat' (first | (first | ((with_reducible apply vcOps_n); exact rfl; intro K hK; simp only [go_sem, simprocAttr]) | (with_reducible apply vcOps_nil) | ((with_reducible apply vcOpsD_n); exact rfl; intro K hK; simp only [go_sem, simprocAttr]) | ((with_reducible refine vcOpsD_nil ?_ ?_); kernel_rfl) | ((with_reducible apply vcOps_s); exact rfl; exact rfl; exact rfl; all_goals (intro h; first | (exact absurd h (by decide)) | ((try simp only [go_sem, simprocAttr] at h); first | (intro K hK; simp only [go_sem, simprocAttr]) | (simp only [go_sem, simprocAttr])))) | ((with_reducible apply vcOpsD_s); exact rfl; exact rfl; exact rfl; all_goals (intro h; first | (exact absurd h (by decide)) | ((try simp only [go_sem, simprocAttr] at h); first | (intro K hK; simp only [go_sem, simprocAttr]) | (simp only [go_sem, simprocAttr])))) | ((with_reducible apply otvc_br); exact rfl; exact rfl; (intro K hK; simp only [go_sem, simprocAttr])) | (with_reducible apply otvc_done) | (with_reducible exact otvc_end)) | (refine hK _ ?_; clear hK K; simp only [LA.app, ASt.put, ASt.kill, subT, rmk, putM, rml, kl, AV.sub, AV.subs, AObj.sub, go_sem, simprocAttr]) | (first | fail | (with_reducible apply ablock_nn) | (with_reducible apply athen_n) | (with_reducible refine awp_R hX hC ?_) | (with_reducible refine awp_R0 hX hC ?_) | (with_reducible refine awp_RD hX hC hmix ?_) | (with_reducible refine awp_RD0 hX hC hmix ?_) | (with_reducible refine awp_seq ?_) | (with_reducible refine awp_block ?_) | ((with_reducible refine awp_skip ?_); simp only [athen, ablock, reduceIte, Nat.reduceEqDiff]) | ((with_reducible refine awp_exit ?_); simp only [athen, ablock, reduceIte, Nat.reduceEqDiff]) | ((with_reducible refine awp_ret ?_); simp only [go_sem, simprocAttr]) | ((with_reducible apply awp_cond); exact rfl; all_goals (intro h; first | (exact absurd h (by decide)) | (try simp only [go_sem, simprocAttr] at h)))) | first | (refine acall_simple hX hC hP (where_c) rfl rfl rfl (by simp only [go_sem, simprocAttr]) rfl ?_; simp only [go_sem, simprocAttr]) | (refine acall_simple hX hC hP (meet_c) rfl rfl rfl (by simp only [go_sem, simprocAttr]) rfl ?_; simp only [go_sem, simprocAttr]) | (refine acall_simple hX hC hP (side_c) rfl rfl rfl (by simp only [go_sem, simprocAttr]) rfl ?_; simp only [go_sem, simprocAttr]) | (refine acall_simple hX hC hP (speaks_spec) rfl rfl rfl (by simp only [go_sem, simprocAttr]) rfl ?_; simp only [go_sem, simprocAttr]) | (refine acall_simple hX hC hP may_nil' rfl rfl rfl (by simp only [go_sem, simprocAttr]) rfl ?_; simp only [go_sem, simprocAttr]) | (refine acall_look hX hC hP (may_in3 a b c (by assumption) (by assumption) (by assumption)) rfl rfl rfl (by simp only [go_sem, simprocAttr]) (by simp only [go_sem, simprocAttr]; done) rfl ?_; simp only [go_sem, simprocAttr]) | (refine acall_look hX hC hP (may_out3 a b c (by assumption)) rfl rfl rfl (by simp only [go_sem, simprocAttr]) (by simp only [go_sem, simprocAttr]; done) rfl ?_; simp only [go_sem, simprocAttr]) | (refine acall_simple hX hC hP (refMay_in _ (by assumption)) rfl rfl rfl (by simp only [go_sem, simprocAttr]) rfl ?_; simp only [go_sem, simprocAttr]) | (refine acall_simple hX hC hP (refMay_out _ (by assumption)) rfl rfl rfl (by simp only [go_sem, simprocAttr]) rfl ?_; simp only [go_sem, simprocAttr]) | (refine acall_simple hX hC hP (Side_spec _ _ _) rfl rfl rfl (by simp only [go_sem, simprocAttr]) rfl ?_; simp only [go_sem, simprocAttr]) | (refine acall_simple hX hC hP (refSide_spec' _ _ _) rfl rfl rfl (by simp only [go_sem, simprocAttr]) rfl ?_; simp only [go_sem, simprocAttr]) | (refine acall_simple hX hC hP (On_spec _ _ _) rfl rfl rfl (by simp only [go_sem, simprocAttr]) rfl ?_; simp only [go_sem, simprocAttr]) | (refine acall_simple hX hC hP (refOn_spec' _ _ _) rfl rfl rfl (by simp only [go_sem, simprocAttr]) rfl ?_; simp only [go_sem, simprocAttr]) | (with_reducible refine And.intro ?_ ?_) | omega | (intro h))

theorem area_tm (a b c : Pt) : areaV a b c = tm a b a c := by unfold areaV tm; grind
theorem side_eq (a b c : Pt) : refSideV a b c = SideV a b c := by unfold refSideV SideV sd; rw [area_tm]
theorem refSide_spec' (a b c : Pt) : Spec Try.prog 17 (Args [eP a, eP b, eP c]) [] (eN (SideV a b c)) [] := by
  rw [← side_eq]; exact refSide_spec a b c
theorem cmpI_zero (n : Int) : cmpI n 0 = 0 ↔ n = 0 := by unfold cmpI; split <;> (try split) <;> omega

theorem mul_neg_iff {u v : Int} : (min u v ≤ 0 ∧ 0 ≤ max u v) ↔ u * v ≤ 0 := by
  rcases Int.lt_trichotomy u 0 with hu | hu | hu <;> rcases Int.lt_trichotomy v 0 with hv | hv | hv
  · have := Int.mul_pos_of_neg_of_neg hu hv; omega
  · subst hv; simp; omega
  · have := Int.mul_neg_of_neg_of_pos hu hv; omega
  · subst hu; simp; omega
  · subst hu; simp; omega
  · subst hu; simp; omega
  · have := Int.mul_neg_of_pos_of_neg hu hv; omega
  · subst hv; simp; omega
  · have := Int.mul_pos hu hv; omega

theorem sq_nonneg (s : Int) : 0 ≤ s * s := by
  rcases Int.le_total 0 s with h | h
  · exact Int.mul_nonneg h h
  · exact Int.mul_nonneg_of_nonpos_of_nonpos h h

theorem dot_iff {u1 u2 v1 v2 : Int} (h : u1 * v2 = u2 * v1) : (u1 * v1 ≤ 0 ∧ u2 * v2 ≤ 0) ↔ u1 * v1 + u2 * v2 ≤ 0 := by
  constructor
  · omega
  · intro hs
    have key : (u1 * v1) * (u2 * v2) = (u1 * v2) * (u1 * v2) := by grind
    have h0 := sq_nonneg (u1 * v2)
    rw [← key] at h0
    constructor
    · refine Int.not_lt.1 fun hp => ?_
      have := Int.mul_neg_of_pos_of_neg hp (show u2 * v2 < 0 by omega)
      omega
    · refine Int.not_lt.1 fun hp => ?_
      have := Int.mul_neg_of_neg_of_pos (show u1 * v1 < 0 by omega) hp
      omega

theorem within_iff (a b n : Int) : withinI a b n = decide ((a - n) * (b - n) ≤ 0) := by
  rw [Bool.eq_iff_iff]
  simp only [withinI, Bool.and_eq_true, decide_eq_true_eq]
  rw [← mul_neg_iff]
  omega

theorem onP_eq (a b c : Pt) : onP a b c = (decide (areaV a b c = 0) && decide ((a.1 - c.1) * (b.1 - c.1) + (a.2 - c.2) * (b.2 - c.2) ≤ 0)) := by
  unfold onP sd
  rw [← area_tm, within_iff, within_iff]
  by_cases h : areaV a b c = 0
  · have h' : (a.1 - c.1) * (b.2 - c.2) = (a.2 - c.2) * (b.1 - c.1) := by unfold areaV at h; grind
    rw [Bool.eq_iff_iff]
    simp only [cmpI_zero, h, decide_true, Bool.true_and, Bool.and_eq_true, decide_eq_true_eq]
    exact dot_iff h'
  · simp [cmpI_zero, h]
theorem on_eq (a b c : Pt) : refOnV a b c = OnV a b c := by unfold refOnV OnV; rw [onP_eq]
theorem refOn_spec' (a b c : Pt) : Spec Try.prog 19 (Args [eP a, eP b, eP c]) [] (eB (OnV a b c)) [] := by
  rw [← on_eq]; exact refOn_spec a b c

theorem crossSides_spec (a b c : Pt) : Spec Try.prog 6 (Args [eP a, eP b, eP c]) [] (eB true) [] := by
  by_cases ha : InB a <;> by_cases hb : InB b <;> by_cases hc : InB c
  · (refine Spec.intro (C := T.cfg []) (rs := [6]) (T.cfg_ok _) Try.func6 rfl rfl Try.ntmps6 Try.results6 (by simp) (by kernel_rfl) ?_; intro X hX hP hC hn hm vals hA; refine ⟨_, by simp, hA, ?_⟩; have hmix : X.P.follows .mixedOrders = true := (by rw [hP]; exact T.mixed))
    repeat' (first | (first | ((with_reducible apply vcOps_n); exact rfl; intro K hK; simp only [go_sem, simprocAttr]) | (with_reducible apply vcOps_nil) | ((with_reducible apply vcOpsD_n); exact rfl; intro K hK; simp only [go_sem, simprocAttr]) | ((with_reducible refine vcOpsD_nil ?_ ?_); kernel_rfl) | ((with_reducible apply vcOps_s); exact rfl; exact rfl; exact rfl; all_goals (intro h; first | (exact absurd h (by decide)) | ((try simp only [go_sem, simprocAttr] at h); first | (intro K hK; simp only [go_sem, simprocAttr]) | (simp only [go_sem, simprocAttr])))) | ((with_reducible apply vcOpsD_s); exact rfl; exact rfl; exact rfl; all_goals (intro h; first | (exact absurd h (by decide)) | ((try simp only [go_sem, simprocAttr] at h); first | (intro K hK; simp only [go_sem, simprocAttr]) | (simp only [go_sem, simprocAttr])))) | ((with_reducible apply otvc_br); exact rfl; exact rfl; (intro K hK; simp only [go_sem, simprocAttr])) | (with_reducible apply otvc_done) | (with_reducible exact otvc_end)) | (refine hK _ ?_; clear hK K; simp only [LA.app, ASt.put, ASt.kill, subT, rmk, putM, rml, kl, AV.sub, AV.subs, AObj.sub, go_sem, simprocAttr]) | (first | fail | (with_reducible apply ablock_nn) | (with_reducible apply athen_n) | (with_reducible refine awp_R hX hC ?_) | (with_reducible refine awp_R0 hX hC ?_) | (with_reducible refine awp_RD hX hC hmix ?_) | (with_reducible refine awp_RD0 hX hC hmix ?_) | (with_reducible refine awp_seq ?_) | (with_reducible refine awp_block ?_) | ((with_reducible refine awp_skip ?_); simp only [athen, ablock, reduceIte, Nat.reduceEqDiff]) | ((with_reducible refine awp_exit ?_); simp only [athen, ablock, reduceIte, Nat.reduceEqDiff]) | ((with_reducible refine awp_ret ?_); simp only [go_sem, simprocAttr]) | ((with_reducible apply awp_cond); exact rfl; all_goals (intro h; first | (exact absurd h (by decide)) | (try simp only [go_sem, simprocAttr] at h)))) | first | (refine acall_simple hX hC hP (where_c) rfl rfl rfl (by simp only [go_sem, simprocAttr]) rfl ?_; simp only [go_sem, simprocAttr]) | (refine acall_simple hX hC hP (meet_c) rfl rfl rfl (by simp only [go_sem, simprocAttr]) rfl ?_; simp only [go_sem, simprocAttr]) | (refine acall_simple hX hC hP (side_c) rfl rfl rfl (by simp only [go_sem, simprocAttr]) rfl ?_; simp only [go_sem, simprocAttr]) | (refine acall_simple hX hC hP (speaks_spec) rfl rfl rfl (by simp only [go_sem, simprocAttr]) rfl ?_; simp only [go_sem, simprocAttr]) | (refine acall_simple hX hC hP may_nil' rfl rfl rfl (by simp only [go_sem, simprocAttr]) rfl ?_; simp only [go_sem, simprocAttr]) | (refine acall_look hX hC hP (may_in3 a b c (by assumption) (by assumption) (by assumption)) rfl rfl rfl (by simp only [go_sem, simprocAttr]) (by simp only [go_sem, simprocAttr]; done) rfl ?_; simp only [go_sem, simprocAttr]) | (refine acall_look hX hC hP (may_out3 a b c (by assumption)) rfl rfl rfl (by simp only [go_sem, simprocAttr]) (by simp only [go_sem, simprocAttr]; done) rfl ?_; simp only [go_sem, simprocAttr]) | (refine acall_simple hX hC hP (refMay_in _ (by assumption)) rfl rfl rfl (by simp only [go_sem, simprocAttr]) rfl ?_; simp only [go_sem, simprocAttr]) | (refine acall_simple hX hC hP (refMay_out _ (by assumption)) rfl rfl rfl (by simp only [go_sem, simprocAttr]) rfl ?_; simp only [go_sem, simprocAttr]) | (refine acall_simple hX hC hP (Side_spec _ _ _) rfl rfl rfl (by simp only [go_sem, simprocAttr]) rfl ?_; simp only [go_sem, simprocAttr]) | (refine acall_simple hX hC hP (refSide_spec' _ _ _) rfl rfl rfl (by simp only [go_sem, simprocAttr]) rfl ?_; simp only [go_sem, simprocAttr]) | (refine acall_simple hX hC hP (On_spec _ _ _) rfl rfl rfl (by simp only [go_sem, simprocAttr]) rfl ?_; simp only [go_sem, simprocAttr]) | (refine acall_simple hX hC hP (refOn_spec' _ _ _) rfl rfl rfl (by simp only [go_sem, simprocAttr]) rfl ?_; simp only [go_sem, simprocAttr]) | (with_reducible refine And.intro ?_ ?_) | omega | (intro h))
  all_goals
    have hn : ¬ (InB a ∧ InB b ∧ InB c) := by simp [ha, hb, hc]
    (refine Spec.intro (C := T.cfg []) (rs := [6]) (T.cfg_ok _) Try.func6 rfl rfl Try.ntmps6 Try.results6 (by simp) (by kernel_rfl) ?_; intro X hX hP hC hn hm vals hA; refine ⟨_, by simp, hA, ?_⟩; have hmix : X.P.follows .mixedOrders = true := (by rw [hP]; exact T.mixed))
    repeat' (first | (first | ((with_reducible apply vcOps_n); exact rfl; intro K hK; simp only [go_sem, simprocAttr]) | (with_reducible apply vcOps_nil) | ((with_reducible apply vcOpsD_n); exact rfl; intro K hK; simp only [go_sem, simprocAttr]) | ((with_reducible refine vcOpsD_nil ?_ ?_); kernel_rfl) | ((with_reducible apply vcOps_s); exact rfl; exact rfl; exact rfl; all_goals (intro h; first | (exact absurd h (by decide)) | ((try simp only [go_sem, simprocAttr] at h); first | (intro K hK; simp only [go_sem, simprocAttr]) | (simp only [go_sem, simprocAttr])))) | ((with_reducible apply vcOpsD_s); exact rfl; exact rfl; exact rfl; all_goals (intro h; first | (exact absurd h (by decide)) | ((try simp only [go_sem, simprocAttr] at h); first | (intro K hK; simp only [go_sem, simprocAttr]) | (simp only [go_sem, simprocAttr])))) | ((with_reducible apply otvc_br); exact rfl; exact rfl; (intro K hK; simp only [go_sem, simprocAttr])) | (with_reducible apply otvc_done) | (with_reducible exact otvc_end)) | (refine hK _ ?_; clear hK K; simp only [LA.app, ASt.put, ASt.kill, subT, rmk, putM, rml, kl, AV.sub, AV.subs, AObj.sub, go_sem, simprocAttr]) | (first | fail | (with_reducible apply ablock_nn) | (with_reducible apply athen_n) | (with_reducible refine awp_R hX hC ?_) | (with_reducible refine awp_R0 hX hC ?_) | (with_reducible refine awp_RD hX hC hmix ?_) | (with_reducible refine awp_RD0 hX hC hmix ?_) | (with_reducible refine awp_seq ?_) | (with_reducible refine awp_block ?_) | ((with_reducible refine awp_skip ?_); simp only [athen, ablock, reduceIte, Nat.reduceEqDiff]) | ((with_reducible refine awp_exit ?_); simp only [athen, ablock, reduceIte, Nat.reduceEqDiff]) | ((with_reducible refine awp_ret ?_); simp only [go_sem, simprocAttr]) | ((with_reducible apply awp_cond); exact rfl; all_goals (intro h; first | (exact absurd h (by decide)) | (try simp only [go_sem, simprocAttr] at h)))) | first | (refine acall_simple hX hC hP (where_c) rfl rfl rfl (by simp only [go_sem, simprocAttr]) rfl ?_; simp only [go_sem, simprocAttr]) | (refine acall_simple hX hC hP (meet_c) rfl rfl rfl (by simp only [go_sem, simprocAttr]) rfl ?_; simp only [go_sem, simprocAttr]) | (refine acall_simple hX hC hP (side_c) rfl rfl rfl (by simp only [go_sem, simprocAttr]) rfl ?_; simp only [go_sem, simprocAttr]) | (refine acall_simple hX hC hP (speaks_spec) rfl rfl rfl (by simp only [go_sem, simprocAttr]) rfl ?_; simp only [go_sem, simprocAttr]) | (refine acall_simple hX hC hP may_nil' rfl rfl rfl (by simp only [go_sem, simprocAttr]) rfl ?_; simp only [go_sem, simprocAttr]) | (refine acall_look hX hC hP (may_in3 a b c (by assumption) (by assumption) (by assumption)) rfl rfl rfl (by simp only [go_sem, simprocAttr]) (by simp only [go_sem, simprocAttr]; done) rfl ?_; simp only [go_sem, simprocAttr]) | (refine acall_look hX hC hP (may_out3 a b c (by assumption)) rfl rfl rfl (by simp only [go_sem, simprocAttr]) (by simp only [go_sem, simprocAttr]; done) rfl ?_; simp only [go_sem, simprocAttr]) | (refine acall_simple hX hC hP (refMay_in _ (by assumption)) rfl rfl rfl (by simp only [go_sem, simprocAttr]) rfl ?_; simp only [go_sem, simprocAttr]) | (refine acall_simple hX hC hP (refMay_out _ (by assumption)) rfl rfl rfl (by simp only [go_sem, simprocAttr]) rfl ?_; simp only [go_sem, simprocAttr]) | (refine acall_simple hX hC hP (Side_spec _ _ _) rfl rfl rfl (by simp only [go_sem, simprocAttr]) rfl ?_; simp only [go_sem, simprocAttr]) | (refine acall_simple hX hC hP (refSide_spec' _ _ _) rfl rfl rfl (by simp only [go_sem, simprocAttr]) rfl ?_; simp only [go_sem, simprocAttr]) | (refine acall_simple hX hC hP (On_spec _ _ _) rfl rfl rfl (by simp only [go_sem, simprocAttr]) rfl ?_; simp only [go_sem, simprocAttr]) | (refine acall_simple hX hC hP (refOn_spec' _ _ _) rfl rfl rfl (by simp only [go_sem, simprocAttr]) rfl ?_; simp only [go_sem, simprocAttr]) | (with_reducible refine And.intro ?_ ?_) | omega | (intro h))
end Go.Ab
end
