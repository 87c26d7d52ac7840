/- A part of the proof. -/
import Derived.Test.YtilamojcledkaaaL2P10
set_option linter.unusedSimpArgs false
set_option linter.unusedVariables false
section
namespace Go.Ab
open Go.Proofs
attribute [local congr] ACall.congr
set_option maxRecDepth 10000

theorem dec_of {p : Prop} [Decidable p] {b : Bool} (h : b = true ↔ p) : b = decide p := by
  by_cases hp : p
  · rw [decide_eq_true hp]; exact h.2 hp
  · rw [decide_eq_false hp]
    cases b with
    | true => exact absurd (h.1 rfl) hp
    | false => rfl

theorem refMayP_spec (p : Pt) : Spec Try.prog 89 (Args [eP p]) [] (eB (decide (InB p))) [] := by
  (refine Spec.intro (C := T.cfg [] []) (rs := [.t 2]) (T.cfg_ok _ _) Try.func89 rfl rfl Try.ntmps89 Try.results89 (by simp [AObj.isNest]) (by simp [AObj.isNest]) (by kernel_rfl) ?_; intro X hX hP hC hXn hXm vals hA; refine ⟨_, by simp, hA, ?_⟩; have hmix : X.P.follows .mixedOrders = true := (by rw [hP]; exact T.mixed); clear hXn hXm)
  repeat' (first | ((first | ((with_reducible (first | apply oA | apply oB)); exact rfl; intro K hK) | (refine hK _ ?_; clear hK K) | ((with_reducible (first | apply oG | apply oH)); iterate 3 exact rfl) | ((with_reducible apply oI); (iterate 2 exact rfl); intro K hK) | (with_reducible (first | apply wI | apply wJ | apply wK))); try simp only [go_sem, simprocAttr]) | fail | (with_reducible (first | apply oC | apply oJ | exact oK | apply wA | apply wB | apply wC hX hC | apply wD hX hC | apply wE hX hC hmix | apply wF hX hC hmix | apply wG | apply wH | apply And.intro)) | ((with_reducible refine oD ?_ ?_); first | fail | kernel_rfl) | ((with_reducible (first | apply oE | apply oF)); (iterate 3 exact rfl); all_goals (intro h; first | (exact absurd h (by decide)) | ((try simp only [go_sem, simprocAttr] at h); (try with_reducible intro K hK); simp only [go_sem, simprocAttr]))) | ((first | ((with_reducible apply wL); exact rfl) | ((with_reducible apply wM); exact rfl)); all_goals (try ((with_reducible intro h); first | (exact absurd h (by decide)) | (try simp only [go_sem, simprocAttr] at h)))) | omega | ((first | first | refine acall_simple hX hC hP (refMayP_in _ (by assumption)) rfl rfl rfl (by simp only [go_sem, simprocAttr]) rfl ?_ | refine acall_simple hX hC hP (refMayP_out _ (by assumption)) rfl rfl rfl (by simp only [go_sem, simprocAttr]) rfl ?_ | refine acall_simple hX hC hP (sign_spec _) rfl rfl rfl (by simp only [go_sem, simprocAttr]) rfl ?_ | refine acall_simple hX hC hP (area_spec _ _ _ (by assumption) (by assumption) (by assumption)) rfl rfl rfl (by simp only [go_sem, simprocAttr]) rfl ?_ | refine acall_simple hX hC hP (along_spec _ _ _ (by assumption) (by assumption) (by assumption)) rfl rfl rfl (by simp only [go_sem, simprocAttr]) rfl ?_ | refine acall_simple hX hC hP (refOn_spec _ _ _) rfl rfl rfl (by simp only [go_sem, simprocAttr]) rfl ?_); try simp only [go_sem, simprocAttr]) | (intro h))
  all_goals (refine dec_of ?_; simp only [InB, decide_eq_true_eq, Bool.false_eq_true, false_iff]; omega)
theorem refMayP_in (p : Pt) (h : InB p) : Spec Try.prog 89 (Args [eP p]) [] (eB true) [] := by
  have := refMayP_spec p; rwa [decide_eq_true h] at this
theorem refMayP_out (p : Pt) (h : ¬ InB p) : Spec Try.prog 89 (Args [eP p]) [] (eB false) [] := by
  have := refMayP_spec p; rwa [decide_eq_false h] at this

theorem sign_spec (n : Int) : Spec Try.prog 129 (Args [eN n]) [] (eN (cmpI n 0)) [] := by
  (refine Spec.intro (C := T.cfg [] []) (rs := [.t 2]) (T.cfg_ok _ _) Try.func129 rfl rfl Try.ntmps129 Try.results129 (by simp [AObj.isNest]) (by simp [AObj.isNest]) (by kernel_rfl) ?_; intro X hX hP hC hXn hXm vals hA; refine ⟨_, by simp, hA, ?_⟩; have hmix : X.P.follows .mixedOrders = true := (by rw [hP]; exact T.mixed); clear hXn hXm)
  repeat' (first | ((first | ((with_reducible (first | apply oA | apply oB)); exact rfl; intro K hK) | (refine hK _ ?_; clear hK K) | ((with_reducible (first | apply oG | apply oH)); iterate 3 exact rfl) | ((with_reducible apply oI); (iterate 2 exact rfl); intro K hK) | (with_reducible (first | apply wI | apply wJ | apply wK))); try simp only [go_sem, simprocAttr]) | fail | (with_reducible (first | apply oC | apply oJ | exact oK | apply wA | apply wB | apply wC hX hC | apply wD hX hC | apply wE hX hC hmix | apply wF hX hC hmix | apply wG | apply wH | apply And.intro)) | ((with_reducible refine oD ?_ ?_); first | fail | kernel_rfl) | ((with_reducible (first | apply oE | apply oF)); (iterate 3 exact rfl); all_goals (intro h; first | (exact absurd h (by decide)) | ((try simp only [go_sem, simprocAttr] at h); (try with_reducible intro K hK); simp only [go_sem, simprocAttr]))) | ((first | ((with_reducible apply wL); exact rfl) | ((with_reducible apply wM); exact rfl)); all_goals (try ((with_reducible intro h); first | (exact absurd h (by decide)) | (try simp only [go_sem, simprocAttr] at h)))) | omega | ((first | first | refine acall_simple hX hC hP (refMayP_in _ (by assumption)) rfl rfl rfl (by simp only [go_sem, simprocAttr]) rfl ?_ | refine acall_simple hX hC hP (refMayP_out _ (by assumption)) rfl rfl rfl (by simp only [go_sem, simprocAttr]) rfl ?_ | refine acall_simple hX hC hP (sign_spec _) rfl rfl rfl (by simp only [go_sem, simprocAttr]) rfl ?_ | refine acall_simple hX hC hP (area_spec _ _ _ (by assumption) (by assumption) (by assumption)) rfl rfl rfl (by simp only [go_sem, simprocAttr]) rfl ?_ | refine acall_simple hX hC hP (along_spec _ _ _ (by assumption) (by assumption) (by assumption)) rfl rfl rfl (by simp only [go_sem, simprocAttr]) rfl ?_ | refine acall_simple hX hC hP (refOn_spec _ _ _) rfl rfl rfl (by simp only [go_sem, simprocAttr]) rfl ?_); try simp only [go_sem, simprocAttr]) | (intro h))
  all_goals (unfold cmpI; repeat' split) <;> omega

def areaV (a b c : Pt) : Int := a.1 * b.2 - a.2 * b.1 + b.1 * c.2 - b.2 * c.1 + c.1 * a.2 - c.2 * a.1
theorem area_spec (a b c : Pt) (ha : InB a) (hb : InB b) (hc : InB c) : Spec Try.prog 128 (Args [eP a, eP b, eP c]) [] (eN (areaV a b c)) [] := by
  (refine Spec.intro (C := T.cfg [] []) (rs := [.t 6]) (T.cfg_ok _ _) Try.func128 rfl rfl Try.ntmps128 Try.results128 (by simp [AObj.isNest]) (by simp [AObj.isNest]) (by kernel_rfl) ?_; intro X hX hP hC hXn hXm vals hA; refine ⟨_, by simp, hA, ?_⟩; have hmix : X.P.follows .mixedOrders = true := (by rw [hP]; exact T.mixed); clear hXn hXm)
  have m1 := mulB ha.1 hb.2
  have m2 := mulB ha.2 hb.1
  have m3 := mulB hb.1 hc.2
  have m4 := mulB hb.2 hc.1
  have m5 := mulB hc.1 ha.2
  have m6 := mulB hc.2 ha.1
  repeat' (first | ((first | ((with_reducible (first | apply oA | apply oB)); exact rfl; intro K hK) | (refine hK _ ?_; clear hK K) | ((with_reducible (first | apply oG | apply oH)); iterate 3 exact rfl) | ((with_reducible apply oI); (iterate 2 exact rfl); intro K hK) | (with_reducible (first | apply wI | apply wJ | apply wK))); try simp only [go_sem, simprocAttr]) | fail | (with_reducible (first | apply oC | apply oJ | exact oK | apply wA | apply wB | apply wC hX hC | apply wD hX hC | apply wE hX hC hmix | apply wF hX hC hmix | apply wG | apply wH | apply And.intro)) | ((with_reducible refine oD ?_ ?_); first | fail | kernel_rfl) | ((with_reducible (first | apply oE | apply oF)); (iterate 3 exact rfl); all_goals (intro h; first | (exact absurd h (by decide)) | ((try simp only [go_sem, simprocAttr] at h); (try with_reducible intro K hK); simp only [go_sem, simprocAttr]))) | ((first | ((with_reducible apply wL); exact rfl) | ((with_reducible apply wM); exact rfl)); all_goals (try ((with_reducible intro h); first | (exact absurd h (by decide)) | (try simp only [go_sem, simprocAttr] at h)))) | omega | ((first | first | refine acall_simple hX hC hP (refMayP_in _ (by assumption)) rfl rfl rfl (by simp only [go_sem, simprocAttr]) rfl ?_ | refine acall_simple hX hC hP (refMayP_out _ (by assumption)) rfl rfl rfl (by simp only [go_sem, simprocAttr]) rfl ?_ | refine acall_simple hX hC hP (sign_spec _) rfl rfl rfl (by simp only [go_sem, simprocAttr]) rfl ?_ | refine acall_simple hX hC hP (area_spec _ _ _ (by assumption) (by assumption) (by assumption)) rfl rfl rfl (by simp only [go_sem, simprocAttr]) rfl ?_ | refine acall_simple hX hC hP (along_spec _ _ _ (by assumption) (by assumption) (by assumption)) rfl rfl rfl (by simp only [go_sem, simprocAttr]) rfl ?_ | refine acall_simple hX hC hP (refOn_spec _ _ _) rfl rfl rfl (by simp only [go_sem, simprocAttr]) rfl ?_); try simp only [go_sem, simprocAttr]) | (intro h))
  all_goals rfl

def alongV (a b p : Pt) : Int := (p.1 - a.1) * (b.1 - a.1) + (p.2 - a.2) * (b.2 - a.2)
theorem along_spec (a b c : Pt) (ha : InB a) (hb : InB b) (hc : InB c) : Spec Try.prog 130 (Args [eP a, eP b, eP c]) [] (eN (alongV a b c)) [] := by
  (refine Spec.intro (C := T.cfg [] []) (rs := [.t 6]) (T.cfg_ok _ _) Try.func130 rfl rfl Try.ntmps130 Try.results130 (by simp [AObj.isNest]) (by simp [AObj.isNest]) (by kernel_rfl) ?_; intro X hX hP hC hXn hXm vals hA; refine ⟨_, by simp, hA, ?_⟩; have hmix : X.P.follows .mixedOrders = true := (by rw [hP]; exact T.mixed); clear hXn hXm)
  simp only [InB] at ha hb hc
  have m1 := mulB (x := c.1 - a.1) (y := b.1 - a.1) (m := 524288) (n := 524288) (by omega) (by omega)
  have m2 := mulB (x := c.2 - a.2) (y := b.2 - a.2) (m := 524288) (n := 524288) (by omega) (by omega)
  repeat' (first | ((first | ((with_reducible (first | apply oA | apply oB)); exact rfl; intro K hK) | (refine hK _ ?_; clear hK K) | ((with_reducible (first | apply oG | apply oH)); iterate 3 exact rfl) | ((with_reducible apply oI); (iterate 2 exact rfl); intro K hK) | (with_reducible (first | apply wI | apply wJ | apply wK))); try simp only [go_sem, simprocAttr]) | fail | (with_reducible (first | apply oC | apply oJ | exact oK | apply wA | apply wB | apply wC hX hC | apply wD hX hC | apply wE hX hC hmix | apply wF hX hC hmix | apply wG | apply wH | apply And.intro)) | ((with_reducible refine oD ?_ ?_); first | fail | kernel_rfl) | ((with_reducible (first | apply oE | apply oF)); (iterate 3 exact rfl); all_goals (intro h; first | (exact absurd h (by decide)) | ((try simp only [go_sem, simprocAttr] at h); (try with_reducible intro K hK); simp only [go_sem, simprocAttr]))) | ((first | ((with_reducible apply wL); exact rfl) | ((with_reducible apply wM); exact rfl)); all_goals (try ((with_reducible intro h); first | (exact absurd h (by decide)) | (try simp only [go_sem, simprocAttr] at h)))) | omega | ((first | first | refine acall_simple hX hC hP (refMayP_in _ (by assumption)) rfl rfl rfl (by simp only [go_sem, simprocAttr]) rfl ?_ | refine acall_simple hX hC hP (refMayP_out _ (by assumption)) rfl rfl rfl (by simp only [go_sem, simprocAttr]) rfl ?_ | refine acall_simple hX hC hP (sign_spec _) rfl rfl rfl (by simp only [go_sem, simprocAttr]) rfl ?_ | refine acall_simple hX hC hP (area_spec _ _ _ (by assumption) (by assumption) (by assumption)) rfl rfl rfl (by simp only [go_sem, simprocAttr]) rfl ?_ | refine acall_simple hX hC hP (along_spec _ _ _ (by assumption) (by assumption) (by assumption)) rfl rfl rfl (by simp only [go_sem, simprocAttr]) rfl ?_ | refine acall_simple hX hC hP (refOn_spec _ _ _) rfl rfl rfl (by simp only [go_sem, simprocAttr]) rfl ?_); try simp only [go_sem, simprocAttr]) | (intro h))
  all_goals rfl


def refOnV (a b c : Pt) : Bool := decide (InB a ∧ InB b ∧ InB c) && (decide (areaV a b c = 0) && decide ((a.1 - c.1) * (b.1 - c.1) + (a.2 - c.2) * (b.2 - c.2) ≤ 0))
theorem refOn_spec (a b c : Pt) : Spec Try.prog 90 (Args [eP a, eP b, eP c]) [] (eB (refOnV a b c)) [] := by
  by_cases ha : InB a
  · by_cases hb : InB b
    · by_cases hc : InB c
      · (refine Spec.intro (C := T.cfg [] []) (rs := [.t 6]) (T.cfg_ok _ _) Try.func90 rfl rfl Try.ntmps90 Try.results90 (by simp [AObj.isNest]) (by simp [AObj.isNest]) (by kernel_rfl) ?_; intro X hX hP hC hXn hXm vals hA; refine ⟨_, by simp, hA, ?_⟩; have hmix : X.P.follows .mixedOrders = true := (by rw [hP]; exact T.mixed); clear hXn hXm)
        have i1 := ha
        have i2 := hb
        have i3 := hc
        simp only [InB] at i1 i2 i3
        have m1 := mulB (x := a.1 - c.1) (y := b.1 - c.1) (m := 524288) (n := 524288) (by omega) (by omega)
        have m2 := mulB (x := a.2 - c.2) (y := b.2 - c.2) (m := 524288) (n := 524288) (by omega) (by omega)
        repeat' (first | ((first | ((with_reducible (first | apply oA | apply oB)); exact rfl; intro K hK) | (refine hK _ ?_; clear hK K) | ((with_reducible (first | apply oG | apply oH)); iterate 3 exact rfl) | ((with_reducible apply oI); (iterate 2 exact rfl); intro K hK) | (with_reducible (first | apply wI | apply wJ | apply wK))); try simp only [go_sem, simprocAttr]) | fail | (with_reducible (first | apply oC | apply oJ | exact oK | apply wA | apply wB | apply wC hX hC | apply wD hX hC | apply wE hX hC hmix | apply wF hX hC hmix | apply wG | apply wH | apply And.intro)) | ((with_reducible refine oD ?_ ?_); first | fail | kernel_rfl) | ((with_reducible (first | apply oE | apply oF)); (iterate 3 exact rfl); all_goals (intro h; first | (exact absurd h (by decide)) | ((try simp only [go_sem, simprocAttr] at h); (try with_reducible intro K hK); simp only [go_sem, simprocAttr]))) | ((first | ((with_reducible apply wL); exact rfl) | ((with_reducible apply wM); exact rfl)); all_goals (try ((with_reducible intro h); first | (exact absurd h (by decide)) | (try simp only [go_sem, simprocAttr] at h)))) | omega | ((first | first | refine acall_simple hX hC hP (refMayP_in _ (by assumption)) rfl rfl rfl (by simp only [go_sem, simprocAttr]) rfl ?_ | refine acall_simple hX hC hP (refMayP_out _ (by assumption)) rfl rfl rfl (by simp only [go_sem, simprocAttr]) rfl ?_ | refine acall_simple hX hC hP (sign_spec _) rfl rfl rfl (by simp only [go_sem, simprocAttr]) rfl ?_ | refine acall_simple hX hC hP (area_spec _ _ _ (by assumption) (by assumption) (by assumption)) rfl rfl rfl (by simp only [go_sem, simprocAttr]) rfl ?_ | refine acall_simple hX hC hP (along_spec _ _ _ (by assumption) (by assumption) (by assumption)) rfl rfl rfl (by simp only [go_sem, simprocAttr]) rfl ?_ | refine acall_simple hX hC hP (refOn_spec _ _ _) rfl rfl rfl (by simp only [go_sem, simprocAttr]) rfl ?_); try simp only [go_sem, simprocAttr]) | (intro h))
        all_goals simp_all [refOnV]
      · (refine Spec.intro (C := T.cfg [] []) (rs := [.t 6]) (T.cfg_ok _ _) Try.func90 rfl rfl Try.ntmps90 Try.results90 (by simp [AObj.isNest]) (by simp [AObj.isNest]) (by kernel_rfl) ?_; intro X hX hP hC hXn hXm vals hA; refine ⟨_, by simp, hA, ?_⟩; have hmix : X.P.follows .mixedOrders = true := (by rw [hP]; exact T.mixed); clear hXn hXm)
        repeat' (first | ((first | ((with_reducible (first | apply oA | apply oB)); exact rfl; intro K hK) | (refine hK _ ?_; clear hK K) | ((with_reducible (first | apply oG | apply oH)); iterate 3 exact rfl) | ((with_reducible apply oI); (iterate 2 exact rfl); intro K hK) | (with_reducible (first | apply wI | apply wJ | apply wK))); try simp only [go_sem, simprocAttr]) | fail | (with_reducible (first | apply oC | apply oJ | exact oK | apply wA | apply wB | apply wC hX hC | apply wD hX hC | apply wE hX hC hmix | apply wF hX hC hmix | apply wG | apply wH | apply And.intro)) | ((with_reducible refine oD ?_ ?_); first | fail | kernel_rfl) | ((with_reducible (first | apply oE | apply oF)); (iterate 3 exact rfl); all_goals (intro h; first | (exact absurd h (by decide)) | ((try simp only [go_sem, simprocAttr] at h); (try with_reducible intro K hK); simp only [go_sem, simprocAttr]))) | ((first | ((with_reducible apply wL); exact rfl) | ((with_reducible apply wM); exact rfl)); all_goals (try ((with_reducible intro h); first | (exact absurd h (by decide)) | (try simp only [go_sem, simprocAttr] at h)))) | omega | ((first | first | refine acall_simple hX hC hP (refMayP_in _ (by assumption)) rfl rfl rfl (by simp only [go_sem, simprocAttr]) rfl ?_ | refine acall_simple hX hC hP (refMayP_out _ (by assumption)) rfl rfl rfl (by simp only [go_sem, simprocAttr]) rfl ?_ | refine acall_simple hX hC hP (sign_spec _) rfl rfl rfl (by simp only [go_sem, simprocAttr]) rfl ?_ | refine acall_simple hX hC hP (area_spec _ _ _ (by assumption) (by assumption) (by assumption)) rfl rfl rfl (by simp only [go_sem, simprocAttr]) rfl ?_ | refine acall_simple hX hC hP (along_spec _ _ _ (by assumption) (by assumption) (by assumption)) rfl rfl rfl (by simp only [go_sem, simprocAttr]) rfl ?_ | refine acall_simple hX hC hP (refOn_spec _ _ _) rfl rfl rfl (by simp only [go_sem, simprocAttr]) rfl ?_); try simp only [go_sem, simprocAttr]) | (intro h))
        all_goals simp [refOnV, ha, hb, hc]
    · (refine Spec.intro (C := T.cfg [] []) (rs := [.t 6]) (T.cfg_ok _ _) Try.func90 rfl rfl Try.ntmps90 Try.results90 (by simp [AObj.isNest]) (by simp [AObj.isNest]) (by kernel_rfl) ?_; intro X hX hP hC hXn hXm vals hA; refine ⟨_, by simp, hA, ?_⟩; have hmix : X.P.follows .mixedOrders = true := (by rw [hP]; exact T.mixed); clear hXn hXm)
      repeat' (first | ((first | ((with_reducible (first | apply oA | apply oB)); exact rfl; intro K hK) | (refine hK _ ?_; clear hK K) | ((with_reducible (first | apply oG | apply oH)); iterate 3 exact rfl) | ((with_reducible apply oI); (iterate 2 exact rfl); intro K hK) | (with_reducible (first | apply wI | apply wJ | apply wK))); try simp only [go_sem, simprocAttr]) | fail | (with_reducible (first | apply oC | apply oJ | exact oK | apply wA | apply wB | apply wC hX hC | apply wD hX hC | apply wE hX hC hmix | apply wF hX hC hmix | apply wG | apply wH | apply And.intro)) | ((with_reducible refine oD ?_ ?_); first | fail | kernel_rfl) | ((with_reducible (first | apply oE | apply oF)); (iterate 3 exact rfl); all_goals (intro h; first | (exact absurd h (by decide)) | ((try simp only [go_sem, simprocAttr] at h); (try with_reducible intro K hK); simp only [go_sem, simprocAttr]))) | ((first | ((with_reducible apply wL); exact rfl) | ((with_reducible apply wM); exact rfl)); all_goals (try ((with_reducible intro h); first | (exact absurd h (by decide)) | (try simp only [go_sem, simprocAttr] at h)))) | omega | ((first | first | refine acall_simple hX hC hP (refMayP_in _ (by assumption)) rfl rfl rfl (by simp only [go_sem, simprocAttr]) rfl ?_ | refine acall_simple hX hC hP (refMayP_out _ (by assumption)) rfl rfl rfl (by simp only [go_sem, simprocAttr]) rfl ?_ | refine acall_simple hX hC hP (sign_spec _) rfl rfl rfl (by simp only [go_sem, simprocAttr]) rfl ?_ | refine acall_simple hX hC hP (area_spec _ _ _ (by assumption) (by assumption) (by assumption)) rfl rfl rfl (by simp only [go_sem, simprocAttr]) rfl ?_ | refine acall_simple hX hC hP (along_spec _ _ _ (by assumption) (by assumption) (by assumption)) rfl rfl rfl (by simp only [go_sem, simprocAttr]) rfl ?_ | refine acall_simple hX hC hP (refOn_spec _ _ _) rfl rfl rfl (by simp only [go_sem, simprocAttr]) rfl ?_); try simp only [go_sem, simprocAttr]) | (intro h))
      all_goals simp [refOnV, ha, hb]
  · (refine Spec.intro (C := T.cfg [] []) (rs := [.t 6]) (T.cfg_ok _ _) Try.func90 rfl rfl Try.ntmps90 Try.results90 (by simp [AObj.isNest]) (by simp [AObj.isNest]) (by kernel_rfl) ?_; intro X hX hP hC hXn hXm vals hA; refine ⟨_, by simp, hA, ?_⟩; have hmix : X.P.follows .mixedOrders = true := (by rw [hP]; exact T.mixed); clear hXn hXm)
    repeat' (first | ((first | ((with_reducible (first | apply oA | apply oB)); exact rfl; intro K hK) | (refine hK _ ?_; clear hK K) | ((with_reducible (first | apply oG | apply oH)); iterate 3 exact rfl) | ((with_reducible apply oI); (iterate 2 exact rfl); intro K hK) | (with_reducible (first | apply wI | apply wJ | apply wK))); try simp only [go_sem, simprocAttr]) | fail | (with_reducible (first | apply oC | apply oJ | exact oK | apply wA | apply wB | apply wC hX hC | apply wD hX hC | apply wE hX hC hmix | apply wF hX hC hmix | apply wG | apply wH | apply And.intro)) | ((with_reducible refine oD ?_ ?_); first | fail | kernel_rfl) | ((with_reducible (first | apply oE | apply oF)); (iterate 3 exact rfl); all_goals (intro h; first | (exact absurd h (by decide)) | ((try simp only [go_sem, simprocAttr] at h); (try with_reducible intro K hK); simp only [go_sem, simprocAttr]))) | ((first | ((with_reducible apply wL); exact rfl) | ((with_reducible apply wM); exact rfl)); all_goals (try ((with_reducible intro h); first | (exact absurd h (by decide)) | (try simp only [go_sem, simprocAttr] at h)))) | omega | ((first | first | refine acall_simple hX hC hP (refMayP_in _ (by assumption)) rfl rfl rfl (by simp only [go_sem, simprocAttr]) rfl ?_ | refine acall_simple hX hC hP (refMayP_out _ (by assumption)) rfl rfl rfl (by simp only [go_sem, simprocAttr]) rfl ?_ | refine acall_simple hX hC hP (sign_spec _) rfl rfl rfl (by simp only [go_sem, simprocAttr]) rfl ?_ | refine acall_simple hX hC hP (area_spec _ _ _ (by assumption) (by assumption) (by assumption)) rfl rfl rfl (by simp only [go_sem, simprocAttr]) rfl ?_ | refine acall_simple hX hC hP (along_spec _ _ _ (by assumption) (by assumption) (by assumption)) rfl rfl rfl (by simp only [go_sem, simprocAttr]) rfl ?_ | refine acall_simple hX hC hP (refOn_spec _ _ _) rfl rfl rfl (by simp only [go_sem, simprocAttr]) rfl ?_); try simp only [go_sem, simprocAttr]) | (intro h))
    all_goals simp [refOnV, ha]
end Go.Ab
end
section
namespace Go.Ab
open Go.Proofs
attribute [local congr] ACall.congr
set_option maxRecDepth 10000
set_option maxHeartbeats 2000000

def tr7 : OT := (.br 0 (.br 1 (.br 2 (.br 3 (.br 4 (.br 5 (.br 6 .nil .nil) .nil) .nil) (.br 4 (.br 3 (.br 5 (.br 6 .nil .nil) .nil) (.br 5 (.br 3 (.br 6 .nil .nil) .nil) .nil)) .nil)) (.br 4 (.br 2 (.br 3 (.br 5 (.br 6 .nil .nil) .nil) (.br 5 (.br 3 (.br 6 .nil .nil) .nil) .nil)) (.br 5 (.br 2 (.br 3 (.br 6 .nil .nil) .nil) .nil) .nil)) .nil)) .nil) (.br 1 (.br 0 (.br 2 (.br 3 (.br 4 (.br 5 (.br 6 .nil .nil) .nil) .nil) (.br 4 (.br 3 (.br 5 (.br 6 .nil .nil) .nil) (.br 5 (.br 3 (.br 6 .nil .nil) .nil) .nil)) .nil)) (.br 4 (.br 2 (.br 3 (.br 5 (.br 6 .nil .nil) .nil) (.br 5 (.br 3 (.br 6 .nil .nil) .nil) .nil)) (.br 5 (.br 2 (.br 3 (.br 6 .nil .nil) .nil) .nil) .nil)) .nil)) .nil) .nil))

theorem cmpI_b (n : Int) : -1 ≤ cmpI n 0 ∧ cmpI n 0 ≤ 1 := by unfold cmpI; repeat' split <;> omega

def refMeetV (a b c d : Pt) : Int :=
  if InB a ∧ InB b ∧ InB c ∧ InB d then
    if a = b then (if refOnV c d a = true then 1 else 0)
    else if c = d then (if refOnV a b c = true then 1 else 0)
    else if cmpI (areaV a b c) 0 = 0 ∧ cmpI (areaV a b d) 0 = 0 then
      let lo := max (alongV a b a) (min (alongV a b c) (alongV a b d))
      let hi := min (alongV a b b) (max (alongV a b c) (alongV a b d))
      if hi < lo then 0 else if lo = hi then 1 else 2
    else if cmpI (areaV a b c) 0 * cmpI (areaV a b d) 0 ≤ 0 ∧ cmpI (areaV c d a) 0 * cmpI (areaV c d b) 0 ≤ 0 then 1 else 0
  else 0

theorem refMeet_spec (a b c d : Pt) : Spec Try.prog 91 (Args [eP a, eP b, eP c, eP d]) [] (eN (refMeetV a b c d)) [] := by
  by_cases ha : InB a
  · by_cases hb : InB b
    · by_cases hc : InB c
      · by_cases hd : InB d
        · (refine Spec.intro (C := T.cfg [] []) (rs := [.t 8]) (T.cfg_ok _ _) Try.func91 rfl rfl Try.ntmps91 Try.results91 (by simp [AObj.isNest]) (by simp [AObj.isNest]) (by kernel_rfl) ?_; intro X hX hP hC hXn hXm vals hA; refine ⟨_, by simp, hA, ?_⟩; have hmix : X.P.follows .mixedOrders = true := (by rw [hP]; exact T.mixed); clear hXn hXm)
          have m1 := mulB (cmpI_b (areaV a b c)) (cmpI_b (areaV a b d))
          have m2 := mulB (cmpI_b (areaV c d a)) (cmpI_b (areaV c d b))
          repeat' (first | ((first | ((with_reducible (first | apply oA | apply oB)); exact rfl; intro K hK) | (refine hK _ ?_; clear hK K) | ((with_reducible (first | apply oG | apply oH)); iterate 3 exact rfl) | ((with_reducible apply oI); (iterate 2 exact rfl); intro K hK) | (with_reducible (first | apply wI | apply wJ | apply wK))); try simp only [go_sem, simprocAttr]) | ((with_reducible refine awp_tree hX hC hmix tr7 (by kernel_rfl) ?_); simp only [tr7]) | (with_reducible (first | apply oC | apply oJ | exact oK | apply wA | apply wB | apply wC hX hC | apply wD hX hC | apply wE hX hC hmix | apply wF hX hC hmix | apply wG | apply wH | apply And.intro)) | ((with_reducible refine oD ?_ ?_); first | fail | kernel_rfl) | ((with_reducible (first | apply oE | apply oF)); (iterate 3 exact rfl); all_goals (intro h; first | (exact absurd h (by decide)) | ((try simp only [go_sem, simprocAttr] at h); (try with_reducible intro K hK); simp only [go_sem, simprocAttr]))) | ((first | ((with_reducible apply wL); exact rfl) | ((with_reducible apply wM); exact rfl)); all_goals (try ((with_reducible intro h); first | (exact absurd h (by decide)) | (try simp only [go_sem, simprocAttr] at h)))) | omega | ((first | first | refine acall_simple hX hC hP (refMayP_in _ (by assumption)) rfl rfl rfl (by simp only [go_sem, simprocAttr]) rfl ?_ | refine acall_simple hX hC hP (refMayP_out _ (by assumption)) rfl rfl rfl (by simp only [go_sem, simprocAttr]) rfl ?_ | refine acall_simple hX hC hP (sign_spec _) rfl rfl rfl (by simp only [go_sem, simprocAttr]) rfl ?_ | refine acall_simple hX hC hP (area_spec _ _ _ (by assumption) (by assumption) (by assumption)) rfl rfl rfl (by simp only [go_sem, simprocAttr]) rfl ?_ | refine acall_simple hX hC hP (along_spec _ _ _ (by assumption) (by assumption) (by assumption)) rfl rfl rfl (by simp only [go_sem, simprocAttr]) rfl ?_ | refine acall_simple hX hC hP (refOn_spec _ _ _) rfl rfl rfl (by simp only [go_sem, simprocAttr]) rfl ?_ | refine acall_simple hX hC hP (times_spec _ _ _ _ (by assumption) (by assumption) (by assumption) (by assumption)) rfl rfl rfl (by simp only [go_sem, simprocAttr]) rfl ?_ | refine acall_simple hX hC hP (side_spec _ _ _ (by assumption) (by assumption) (by assumption)) rfl rfl rfl (by simp only [go_sem, simprocAttr]) rfl ?_ | refine acall_simple hX hC hP (on_spec _ _ _ (by assumption) (by assumption) (by assumption)) rfl rfl rfl (by simp only [go_sem, simprocAttr]) rfl ?_ | (refine acall_look hX hC hP (may_in4 a b c d (by assumption) (by assumption) (by assumption) (by assumption)) rfl rfl rfl ?_ ?_ rfl ?_; iterate 2 (focus (simp only [go_sem, simprocAttr]; done))) | (refine acall_look hX hC hP (may_out4 a b c d (by assumption)) rfl rfl rfl ?_ ?_ rfl ?_; iterate 2 (focus (simp only [go_sem, simprocAttr]; done)))); try simp only [go_sem, simprocAttr]) | (intro h))
          all_goals simp only [refMeetV, ha, hb, hc, hd, and_self, if_true, Prod.ext_iff]
          all_goals clear hA hX hmix hP hC X
          all_goals grind
        · (refine Spec.intro (C := T.cfg [] []) (rs := [.t 8]) (T.cfg_ok _ _) Try.func91 rfl rfl Try.ntmps91 Try.results91 (by simp [AObj.isNest]) (by simp [AObj.isNest]) (by kernel_rfl) ?_; intro X hX hP hC hXn hXm vals hA; refine ⟨_, by simp, hA, ?_⟩; have hmix : X.P.follows .mixedOrders = true := (by rw [hP]; exact T.mixed); clear hXn hXm)
          repeat' (first | ((first | ((with_reducible (first | apply oA | apply oB)); exact rfl; intro K hK) | (refine hK _ ?_; clear hK K) | ((with_reducible (first | apply oG | apply oH)); iterate 3 exact rfl) | ((with_reducible apply oI); (iterate 2 exact rfl); intro K hK) | (with_reducible (first | apply wI | apply wJ | apply wK))); try simp only [go_sem, simprocAttr]) | ((with_reducible refine awp_tree hX hC hmix tr7 (by kernel_rfl) ?_); simp only [tr7]) | (with_reducible (first | apply oC | apply oJ | exact oK | apply wA | apply wB | apply wC hX hC | apply wD hX hC | apply wE hX hC hmix | apply wF hX hC hmix | apply wG | apply wH | apply And.intro)) | ((with_reducible refine oD ?_ ?_); first | fail | kernel_rfl) | ((with_reducible (first | apply oE | apply oF)); (iterate 3 exact rfl); all_goals (intro h; first | (exact absurd h (by decide)) | ((try simp only [go_sem, simprocAttr] at h); (try with_reducible intro K hK); simp only [go_sem, simprocAttr]))) | ((first | ((with_reducible apply wL); exact rfl) | ((with_reducible apply wM); exact rfl)); all_goals (try ((with_reducible intro h); first | (exact absurd h (by decide)) | (try simp only [go_sem, simprocAttr] at h)))) | omega | ((first | first | refine acall_simple hX hC hP (refMayP_in _ (by assumption)) rfl rfl rfl (by simp only [go_sem, simprocAttr]) rfl ?_ | refine acall_simple hX hC hP (refMayP_out _ (by assumption)) rfl rfl rfl (by simp only [go_sem, simprocAttr]) rfl ?_ | refine acall_simple hX hC hP (sign_spec _) rfl rfl rfl (by simp only [go_sem, simprocAttr]) rfl ?_ | refine acall_simple hX hC hP (area_spec _ _ _ (by assumption) (by assumption) (by assumption)) rfl rfl rfl (by simp only [go_sem, simprocAttr]) rfl ?_ | refine acall_simple hX hC hP (along_spec _ _ _ (by assumption) (by assumption) (by assumption)) rfl rfl rfl (by simp only [go_sem, simprocAttr]) rfl ?_ | refine acall_simple hX hC hP (refOn_spec _ _ _) rfl rfl rfl (by simp only [go_sem, simprocAttr]) rfl ?_ | refine acall_simple hX hC hP (times_spec _ _ _ _ (by assumption) (by assumption) (by assumption) (by assumption)) rfl rfl rfl (by simp only [go_sem, simprocAttr]) rfl ?_ | refine acall_simple hX hC hP (side_spec _ _ _ (by assumption) (by assumption) (by assumption)) rfl rfl rfl (by simp only [go_sem, simprocAttr]) rfl ?_ | refine acall_simple hX hC hP (on_spec _ _ _ (by assumption) (by assumption) (by assumption)) rfl rfl rfl (by simp only [go_sem, simprocAttr]) rfl ?_ | (refine acall_look hX hC hP (may_in4 a b c d (by assumption) (by assumption) (by assumption) (by assumption)) rfl rfl rfl ?_ ?_ rfl ?_; iterate 2 (focus (simp only [go_sem, simprocAttr]; done))) | (refine acall_look hX hC hP (may_out4 a b c d (by assumption)) rfl rfl rfl ?_ ?_ rfl ?_; iterate 2 (focus (simp only [go_sem, simprocAttr]; done)))); try simp only [go_sem, simprocAttr]) | (intro h))
          all_goals simp [refMeetV, hd]
      · (refine Spec.intro (C := T.cfg [] []) (rs := [.t 8]) (T.cfg_ok _ _) Try.func91 rfl rfl Try.ntmps91 Try.results91 (by simp [AObj.isNest]) (by simp [AObj.isNest]) (by kernel_rfl) ?_; intro X hX hP hC hXn hXm vals hA; refine ⟨_, by simp, hA, ?_⟩; have hmix : X.P.follows .mixedOrders = true := (by rw [hP]; exact T.mixed); clear hXn hXm)
        repeat' (first | ((first | ((with_reducible (first | apply oA | apply oB)); exact rfl; intro K hK) | (refine hK _ ?_; clear hK K) | ((with_reducible (first | apply oG | apply oH)); iterate 3 exact rfl) | ((with_reducible apply oI); (iterate 2 exact rfl); intro K hK) | (with_reducible (first | apply wI | apply wJ | apply wK))); try simp only [go_sem, simprocAttr]) | ((with_reducible refine awp_tree hX hC hmix tr7 (by kernel_rfl) ?_); simp only [tr7]) | (with_reducible (first | apply oC | apply oJ | exact oK | apply wA | apply wB | apply wC hX hC | apply wD hX hC | apply wE hX hC hmix | apply wF hX hC hmix | apply wG | apply wH | apply And.intro)) | ((with_reducible refine oD ?_ ?_); first | fail | kernel_rfl) | ((with_reducible (first | apply oE | apply oF)); (iterate 3 exact rfl); all_goals (intro h; first | (exact absurd h (by decide)) | ((try simp only [go_sem, simprocAttr] at h); (try with_reducible intro K hK); simp only [go_sem, simprocAttr]))) | ((first | ((with_reducible apply wL); exact rfl) | ((with_reducible apply wM); exact rfl)); all_goals (try ((with_reducible intro h); first | (exact absurd h (by decide)) | (try simp only [go_sem, simprocAttr] at h)))) | omega | ((first | first | refine acall_simple hX hC hP (refMayP_in _ (by assumption)) rfl rfl rfl (by simp only [go_sem, simprocAttr]) rfl ?_ | refine acall_simple hX hC hP (refMayP_out _ (by assumption)) rfl rfl rfl (by simp only [go_sem, simprocAttr]) rfl ?_ | refine acall_simple hX hC hP (sign_spec _) rfl rfl rfl (by simp only [go_sem, simprocAttr]) rfl ?_ | refine acall_simple hX hC hP (area_spec _ _ _ (by assumption) (by assumption) (by assumption)) rfl rfl rfl (by simp only [go_sem, simprocAttr]) rfl ?_ | refine acall_simple hX hC hP (along_spec _ _ _ (by assumption) (by assumption) (by assumption)) rfl rfl rfl (by simp only [go_sem, simprocAttr]) rfl ?_ | refine acall_simple hX hC hP (refOn_spec _ _ _) rfl rfl rfl (by simp only [go_sem, simprocAttr]) rfl ?_ | refine acall_simple hX hC hP (times_spec _ _ _ _ (by assumption) (by assumption) (by assumption) (by assumption)) rfl rfl rfl (by simp only [go_sem, simprocAttr]) rfl ?_ | refine acall_simple hX hC hP (side_spec _ _ _ (by assumption) (by assumption) (by assumption)) rfl rfl rfl (by simp only [go_sem, simprocAttr]) rfl ?_ | refine acall_simple hX hC hP (on_spec _ _ _ (by assumption) (by assumption) (by assumption)) rfl rfl rfl (by simp only [go_sem, simprocAttr]) rfl ?_ | (refine acall_look hX hC hP (may_in4 a b c d (by assumption) (by assumption) (by assumption) (by assumption)) rfl rfl rfl ?_ ?_ rfl ?_; iterate 2 (focus (simp only [go_sem, simprocAttr]; done))) | (refine acall_look hX hC hP (may_out4 a b c d (by assumption)) rfl rfl rfl ?_ ?_ rfl ?_; iterate 2 (focus (simp only [go_sem, simprocAttr]; done)))); try simp only [go_sem, simprocAttr]) | (intro h))
        all_goals simp [refMeetV, hc]
    · (refine Spec.intro (C := T.cfg [] []) (rs := [.t 8]) (T.cfg_ok _ _) Try.func91 rfl rfl Try.ntmps91 Try.results91 (by simp [AObj.isNest]) (by simp [AObj.isNest]) (by kernel_rfl) ?_; intro X hX hP hC hXn hXm vals hA; refine ⟨_, by simp, hA, ?_⟩; have hmix : X.P.follows .mixedOrders = true := (by rw [hP]; exact T.mixed); clear hXn hXm)
      repeat' (first | ((first | ((with_reducible (first | apply oA | apply oB)); exact rfl; intro K hK) | (refine hK _ ?_; clear hK K) | ((with_reducible (first | apply oG | apply oH)); iterate 3 exact rfl) | ((with_reducible apply oI); (iterate 2 exact rfl); intro K hK) | (with_reducible (first | apply wI | apply wJ | apply wK))); try simp only [go_sem, simprocAttr]) | ((with_reducible refine awp_tree hX hC hmix tr7 (by kernel_rfl) ?_); simp only [tr7]) | (with_reducible (first | apply oC | apply oJ | exact oK | apply wA | apply wB | apply wC hX hC | apply wD hX hC | apply wE hX hC hmix | apply wF hX hC hmix | apply wG | apply wH | apply And.intro)) | ((with_reducible refine oD ?_ ?_); first | fail | kernel_rfl) | ((with_reducible (first | apply oE | apply oF)); (iterate 3 exact rfl); all_goals (intro h; first | (exact absurd h (by decide)) | ((try simp only [go_sem, simprocAttr] at h); (try with_reducible intro K hK); simp only [go_sem, simprocAttr]))) | ((first | ((with_reducible apply wL); exact rfl) | ((with_reducible apply wM); exact rfl)); all_goals (try ((with_reducible intro h); first | (exact absurd h (by decide)) | (try simp only [go_sem, simprocAttr] at h)))) | omega | ((first | first | refine acall_simple hX hC hP (refMayP_in _ (by assumption)) rfl rfl rfl (by simp only [go_sem, simprocAttr]) rfl ?_ | refine acall_simple hX hC hP (refMayP_out _ (by assumption)) rfl rfl rfl (by simp only [go_sem, simprocAttr]) rfl ?_ | refine acall_simple hX hC hP (sign_spec _) rfl rfl rfl (by simp only [go_sem, simprocAttr]) rfl ?_ | refine acall_simple hX hC hP (area_spec _ _ _ (by assumption) (by assumption) (by assumption)) rfl rfl rfl (by simp only [go_sem, simprocAttr]) rfl ?_ | refine acall_simple hX hC hP (along_spec _ _ _ (by assumption) (by assumption) (by assumption)) rfl rfl rfl (by simp only [go_sem, simprocAttr]) rfl ?_ | refine acall_simple hX hC hP (refOn_spec _ _ _) rfl rfl rfl (by simp only [go_sem, simprocAttr]) rfl ?_ | refine acall_simple hX hC hP (times_spec _ _ _ _ (by assumption) (by assumption) (by assumption) (by assumption)) rfl rfl rfl (by simp only [go_sem, simprocAttr]) rfl ?_ | refine acall_simple hX hC hP (side_spec _ _ _ (by assumption) (by assumption) (by assumption)) rfl rfl rfl (by simp only [go_sem, simprocAttr]) rfl ?_ | refine acall_simple hX hC hP (on_spec _ _ _ (by assumption) (by assumption) (by assumption)) rfl rfl rfl (by simp only [go_sem, simprocAttr]) rfl ?_ | (refine acall_look hX hC hP (may_in4 a b c d (by assumption) (by assumption) (by assumption) (by assumption)) rfl rfl rfl ?_ ?_ rfl ?_; iterate 2 (focus (simp only [go_sem, simprocAttr]; done))) | (refine acall_look hX hC hP (may_out4 a b c d (by assumption)) rfl rfl rfl ?_ ?_ rfl ?_; iterate 2 (focus (simp only [go_sem, simprocAttr]; done)))); try simp only [go_sem, simprocAttr]) | (intro h))
      all_goals simp [refMeetV, hb]
  · (refine Spec.intro (C := T.cfg [] []) (rs := [.t 8]) (T.cfg_ok _ _) Try.func91 rfl rfl Try.ntmps91 Try.results91 (by simp [AObj.isNest]) (by simp [AObj.isNest]) (by kernel_rfl) ?_; intro X hX hP hC hXn hXm vals hA; refine ⟨_, by simp, hA, ?_⟩; have hmix : X.P.follows .mixedOrders = true := (by rw [hP]; exact T.mixed); clear hXn hXm)
    repeat' (first | ((first | ((with_reducible (first | apply oA | apply oB)); exact rfl; intro K hK) | (refine hK _ ?_; clear hK K) | ((with_reducible (first | apply oG | apply oH)); iterate 3 exact rfl) | ((with_reducible apply oI); (iterate 2 exact rfl); intro K hK) | (with_reducible (first | apply wI | apply wJ | apply wK))); try simp only [go_sem, simprocAttr]) | ((with_reducible refine awp_tree hX hC hmix tr7 (by kernel_rfl) ?_); simp only [tr7]) | (with_reducible (first | apply oC | apply oJ | exact oK | apply wA | apply wB | apply wC hX hC | apply wD hX hC | apply wE hX hC hmix | apply wF hX hC hmix | apply wG | apply wH | apply And.intro)) | ((with_reducible refine oD ?_ ?_); first | fail | kernel_rfl) | ((with_reducible (first | apply oE | apply oF)); (iterate 3 exact rfl); all_goals (intro h; first | (exact absurd h (by decide)) | ((try simp only [go_sem, simprocAttr] at h); (try with_reducible intro K hK); simp only [go_sem, simprocAttr]))) | ((first | ((with_reducible apply wL); exact rfl) | ((with_reducible apply wM); exact rfl)); all_goals (try ((with_reducible intro h); first | (exact absurd h (by decide)) | (try simp only [go_sem, simprocAttr] at h)))) | omega | ((first | first | refine acall_simple hX hC hP (refMayP_in _ (by assumption)) rfl rfl rfl (by simp only [go_sem, simprocAttr]) rfl ?_ | refine acall_simple hX hC hP (refMayP_out _ (by assumption)) rfl rfl rfl (by simp only [go_sem, simprocAttr]) rfl ?_ | refine acall_simple hX hC hP (sign_spec _) rfl rfl rfl (by simp only [go_sem, simprocAttr]) rfl ?_ | refine acall_simple hX hC hP (area_spec _ _ _ (by assumption) (by assumption) (by assumption)) rfl rfl rfl (by simp only [go_sem, simprocAttr]) rfl ?_ | refine acall_simple hX hC hP (along_spec _ _ _ (by assumption) (by assumption) (by assumption)) rfl rfl rfl (by simp only [go_sem, simprocAttr]) rfl ?_ | refine acall_simple hX hC hP (refOn_spec _ _ _) rfl rfl rfl (by simp only [go_sem, simprocAttr]) rfl ?_ | refine acall_simple hX hC hP (times_spec _ _ _ _ (by assumption) (by assumption) (by assumption) (by assumption)) rfl rfl rfl (by simp only [go_sem, simprocAttr]) rfl ?_ | refine acall_simple hX hC hP (side_spec _ _ _ (by assumption) (by assumption) (by assumption)) rfl rfl rfl (by simp only [go_sem, simprocAttr]) rfl ?_ | refine acall_simple hX hC hP (on_spec _ _ _ (by assumption) (by assumption) (by assumption)) rfl rfl rfl (by simp only [go_sem, simprocAttr]) rfl ?_ | (refine acall_look hX hC hP (may_in4 a b c d (by assumption) (by assumption) (by assumption) (by assumption)) rfl rfl rfl ?_ ?_ rfl ?_; iterate 2 (focus (simp only [go_sem, simprocAttr]; done))) | (refine acall_look hX hC hP (may_out4 a b c d (by assumption)) rfl rfl rfl ?_ ?_ rfl ?_; iterate 2 (focus (simp only [go_sem, simprocAttr]; done)))); try simp only [go_sem, simprocAttr]) | (intro h))
    all_goals simp [refMeetV, ha]
end Go.Ab
end
section
namespace Go.Ab
open Go.Proofs
attribute [local congr] ACall.congr
set_option maxRecDepth 10000
set_option maxHeartbeats 2000000

theorem mval_touch (es : List (List Int × Int)) (k : List Int) : mval (mtouch es k) k = mval es k := by
  unfold mtouch
  cases h : mfind es k with
  | some i => rfl
  | none =>
    have hn := mfind_none h
    have : mfind (es ++ [(k, 0)]) k = some es.length := by
      unfold mfind
      rw [List.findIdx?_eq_some_iff_getElem]
      refine ⟨by simp, by simp, fun j hj => ?_⟩
      rw [List.getElem_append_left hj]
      have := hn es[j] (List.getElem_mem hj)
      simpa using fun e => this e.symm
    simp [mval, h, this]
theorem mstamp_lt (es : List (List Int × Int)) (k : List Int) : mstamp es k < (mtouch es k).length := by
  unfold mstamp mtouch
  cases h : mfind es k with
  | some i =>
    obtain ⟨p, hp, _⟩ := mfind_spec h
    exact (List.getElem?_eq_some_iff.1 hp).1
  | none => simp
def bump (es : List (List Int × Int)) (k : List Int) : List (List Int × Int) := mput (mtouch es k) (mstamp es k) (mval es k + 1)
theorem mput_keys (es : List (List Int × Int)) (i : Nat) (v : Int) : (mput es i v).map (·.1) = es.map (·.1) := by
  apply List.ext_getElem?
  intro j
  rw [List.getElem?_map, List.getElem?_map]
  unfold mput
  rw [List.getElem?_modify]
  split <;> cases es[j]? <;> rfl
def addK (p : Pt) (ks : List (List Int)) : List (List Int) := if [p.1, p.2] ∈ ks then ks else ks ++ [[p.1, p.2]]
theorem bump_keys (es : List (List Int × Int)) (p : Pt) : (bump es [p.1, p.2]).map (·.1) = addK p (es.map (·.1)) := by
  unfold bump addK
  rw [mput_keys]
  unfold mtouch
  cases h : mfind es [p.1, p.2] with
  | some i =>
    obtain ⟨q, hq, hk⟩ := mfind_spec h
    have : [p.1, p.2] ∈ es.map (·.1) := List.mem_map.2 ⟨q, List.mem_of_getElem? hq, hk⟩
    rw [if_pos this]
  | none =>
    have : [p.1, p.2] ∉ es.map (·.1) := fun hm => by
      obtain ⟨q, hq, hk⟩ := List.mem_map.1 hm
      exact mfind_none h q hq hk
    rw [if_neg this]; simp
def BE (n : Int) (es : List (List Int × Int)) : Prop := ∀ p ∈ es, 0 ≤ p.2 ∧ p.2 ≤ n
theorem mval_b {n : Int} (hn : 0 ≤ n) {es : List (List Int × Int)} (h : BE n es) (k : List Int) : 0 ≤ mval es k ∧ mval es k ≤ n := by
  unfold mval
  cases hf : mfind es k with
  | none => simp [hn]
  | some i =>
    obtain ⟨p, hp, _⟩ := mfind_spec hf
    simp only [hp, Option.map_some, Option.getD_some]
    exact h p (List.mem_of_getElem? hp)
theorem bump_b {n : Int} (hn : 0 ≤ n) {es : List (List Int × Int)} (h : BE n es) (k : List Int) : BE (n + 1) (bump es k) := by
  intro p hp
  have hv := mval_b hn h k
  have ht : BE n (mtouch es k) := by
    unfold mtouch
    split
    · exact h
    · intro q hq
      rcases List.mem_append.1 hq with hq | hq
      · exact h q hq
      · simp at hq; subst hq; simp [hn]
  obtain ⟨j, hj⟩ := List.mem_iff_getElem?.1 hp
  unfold bump mput at hj
  rw [List.getElem?_modify] at hj
  split at hj
  · simp only [Option.map_eq_map, Option.map_eq_some_iff] at hj
    obtain ⟨q, hq, rfl⟩ := hj
    constructor <;> simp only <;> omega
  · have := ht p (List.mem_of_getElem? (by simpa using hj))
    omega
end Go.Ab
end
section
namespace Go.Ab
open Go.Proofs
attribute [local congr] ACall.congr
set_option maxRecDepth 10000
set_option maxHeartbeats 4000000

attribute [go_sem] mval_touch

def K1 (a _b c d : Pt) : List (List Int) := if onP c d a = true then addK a [] else []
def K2 (a b c d : Pt) : List (List Int) := if onP c d b = true then addK b (K1 a b c d) else K1 a b c d
def K3 (a b c d : Pt) : List (List Int) := if onP a b c = true then addK c (K2 a b c d) else K2 a b c d
def K4 (a b c d : Pt) : List (List Int) := if onP a b d = true then addK d (K3 a b c d) else K3 a b c d

def meetV (a b c d : Pt) : Int :=
  if InB a ∧ InB b ∧ InB c ∧ InB d then
    if 0 < (K4 a b c d).length then min ((K4 a b c d).length : Int) 2
    else if sd a b c * sd a b d < 0 ∧ sd c d a * sd c d b < 0 then 1 else 0
  else 0

/-- The rounds so far. -/
def RS (A B C : List (List Int)) (p : Nat × List (List Int × Int)) (n : Int) : Prop :=
  (p.1 = 0 ∧ p.2.map (·.1) = A ∧ BE n p.2) ∨ (p.1 = 1 ∧ p.2.map (·.1) = B ∧ BE (n + 1) p.2) ∨ (p.1 = 2 ∧ p.2.map (·.1) = C ∧ BE (n + 2) p.2)

def bx (p : Pt) : AObj := .box [.d (.sc (.int .i64 p.1)), .d (.sc (.int .i64 p.2))]
attribute [go_sem] bx
def st1 (a b c d : Pt) (i : Nat × List (List Int × Int)) : ASt :=
  ⟨[(9, .mref 21), (4, .ptr 4 0), (5, .ptr 5 0), (6, .ptr 6 0), (7, .ptr 7 0), (24, .agg [eN a.1, eN a.2, eN b.1, eN b.2]), (25, eN i.1)],
    [(4, bx a), (5, bx b), (6, bx c), (7, bx d), (21, .mp 2 i.2)]⟩
def st2 (a b c d : Pt) (i : Nat × List (List Int × Int)) : ASt :=
  ⟨[(9, .mref 21), (4, .ptr 4 0), (5, .ptr 5 0), (6, .ptr 6 0), (7, .ptr 7 0), (41, .agg [eN c.1, eN c.2, eN d.1, eN d.2]), (42, eN i.1)],
    [(4, bx a), (5, bx b), (6, bx c), (7, bx d), (21, .mp 2 i.2)]⟩

theorem meet_in (a b c d : Pt) (ha : InB a) (hb : InB b) (hc : InB c) (hd : InB d) : Spec Try.prog 85 (Args [eP a, eP b, eP c, eP d]) [] (eN (meetV a b c d)) [] := by
  (refine Spec.intro (C := T.cfg [] []) (rs := [.t 8]) (T.cfg_ok _ _) Try.func85 rfl rfl Try.ntmps85 Try.results85 (by simp [AObj.isNest]) (by simp [AObj.isNest]) (by kernel_rfl) ?_; intro X hX hP hC hXn hXm vals hA; refine ⟨_, by simp, hA, ?_⟩; have hmix : X.P.follows .mixedOrders = true := (by rw [hP]; exact T.mixed); clear hXn hXm)
  repeat' (first | ((first | ((with_reducible (first | apply oA | apply oB)); exact rfl; intro K hK) | (refine hK _ ?_; clear hK K) | ((with_reducible (first | apply oG | apply oH)); iterate 3 exact rfl) | ((with_reducible apply oI); (iterate 2 exact rfl); intro K hK) | (with_reducible (first | apply wI | apply wJ | apply wK))); try simp only [go_sem, simprocAttr]) | ((with_reducible refine awp_tree hX hC hmix tr7 (by kernel_rfl) ?_); simp only [tr7]) | (with_reducible (first | apply oC | apply oJ | exact oK | apply wA | apply wB | apply wC hX hC | apply wD hX hC | apply wE hX hC hmix | apply wF hX hC hmix | apply wG | apply wH | apply And.intro)) | ((with_reducible refine oD ?_ ?_); first | fail | kernel_rfl) | ((with_reducible (first | apply oE | apply oF)); (iterate 3 exact rfl); all_goals (intro h; first | (exact absurd h (by decide)) | ((try simp only [go_sem, simprocAttr] at h); (try with_reducible intro K hK); simp only [go_sem, simprocAttr]))) | ((first | ((with_reducible apply wL); exact rfl) | ((with_reducible apply wM); exact rfl)); all_goals (try ((with_reducible intro h); first | (exact absurd h (by decide)) | (try simp only [go_sem, simprocAttr] at h)))) | omega | ((first | first | refine acall_simple hX hC hP (refMayP_in _ (by assumption)) rfl rfl rfl (by simp only [go_sem, simprocAttr]) rfl ?_ | refine acall_simple hX hC hP (refMayP_out _ (by assumption)) rfl rfl rfl (by simp only [go_sem, simprocAttr]) rfl ?_ | refine acall_simple hX hC hP (sign_spec _) rfl rfl rfl (by simp only [go_sem, simprocAttr]) rfl ?_ | refine acall_simple hX hC hP (area_spec _ _ _ (by assumption) (by assumption) (by assumption)) rfl rfl rfl (by simp only [go_sem, simprocAttr]) rfl ?_ | refine acall_simple hX hC hP (along_spec _ _ _ (by assumption) (by assumption) (by assumption)) rfl rfl rfl (by simp only [go_sem, simprocAttr]) rfl ?_ | refine acall_simple hX hC hP (refOn_spec _ _ _) rfl rfl rfl (by simp only [go_sem, simprocAttr]) rfl ?_ | refine acall_simple hX hC hP (times_spec _ _ _ _ (by assumption) (by assumption) (by assumption) (by assumption)) rfl rfl rfl (by simp only [go_sem, simprocAttr]) rfl ?_ | refine acall_simple hX hC hP (side_spec _ _ _ (by assumption) (by assumption) (by assumption)) rfl rfl rfl (by simp only [go_sem, simprocAttr]) rfl ?_ | refine acall_simple hX hC hP (on_spec _ _ _ (by assumption) (by assumption) (by assumption)) rfl rfl rfl (by simp only [go_sem, simprocAttr]) rfl ?_ | (refine acall_look hX hC hP (may_in4 a b c d (by assumption) (by assumption) (by assumption) (by assumption)) rfl rfl rfl ?_ ?_ rfl ?_; iterate 2 (focus (simp only [go_sem, simprocAttr]; done))) | (refine acall_look hX hC hP (may_out4 a b c d (by assumption)) rfl rfl rfl ?_ ?_ rfl ?_; iterate 2 (focus (simp only [go_sem, simprocAttr]; done)))); try simp only [go_sem, simprocAttr]) | (intro h))
  refine awp_loopP (fun i : Nat × List (List Int × Int) => RS [] (K1 a b c d) (K2 a b c d) i 0) (st1 a b c d) (fun i => 2 - i.1) (0, []) (.inl ⟨rfl, rfl, by simp [BE]⟩) ?_ ?_
  · refine Le.of ?_ ?_ <;> simp [go_sem, simprocAttr, st1]
  rintro ⟨k, es⟩ (⟨hk, hks, hbe⟩ | ⟨hk, hks, hbe⟩ | ⟨hk, hks, hbe⟩) <;> simp only at hk hks hbe <;> subst hk <;> simp only [st1]
  · have hv := mval_b (by omega) hbe [a.1, a.2]
    have hs := mstamp_lt es [a.1, a.2]
    have hb2 := bump_b (by omega) hbe [a.1, a.2]
    have hk2 := bump_keys es a
    repeat' (first | ((first | ((with_reducible (first | apply oA | apply oB)); exact rfl; intro K hK) | (refine hK _ ?_; clear hK K) | ((with_reducible (first | apply oG | apply oH)); iterate 3 exact rfl) | ((with_reducible apply oI); (iterate 2 exact rfl); intro K hK) | (with_reducible (first | apply wI | apply wJ | apply wK))); try simp only [go_sem, simprocAttr]) | ((with_reducible refine awp_tree hX hC hmix tr7 (by kernel_rfl) ?_); simp only [tr7]) | (with_reducible (first | apply oC | apply oJ | exact oK | apply wA | apply wB | apply wC hX hC | apply wD hX hC | apply wE hX hC hmix | apply wF hX hC hmix | apply wG | apply wH | apply And.intro)) | ((with_reducible refine oD ?_ ?_); first | fail | kernel_rfl) | ((with_reducible (first | apply oE | apply oF)); (iterate 3 exact rfl); all_goals (intro h; first | (exact absurd h (by decide)) | ((try simp only [go_sem, simprocAttr] at h); (try with_reducible intro K hK); simp only [go_sem, simprocAttr]))) | ((first | ((with_reducible apply wL); exact rfl) | ((with_reducible apply wM); exact rfl)); all_goals (try ((with_reducible intro h); first | (exact absurd h (by decide)) | (try simp only [go_sem, simprocAttr] at h)))) | omega | ((first | first | refine acall_simple hX hC hP (refMayP_in _ (by assumption)) rfl rfl rfl (by simp only [go_sem, simprocAttr]) rfl ?_ | refine acall_simple hX hC hP (refMayP_out _ (by assumption)) rfl rfl rfl (by simp only [go_sem, simprocAttr]) rfl ?_ | refine acall_simple hX hC hP (sign_spec _) rfl rfl rfl (by simp only [go_sem, simprocAttr]) rfl ?_ | refine acall_simple hX hC hP (area_spec _ _ _ (by assumption) (by assumption) (by assumption)) rfl rfl rfl (by simp only [go_sem, simprocAttr]) rfl ?_ | refine acall_simple hX hC hP (along_spec _ _ _ (by assumption) (by assumption) (by assumption)) rfl rfl rfl (by simp only [go_sem, simprocAttr]) rfl ?_ | refine acall_simple hX hC hP (refOn_spec _ _ _) rfl rfl rfl (by simp only [go_sem, simprocAttr]) rfl ?_ | refine acall_simple hX hC hP (times_spec _ _ _ _ (by assumption) (by assumption) (by assumption) (by assumption)) rfl rfl rfl (by simp only [go_sem, simprocAttr]) rfl ?_ | refine acall_simple hX hC hP (side_spec _ _ _ (by assumption) (by assumption) (by assumption)) rfl rfl rfl (by simp only [go_sem, simprocAttr]) rfl ?_ | refine acall_simple hX hC hP (on_spec _ _ _ (by assumption) (by assumption) (by assumption)) rfl rfl rfl (by simp only [go_sem, simprocAttr]) rfl ?_ | (refine acall_look hX hC hP (may_in4 a b c d (by assumption) (by assumption) (by assumption) (by assumption)) rfl rfl rfl ?_ ?_ rfl ?_; iterate 2 (focus (simp only [go_sem, simprocAttr]; done))) | (refine acall_look hX hC hP (may_out4 a b c d (by assumption)) rfl rfl rfl ?_ ?_ rfl ?_; iterate 2 (focus (simp only [go_sem, simprocAttr]; done)))); try simp only [go_sem, simprocAttr]) | (intro h))
    all_goals first
      | (refine ⟨(1, bump es [a.1, a.2]), .inr (.inl ⟨rfl, by rw [hk2, hks]; simp only [K1, if_pos h], by simpa using hb2⟩), Le.of ?_ ?_, by simp⟩ <;> simp [go_sem, simprocAttr, bump]; done)
      | (refine ⟨(1, es), .inr (.inl ⟨rfl, by rw [hks]; simp [K1, h], fun p hp => by have := hbe p hp; omega⟩), Le.of ?_ ?_, by simp⟩ <;> simp [go_sem, simprocAttr]; done)
  · have hv := mval_b (by omega) hbe [b.1, b.2]
    have hs := mstamp_lt es [b.1, b.2]
    have hb2 := bump_b (by omega) hbe [b.1, b.2]
    have hk2 := bump_keys es b
    repeat' (first | ((first | ((with_reducible (first | apply oA | apply oB)); exact rfl; intro K hK) | (refine hK _ ?_; clear hK K) | ((with_reducible (first | apply oG | apply oH)); iterate 3 exact rfl) | ((with_reducible apply oI); (iterate 2 exact rfl); intro K hK) | (with_reducible (first | apply wI | apply wJ | apply wK))); try simp only [go_sem, simprocAttr]) | ((with_reducible refine awp_tree hX hC hmix tr7 (by kernel_rfl) ?_); simp only [tr7]) | (with_reducible (first | apply oC | apply oJ | exact oK | apply wA | apply wB | apply wC hX hC | apply wD hX hC | apply wE hX hC hmix | apply wF hX hC hmix | apply wG | apply wH | apply And.intro)) | ((with_reducible refine oD ?_ ?_); first | fail | kernel_rfl) | ((with_reducible (first | apply oE | apply oF)); (iterate 3 exact rfl); all_goals (intro h; first | (exact absurd h (by decide)) | ((try simp only [go_sem, simprocAttr] at h); (try with_reducible intro K hK); simp only [go_sem, simprocAttr]))) | ((first | ((with_reducible apply wL); exact rfl) | ((with_reducible apply wM); exact rfl)); all_goals (try ((with_reducible intro h); first | (exact absurd h (by decide)) | (try simp only [go_sem, simprocAttr] at h)))) | omega | ((first | first | refine acall_simple hX hC hP (refMayP_in _ (by assumption)) rfl rfl rfl (by simp only [go_sem, simprocAttr]) rfl ?_ | refine acall_simple hX hC hP (refMayP_out _ (by assumption)) rfl rfl rfl (by simp only [go_sem, simprocAttr]) rfl ?_ | refine acall_simple hX hC hP (sign_spec _) rfl rfl rfl (by simp only [go_sem, simprocAttr]) rfl ?_ | refine acall_simple hX hC hP (area_spec _ _ _ (by assumption) (by assumption) (by assumption)) rfl rfl rfl (by simp only [go_sem, simprocAttr]) rfl ?_ | refine acall_simple hX hC hP (along_spec _ _ _ (by assumption) (by assumption) (by assumption)) rfl rfl rfl (by simp only [go_sem, simprocAttr]) rfl ?_ | refine acall_simple hX hC hP (refOn_spec _ _ _) rfl rfl rfl (by simp only [go_sem, simprocAttr]) rfl ?_ | refine acall_simple hX hC hP (times_spec _ _ _ _ (by assumption) (by assumption) (by assumption) (by assumption)) rfl rfl rfl (by simp only [go_sem, simprocAttr]) rfl ?_ | refine acall_simple hX hC hP (side_spec _ _ _ (by assumption) (by assumption) (by assumption)) rfl rfl rfl (by simp only [go_sem, simprocAttr]) rfl ?_ | refine acall_simple hX hC hP (on_spec _ _ _ (by assumption) (by assumption) (by assumption)) rfl rfl rfl (by simp only [go_sem, simprocAttr]) rfl ?_ | (refine acall_look hX hC hP (may_in4 a b c d (by assumption) (by assumption) (by assumption) (by assumption)) rfl rfl rfl ?_ ?_ rfl ?_; iterate 2 (focus (simp only [go_sem, simprocAttr]; done))) | (refine acall_look hX hC hP (may_out4 a b c d (by assumption)) rfl rfl rfl ?_ ?_ rfl ?_; iterate 2 (focus (simp only [go_sem, simprocAttr]; done)))); try simp only [go_sem, simprocAttr]) | (intro h))
    all_goals first
      | (refine ⟨(2, bump es [b.1, b.2]), .inr (.inr ⟨rfl, by rw [hk2, hks]; simp only [K2, if_pos h], by simpa using hb2⟩), Le.of ?_ ?_, by simp⟩ <;> simp [go_sem, simprocAttr, bump]; done)
      | (refine ⟨(2, es), .inr (.inr ⟨rfl, by rw [hks]; simp [K2, h], fun p hp => by have := hbe p hp; omega⟩), Le.of ?_ ?_, by simp⟩ <;> simp [go_sem, simprocAttr]; done)
  · repeat' (first | ((first | ((with_reducible (first | apply oA | apply oB)); exact rfl; intro K hK) | (refine hK _ ?_; clear hK K) | ((with_reducible (first | apply oG | apply oH)); iterate 3 exact rfl) | ((with_reducible apply oI); (iterate 2 exact rfl); intro K hK) | (with_reducible (first | apply wI | apply wJ | apply wK))); try simp only [go_sem, simprocAttr]) | ((with_reducible refine awp_tree hX hC hmix tr7 (by kernel_rfl) ?_); simp only [tr7]) | (with_reducible (first | apply oC | apply oJ | exact oK | apply wA | apply wB | apply wC hX hC | apply wD hX hC | apply wE hX hC hmix | apply wF hX hC hmix | apply wG | apply wH | apply And.intro)) | ((with_reducible refine oD ?_ ?_); first | fail | kernel_rfl) | ((with_reducible (first | apply oE | apply oF)); (iterate 3 exact rfl); all_goals (intro h; first | (exact absurd h (by decide)) | ((try simp only [go_sem, simprocAttr] at h); (try with_reducible intro K hK); simp only [go_sem, simprocAttr]))) | ((first | ((with_reducible apply wL); exact rfl) | ((with_reducible apply wM); exact rfl)); all_goals (try ((with_reducible intro h); first | (exact absurd h (by decide)) | (try simp only [go_sem, simprocAttr] at h)))) | omega | ((first | first | refine acall_simple hX hC hP (refMayP_in _ (by assumption)) rfl rfl rfl (by simp only [go_sem, simprocAttr]) rfl ?_ | refine acall_simple hX hC hP (refMayP_out _ (by assumption)) rfl rfl rfl (by simp only [go_sem, simprocAttr]) rfl ?_ | refine acall_simple hX hC hP (sign_spec _) rfl rfl rfl (by simp only [go_sem, simprocAttr]) rfl ?_ | refine acall_simple hX hC hP (area_spec _ _ _ (by assumption) (by assumption) (by assumption)) rfl rfl rfl (by simp only [go_sem, simprocAttr]) rfl ?_ | refine acall_simple hX hC hP (along_spec _ _ _ (by assumption) (by assumption) (by assumption)) rfl rfl rfl (by simp only [go_sem, simprocAttr]) rfl ?_ | refine acall_simple hX hC hP (refOn_spec _ _ _) rfl rfl rfl (by simp only [go_sem, simprocAttr]) rfl ?_ | refine acall_simple hX hC hP (times_spec _ _ _ _ (by assumption) (by assumption) (by assumption) (by assumption)) rfl rfl rfl (by simp only [go_sem, simprocAttr]) rfl ?_ | refine acall_simple hX hC hP (side_spec _ _ _ (by assumption) (by assumption) (by assumption)) rfl rfl rfl (by simp only [go_sem, simprocAttr]) rfl ?_ | refine acall_simple hX hC hP (on_spec _ _ _ (by assumption) (by assumption) (by assumption)) rfl rfl rfl (by simp only [go_sem, simprocAttr]) rfl ?_ | (refine acall_look hX hC hP (may_in4 a b c d (by assumption) (by assumption) (by assumption) (by assumption)) rfl rfl rfl ?_ ?_ rfl ?_; iterate 2 (focus (simp only [go_sem, simprocAttr]; done))) | (refine acall_look hX hC hP (may_out4 a b c d (by assumption)) rfl rfl rfl ?_ ?_ rfl ?_; iterate 2 (focus (simp only [go_sem, simprocAttr]; done)))); try simp only [go_sem, simprocAttr]) | (intro h))
    refine awp_loopP (fun i : Nat × List (List Int × Int) => RS (K2 a b c d) (K3 a b c d) (K4 a b c d) i 2) (st2 a b c d) (fun i => 2 - i.1) (0, es) (.inl ⟨rfl, hks, by simpa using hbe⟩) ?_ ?_
    · refine Le.of ?_ ?_ <;> simp [go_sem, simprocAttr, st2]
    clear hks hbe es
    rintro ⟨k, es⟩ (⟨hk, hks, hbe⟩ | ⟨hk, hks, hbe⟩ | ⟨hk, hks, hbe⟩) <;> simp only at hk hks hbe <;> subst hk <;> simp only [st2]
    · have hv := mval_b (by omega) hbe [c.1, c.2]
      have hs := mstamp_lt es [c.1, c.2]
      have hb2 := bump_b (by omega) hbe [c.1, c.2]
      have hk2 := bump_keys es c
      repeat' (first | ((first | ((with_reducible (first | apply oA | apply oB)); exact rfl; intro K hK) | (refine hK _ ?_; clear hK K) | ((with_reducible (first | apply oG | apply oH)); iterate 3 exact rfl) | ((with_reducible apply oI); (iterate 2 exact rfl); intro K hK) | (with_reducible (first | apply wI | apply wJ | apply wK))); try simp only [go_sem, simprocAttr]) | ((with_reducible refine awp_tree hX hC hmix tr7 (by kernel_rfl) ?_); simp only [tr7]) | (with_reducible (first | apply oC | apply oJ | exact oK | apply wA | apply wB | apply wC hX hC | apply wD hX hC | apply wE hX hC hmix | apply wF hX hC hmix | apply wG | apply wH | apply And.intro)) | ((with_reducible refine oD ?_ ?_); first | fail | kernel_rfl) | ((with_reducible (first | apply oE | apply oF)); (iterate 3 exact rfl); all_goals (intro h; first | (exact absurd h (by decide)) | ((try simp only [go_sem, simprocAttr] at h); (try with_reducible intro K hK); simp only [go_sem, simprocAttr]))) | ((first | ((with_reducible apply wL); exact rfl) | ((with_reducible apply wM); exact rfl)); all_goals (try ((with_reducible intro h); first | (exact absurd h (by decide)) | (try simp only [go_sem, simprocAttr] at h)))) | omega | ((first | first | refine acall_simple hX hC hP (refMayP_in _ (by assumption)) rfl rfl rfl (by simp only [go_sem, simprocAttr]) rfl ?_ | refine acall_simple hX hC hP (refMayP_out _ (by assumption)) rfl rfl rfl (by simp only [go_sem, simprocAttr]) rfl ?_ | refine acall_simple hX hC hP (sign_spec _) rfl rfl rfl (by simp only [go_sem, simprocAttr]) rfl ?_ | refine acall_simple hX hC hP (area_spec _ _ _ (by assumption) (by assumption) (by assumption)) rfl rfl rfl (by simp only [go_sem, simprocAttr]) rfl ?_ | refine acall_simple hX hC hP (along_spec _ _ _ (by assumption) (by assumption) (by assumption)) rfl rfl rfl (by simp only [go_sem, simprocAttr]) rfl ?_ | refine acall_simple hX hC hP (refOn_spec _ _ _) rfl rfl rfl (by simp only [go_sem, simprocAttr]) rfl ?_ | refine acall_simple hX hC hP (times_spec _ _ _ _ (by assumption) (by assumption) (by assumption) (by assumption)) rfl rfl rfl (by simp only [go_sem, simprocAttr]) rfl ?_ | refine acall_simple hX hC hP (side_spec _ _ _ (by assumption) (by assumption) (by assumption)) rfl rfl rfl (by simp only [go_sem, simprocAttr]) rfl ?_ | refine acall_simple hX hC hP (on_spec _ _ _ (by assumption) (by assumption) (by assumption)) rfl rfl rfl (by simp only [go_sem, simprocAttr]) rfl ?_ | (refine acall_look hX hC hP (may_in4 a b c d (by assumption) (by assumption) (by assumption) (by assumption)) rfl rfl rfl ?_ ?_ rfl ?_; iterate 2 (focus (simp only [go_sem, simprocAttr]; done))) | (refine acall_look hX hC hP (may_out4 a b c d (by assumption)) rfl rfl rfl ?_ ?_ rfl ?_; iterate 2 (focus (simp only [go_sem, simprocAttr]; done)))); try simp only [go_sem, simprocAttr]) | (intro h))
      all_goals first
        | (refine ⟨(1, bump es [c.1, c.2]), .inr (.inl ⟨rfl, by rw [hk2, hks]; simp only [K3, if_pos h], by simpa using hb2⟩), Le.of ?_ ?_, by simp⟩ <;> simp [go_sem, simprocAttr, bump]; done)
        | (refine ⟨(1, es), .inr (.inl ⟨rfl, by rw [hks]; simp [K3, h], fun p hp => by have := hbe p hp; omega⟩), Le.of ?_ ?_, by simp⟩ <;> simp [go_sem, simprocAttr]; done)
    · have hv := mval_b (by omega) hbe [d.1, d.2]
      have hs := mstamp_lt es [d.1, d.2]
      have hb2 := bump_b (by omega) hbe [d.1, d.2]
      have hk2 := bump_keys es d
      repeat' (first | ((first | ((with_reducible (first | apply oA | apply oB)); exact rfl; intro K hK) | (refine hK _ ?_; clear hK K) | ((with_reducible (first | apply oG | apply oH)); iterate 3 exact rfl) | ((with_reducible apply oI); (iterate 2 exact rfl); intro K hK) | (with_reducible (first | apply wI | apply wJ | apply wK))); try simp only [go_sem, simprocAttr]) | ((with_reducible refine awp_tree hX hC hmix tr7 (by kernel_rfl) ?_); simp only [tr7]) | (with_reducible (first | apply oC | apply oJ | exact oK | apply wA | apply wB | apply wC hX hC | apply wD hX hC | apply wE hX hC hmix | apply wF hX hC hmix | apply wG | apply wH | apply And.intro)) | ((with_reducible refine oD ?_ ?_); first | fail | kernel_rfl) | ((with_reducible (first | apply oE | apply oF)); (iterate 3 exact rfl); all_goals (intro h; first | (exact absurd h (by decide)) | ((try simp only [go_sem, simprocAttr] at h); (try with_reducible intro K hK); simp only [go_sem, simprocAttr]))) | ((first | ((with_reducible apply wL); exact rfl) | ((with_reducible apply wM); exact rfl)); all_goals (try ((with_reducible intro h); first | (exact absurd h (by decide)) | (try simp only [go_sem, simprocAttr] at h)))) | omega | ((first | first | refine acall_simple hX hC hP (refMayP_in _ (by assumption)) rfl rfl rfl (by simp only [go_sem, simprocAttr]) rfl ?_ | refine acall_simple hX hC hP (refMayP_out _ (by assumption)) rfl rfl rfl (by simp only [go_sem, simprocAttr]) rfl ?_ | refine acall_simple hX hC hP (sign_spec _) rfl rfl rfl (by simp only [go_sem, simprocAttr]) rfl ?_ | refine acall_simple hX hC hP (area_spec _ _ _ (by assumption) (by assumption) (by assumption)) rfl rfl rfl (by simp only [go_sem, simprocAttr]) rfl ?_ | refine acall_simple hX hC hP (along_spec _ _ _ (by assumption) (by assumption) (by assumption)) rfl rfl rfl (by simp only [go_sem, simprocAttr]) rfl ?_ | refine acall_simple hX hC hP (refOn_spec _ _ _) rfl rfl rfl (by simp only [go_sem, simprocAttr]) rfl ?_ | refine acall_simple hX hC hP (times_spec _ _ _ _ (by assumption) (by assumption) (by assumption) (by assumption)) rfl rfl rfl (by simp only [go_sem, simprocAttr]) rfl ?_ | refine acall_simple hX hC hP (side_spec _ _ _ (by assumption) (by assumption) (by assumption)) rfl rfl rfl (by simp only [go_sem, simprocAttr]) rfl ?_ | refine acall_simple hX hC hP (on_spec _ _ _ (by assumption) (by assumption) (by assumption)) rfl rfl rfl (by simp only [go_sem, simprocAttr]) rfl ?_ | (refine acall_look hX hC hP (may_in4 a b c d (by assumption) (by assumption) (by assumption) (by assumption)) rfl rfl rfl ?_ ?_ rfl ?_; iterate 2 (focus (simp only [go_sem, simprocAttr]; done))) | (refine acall_look hX hC hP (may_out4 a b c d (by assumption)) rfl rfl rfl ?_ ?_ rfl ?_; iterate 2 (focus (simp only [go_sem, simprocAttr]; done)))); try simp only [go_sem, simprocAttr]) | (intro h))
      all_goals first
        | (refine ⟨(2, bump es [d.1, d.2]), .inr (.inr ⟨rfl, by rw [hk2, hks]; simp only [K4, if_pos h], by simpa using hb2⟩), Le.of ?_ ?_, by simp⟩ <;> simp [go_sem, simprocAttr, bump]; done)
        | (refine ⟨(2, es), .inr (.inr ⟨rfl, by rw [hks]; simp [K4, h], fun p hp => by have := hbe p hp; omega⟩), Le.of ?_ ?_, by simp⟩ <;> simp [go_sem, simprocAttr]; done)
    · have hlen : (es.length : Int) = ((K4 a b c d).length : Int) := by rw [← hks, List.length_map]
      have m1 : -(1 * 1) ≤ sd a b c * sd a b d ∧ sd a b c * sd a b d ≤ 1 * 1 := mulB (cmpI_b _) (cmpI_b _)
      have m2 : -(1 * 1) ≤ sd c d a * sd c d b ∧ sd c d a * sd c d b ≤ 1 * 1 := mulB (cmpI_b _) (cmpI_b _)
      repeat' (first | ((first | ((with_reducible (first | apply oA | apply oB)); exact rfl; intro K hK) | (refine hK _ ?_; clear hK K) | ((with_reducible (first | apply oG | apply oH)); iterate 3 exact rfl) | ((with_reducible apply oI); (iterate 2 exact rfl); intro K hK) | (with_reducible (first | apply wI | apply wJ | apply wK))); try simp only [go_sem, simprocAttr]) | ((with_reducible refine awp_tree hX hC hmix tr7 (by kernel_rfl) ?_); simp only [tr7]) | (with_reducible (first | apply oC | apply oJ | exact oK | apply wA | apply wB | apply wC hX hC | apply wD hX hC | apply wE hX hC hmix | apply wF hX hC hmix | apply wG | apply wH | apply And.intro)) | ((with_reducible refine oD ?_ ?_); first | fail | kernel_rfl) | ((with_reducible (first | apply oE | apply oF)); (iterate 3 exact rfl); all_goals (intro h; first | (exact absurd h (by decide)) | ((try simp only [go_sem, simprocAttr] at h); (try with_reducible intro K hK); simp only [go_sem, simprocAttr]))) | ((first | ((with_reducible apply wL); exact rfl) | ((with_reducible apply wM); exact rfl)); all_goals (try ((with_reducible intro h); first | (exact absurd h (by decide)) | (try simp only [go_sem, simprocAttr] at h)))) | omega | ((first | first | refine acall_simple hX hC hP (refMayP_in _ (by assumption)) rfl rfl rfl (by simp only [go_sem, simprocAttr]) rfl ?_ | refine acall_simple hX hC hP (refMayP_out _ (by assumption)) rfl rfl rfl (by simp only [go_sem, simprocAttr]) rfl ?_ | refine acall_simple hX hC hP (sign_spec _) rfl rfl rfl (by simp only [go_sem, simprocAttr]) rfl ?_ | refine acall_simple hX hC hP (area_spec _ _ _ (by assumption) (by assumption) (by assumption)) rfl rfl rfl (by simp only [go_sem, simprocAttr]) rfl ?_ | refine acall_simple hX hC hP (along_spec _ _ _ (by assumption) (by assumption) (by assumption)) rfl rfl rfl (by simp only [go_sem, simprocAttr]) rfl ?_ | refine acall_simple hX hC hP (refOn_spec _ _ _) rfl rfl rfl (by simp only [go_sem, simprocAttr]) rfl ?_ | refine acall_simple hX hC hP (times_spec _ _ _ _ (by assumption) (by assumption) (by assumption) (by assumption)) rfl rfl rfl (by simp only [go_sem, simprocAttr]) rfl ?_ | refine acall_simple hX hC hP (side_spec _ _ _ (by assumption) (by assumption) (by assumption)) rfl rfl rfl (by simp only [go_sem, simprocAttr]) rfl ?_ | refine acall_simple hX hC hP (on_spec _ _ _ (by assumption) (by assumption) (by assumption)) rfl rfl rfl (by simp only [go_sem, simprocAttr]) rfl ?_ | (refine acall_look hX hC hP (may_in4 a b c d (by assumption) (by assumption) (by assumption) (by assumption)) rfl rfl rfl ?_ ?_ rfl ?_; iterate 2 (focus (simp only [go_sem, simprocAttr]; done))) | (refine acall_look hX hC hP (may_out4 a b c d (by assumption)) rfl rfl rfl ?_ ?_ rfl ?_; iterate 2 (focus (simp only [go_sem, simprocAttr]; done)))); try simp only [go_sem, simprocAttr]) | (intro h))
      all_goals clear hA hX hmix hP hC X hks hbe m1 m2
      all_goals simp only [meetV, ha, hb, hc, hd, and_self, if_true, ← hlen]
      all_goals grind
end Go.Ab
end
section
namespace Go.Ab
open Go.Proofs
attribute [local congr] ACall.congr
set_option maxRecDepth 10000

theorem area_tm (a b c : Pt) : areaV a b c = tm a b a c := by unfold areaV tm; grind
theorem cmpI_zero (n : Int) : cmpI n 0 = 0 ↔ n = 0 := by unfold cmpI; split <;> (try split) <;> omega

theorem mul_neg_iff {u v : Int} : (min u v ≤ 0 ∧ 0 ≤ max u v) ↔ u * v ≤ 0 := by
  rcases Int.lt_trichotomy u 0 with hu | hu | hu <;> rcases Int.lt_trichotomy v 0 with hv | hv | hv
  · have := Int.mul_pos_of_neg_of_neg hu hv; omega
  · subst hv; simp; omega
  · have := Int.mul_neg_of_neg_of_pos hu hv; omega
  · subst hu; simp; omega
  · subst hu; simp; omega
  · subst hu; simp; omega
  · have := Int.mul_neg_of_pos_of_neg hu hv; omega
  · subst hv; simp; omega
  · have := Int.mul_pos hu hv; omega

theorem sq_nonneg (s : Int) : 0 ≤ s * s := by
  rcases Int.le_total 0 s with h | h
  · exact Int.mul_nonneg h h
  · exact Int.mul_nonneg_of_nonpos_of_nonpos h h

theorem dot_iff {u1 u2 v1 v2 : Int} (h : u1 * v2 = u2 * v1) : (u1 * v1 ≤ 0 ∧ u2 * v2 ≤ 0) ↔ u1 * v1 + u2 * v2 ≤ 0 := by
  constructor
  · omega
  · intro hs
    have key : (u1 * v1) * (u2 * v2) = (u1 * v2) * (u1 * v2) := by grind
    have h0 := sq_nonneg (u1 * v2)
    rw [← key] at h0
    constructor
    · refine Int.not_lt.1 fun hp => ?_
      have := Int.mul_neg_of_pos_of_neg hp (show u2 * v2 < 0 by omega)
      omega
    · refine Int.not_lt.1 fun hp => ?_
      have := Int.mul_neg_of_neg_of_pos (show u1 * v1 < 0 by omega) hp
      omega

theorem within_iff (a b n : Int) : withinI a b n = decide ((a - n) * (b - n) ≤ 0) := by
  rw [Bool.eq_iff_iff]
  simp only [withinI, Bool.and_eq_true, decide_eq_true_eq]
  rw [← mul_neg_iff]
  omega

theorem onP_eq (a b c : Pt) : onP a b c = (decide (areaV a b c = 0) && decide ((a.1 - c.1) * (b.1 - c.1) + (a.2 - c.2) * (b.2 - c.2) ≤ 0)) := by
  unfold onP sd
  rw [← area_tm, within_iff, within_iff]
  by_cases h : areaV a b c = 0
  · have h' : (a.1 - c.1) * (b.2 - c.2) = (a.2 - c.2) * (b.1 - c.1) := by unfold areaV at h; grind
    rw [Bool.eq_iff_iff]
    simp only [cmpI_zero, h, decide_true, Bool.true_and, Bool.and_eq_true, decide_eq_true_eq]
    exact dot_iff h'
  · simp [cmpI_zero, h]
theorem on_eq (a b c : Pt) : refOnV a b c = OnV a b c := by unfold refOnV OnV; rw [onP_eq]
theorem meet_out (a b c d : Pt) (h : ¬ (InB a ∧ InB b ∧ InB c ∧ InB d)) : Spec Try.prog 85 (Args [eP a, eP b, eP c, eP d]) [] (eN 0) [] := by
  (refine Spec.intro (C := T.cfg [] []) (rs := [.t 8]) (T.cfg_ok _ _) Try.func85 rfl rfl Try.ntmps85 Try.results85 (by simp [AObj.isNest]) (by simp [AObj.isNest]) (by kernel_rfl) ?_; intro X hX hP hC hXn hXm vals hA; refine ⟨_, by simp, hA, ?_⟩; have hmix : X.P.follows .mixedOrders = true := (by rw [hP]; exact T.mixed); clear hXn hXm)
  repeat' (first | ((first | ((with_reducible (first | apply oA | apply oB)); exact rfl; intro K hK) | (refine hK _ ?_; clear hK K) | ((with_reducible (first | apply oG | apply oH)); iterate 3 exact rfl) | ((with_reducible apply oI); (iterate 2 exact rfl); intro K hK) | (with_reducible (first | apply wI | apply wJ | apply wK))); try simp only [go_sem, simprocAttr]) | fail | (with_reducible (first | apply oC | apply oJ | exact oK | apply wA | apply wB | apply wC hX hC | apply wD hX hC | apply wE hX hC hmix | apply wF hX hC hmix | apply wG | apply wH | apply And.intro)) | ((with_reducible refine oD ?_ ?_); first | fail | kernel_rfl) | ((with_reducible (first | apply oE | apply oF)); (iterate 3 exact rfl); all_goals (intro h; first | (exact absurd h (by decide)) | ((try simp only [go_sem, simprocAttr] at h); (try with_reducible intro K hK); simp only [go_sem, simprocAttr]))) | ((first | ((with_reducible apply wL); exact rfl) | ((with_reducible apply wM); exact rfl)); all_goals (try ((with_reducible intro h); first | (exact absurd h (by decide)) | (try simp only [go_sem, simprocAttr] at h)))) | omega | ((first | first | (refine acall_look hX hC hP (may_out4 a b c d (by assumption)) rfl rfl rfl ?_ ?_ rfl ?_; iterate 2 (focus (simp only [go_sem, simprocAttr]; done)))); try simp only [go_sem, simprocAttr]) | (intro h))

theorem meetV_out {a b c d : Pt} (h : ¬ (InB a ∧ InB b ∧ InB c ∧ InB d)) : meetV a b c d = 0 := by rw [meetV, if_neg h]
theorem meet_spec (a b c d : Pt) : Spec Try.prog 85 (Args [eP a, eP b, eP c, eP d]) [] (eN (meetV a b c d)) [] := by
  by_cases h : InB a ∧ InB b ∧ InB c ∧ InB d
  · exact meet_in a b c d h.1 h.2.1 h.2.2.1 h.2.2.2
  · rw [meetV_out h]; exact meet_out a b c d h
def key (p : Pt) : List Int := [p.1, p.2]
theorem key_inj {p q : Pt} : key p = key q ↔ p = q := by simp [key, Prod.ext_iff]
theorem mem_addK {x : List Int} {p : Pt} {ks : List (List Int)} : x ∈ addK p ks ↔ x = key p ∨ x ∈ ks := by
  unfold addK
  split
  · rename_i h
    constructor
    · exact .inr
    · rintro (rfl | h')
      · exact h
      · exact h'
  · simp [key, or_comm]
theorem nodup_addK {p : Pt} {ks : List (List Int)} (h : ks.Nodup) : (addK p ks).Nodup := by
  unfold addK
  split
  · exact h
  · rename_i hn
    rw [List.nodup_append]
    exact ⟨h, by simp, fun a ha b hb => by simp at hb; subst hb; exact fun e => hn (e ▸ ha)⟩
theorem nodup_K4 (a b c d : Pt) : (K4 a b c d).Nodup := by
  have h1 : (K1 a b c d).Nodup := by unfold K1; split; exact nodup_addK List.nodup_nil; exact List.nodup_nil
  have h2 : (K2 a b c d).Nodup := by unfold K2; split; exact nodup_addK h1; exact h1
  have h3 : (K3 a b c d).Nodup := by unfold K3; split; exact nodup_addK h2; exact h2
  unfold K4; split; exact nodup_addK h3; exact h3
def Com (a b c d p : Pt) : Prop := (onP c d a = true ∧ p = a) ∨ (onP c d b = true ∧ p = b) ∨ (onP a b c = true ∧ p = c) ∨ (onP a b d = true ∧ p = d)
theorem mem_K4 {a b c d : Pt} {x : List Int} : x ∈ K4 a b c d ↔ ∃ p, Com a b c d p ∧ x = key p := by
  have h1 : x ∈ K1 a b c d ↔ onP c d a = true ∧ x = key a := by unfold K1; split <;> simp_all [mem_addK]
  have h2 : x ∈ K2 a b c d ↔ (onP c d b = true ∧ x = key b) ∨ x ∈ K1 a b c d := by unfold K2; split <;> simp_all [mem_addK]
  have h3 : x ∈ K3 a b c d ↔ (onP a b c = true ∧ x = key c) ∨ x ∈ K2 a b c d := by unfold K3; split <;> simp_all [mem_addK]
  have h4 : x ∈ K4 a b c d ↔ (onP a b d = true ∧ x = key d) ∨ x ∈ K3 a b c d := by unfold K4; split <;> simp_all [mem_addK]
  rw [h4, h3, h2, h1]
  unfold Com
  constructor
  · rintro (⟨h, rfl⟩ | ⟨h, rfl⟩ | ⟨h, rfl⟩ | ⟨h, rfl⟩)
    · exact ⟨d, .inr (.inr (.inr ⟨h, rfl⟩)), rfl⟩
    · exact ⟨c, .inr (.inr (.inl ⟨h, rfl⟩)), rfl⟩
    · exact ⟨b, .inr (.inl ⟨h, rfl⟩), rfl⟩
    · exact ⟨a, .inl ⟨h, rfl⟩, rfl⟩
  · rintro ⟨p, (⟨h, rfl⟩ | ⟨h, rfl⟩ | ⟨h, rfl⟩ | ⟨h, rfl⟩), rfl⟩
    · exact .inr (.inr (.inr ⟨h, rfl⟩))
    · exact .inr (.inr (.inl ⟨h, rfl⟩))
    · exact .inr (.inl ⟨h, rfl⟩)
    · exact .inl ⟨h, rfl⟩
/-- How many: none, one, more. -/
theorem K4_zero {a b c d : Pt} (h : ∀ p, ¬ Com a b c d p) : (K4 a b c d).length = 0 := by
  rw [List.length_eq_zero_iff, List.eq_nil_iff_forall_not_mem]
  intro x hx
  obtain ⟨p, hp, _⟩ := mem_K4.1 hx
  exact h p hp
theorem K4_one {a b c d p : Pt} (h : Com a b c d p) (h1 : ∀ q, Com a b c d q → q = p) : (K4 a b c d).length = 1 := by
  have e : (K4 a b c d).Perm [key p] := (List.perm_ext_iff_of_nodup (nodup_K4 a b c d) (by simp)).2 fun x => by
    rw [mem_K4]
    constructor
    · rintro ⟨q, hq, rfl⟩; rw [h1 q hq]; simp
    · intro hx; simp at hx; exact ⟨p, h, hx⟩
  exact e.length_eq
theorem K4_two {a b c d p q : Pt} (h : Com a b c d p) (h1 : Com a b c d q) (hn : p ≠ q) : 2 ≤ (K4 a b c d).length := by
  have := List.Nodup.length_le_of_subset (l₁ := [key p, key q]) (l₂ := K4 a b c d) (by simp [key_inj, hn]) (by
    intro x hx
    simp at hx
    rcases hx with rfl | rfl
    · exact mem_K4.2 ⟨p, h, rfl⟩
    · exact mem_K4.2 ⟨q, h1, rfl⟩)
  simpa using this

theorem sd_zero {a b c : Pt} : sd a b c = 0 ↔ areaV a b c = 0 := by unfold sd; rw [cmpI_zero, area_tm]
theorem onP_iff {a b c : Pt} : onP a b c = true ↔ areaV a b c = 0 ∧ (a.1 - c.1) * (b.1 - c.1) ≤ 0 ∧ (a.2 - c.2) * (b.2 - c.2) ≤ 0 := by
  unfold onP
  rw [within_iff, within_iff]
  simp only [Bool.and_eq_true, decide_eq_true_eq, sd_zero, and_assoc]

theorem mul_sq_nonpos {x s : Int} (hs : s ≠ 0) (h : x * (s * s) ≤ 0) : x ≤ 0 := by
  have h1 := sq_nonneg s
  have h2 : s * s ≠ 0 := Int.mul_ne_zero hs hs
  refine Int.not_lt.1 fun hp => ?_
  have := Int.mul_pos hp (show 0 < s * s by omega)
  omega
theorem nonpos_mul_sq {x s : Int} (h : x ≤ 0) : x * (s * s) ≤ 0 := Int.mul_nonpos_of_nonpos_of_nonneg h (sq_nonneg s)

theorem cross_x {a b c d : Pt} (h0 : areaV c d a = 0) : tm a b c d * (c.1 - a.1) = areaV a b c * (d.1 - c.1) := by unfold areaV at *; unfold tm; grind
theorem cross_x' {a b c d : Pt} (h0 : areaV c d a = 0) : tm a b c d * (d.1 - a.1) = areaV a b d * (d.1 - c.1) := by unfold areaV at *; unfold tm; grind
theorem cross_y {a b c d : Pt} (h0 : areaV c d a = 0) : tm a b c d * (c.2 - a.2) = areaV a b c * (d.2 - c.2) := by unfold areaV at *; unfold tm; grind
theorem cross_y' {a b c d : Pt} (h0 : areaV c d a = 0) : tm a b c d * (d.2 - a.2) = areaV a b d * (d.2 - c.2) := by unfold areaV at *; unfold tm; grind
theorem sq_of {t p q u v w : Int} (h1 : t * p = u * w) (h2 : t * q = v * w) : (p * q) * (t * t) = (u * v) * (w * w) := by grind
/-- Lines that cross: an end is on the other piece just if it is on its line, and that piece's ends are not at one side. -/
theorem on_cross {a b c d : Pt} (hT : tm a b c d ≠ 0) : onP c d a = true ↔ areaV c d a = 0 ∧ areaV a b c * areaV a b d ≤ 0 := by
  rw [onP_iff]
  refine and_congr_right fun h0 => ?_
  have e1 := sq_of (cross_x (b := b) h0) (cross_x' (b := b) h0)
  have e2 := sq_of (cross_y (b := b) h0) (cross_y' (b := b) h0)
  constructor
  · rintro ⟨h1, h2⟩
    by_cases hx : d.1 - c.1 = 0
    · have hy : d.2 - c.2 ≠ 0 := fun hy => hT (by unfold tm; simp [hx, hy])
      exact mul_sq_nonpos hy (e2 ▸ nonpos_mul_sq h2)
    · exact mul_sq_nonpos hx (e1 ▸ nonpos_mul_sq h1)
  · intro h
    exact ⟨mul_sq_nonpos hT (e1 ▸ nonpos_mul_sq h), mul_sq_nonpos hT (e2 ▸ nonpos_mul_sq h)⟩

theorem tm_swap (a b c d : Pt) : tm b a c d = - tm a b c d := by unfold tm; grind
theorem tm_pair (a b c d : Pt) : tm c d a b = - tm a b c d := by unfold tm; grind
theorem tm_swap2 (a b c d : Pt) : tm a b d c = - tm a b c d := by unfold tm; grind
theorem area_swap (a b c : Pt) : areaV b a c = - areaV a b c := by unfold areaV; grind
theorem area_diff (a b c d : Pt) : areaV a b d - areaV a b c = tm a b c d := by unfold areaV tm; grind
theorem area_diff' (a b c d : Pt) : areaV c d a - areaV c d b = tm a b c d := by unfold areaV tm; grind
theorem onP_swap (a b c : Pt) : onP b a c = onP a b c := by
  rw [Bool.eq_iff_iff, onP_iff, onP_iff, area_swap, Int.mul_comm (b.1 - c.1), Int.mul_comm (b.2 - c.2)]
  simp

theorem on_cross_b {a b c d : Pt} (hT : tm a b c d ≠ 0) : onP c d b = true ↔ areaV c d b = 0 ∧ areaV a b c * areaV a b d ≤ 0 := by
  rw [on_cross (a := b) (b := a) (by rw [tm_swap]; omega), area_swap a b c, area_swap a b d, Int.neg_mul_neg]
theorem on_cross_c {a b c d : Pt} (hT : tm a b c d ≠ 0) : onP a b c = true ↔ areaV a b c = 0 ∧ areaV c d a * areaV c d b ≤ 0 := by
  rw [on_cross (a := c) (b := d) (c := a) (d := b) (by rw [tm_pair]; omega)]
theorem on_cross_d {a b c d : Pt} (hT : tm a b c d ≠ 0) : onP a b d = true ↔ areaV a b d = 0 ∧ areaV c d a * areaV c d b ≤ 0 := by
  rw [on_cross (a := d) (b := c) (c := a) (d := b) (by rw [tm_pair, tm_swap2]; omega), area_swap c d a, area_swap c d b, Int.neg_mul_neg]

/-- The point where two lines cross is one. -/
theorem cross_one {a b c d : Pt} (hT : tm a b c d ≠ 0) (h1 : areaV c d a = 0) (h2 : areaV a b c = 0) : a = c := by
  have k1 := cross_x (b := b) h1
  have k2 := cross_y (b := b) h1
  rw [h2, Int.zero_mul] at k1 k2
  have e1 := (Int.mul_eq_zero.1 k1).resolve_left hT
  have e2 := (Int.mul_eq_zero.1 k2).resolve_left hT
  exact Prod.ext (by omega) (by omega)

theorem cmpI_mul (u v : Int) : cmpI u 0 * cmpI v 0 < 0 ↔ u * v < 0 := by
  unfold cmpI
  rcases Int.lt_trichotomy u 0 with hu | hu | hu <;> rcases Int.lt_trichotomy v 0 with hv | hv | hv
  · have := Int.mul_pos_of_neg_of_neg hu hv; simp [hu, hv]; omega
  · subst hv; simp
  · have := Int.mul_neg_of_neg_of_pos hu hv; simp [hu, hv, show ¬ v < 0 by omega, this]
  · subst hu; simp
  · subst hu; simp
  · subst hu; simp
  · have := Int.mul_neg_of_pos_of_neg hu hv; simp [hu, hv, show ¬ u < 0 by omega, this]
  · subst hv; simp
  · have := Int.mul_pos hu hv; simp [hu, hv, show ¬ u < 0 by omega, show ¬ v < 0 by omega]; omega
theorem cmpI_mul' (u v : Int) : cmpI u 0 * cmpI v 0 ≤ 0 ↔ u * v ≤ 0 := by
  unfold cmpI
  rcases Int.lt_trichotomy u 0 with hu | hu | hu <;> rcases Int.lt_trichotomy v 0 with hv | hv | hv
  · have := Int.mul_pos_of_neg_of_neg hu hv; simp [hu, hv]; omega
  · subst hv; simp
  · have := Int.mul_neg_of_neg_of_pos hu hv; simp [hu, hv, show ¬ v < 0 by omega]; omega
  · subst hu; simp
  · subst hu; simp
  · subst hu; simp
  · have := Int.mul_neg_of_pos_of_neg hu hv; simp [hu, hv, show ¬ u < 0 by omega]; omega
  · subst hv; simp
  · have := Int.mul_pos hu hv; simp [hu, hv, show ¬ u < 0 by omega, show ¬ v < 0 by omega]; omega
theorem sd_area (a b c : Pt) : sd a b c = cmpI (areaV a b c) 0 := by rw [area_tm]; rfl

def meetC (a b c d : Pt) : Int := if 0 < (K4 a b c d).length then min ((K4 a b c d).length : Int) 2 else if sd a b c * sd a b d < 0 ∧ sd c d a * sd c d b < 0 then 1 else 0

theorem meetC_cross {a b c d : Pt} (hT : tm a b c d ≠ 0) : meetC a b c d = if areaV a b c * areaV a b d ≤ 0 ∧ areaV c d a * areaV c d b ≤ 0 then 1 else 0 := by
  have oa := on_cross hT
  have ob := on_cross_b hT
  have oc := on_cross_c hT
  have od := on_cross_d hT
  have d1 := area_diff a b c d
  have d2 := area_diff' a b c d
  have one : ∀ p q, Com a b c d p → Com a b c d q → q = p := by
    have ab : onP c d a = true → onP c d b = true → False := fun h1 h2 => by have := oa.1 h1; have := ob.1 h2; omega
    have cd : onP a b c = true → onP a b d = true → False := fun h1 h2 => by have := oc.1 h1; have := od.1 h2; omega
    have ac : onP c d a = true → onP a b c = true → a = c := fun h1 h2 => cross_one hT (oa.1 h1).1 (oc.1 h2).1
    have ad : onP c d a = true → onP a b d = true → a = d := fun h1 h2 => cross_one (c := d) (d := c) (by rw [tm_swap2]; omega) (by rw [area_swap, (oa.1 h1).1]; rfl) (od.1 h2).1
    have bc : onP c d b = true → onP a b c = true → b = c := fun h1 h2 => cross_one (a := b) (b := a) (d := d) (by rw [tm_swap]; omega) (ob.1 h1).1 (by rw [area_swap, (oc.1 h2).1]; rfl)
    have bd : onP c d b = true → onP a b d = true → b = d := fun h1 h2 => cross_one (a := b) (b := a) (c := d) (d := c) (by rw [tm_swap, tm_swap2]; omega) (by rw [area_swap, (ob.1 h1).1]; rfl) (by rw [area_swap, (od.1 h2).1]; rfl)
    rintro p q (⟨h1, rfl⟩ | ⟨h1, rfl⟩ | ⟨h1, rfl⟩ | ⟨h1, rfl⟩) (⟨h2, rfl⟩ | ⟨h2, rfl⟩ | ⟨h2, rfl⟩ | ⟨h2, rfl⟩)
    · rfl
    · exact (ab h1 h2).elim
    · exact (ac h1 h2).symm
    · exact (ad h1 h2).symm
    · exact (ab h2 h1).elim
    · rfl
    · exact (bc h1 h2).symm
    · exact (bd h1 h2).symm
    · exact ac h2 h1
    · exact bc h2 h1
    · rfl
    · exact (cd h1 h2).elim
    · exact ad h2 h1
    · exact bd h2 h1
    · exact (cd h2 h1).elim
    · rfl
  unfold meetC
  simp only [sd_area, cmpI_mul]
  by_cases hc : ∃ p, Com a b c d p
  · obtain ⟨p, hp⟩ := hc
    rw [K4_one hp fun q hq => one p q hp hq]
    have : areaV a b c * areaV a b d ≤ 0 ∧ areaV c d a * areaV c d b ≤ 0 := by
      rcases hp with ⟨h, _⟩ | ⟨h, _⟩ | ⟨h, _⟩ | ⟨h, _⟩
      · have := oa.1 h; exact ⟨this.2, by rw [this.1]; simp⟩
      · have := ob.1 h; exact ⟨this.2, by rw [this.1]; simp⟩
      · have := oc.1 h; exact ⟨by rw [this.1]; simp, this.2⟩
      · have := od.1 h; exact ⟨by rw [this.1]; simp, this.2⟩
    rw [if_pos this]; rfl
  · have hn : ∀ p, ¬ Com a b c d p := fun p hp => hc ⟨p, hp⟩
    rw [K4_zero hn]
    simp only [Nat.lt_irrefl, if_false]
    by_cases h : areaV a b c * areaV a b d ≤ 0 ∧ areaV c d a * areaV c d b ≤ 0
    · rw [if_pos h, if_pos]
      have n1 : areaV a b c * areaV a b d ≠ 0 := fun h0 => by
        rcases Int.mul_eq_zero.1 h0 with h0 | h0
        · exact hn c (.inr (.inr (.inl ⟨oc.2 ⟨h0, h.2⟩, rfl⟩)))
        · exact hn d (.inr (.inr (.inr ⟨od.2 ⟨h0, h.2⟩, rfl⟩)))
      have n2 : areaV c d a * areaV c d b ≠ 0 := fun h0 => by
        rcases Int.mul_eq_zero.1 h0 with h0 | h0
        · exact hn a (.inl ⟨oa.2 ⟨h0, h.1⟩, rfl⟩)
        · exact hn b (.inr (.inl ⟨ob.2 ⟨h0, h.1⟩, rfl⟩))
      omega
    · rw [if_neg h, if_neg (by omega)]

section
variable {a b : Pt}
theorem line_x {p r : Pt} (hp : areaV a b p = 0) (hr : areaV a b r = 0) : alongV a b b * (p.1 - r.1) = (alongV a b p - alongV a b r) * (b.1 - a.1) := by unfold areaV at *; unfold alongV; grind
theorem line_y {p r : Pt} (hp : areaV a b p = 0) (hr : areaV a b r = 0) : alongV a b b * (p.2 - r.2) = (alongV a b p - alongV a b r) * (b.2 - a.2) := by unfold areaV at *; unfold alongV; grind
theorem along_pos (hab : a ≠ b) : 0 < alongV a b b := by
  unfold alongV
  have h1 := sq_nonneg (b.1 - a.1)
  have h2 := sq_nonneg (b.2 - a.2)
  by_cases hx : b.1 - a.1 = 0
  · have hy : b.2 - a.2 ≠ 0 := fun hy => hab (Prod.ext (by omega) (by omega))
    have := Int.mul_ne_zero hy hy
    omega
  · have := Int.mul_ne_zero hx hx
    omega
theorem along_a : alongV a b a = 0 := by unfold alongV; simp
theorem area_a : areaV a b a = 0 := by unfold areaV; grind
theorem area_b : areaV a b b = 0 := by unfold areaV; grind
theorem line_inj (hab : a ≠ b) {p r : Pt} (hp : areaV a b p = 0) (hr : areaV a b r = 0) (h : alongV a b p = alongV a b r) : p = r := by
  have hN := along_pos hab
  have h1 := line_x hp hr
  have h2 := line_y hp hr
  rw [h, Int.sub_self, Int.zero_mul] at h1 h2
  have e1 := (Int.mul_eq_zero.1 h1).resolve_left (by omega)
  have e2 := (Int.mul_eq_zero.1 h2).resolve_left (by omega)
  exact Prod.ext (by omega) (by omega)
theorem line_area (hab : a ≠ b) {p q r : Pt} (hp : areaV a b p = 0) (hq : areaV a b q = 0) (hr : areaV a b r = 0) : areaV p q r = 0 := by
  have h1 : (b.1 - a.1) * areaV p q r = 0 := by unfold areaV at *; grind
  have h2 : (b.2 - a.2) * areaV p q r = 0 := by unfold areaV at *; grind
  by_cases h : areaV p q r = 0
  · exact h
  · have e1 := (Int.mul_eq_zero.1 h1).resolve_right h
    have e2 := (Int.mul_eq_zero.1 h2).resolve_right h
    exact absurd (Prod.ext (by omega) (by omega)) hab
theorem sq_of' {N x y u v w : Int} (h1 : N * x = u * w) (h2 : N * y = v * w) : (x * y) * (N * N) = (u * v) * (w * w) := by grind
theorem on_line (hab : a ≠ b) {p q r : Pt} (hp : areaV a b p = 0) (hq : areaV a b q = 0) (hr : areaV a b r = 0) : onP p q r = true ↔ min (alongV a b p) (alongV a b q) ≤ alongV a b r ∧ alongV a b r ≤ max (alongV a b p) (alongV a b q) := by
  have hN := along_pos hab
  have e1 := sq_of' (line_x hp hr) (line_x hq hr)
  have e2 := sq_of' (line_y hp hr) (line_y hq hr)
  have e3 : (min (alongV a b p) (alongV a b q) ≤ alongV a b r ∧ alongV a b r ≤ max (alongV a b p) (alongV a b q)) ↔ (alongV a b p - alongV a b r) * (alongV a b q - alongV a b r) ≤ 0 := by
    rw [← mul_neg_iff]; omega
  rw [onP_iff, e3]
  constructor
  · rintro ⟨_, h1, h2⟩
    by_cases hx : b.1 - a.1 = 0
    · have hy : b.2 - a.2 ≠ 0 := fun hy => hab (Prod.ext (by omega) (by omega))
      exact mul_sq_nonpos hy (e2 ▸ nonpos_mul_sq h2)
    · exact mul_sq_nonpos hx (e1 ▸ nonpos_mul_sq h1)
  · intro h
    exact ⟨line_area hab hp hq hr, mul_sq_nonpos (by omega) (e1 ▸ nonpos_mul_sq h), mul_sq_nonpos (by omega) (e2 ▸ nonpos_mul_sq h)⟩
end

theorem meetC_line {a b c d : Pt} (hab : a ≠ b) (hcd : c ≠ d) (hc : areaV a b c = 0) (hd : areaV a b d = 0) :
    meetC a b c d = if min (alongV a b b) (max (alongV a b c) (alongV a b d)) < max (alongV a b a) (min (alongV a b c) (alongV a b d)) then 0
      else if max (alongV a b a) (min (alongV a b c) (alongV a b d)) = min (alongV a b b) (max (alongV a b c) (alongV a b d)) then 1 else 2 := by
  have hN := along_pos hab
  have h0 := along_a (a := a) (b := b)
  have oa := on_line hab hc hd area_a
  have ob := on_line hab hc hd area_b
  have oc := on_line hab area_a area_b hc
  have od := on_line hab area_a area_b hd
  have hne : alongV a b c ≠ alongV a b d := fun h => hcd (line_inj hab hc hd h)
  have on : ∀ p, Com a b c d p → areaV a b p = 0 ∧ max (alongV a b a) (min (alongV a b c) (alongV a b d)) ≤ alongV a b p ∧ alongV a b p ≤ min (alongV a b b) (max (alongV a b c) (alongV a b d)) := by
    rintro p (⟨h, rfl⟩ | ⟨h, rfl⟩ | ⟨h, rfl⟩ | ⟨h, rfl⟩)
    · have := oa.1 h; exact ⟨area_a, by omega⟩
    · have := ob.1 h; exact ⟨area_b, by omega⟩
    · have := oc.1 h; exact ⟨hc, by omega⟩
    · have := od.1 h; exact ⟨hd, by omega⟩
  have hz : ¬ (sd a b c * sd a b d < 0 ∧ sd c d a * sd c d b < 0) := by
    have : sd a b c = 0 := sd_zero.2 hc
    rw [this]; simp
  by_cases hlt : min (alongV a b b) (max (alongV a b c) (alongV a b d)) < max (alongV a b a) (min (alongV a b c) (alongV a b d))
  · unfold meetC
    rw [K4_zero fun p hp => by have := on p hp; omega, if_neg (by simp), if_neg hz, if_pos hlt]
  · rw [if_neg hlt]
    have lo : ∃ p, Com a b c d p ∧ alongV a b p = max (alongV a b a) (min (alongV a b c) (alongV a b d)) := by
      by_cases h1 : min (alongV a b c) (alongV a b d) ≤ alongV a b a
      · exact ⟨a, .inl ⟨oa.2 (by omega), rfl⟩, by omega⟩
      · by_cases h2 : alongV a b c ≤ alongV a b d
        · exact ⟨c, .inr (.inr (.inl ⟨oc.2 (by omega), rfl⟩)), by omega⟩
        · exact ⟨d, .inr (.inr (.inr ⟨od.2 (by omega), rfl⟩)), by omega⟩
    have hi : ∃ p, Com a b c d p ∧ alongV a b p = min (alongV a b b) (max (alongV a b c) (alongV a b d)) := by
      by_cases h1 : alongV a b b ≤ max (alongV a b c) (alongV a b d)
      · exact ⟨b, .inr (.inl ⟨ob.2 (by omega), rfl⟩), by omega⟩
      · by_cases h2 : alongV a b c ≤ alongV a b d
        · exact ⟨d, .inr (.inr (.inr ⟨od.2 (by omega), rfl⟩)), by omega⟩
        · exact ⟨c, .inr (.inr (.inl ⟨oc.2 (by omega), rfl⟩)), by omega⟩
    obtain ⟨p, hp, hp1⟩ := lo
    obtain ⟨q, hq, hq1⟩ := hi
    by_cases heq : max (alongV a b a) (min (alongV a b c) (alongV a b d)) = min (alongV a b b) (max (alongV a b c) (alongV a b d))
    · unfold meetC
      rw [if_pos heq, K4_one hp fun r hr => by
        have h1 := on r hr
        exact line_inj hab h1.1 (on p hp).1 (by omega)]
      rfl
    · have h2 := K4_two hp hq (fun e => by subst e; omega)
      unfold meetC
      rw [if_neg heq, if_pos (by omega)]
      omega

theorem onP_one {a c : Pt} : onP a a c = true ↔ c = a := by
  rw [onP_iff]
  constructor
  · rintro ⟨_, h1, h2⟩
    have e1 : a.1 - c.1 = 0 := by
      by_cases h : a.1 - c.1 = 0
      · exact h
      · have := Int.mul_ne_zero h h; have := sq_nonneg (a.1 - c.1); omega
    have e2 : a.2 - c.2 = 0 := by
      by_cases h : a.2 - c.2 = 0
      · exact h
      · have := Int.mul_ne_zero h h; have := sq_nonneg (a.2 - c.2); omega
    exact Prod.ext (by omega) (by omega)
  · rintro rfl
    exact ⟨by unfold areaV; grind, by simp, by simp⟩
theorem onP_end {a d : Pt} : onP a d a = true := by rw [onP_iff]; exact ⟨area_a, by simp, by simp⟩

theorem meetC_left {a c d : Pt} : meetC a a c d = if onP c d a = true then 1 else 0 := by
  have hz : sd a a c = 0 := sd_zero.2 (by unfold areaV; grind)
  have on : ∀ p, Com a a c d p → onP c d a = true ∧ p = a := by
    rintro p (⟨h, rfl⟩ | ⟨h, rfl⟩ | ⟨h, rfl⟩ | ⟨h, rfl⟩)
    · exact ⟨h, rfl⟩
    · exact ⟨h, rfl⟩
    · have := onP_one.1 h; subst this; exact ⟨onP_end, rfl⟩
    · have := onP_one.1 h; subst this; exact ⟨by rw [onP_swap]; exact onP_end, rfl⟩
  unfold meetC
  by_cases h : onP c d a = true
  · rw [K4_one (p := a) (.inl ⟨h, rfl⟩) fun q hq => (on q hq).2, if_pos h]; rfl
  · rw [K4_zero fun p hp => h (on p hp).1, if_neg h]
    simp [hz]

theorem meetC_pair (a b c d : Pt) : meetC c d a b = meetC a b c d := by
  have e : (K4 c d a b).Perm (K4 a b c d) := (List.perm_ext_iff_of_nodup (nodup_K4 _ _ _ _) (nodup_K4 _ _ _ _)).2 fun x => by
    rw [mem_K4, mem_K4]
    refine exists_congr fun p => and_congr_left fun _ => ?_
    unfold Com
    grind
  unfold meetC
  rw [e.length_eq]
  congr 1
  simp only [and_comm]
theorem meetC_swap (a b c d : Pt) : meetC b a c d = meetC a b c d := by
  have e : (K4 b a c d).Perm (K4 a b c d) := (List.perm_ext_iff_of_nodup (nodup_K4 _ _ _ _) (nodup_K4 _ _ _ _)).2 fun x => by
    rw [mem_K4, mem_K4]
    refine exists_congr fun p => and_congr_left fun _ => ?_
    unfold Com
    rw [onP_swap a b c, onP_swap a b d]
    grind
  unfold meetC
  rw [e.length_eq]
  simp only [sd_area, cmpI_mul, area_swap a b, Int.neg_mul_neg, Int.mul_comm (areaV c d b)]
theorem meetC_right {a b c : Pt} : meetC a b c c = if onP a b c = true then 1 else 0 := by rw [← meetC_pair, meetC_left]

theorem meetV_C (a b c d : Pt) : meetV a b c d = if InB a ∧ InB b ∧ InB c ∧ InB d then meetC a b c d else 0 := rfl

theorem meet_eq (a b c d : Pt) : refMeetV a b c d = meetV a b c d := by
  rw [meetV_C]
  unfold refMeetV
  split
  · rename_i hin
    have hon : ∀ x y z : Pt, InB x → InB y → InB z → refOnV x y z = onP x y z := fun x y z h1 h2 h3 => by rw [on_eq, OnV, decide_eq_true ⟨h1, h2, h3⟩, Bool.true_and]
    rw [hon c d a hin.2.2.1 hin.2.2.2 hin.1, hon a b c hin.1 hin.2.1 hin.2.2.1]
    split
    · rename_i hab; subst hab; rw [meetC_left]
    · rename_i hab
      split
      · rename_i hcd; subst hcd; rw [meetC_right]
      · rename_i hcd
        simp only [cmpI_zero, cmpI_mul']
        by_cases hT : tm a b c d = 0
        · have d1 := area_diff a b c d
          split
          · rename_i hz; rw [meetC_line hab hcd hz.1 hz.2]
          · rename_i hz
            -- one beside the other
            have hne : areaV a b c ≠ 0 := by omega
            have hcd' : ∀ p, onP c d p = true → p = a ∨ p = b → False := fun p hp h => by
              have h1 := (onP_iff.1 hp).1
              have d2 := area_diff' a b c d
              have h2 : areaV c d a = 0 ∧ areaV c d b = 0 := by rcases h with rfl | rfl <;> omega
              exact hne (line_area hcd h2.1 h2.2 area_a)
            have hn : ∀ p, ¬ Com a b c d p := by
              rintro p (⟨h, rfl⟩ | ⟨h, rfl⟩ | ⟨h, rfl⟩ | ⟨h, rfl⟩)
              · exact hcd' _ h (.inl rfl)
              · exact hcd' _ h (.inr rfl)
              · exact hne (onP_iff.1 h).1
              · have := (onP_iff.1 h).1; omega
            have hq : areaV a b d = areaV a b c := by omega
            have hp := sq_nonneg (areaV a b c)
            have hp' := Int.mul_ne_zero hne hne
            unfold meetC
            rw [K4_zero hn]
            simp only [sd_area, cmpI_mul, Nat.lt_irrefl, if_false]
            rw [if_neg (fun h => by have h := h.1; rw [hq] at h; omega), if_neg (fun h => by have h := h.1; rw [hq] at h; omega)]
        · rw [meetC_cross hT, if_neg]
          have d1 := area_diff a b c d
          omega
  · rfl
end Go.Ab
end
section
namespace Go.Ab
open Go.Proofs
attribute [local congr] ACall.congr
set_option maxRecDepth 10000

abbrev Pc := Pt × Pt
def rQ (q : Pc) : List D := [.sc (.int .i64 q.1.1), .sc (.int .i64 q.1.2), .sc (.int .i64 q.2.1), .sc (.int .i64 q.2.2)]
def eQ (q : Pc) : AV := .agg [.d (.sc (.int .i64 q.1.1)), .d (.sc (.int .i64 q.1.2)), .d (.sc (.int .i64 q.2.1)), .d (.sc (.int .i64 q.2.2))]
def sQ (qs : List Pc) : D := .sl 4 (qs.map rQ)
def sP (ps : List Pt) : D := .sl 2 (ps.map rP)
def vP (ls : List (List Pt)) : List (List D) := ls.map fun l => [sP l]
def sLn (ls : List (List Pt)) : D := .sl 1 (vP ls)
def eLn (l : List Pt) : AV := .d (sP l)
theorem getD_rQ (ps : List Pc) (i : Nat) : (ps.map rQ).getD i [.sc (.int .i64 0), .sc (.int .i64 0), .sc (.int .i64 0), .sc (.int .i64 0)] = rQ (ps.getD i ((0, 0), (0, 0))) := by
  simp only [List.getD_eq_getElem?_getD, List.getElem?_map]
  cases ps[i]? <;> rfl
theorem rQ_eq (q : Pc) : rQ q = [.sc (.int .i64 q.1.1), .sc (.int .i64 q.1.2), .sc (.int .i64 q.2.1), .sc (.int .i64 q.2.2)] := rfl
theorem vP_length (ls : List (List Pt)) : (vP ls).length = ls.length := by simp [vP]
theorem vP_getD (ls : List (List Pt)) (i : Nat) : (vP ls).getD i [.sl 2 []] = [sP (ls.getD i [])] := by
  simp only [vP, List.getD_eq_getElem?_getD, List.getElem?_map]
  cases ls[i]? <;> rfl
attribute [go_sem] getD_rQ rQ_eq eQ sQ sP sLn eLn vP_length vP_getD
theorem getD_memX {α : Type} {l : List α} {m : Nat} {d : α} (h : m < l.length) : l.getD m d ∈ l := by
  rw [List.getD_eq_getElem?_getD, List.getElem?_eq_getElem h]; exact List.getElem_mem h
theorem indexFuncQ_spec {m : List (Nat × AObj)} (hR : Robs m) (f : Nat) (caps : List AV) (g : Pc → Bool) (ps : List Pc) (hf : ∀ p ∈ ps, Spec Try.prog f (Args (eQ p :: caps)) m (eB (g p)) m) (hl : ps.length ≤ 9223372036854775807) :
    Spec Try.prog 122 (Args [.d (sQ ps), .fn f [] caps]) m (eN (findI g ps)) m := by
  (refine Spec.intro (C := T.cfg [] []) (rs := [.t 4]) (T.cfg_ok _ _) Try.func122 rfl rfl Try.ntmps122 Try.results122 (fun p hp => ⟨(Robs.low hR p hp).1, Robs.nest hR p hp⟩) (fun p hp => ⟨(Robs.low hR p hp).2, Robs.nest hR p hp⟩) (by kernel_rfl) ?_; intro X hX hP hC hXn hXm vals hA; refine ⟨_, by simp, hA, ?_⟩; have hmix : X.P.follows .mixedOrders = true := (by rw [hP]; exact T.mixed); clear hXn hXm)
  repeat' (first | ((first | ((with_reducible (first | apply oA | apply oB)); exact rfl; intro K hK) | (refine hK _ ?_; clear hK K) | ((with_reducible (first | apply oG | apply oH)); iterate 3 exact rfl) | ((with_reducible apply oI); (iterate 2 exact rfl); intro K hK) | (with_reducible (first | apply wI | apply wJ | apply wK))); try simp only [go_sem, simprocAttr]) | fail | (with_reducible (first | apply oC | apply oJ | exact oK | apply wA | apply wB | apply wC hX hC | apply wD hX hC | apply wE hX hC hmix | apply wF hX hC hmix | apply wG | apply wH | apply And.intro)) | ((with_reducible refine oD ?_ ?_); first | fail | kernel_rfl) | ((with_reducible (first | apply oE | apply oF)); (iterate 3 exact rfl); all_goals (intro h; first | (exact absurd h (by decide)) | ((try simp only [go_sem, simprocAttr] at h); (try with_reducible intro K hK); simp only [go_sem, simprocAttr]))) | ((first | ((with_reducible apply wL); exact rfl) | ((with_reducible apply wM); exact rfl)); all_goals (try ((with_reducible intro h); first | (exact absurd h (by decide)) | (try simp only [go_sem, simprocAttr] at h)))) | omega | ((first | fail); try simp only [go_sem, simprocAttr]) | (intro h))
  refine awp_loopP (fun k : Nat => k ≤ ps.length ∧ ∀ j, j < k → g (ps.getD j ((0, 0), (0, 0))) = false) (fun k => ⟨[(0, .d (sQ ps)), (1, .fn f [] caps), (7, eN ps.length), (8, eN k)], m⟩) (fun k => ps.length - k) 0 (by simp) ?_ ?_
  · (refine ⟨leT_spec ?_, fun _ _ h => h⟩; simp [go_sem, simprocAttr])
  rintro k ⟨hk, hg⟩
  rcases Nat.lt_or_ge k ps.length with hlt | hge
  · have hb : decide ((k : Int) < (ps.length : Int)) = true := decide_eq_true (by omega)
    have hf' := hf (ps.getD k ((0, 0), (0, 0))) (getD_memX hlt)
    repeat' (first | ((first | ((with_reducible (first | apply oA | apply oB)); exact rfl; intro K hK) | (refine hK _ ?_; clear hK K) | ((with_reducible (first | apply oG | apply oH)); iterate 3 exact rfl) | ((with_reducible apply oI); (iterate 2 exact rfl); intro K hK) | (with_reducible (first | apply wI | apply wJ | apply wK))); try simp only [go_sem, simprocAttr, hb]) | fail | (with_reducible (first | apply oC | apply oJ | exact oK | apply wA | apply wB | apply wC hX hC | apply wD hX hC | apply wE hX hC hmix | apply wF hX hC hmix | apply wG | apply wH | apply And.intro)) | ((with_reducible refine oD ?_ ?_); first | fail | kernel_rfl) | ((with_reducible (first | apply oE | apply oF)); (iterate 3 exact rfl); all_goals (intro h; first | (exact absurd h (by decide)) | ((try simp only [go_sem, simprocAttr, hb] at h); (try with_reducible intro K hK); simp only [go_sem, simprocAttr, hb]))) | ((first | ((with_reducible apply wL); exact rfl) | ((with_reducible apply wM); exact rfl)); all_goals (try ((with_reducible intro h); first | (exact absurd h (by decide)) | (try simp only [go_sem, simprocAttr, hb] at h)))) | omega | ((first | (first | (refine acall_same hX hC hP hR (hf') rfl rfl rfl ?_ ?_ rfl rfl ?_; (focus (simp only [go_sem, simprocAttr, hb]; done)); (focus (first | (intro p hp; exact mem_look (Robs.nd hR) hp) | (simp [go_sem, simprocAttr, hb]; done)))) | (refine acall_same hX hC hP hR (hf') rfl rfl rfl ?_ ?_ ?_ rfl ?_; (focus (simp only [go_sem, simprocAttr, hb]; done)); (focus (first | (intro p hp; exact mem_look (Robs.nd hR) hp) | (simp [go_sem, simprocAttr, hb]; done))); (focus (simp [go_sem, simprocAttr, hb]; done))))); try simp only [go_sem, simprocAttr, hb]) | (intro h))
    · exact (findI_at (by omega) hg h).symm
    · exact leR_robs hR
    · refine ⟨k + 1, ⟨by omega, fun j hj => ?_⟩, ?_, by omega⟩
      · by_cases hjk : j = k
        · subst hjk; exact h
        · exact hg j (by omega)
      · (refine ⟨leT_spec ?_, fun _ _ h => h⟩; simp [go_sem, simprocAttr, hb])
  · have hb : decide ((k : Int) < (ps.length : Int)) = false := decide_eq_false (by omega)
    repeat' (first | ((first | ((with_reducible (first | apply oA | apply oB)); exact rfl; intro K hK) | (refine hK _ ?_; clear hK K) | ((with_reducible (first | apply oG | apply oH)); iterate 3 exact rfl) | ((with_reducible apply oI); (iterate 2 exact rfl); intro K hK) | (with_reducible (first | apply wI | apply wJ | apply wK))); try simp only [go_sem, simprocAttr, hb]) | fail | (with_reducible (first | apply oC | apply oJ | exact oK | apply wA | apply wB | apply wC hX hC | apply wD hX hC | apply wE hX hC hmix | apply wF hX hC hmix | apply wG | apply wH | apply And.intro)) | ((with_reducible refine oD ?_ ?_); first | fail | kernel_rfl) | ((with_reducible (first | apply oE | apply oF)); (iterate 3 exact rfl); all_goals (intro h; first | (exact absurd h (by decide)) | ((try simp only [go_sem, simprocAttr, hb] at h); (try with_reducible intro K hK); simp only [go_sem, simprocAttr, hb]))) | ((first | ((with_reducible apply wL); exact rfl) | ((with_reducible apply wM); exact rfl)); all_goals (try ((with_reducible intro h); first | (exact absurd h (by decide)) | (try simp only [go_sem, simprocAttr, hb] at h)))) | omega | ((first | (first | (refine acall_same hX hC hP hR (hf') rfl rfl rfl ?_ ?_ rfl rfl ?_; (focus (simp only [go_sem, simprocAttr, hb]; done)); (focus (first | (intro p hp; exact mem_look (Robs.nd hR) hp) | (simp [go_sem, simprocAttr, hb]; done)))) | (refine acall_same hX hC hP hR (hf') rfl rfl rfl ?_ ?_ ?_ rfl ?_; (focus (simp only [go_sem, simprocAttr, hb]; done)); (focus (first | (intro p hp; exact mem_look (Robs.nd hR) hp) | (simp [go_sem, simprocAttr, hb]; done))); (focus (simp [go_sem, simprocAttr, hb]; done))))); try simp only [go_sem, simprocAttr, hb]) | (intro h))
    · exact (findI_none ((0, 0), (0, 0)) fun j hj => hg j (by omega)).symm
    · exact leR_robs hR
theorem containsFuncQ_spec {m : List (Nat × AObj)} (hR : Robs m) (f : Nat) (caps : List AV) (g : Pc → Bool) (ps : List Pc) (hf : ∀ p ∈ ps, Spec Try.prog f (Args (eQ p :: caps)) m (eB (g p)) m) (hl : ps.length ≤ 9223372036854775807) :
    Spec Try.prog 79 (Args [.d (sQ ps), .fn f [] caps]) m (eB (ps.any g)) m := by
  (refine Spec.intro (C := T.cfg [] []) (rs := [.t 4]) (T.cfg_ok _ _) Try.func79 rfl rfl Try.ntmps79 Try.results79 (fun p hp => ⟨(Robs.low hR p hp).1, Robs.nest hR p hp⟩) (fun p hp => ⟨(Robs.low hR p hp).2, Robs.nest hR p hp⟩) (by kernel_rfl) ?_; intro X hX hP hC hXn hXm vals hA; refine ⟨_, by simp, hA, ?_⟩; have hmix : X.P.follows .mixedOrders = true := (by rw [hP]; exact T.mixed); clear hXn hXm)
  repeat' (first | ((first | ((with_reducible (first | apply oA | apply oB)); exact rfl; intro K hK) | (refine hK _ ?_; clear hK K) | ((with_reducible (first | apply oG | apply oH)); iterate 3 exact rfl) | ((with_reducible apply oI); (iterate 2 exact rfl); intro K hK) | (with_reducible (first | apply wI | apply wJ | apply wK))); try simp only [go_sem, simprocAttr]) | fail | (with_reducible (first | apply oC | apply oJ | exact oK | apply wA | apply wB | apply wC hX hC | apply wD hX hC | apply wE hX hC hmix | apply wF hX hC hmix | apply wG | apply wH | apply And.intro)) | ((with_reducible refine oD ?_ ?_); first | fail | kernel_rfl) | ((with_reducible (first | apply oE | apply oF)); (iterate 3 exact rfl); all_goals (intro h; first | (exact absurd h (by decide)) | ((try simp only [go_sem, simprocAttr] at h); (try with_reducible intro K hK); simp only [go_sem, simprocAttr]))) | ((first | ((with_reducible apply wL); exact rfl) | ((with_reducible apply wM); exact rfl)); all_goals (try ((with_reducible intro h); first | (exact absurd h (by decide)) | (try simp only [go_sem, simprocAttr] at h)))) | omega | ((first | (first | (refine acall_same hX hC hP hR (indexFuncQ_spec hR f caps g ps hf hl) rfl rfl rfl ?_ ?_ rfl rfl ?_; (focus (simp only [go_sem, simprocAttr]; done)); (focus (first | (intro p hp; exact mem_look (Robs.nd hR) hp) | (simp [go_sem, simprocAttr]; done)))) | (refine acall_same hX hC hP hR (indexFuncQ_spec hR f caps g ps hf hl) rfl rfl rfl ?_ ?_ ?_ rfl ?_; (focus (simp only [go_sem, simprocAttr]; done)); (focus (first | (intro p hp; exact mem_look (Robs.nd hR) hp) | (simp [go_sem, simprocAttr]; done))); (focus (simp [go_sem, simprocAttr]; done))))); try simp only [go_sem, simprocAttr]) | (intro h))
  · exact findI_any g ps
  · exact leR_robs hR
theorem indexFuncPR_spec {m : List (Nat × AObj)} (hR : Robs m) (f : Nat) (caps : List AV) (g : Pt → Bool) (ps : List Pt) (hf : ∀ p ∈ ps, Spec Try.prog f (Args (eP p :: caps)) m (eB (g p)) m) (hl : ps.length ≤ 9223372036854775807) :
    Spec Try.prog 127 (Args [.d (sP ps), .fn f [] caps]) m (eN (findI g ps)) m := by
  (refine Spec.intro (C := T.cfg [] []) (rs := [.t 4]) (T.cfg_ok _ _) Try.func127 rfl rfl Try.ntmps127 Try.results127 (fun p hp => ⟨(Robs.low hR p hp).1, Robs.nest hR p hp⟩) (fun p hp => ⟨(Robs.low hR p hp).2, Robs.nest hR p hp⟩) (by kernel_rfl) ?_; intro X hX hP hC hXn hXm vals hA; refine ⟨_, by simp, hA, ?_⟩; have hmix : X.P.follows .mixedOrders = true := (by rw [hP]; exact T.mixed); clear hXn hXm)
  repeat' (first | ((first | ((with_reducible (first | apply oA | apply oB)); exact rfl; intro K hK) | (refine hK _ ?_; clear hK K) | ((with_reducible (first | apply oG | apply oH)); iterate 3 exact rfl) | ((with_reducible apply oI); (iterate 2 exact rfl); intro K hK) | (with_reducible (first | apply wI | apply wJ | apply wK))); try simp only [go_sem, simprocAttr]) | fail | (with_reducible (first | apply oC | apply oJ | exact oK | apply wA | apply wB | apply wC hX hC | apply wD hX hC | apply wE hX hC hmix | apply wF hX hC hmix | apply wG | apply wH | apply And.intro)) | ((with_reducible refine oD ?_ ?_); first | fail | kernel_rfl) | ((with_reducible (first | apply oE | apply oF)); (iterate 3 exact rfl); all_goals (intro h; first | (exact absurd h (by decide)) | ((try simp only [go_sem, simprocAttr] at h); (try with_reducible intro K hK); simp only [go_sem, simprocAttr]))) | ((first | ((with_reducible apply wL); exact rfl) | ((with_reducible apply wM); exact rfl)); all_goals (try ((with_reducible intro h); first | (exact absurd h (by decide)) | (try simp only [go_sem, simprocAttr] at h)))) | omega | ((first | fail); try simp only [go_sem, simprocAttr]) | (intro h))
  refine awp_loopP (fun k : Nat => k ≤ ps.length ∧ ∀ j, j < k → g (ps.getD j (0, 0)) = false) (fun k => ⟨[(0, .d (sP ps)), (1, .fn f [] caps), (7, eN ps.length), (8, eN k)], m⟩) (fun k => ps.length - k) 0 (by simp) ?_ ?_
  · (refine ⟨leT_spec ?_, fun _ _ h => h⟩; simp [go_sem, simprocAttr])
  rintro k ⟨hk, hg⟩
  rcases Nat.lt_or_ge k ps.length with hlt | hge
  · have hb : decide ((k : Int) < (ps.length : Int)) = true := decide_eq_true (by omega)
    have hf' := hf (ps.getD k (0, 0)) (getD_memX hlt)
    repeat' (first | ((first | ((with_reducible (first | apply oA | apply oB)); exact rfl; intro K hK) | (refine hK _ ?_; clear hK K) | ((with_reducible (first | apply oG | apply oH)); iterate 3 exact rfl) | ((with_reducible apply oI); (iterate 2 exact rfl); intro K hK) | (with_reducible (first | apply wI | apply wJ | apply wK))); try simp only [go_sem, simprocAttr, hb]) | fail | (with_reducible (first | apply oC | apply oJ | exact oK | apply wA | apply wB | apply wC hX hC | apply wD hX hC | apply wE hX hC hmix | apply wF hX hC hmix | apply wG | apply wH | apply And.intro)) | ((with_reducible refine oD ?_ ?_); first | fail | kernel_rfl) | ((with_reducible (first | apply oE | apply oF)); (iterate 3 exact rfl); all_goals (intro h; first | (exact absurd h (by decide)) | ((try simp only [go_sem, simprocAttr, hb] at h); (try with_reducible intro K hK); simp only [go_sem, simprocAttr, hb]))) | ((first | ((with_reducible apply wL); exact rfl) | ((with_reducible apply wM); exact rfl)); all_goals (try ((with_reducible intro h); first | (exact absurd h (by decide)) | (try simp only [go_sem, simprocAttr, hb] at h)))) | omega | ((first | (first | (refine acall_same hX hC hP hR (hf') rfl rfl rfl ?_ ?_ rfl rfl ?_; (focus (simp only [go_sem, simprocAttr, hb]; done)); (focus (first | (intro p hp; exact mem_look (Robs.nd hR) hp) | (simp [go_sem, simprocAttr, hb]; done)))) | (refine acall_same hX hC hP hR (hf') rfl rfl rfl ?_ ?_ ?_ rfl ?_; (focus (simp only [go_sem, simprocAttr, hb]; done)); (focus (first | (intro p hp; exact mem_look (Robs.nd hR) hp) | (simp [go_sem, simprocAttr, hb]; done))); (focus (simp [go_sem, simprocAttr, hb]; done))))); try simp only [go_sem, simprocAttr, hb]) | (intro h))
    · exact (findI_at (by omega) hg h).symm
    · exact leR_robs hR
    · refine ⟨k + 1, ⟨by omega, fun j hj => ?_⟩, ?_, by omega⟩
      · by_cases hjk : j = k
        · subst hjk; exact h
        · exact hg j (by omega)
      · (refine ⟨leT_spec ?_, fun _ _ h => h⟩; simp [go_sem, simprocAttr, hb])
  · have hb : decide ((k : Int) < (ps.length : Int)) = false := decide_eq_false (by omega)
    repeat' (first | ((first | ((with_reducible (first | apply oA | apply oB)); exact rfl; intro K hK) | (refine hK _ ?_; clear hK K) | ((with_reducible (first | apply oG | apply oH)); iterate 3 exact rfl) | ((with_reducible apply oI); (iterate 2 exact rfl); intro K hK) | (with_reducible (first | apply wI | apply wJ | apply wK))); try simp only [go_sem, simprocAttr, hb]) | fail | (with_reducible (first | apply oC | apply oJ | exact oK | apply wA | apply wB | apply wC hX hC | apply wD hX hC | apply wE hX hC hmix | apply wF hX hC hmix | apply wG | apply wH | apply And.intro)) | ((with_reducible refine oD ?_ ?_); first | fail | kernel_rfl) | ((with_reducible (first | apply oE | apply oF)); (iterate 3 exact rfl); all_goals (intro h; first | (exact absurd h (by decide)) | ((try simp only [go_sem, simprocAttr, hb] at h); (try with_reducible intro K hK); simp only [go_sem, simprocAttr, hb]))) | ((first | ((with_reducible apply wL); exact rfl) | ((with_reducible apply wM); exact rfl)); all_goals (try ((with_reducible intro h); first | (exact absurd h (by decide)) | (try simp only [go_sem, simprocAttr, hb] at h)))) | omega | ((first | (first | (refine acall_same hX hC hP hR (hf') rfl rfl rfl ?_ ?_ rfl rfl ?_; (focus (simp only [go_sem, simprocAttr, hb]; done)); (focus (first | (intro p hp; exact mem_look (Robs.nd hR) hp) | (simp [go_sem, simprocAttr, hb]; done)))) | (refine acall_same hX hC hP hR (hf') rfl rfl rfl ?_ ?_ ?_ rfl ?_; (focus (simp only [go_sem, simprocAttr, hb]; done)); (focus (first | (intro p hp; exact mem_look (Robs.nd hR) hp) | (simp [go_sem, simprocAttr, hb]; done))); (focus (simp [go_sem, simprocAttr, hb]; done))))); try simp only [go_sem, simprocAttr, hb]) | (intro h))
    · exact (findI_none (0, 0) fun j hj => hg j (by omega)).symm
    · exact leR_robs hR
theorem containsFuncPR_spec {m : List (Nat × AObj)} (hR : Robs m) (f : Nat) (caps : List AV) (g : Pt → Bool) (ps : List Pt) (hf : ∀ p ∈ ps, Spec Try.prog f (Args (eP p :: caps)) m (eB (g p)) m) (hl : ps.length ≤ 9223372036854775807) :
    Spec Try.prog 88 (Args [.d (sP ps), .fn f [] caps]) m (eB (ps.any g)) m := by
  (refine Spec.intro (C := T.cfg [] []) (rs := [.t 4]) (T.cfg_ok _ _) Try.func88 rfl rfl Try.ntmps88 Try.results88 (fun p hp => ⟨(Robs.low hR p hp).1, Robs.nest hR p hp⟩) (fun p hp => ⟨(Robs.low hR p hp).2, Robs.nest hR p hp⟩) (by kernel_rfl) ?_; intro X hX hP hC hXn hXm vals hA; refine ⟨_, by simp, hA, ?_⟩; have hmix : X.P.follows .mixedOrders = true := (by rw [hP]; exact T.mixed); clear hXn hXm)
  repeat' (first | ((first | ((with_reducible (first | apply oA | apply oB)); exact rfl; intro K hK) | (refine hK _ ?_; clear hK K) | ((with_reducible (first | apply oG | apply oH)); iterate 3 exact rfl) | ((with_reducible apply oI); (iterate 2 exact rfl); intro K hK) | (with_reducible (first | apply wI | apply wJ | apply wK))); try simp only [go_sem, simprocAttr]) | fail | (with_reducible (first | apply oC | apply oJ | exact oK | apply wA | apply wB | apply wC hX hC | apply wD hX hC | apply wE hX hC hmix | apply wF hX hC hmix | apply wG | apply wH | apply And.intro)) | ((with_reducible refine oD ?_ ?_); first | fail | kernel_rfl) | ((with_reducible (first | apply oE | apply oF)); (iterate 3 exact rfl); all_goals (intro h; first | (exact absurd h (by decide)) | ((try simp only [go_sem, simprocAttr] at h); (try with_reducible intro K hK); simp only [go_sem, simprocAttr]))) | ((first | ((with_reducible apply wL); exact rfl) | ((with_reducible apply wM); exact rfl)); all_goals (try ((with_reducible intro h); first | (exact absurd h (by decide)) | (try simp only [go_sem, simprocAttr] at h)))) | omega | ((first | (first | (refine acall_same hX hC hP hR (indexFuncPR_spec hR f caps g ps hf hl) rfl rfl rfl ?_ ?_ rfl rfl ?_; (focus (simp only [go_sem, simprocAttr]; done)); (focus (first | (intro p hp; exact mem_look (Robs.nd hR) hp) | (simp [go_sem, simprocAttr]; done)))) | (refine acall_same hX hC hP hR (indexFuncPR_spec hR f caps g ps hf hl) rfl rfl rfl ?_ ?_ ?_ rfl ?_; (focus (simp only [go_sem, simprocAttr]; done)); (focus (first | (intro p hp; exact mem_look (Robs.nd hR) hp) | (simp [go_sem, simprocAttr]; done))); (focus (simp [go_sem, simprocAttr]; done))))); try simp only [go_sem, simprocAttr]) | (intro h))
  · exact findI_any g ps
  · exact leR_robs hR
theorem indexFuncLn_spec {m : List (Nat × AObj)} (hR : Robs m) (f : Nat) (caps : List AV) (g : List Pt → Bool) (ps : List (List Pt)) (hf : ∀ p ∈ ps, Spec Try.prog f (Args (eLn p :: caps)) m (eB (g p)) m) (hl : ps.length ≤ 9223372036854775807) :
    Spec Try.prog 121 (Args [.d (sLn ps), .fn f [] caps]) m (eN (findI g ps)) m := by
  (refine Spec.intro (C := T.cfg [] []) (rs := [.t 4]) (T.cfg_ok _ _) Try.func121 rfl rfl Try.ntmps121 Try.results121 (fun p hp => ⟨(Robs.low hR p hp).1, Robs.nest hR p hp⟩) (fun p hp => ⟨(Robs.low hR p hp).2, Robs.nest hR p hp⟩) (by kernel_rfl) ?_; intro X hX hP hC hXn hXm vals hA; refine ⟨_, by simp, hA, ?_⟩; have hmix : X.P.follows .mixedOrders = true := (by rw [hP]; exact T.mixed); clear hXn hXm)
  repeat' (first | ((first | ((with_reducible (first | apply oA | apply oB)); exact rfl; intro K hK) | (refine hK _ ?_; clear hK K) | ((with_reducible (first | apply oG | apply oH)); iterate 3 exact rfl) | ((with_reducible apply oI); (iterate 2 exact rfl); intro K hK) | (with_reducible (first | apply wI | apply wJ | apply wK))); try simp only [go_sem, simprocAttr]) | fail | (with_reducible (first | apply oC | apply oJ | exact oK | apply wA | apply wB | apply wC hX hC | apply wD hX hC | apply wE hX hC hmix | apply wF hX hC hmix | apply wG | apply wH | apply And.intro)) | ((with_reducible refine oD ?_ ?_); first | fail | kernel_rfl) | ((with_reducible (first | apply oE | apply oF)); (iterate 3 exact rfl); all_goals (intro h; first | (exact absurd h (by decide)) | ((try simp only [go_sem, simprocAttr] at h); (try with_reducible intro K hK); simp only [go_sem, simprocAttr]))) | ((first | ((with_reducible apply wL); exact rfl) | ((with_reducible apply wM); exact rfl)); all_goals (try ((with_reducible intro h); first | (exact absurd h (by decide)) | (try simp only [go_sem, simprocAttr] at h)))) | omega | ((first | fail); try simp only [go_sem, simprocAttr]) | (intro h))
  refine awp_loopP (fun k : Nat => k ≤ ps.length ∧ ∀ j, j < k → g (ps.getD j []) = false) (fun k => ⟨[(0, .d (sLn ps)), (1, .fn f [] caps), (7, eN ps.length), (8, eN k)], m⟩) (fun k => ps.length - k) 0 (by simp) ?_ ?_
  · (refine ⟨leT_spec ?_, fun _ _ h => h⟩; simp [go_sem, simprocAttr])
  rintro k ⟨hk, hg⟩
  rcases Nat.lt_or_ge k ps.length with hlt | hge
  · have hb : decide ((k : Int) < (ps.length : Int)) = true := decide_eq_true (by omega)
    have hf' := hf (ps.getD k []) (getD_memX hlt)
    repeat' (first | ((first | ((with_reducible (first | apply oA | apply oB)); exact rfl; intro K hK) | (refine hK _ ?_; clear hK K) | ((with_reducible (first | apply oG | apply oH)); iterate 3 exact rfl) | ((with_reducible apply oI); (iterate 2 exact rfl); intro K hK) | (with_reducible (first | apply wI | apply wJ | apply wK))); try simp only [go_sem, simprocAttr, hb]) | fail | (with_reducible (first | apply oC | apply oJ | exact oK | apply wA | apply wB | apply wC hX hC | apply wD hX hC | apply wE hX hC hmix | apply wF hX hC hmix | apply wG | apply wH | apply And.intro)) | ((with_reducible refine oD ?_ ?_); first | fail | kernel_rfl) | ((with_reducible (first | apply oE | apply oF)); (iterate 3 exact rfl); all_goals (intro h; first | (exact absurd h (by decide)) | ((try simp only [go_sem, simprocAttr, hb] at h); (try with_reducible intro K hK); simp only [go_sem, simprocAttr, hb]))) | ((first | ((with_reducible apply wL); exact rfl) | ((with_reducible apply wM); exact rfl)); all_goals (try ((with_reducible intro h); first | (exact absurd h (by decide)) | (try simp only [go_sem, simprocAttr, hb] at h)))) | omega | ((first | (first | (refine acall_same hX hC hP hR (hf') rfl rfl rfl ?_ ?_ rfl rfl ?_; (focus (simp only [go_sem, simprocAttr, hb]; done)); (focus (first | (intro p hp; exact mem_look (Robs.nd hR) hp) | (simp [go_sem, simprocAttr, hb]; done)))) | (refine acall_same hX hC hP hR (hf') rfl rfl rfl ?_ ?_ ?_ rfl ?_; (focus (simp only [go_sem, simprocAttr, hb]; done)); (focus (first | (intro p hp; exact mem_look (Robs.nd hR) hp) | (simp [go_sem, simprocAttr, hb]; done))); (focus (simp [go_sem, simprocAttr, hb]; done))))); try simp only [go_sem, simprocAttr, hb]) | (intro h))
    · exact (findI_at (by omega) hg h).symm
    · exact leR_robs hR
    · refine ⟨k + 1, ⟨by omega, fun j hj => ?_⟩, ?_, by omega⟩
      · by_cases hjk : j = k
        · subst hjk; exact h
        · exact hg j (by omega)
      · (refine ⟨leT_spec ?_, fun _ _ h => h⟩; simp [go_sem, simprocAttr, hb])
  · have hb : decide ((k : Int) < (ps.length : Int)) = false := decide_eq_false (by omega)
    repeat' (first | ((first | ((with_reducible (first | apply oA | apply oB)); exact rfl; intro K hK) | (refine hK _ ?_; clear hK K) | ((with_reducible (first | apply oG | apply oH)); iterate 3 exact rfl) | ((with_reducible apply oI); (iterate 2 exact rfl); intro K hK) | (with_reducible (first | apply wI | apply wJ | apply wK))); try simp only [go_sem, simprocAttr, hb]) | fail | (with_reducible (first | apply oC | apply oJ | exact oK | apply wA | apply wB | apply wC hX hC | apply wD hX hC | apply wE hX hC hmix | apply wF hX hC hmix | apply wG | apply wH | apply And.intro)) | ((with_reducible refine oD ?_ ?_); first | fail | kernel_rfl) | ((with_reducible (first | apply oE | apply oF)); (iterate 3 exact rfl); all_goals (intro h; first | (exact absurd h (by decide)) | ((try simp only [go_sem, simprocAttr, hb] at h); (try with_reducible intro K hK); simp only [go_sem, simprocAttr, hb]))) | ((first | ((with_reducible apply wL); exact rfl) | ((with_reducible apply wM); exact rfl)); all_goals (try ((with_reducible intro h); first | (exact absurd h (by decide)) | (try simp only [go_sem, simprocAttr, hb] at h)))) | omega | ((first | (first | (refine acall_same hX hC hP hR (hf') rfl rfl rfl ?_ ?_ rfl rfl ?_; (focus (simp only [go_sem, simprocAttr, hb]; done)); (focus (first | (intro p hp; exact mem_look (Robs.nd hR) hp) | (simp [go_sem, simprocAttr, hb]; done)))) | (refine acall_same hX hC hP hR (hf') rfl rfl rfl ?_ ?_ ?_ rfl ?_; (focus (simp only [go_sem, simprocAttr, hb]; done)); (focus (first | (intro p hp; exact mem_look (Robs.nd hR) hp) | (simp [go_sem, simprocAttr, hb]; done))); (focus (simp [go_sem, simprocAttr, hb]; done))))); try simp only [go_sem, simprocAttr, hb]) | (intro h))
    · exact (findI_none [] fun j hj => hg j (by omega)).symm
    · exact leR_robs hR
theorem containsFuncLn_spec {m : List (Nat × AObj)} (hR : Robs m) (f : Nat) (caps : List AV) (g : List Pt → Bool) (ps : List (List Pt)) (hf : ∀ p ∈ ps, Spec Try.prog f (Args (eLn p :: caps)) m (eB (g p)) m) (hl : ps.length ≤ 9223372036854775807) :
    Spec Try.prog 77 (Args [.d (sLn ps), .fn f [] caps]) m (eB (ps.any g)) m := by
  (refine Spec.intro (C := T.cfg [] []) (rs := [.t 4]) (T.cfg_ok _ _) Try.func77 rfl rfl Try.ntmps77 Try.results77 (fun p hp => ⟨(Robs.low hR p hp).1, Robs.nest hR p hp⟩) (fun p hp => ⟨(Robs.low hR p hp).2, Robs.nest hR p hp⟩) (by kernel_rfl) ?_; intro X hX hP hC hXn hXm vals hA; refine ⟨_, by simp, hA, ?_⟩; have hmix : X.P.follows .mixedOrders = true := (by rw [hP]; exact T.mixed); clear hXn hXm)
  repeat' (first | ((first | ((with_reducible (first | apply oA | apply oB)); exact rfl; intro K hK) | (refine hK _ ?_; clear hK K) | ((with_reducible (first | apply oG | apply oH)); iterate 3 exact rfl) | ((with_reducible apply oI); (iterate 2 exact rfl); intro K hK) | (with_reducible (first | apply wI | apply wJ | apply wK))); try simp only [go_sem, simprocAttr]) | fail | (with_reducible (first | apply oC | apply oJ | exact oK | apply wA | apply wB | apply wC hX hC | apply wD hX hC | apply wE hX hC hmix | apply wF hX hC hmix | apply wG | apply wH | apply And.intro)) | ((with_reducible refine oD ?_ ?_); first | fail | kernel_rfl) | ((with_reducible (first | apply oE | apply oF)); (iterate 3 exact rfl); all_goals (intro h; first | (exact absurd h (by decide)) | ((try simp only [go_sem, simprocAttr] at h); (try with_reducible intro K hK); simp only [go_sem, simprocAttr]))) | ((first | ((with_reducible apply wL); exact rfl) | ((with_reducible apply wM); exact rfl)); all_goals (try ((with_reducible intro h); first | (exact absurd h (by decide)) | (try simp only [go_sem, simprocAttr] at h)))) | omega | ((first | (first | (refine acall_same hX hC hP hR (indexFuncLn_spec hR f caps g ps hf hl) rfl rfl rfl ?_ ?_ rfl rfl ?_; (focus (simp only [go_sem, simprocAttr]; done)); (focus (first | (intro p hp; exact mem_look (Robs.nd hR) hp) | (simp [go_sem, simprocAttr]; done)))) | (refine acall_same hX hC hP hR (indexFuncLn_spec hR f caps g ps hf hl) rfl rfl rfl ?_ ?_ ?_ rfl ?_; (focus (simp only [go_sem, simprocAttr]; done)); (focus (first | (intro p hp; exact mem_look (Robs.nd hR) hp) | (simp [go_sem, simprocAttr]; done))); (focus (simp [go_sem, simprocAttr]; done))))); try simp only [go_sem, simprocAttr]) | (intro h))
  · exact findI_any g ps
  · exact leR_robs hR
end Go.Ab
end
section
namespace Go.Ab
open Go.Proofs
attribute [local congr] ACall.congr
set_option maxRecDepth 10000

structure Dr where
  pts : List Pt
  ls : List (List Pt)
def eDr (d : Dr) : AV := .agg [.d (sP d.pts), .d (sLn d.ls)]
def lkO (g : Gr) (d : Dr) : AObj := .rob [eN g.n, .d (sE g.es), .d (sP d.pts), .d (sLn d.ls)]
theorem robK (g : Gr) (d : Dr) : Robs [(10000, lkO g d)] := ⟨by simp [lkO, AObj.ro], by simp [nodupM, look], by simp, by simp [lkO, AObj.ids, AV.ids, AV.idss, eN]⟩
attribute [go_sem] eDr lkO
/-- A line's pieces. -/
def pcK (l : List Pt) (k : Nat) : List Pc := (List.range k).map fun i => (l.getD i (0, 0), l.getD (i + 1) (0, 0))
def pcs (l : List Pt) : List Pc := pcK l (l.length - 1)
theorem pcK_next {l : List Pt} {k : Nat} : pcK l (k + 1) = pcK l k ++ [(l.getD k (0, 0), l.getD (k + 1) (0, 0))] := by simp [pcK, List.range_succ]
theorem pcK_length {l : List Pt} {k : Nat} : (pcK l k).length = k := by simp [pcK]
theorem pcs_length {l : List Pt} : (pcs l).length = l.length - 1 := pcK_length
theorem pieces_spec (l : List Pt) (h1 : 1 ≤ l.length) (hl : l.length ≤ 1000000) : Spec Try.prog 80 (Args [.d (sP l)]) [] (.d (sQ (pcs l))) [] := by
  (refine Spec.intro (C := T.cfg [] []) (rs := [.t 2]) (T.cfg_ok _ _) Try.func80 rfl rfl Try.ntmps80 Try.results80 (by simp [AObj.isNest]) (by simp [AObj.isNest]) (by kernel_rfl) ?_; intro X hX hP hC hXn hXm vals hA; refine ⟨_, by simp, hA, ?_⟩; have hmix : X.P.follows .mixedOrders = true := (by rw [hP]; exact T.mixed); clear hXn hXm)
  repeat' (first | ((first | ((with_reducible (first | apply oA | apply oB)); exact rfl; intro K hK) | (refine hK _ ?_; clear hK K) | ((with_reducible (first | apply oG | apply oH)); iterate 3 exact rfl) | ((with_reducible apply oI); (iterate 2 exact rfl); intro K hK) | (with_reducible (first | apply wI | apply wJ | apply wK))); try simp only [go_sem, simprocAttr]) | fail | (with_reducible (first | apply oC | apply oJ | exact oK | apply wA | apply wB | apply wC hX hC | apply wD hX hC | apply wE hX hC hmix | apply wF hX hC hmix | apply wG | apply wH | apply And.intro)) | ((with_reducible refine oD ?_ ?_); first | fail | kernel_rfl) | ((with_reducible (first | apply oE | apply oF)); (iterate 3 exact rfl); all_goals (intro h; first | (exact absurd h (by decide)) | ((try simp only [go_sem, simprocAttr] at h); (try with_reducible intro K hK); simp only [go_sem, simprocAttr]))) | ((first | ((with_reducible apply wL); exact rfl) | ((with_reducible apply wM); exact rfl)); all_goals (try ((with_reducible intro h); first | (exact absurd h (by decide)) | (try simp only [go_sem, simprocAttr] at h)))) | omega | ((first | fail); try simp only [go_sem, simprocAttr]) | (intro h))
  (refine awp_new hX 2 22 (.tip 129 4 []) (by simp only [go_sem, simprocAttr]) (by simp only [go_sem, simprocAttr]) (by decide) ⟨129, 4, by decide, .inr rfl⟩ ?_; simp only [go_sem, simprocAttr])
  refine awp_loopP (fun k : Nat => k ≤ l.length - 1) (fun k => ⟨[(0, .d (sP l)), (6, eN (l.length - 1 : Nat)), (7, eN k), (2, .ref 22)], [(22, .tip 129 4 ((pcK l k).map rQ))]⟩) (fun k => l.length - 1 - k) 0 (by omega) ?_ ?_
  · refine Le.of ?_ ?_ <;> simp [go_sem, simprocAttr, pcK]
  rintro k hk
  rcases Nat.lt_or_ge k (l.length - 1) with hlt | hge
  · have hb : decide ((k : Int) < ((l.length - 1 : Nat) : Int)) = true := decide_eq_true (by omega)
    repeat' (first | ((first | ((with_reducible (first | apply oA | apply oB)); exact rfl; intro K hK) | (refine hK _ ?_; clear hK K) | ((with_reducible (first | apply oG | apply oH)); iterate 3 exact rfl) | ((with_reducible apply oI); (iterate 2 exact rfl); intro K hK) | (with_reducible (first | apply wI | apply wJ | apply wK))); try simp only [go_sem, simprocAttr, hb, pcK_length]) | fail | (with_reducible (first | apply oC | apply oJ | exact oK | apply wA | apply wB | apply wC hX hC | apply wD hX hC | apply wE hX hC hmix | apply wF hX hC hmix | apply wG | apply wH | apply And.intro)) | ((with_reducible refine oD ?_ ?_); first | fail | kernel_rfl) | ((with_reducible (first | apply oE | apply oF)); (iterate 3 exact rfl); all_goals (intro h; first | (exact absurd h (by decide)) | ((try simp only [go_sem, simprocAttr, hb, pcK_length] at h); (try with_reducible intro K hK); simp only [go_sem, simprocAttr, hb, pcK_length]))) | ((first | ((with_reducible apply wL); exact rfl) | ((with_reducible apply wM); exact rfl)); all_goals (try ((with_reducible intro h); first | (exact absurd h (by decide)) | (try simp only [go_sem, simprocAttr, hb, pcK_length] at h)))) | omega | ((first | fail); try simp only [go_sem, simprocAttr, hb, pcK_length]) | (intro h))
    refine ⟨k + 1, by omega, ?_, by omega⟩
    refine Le.of ?_ ?_ <;> simp [go_sem, simprocAttr, hb, pcK_length, pcK_next, rQ]
  · have hb : decide ((k : Int) < ((l.length - 1 : Nat) : Int)) = false := decide_eq_false (by omega)
    obtain rfl : k = l.length - 1 := by omega
    repeat' (first | ((first | ((with_reducible (first | apply oA | apply oB)); exact rfl; intro K hK) | (refine hK _ ?_; clear hK K) | ((with_reducible (first | apply oG | apply oH)); iterate 3 exact rfl) | ((with_reducible apply oI); (iterate 2 exact rfl); intro K hK) | (with_reducible (first | apply wI | apply wJ | apply wK))); try simp only [go_sem, simprocAttr, hb]) | fail | (with_reducible (first | apply oC | apply oJ | exact oK | apply wA | apply wB | apply wC hX hC | apply wD hX hC | apply wE hX hC hmix | apply wF hX hC hmix | apply wG | apply wH | apply And.intro)) | ((with_reducible refine oD ?_ ?_); first | fail | kernel_rfl) | ((with_reducible (first | apply oE | apply oF)); (iterate 3 exact rfl); all_goals (intro h; first | (exact absurd h (by decide)) | ((try simp only [go_sem, simprocAttr, hb] at h); (try with_reducible intro K hK); simp only [go_sem, simprocAttr, hb]))) | ((first | ((with_reducible apply wL); exact rfl) | ((with_reducible apply wM); exact rfl)); all_goals (try ((with_reducible intro h); first | (exact absurd h (by decide)) | (try simp only [go_sem, simprocAttr, hb] at h)))) | omega | ((first | fail); try simp only [go_sem, simprocAttr, hb]) | (intro h))
    rfl
def robPt (p : Pt) : List (Nat × AObj) := [(10000, .rob [eN p.1, eN p.2])]
theorem robPt_ok (p : Pt) : Robs (robPt p) := ⟨by simp [robPt, AObj.ro], by simp [robPt, nodupM, look], by simp [robPt], by simp [robPt, AObj.ids, AV.ids, AV.idss, eN]⟩
attribute [go_sem] robPt
theorem has1_spec (q : Pc) (p : Pt) : Spec Try.prog 124 (Args [eQ q, .ptr 10000 0]) (robPt p) (eB (OnV q.1 q.2 p)) (robPt p) := by
  unfold robPt
  (refine Spec.intro (C := T.cfg [] []) (rs := [.t 3]) (T.cfg_ok _ _) Try.func124 rfl rfl Try.ntmps124 Try.results124 (by simp [AObj.isNest]) (by simp [AObj.isNest]) (by kernel_rfl) ?_; intro X hX hP hC hXn hXm vals hA; refine ⟨_, by simp, hA, ?_⟩; have hmix : X.P.follows .mixedOrders = true := (by rw [hP]; exact T.mixed); clear hXn hXm)
  repeat' (first | ((first | ((with_reducible (first | apply oA | apply oB)); exact rfl; intro K hK) | (refine hK _ ?_; clear hK K) | ((with_reducible (first | apply oG | apply oH)); iterate 3 exact rfl) | ((with_reducible apply oI); (iterate 2 exact rfl); intro K hK) | (with_reducible (first | apply wI | apply wJ | apply wK))); try simp only [go_sem, simprocAttr]) | fail | (with_reducible (first | apply oC | apply oJ | exact oK | apply wA | apply wB | apply wC hX hC | apply wD hX hC | apply wE hX hC hmix | apply wF hX hC hmix | apply wG | apply wH | apply And.intro)) | ((with_reducible refine oD ?_ ?_); first | fail | kernel_rfl) | ((with_reducible (first | apply oE | apply oF)); (iterate 3 exact rfl); all_goals (intro h; first | (exact absurd h (by decide)) | ((try simp only [go_sem, simprocAttr] at h); (try with_reducible intro K hK); simp only [go_sem, simprocAttr]))) | ((first | ((with_reducible apply wL); exact rfl) | ((with_reducible apply wM); exact rfl)); all_goals (try ((with_reducible intro h); first | (exact absurd h (by decide)) | (try simp only [go_sem, simprocAttr] at h)))) | omega | ((first | first | refine acall_simple hX hC hP (On_spec q.1 q.2 p) rfl rfl rfl (by simp only [go_sem, simprocAttr]) rfl ?_); try simp only [go_sem, simprocAttr]) | (intro h))
/-- Is a point on a line? -/
def onL (l : List Pt) (p : Pt) : Bool := (pcs l).any fun q => OnV q.1 q.2 p
theorem hasP_spec (l : List Pt) (p : Pt) (h1 : 1 ≤ l.length) (hl : l.length ≤ 1000000) : Spec Try.prog 83 (Args [.d (sP l), eP p]) [] (eB (onL l p)) [] := by
  have hl' : (pcs l).length ≤ 9223372036854775807 := by rw [pcs_length]; omega
  (refine Spec.intro (C := T.cfg [] []) (rs := [.t 4]) (T.cfg_ok _ _) Try.func83 rfl rfl Try.ntmps83 Try.results83 (by simp [AObj.isNest]) (by simp [AObj.isNest]) (by kernel_rfl) ?_; intro X hX hP hC hXn hXm vals hA; refine ⟨_, by simp, hA, ?_⟩; have hmix : X.P.follows .mixedOrders = true := (by rw [hP]; exact T.mixed); clear hXn hXm)
  repeat' (first | ((first | ((with_reducible (first | apply oA | apply oB)); exact rfl; intro K hK) | (refine hK _ ?_; clear hK K) | ((with_reducible (first | apply oG | apply oH)); iterate 3 exact rfl) | ((with_reducible apply oI); (iterate 2 exact rfl); intro K hK) | (with_reducible (first | apply wI | apply wJ | apply wK))); try simp only [go_sem, simprocAttr]) | fail | (with_reducible (first | apply oC | apply oJ | exact oK | apply wA | apply wB | apply wC hX hC | apply wD hX hC | apply wE hX hC hmix | apply wF hX hC hmix | apply wG | apply wH | apply And.intro)) | ((with_reducible refine oD ?_ ?_); first | fail | kernel_rfl) | ((with_reducible (first | apply oE | apply oF)); (iterate 3 exact rfl); all_goals (intro h; first | (exact absurd h (by decide)) | ((try simp only [go_sem, simprocAttr] at h); (try with_reducible intro K hK); simp only [go_sem, simprocAttr]))) | ((first | ((with_reducible apply wL); exact rfl) | ((with_reducible apply wM); exact rfl)); all_goals (try ((with_reducible intro h); first | (exact absurd h (by decide)) | (try simp only [go_sem, simprocAttr] at h)))) | omega | ((first | first | refine acall_simple hX hC hP (pieces_spec l h1 hl) rfl rfl rfl (by simp only [go_sem, simprocAttr]) rfl ?_ | (refine acall_rob hX hC hP [(10000, 3)] (containsFuncQ_spec (robPt_ok p) _ _ (fun q => OnV q.1 q.2 p) (pcs l) (fun q _ => has1_spec q p) hl') rfl rfl rfl ?_ ?_ ?_ ?_ ?_ ?_ rfl rfl ?_ ?_; (focus (simp only [go_sem, simprocAttr]; done)); (iterate 6 (focus (simp [go_sem, simprocAttr]; done))); simp only [go_sem, simprocAttr, List.map_cons, List.map_nil])); try simp only [go_sem, simprocAttr]) | (intro h))
  rfl
theorem rises1_spec (q : Pc) : Spec Try.prog 81 (Args [eQ q]) [] (eB (decide (q.2.2 ≤ q.1.2))) [] := by
  (refine Spec.intro (C := T.cfg [] []) (rs := [.t 2]) (T.cfg_ok _ _) Try.func81 rfl rfl Try.ntmps81 Try.results81 (by simp [AObj.isNest]) (by simp [AObj.isNest]) (by kernel_rfl) ?_; intro X hX hP hC hXn hXm vals hA; refine ⟨_, by simp, hA, ?_⟩; have hmix : X.P.follows .mixedOrders = true := (by rw [hP]; exact T.mixed); clear hXn hXm)
  repeat' (first | ((first | ((with_reducible (first | apply oA | apply oB)); exact rfl; intro K hK) | (refine hK _ ?_; clear hK K) | ((with_reducible (first | apply oG | apply oH)); iterate 3 exact rfl) | ((with_reducible apply oI); (iterate 2 exact rfl); intro K hK) | (with_reducible (first | apply wI | apply wJ | apply wK))); try simp only [go_sem, simprocAttr]) | fail | (with_reducible (first | apply oC | apply oJ | exact oK | apply wA | apply wB | apply wC hX hC | apply wD hX hC | apply wE hX hC hmix | apply wF hX hC hmix | apply wG | apply wH | apply And.intro)) | ((with_reducible refine oD ?_ ?_); first | fail | kernel_rfl) | ((with_reducible (first | apply oE | apply oF)); (iterate 3 exact rfl); all_goals (intro h; first | (exact absurd h (by decide)) | ((try simp only [go_sem, simprocAttr] at h); (try with_reducible intro K hK); simp only [go_sem, simprocAttr]))) | ((first | ((with_reducible apply wL); exact rfl) | ((with_reducible apply wM); exact rfl)); all_goals (try ((with_reducible intro h); first | (exact absurd h (by decide)) | (try simp only [go_sem, simprocAttr] at h)))) | omega | ((first | fail); try simp only [go_sem, simprocAttr]) | (intro h))
/-- Does a line rise? -/
def riseL (l : List Pt) : Bool := !(pcs l).any fun q => decide (q.2.2 ≤ q.1.2)
/-- A drawing of a graph that may be, of which lines have as many points as they may. -/
structure DrOk (g : Gr) (d : Dr) : Prop where
  may : mayB g = true
  np : (d.pts.length : Int) = g.n
  nl : d.ls.length = g.es.length
  rng : ∀ l ∈ d.ls, 2 ≤ l.length ∧ l.length ≤ 8
theorem DrOk.line {g : Gr} {d : Dr} (h : DrOk g d) {i : Nat} (hi : i < g.es.length) : 2 ≤ (d.ls.getD i []).length ∧ (d.ls.getD i []).length ≤ 8 := h.rng _ (getD_memX (by rw [h.nl]; exact hi))
theorem rises_spec (g : Gr) (d : Dr) (h : DrOk g d) (i : Nat) (hi : i < g.es.length) : Spec Try.prog 38 (Args [.ptr 10000 0, eN i]) [(10000, lkO g d)] (eB (riseL (d.ls.getD i []))) [(10000, lkO g d)] := by
  have hn := mayB_n h.may
  have hnl := h.nl
  obtain ⟨h2, h8⟩ := h.line hi
  have h1 : 1 ≤ (d.ls.getD i []).length := by omega
  have hl : (d.ls.getD i []).length ≤ 1000000 := by omega
  have hl' : (pcs (d.ls.getD i [])).length ≤ 9223372036854775807 := by rw [pcs_length]; omega
  unfold lkO
  (refine Spec.intro (C := T.cfg [] []) (rs := [.t 4]) (T.cfg_ok _ _) Try.func38 rfl rfl Try.ntmps38 Try.results38 (by simp [AObj.isNest]) (by simp [AObj.isNest]) (by kernel_rfl) ?_; intro X hX hP hC hXn hXm vals hA; refine ⟨_, by simp, hA, ?_⟩; have hmix : X.P.follows .mixedOrders = true := (by rw [hP]; exact T.mixed); clear hXn hXm)
  repeat' (first | ((first | ((with_reducible (first | apply oA | apply oB)); exact rfl; intro K hK) | (refine hK _ ?_; clear hK K) | ((with_reducible (first | apply oG | apply oH)); iterate 3 exact rfl) | ((with_reducible apply oI); (iterate 2 exact rfl); intro K hK) | (with_reducible (first | apply wI | apply wJ | apply wK))); try simp only [go_sem, simprocAttr]) | fail | (with_reducible (first | apply oC | apply oJ | exact oK | apply wA | apply wB | apply wC hX hC | apply wD hX hC | apply wE hX hC hmix | apply wF hX hC hmix | apply wG | apply wH | apply And.intro)) | ((with_reducible refine oD ?_ ?_); first | fail | kernel_rfl) | ((with_reducible (first | apply oE | apply oF)); (iterate 3 exact rfl); all_goals (intro h; first | (exact absurd h (by decide)) | ((try simp only [go_sem, simprocAttr] at h); (try with_reducible intro K hK); simp only [go_sem, simprocAttr]))) | ((first | ((with_reducible apply wL); exact rfl) | ((with_reducible apply wM); exact rfl)); all_goals (try ((with_reducible intro h); first | (exact absurd h (by decide)) | (try simp only [go_sem, simprocAttr] at h)))) | omega | ((first | first | refine acall_simple hX hC hP (pieces_spec (d.ls.getD i []) h1 hl) rfl rfl rfl (by simp only [go_sem, simprocAttr]) rfl ?_ | refine acall_simple hX hC hP (containsFuncQ_spec Robs.nil _ [] (fun q => decide (q.2.2 ≤ q.1.2)) (pcs (d.ls.getD i [])) (fun q _ => rises1_spec q) hl') rfl rfl rfl (by simp only [go_sem, simprocAttr]) rfl ?_); try simp only [go_sem, simprocAttr]) | (intro h))
  rfl
/-- Does a line go from its edge's tail to its head? -/
def endL (g : Gr) (d : Dr) (i : Nat) : Bool := decide ((d.ls.getD i []).getD 0 (0, 0) = d.pts.getD (g.es.getD i (0, 0)).1.toNat (0, 0)) && decide ((d.ls.getD i []).getD ((d.ls.getD i []).length - 1) (0, 0) = d.pts.getD (g.es.getD i (0, 0)).2.toNat (0, 0))
theorem ends'_spec (g : Gr) (d : Dr) (h : DrOk g d) (i : Nat) (hi : i < g.es.length) : Spec Try.prog 37 (Args [.ptr 10000 0, eN i]) [(10000, lkO g d)] (eB (endL g d i)) [(10000, lkO g d)] := by
  have hn := mayB_n h.may
  have hnp := h.np
  have hnl := h.nl
  obtain ⟨h2, h8⟩ := h.line hi
  obtain ⟨⟨he0, he1⟩, he2, he3⟩ := mayB_e h.may hi
  have htn : (((d.ls.getD i []).length : Int) - 1).toNat = (d.ls.getD i []).length - 1 := by omega
  unfold lkO
  (refine Spec.intro (C := T.cfg [] []) (rs := [.t 4]) (T.cfg_ok _ _) Try.func37 rfl rfl Try.ntmps37 Try.results37 (by simp [AObj.isNest]) (by simp [AObj.isNest]) (by kernel_rfl) ?_; intro X hX hP hC hXn hXm vals hA; refine ⟨_, by simp, hA, ?_⟩; have hmix : X.P.follows .mixedOrders = true := (by rw [hP]; exact T.mixed); clear hXn hXm)
  repeat' (first | ((first | ((with_reducible (first | apply oA | apply oB)); exact rfl; intro K hK) | (refine hK _ ?_; clear hK K) | ((with_reducible (first | apply oG | apply oH)); iterate 3 exact rfl) | ((with_reducible apply oI); (iterate 2 exact rfl); intro K hK) | (with_reducible (first | apply wI | apply wJ | apply wK))); try simp only [go_sem, simprocAttr, beqE, htn]) | fail | (with_reducible (first | apply oC | apply oJ | exact oK | apply wA | apply wB | apply wC hX hC | apply wD hX hC | apply wE hX hC hmix | apply wF hX hC hmix | apply wG | apply wH | apply And.intro)) | ((with_reducible refine oD ?_ ?_); first | fail | kernel_rfl) | ((with_reducible (first | apply oE | apply oF)); (iterate 3 exact rfl); all_goals (intro h; first | (exact absurd h (by decide)) | ((try simp only [go_sem, simprocAttr, beqE, htn] at h); (try with_reducible intro K hK); simp only [go_sem, simprocAttr, beqE, htn]))) | ((first | ((with_reducible apply wL); exact rfl) | ((with_reducible apply wM); exact rfl)); all_goals (try ((with_reducible intro h); first | (exact absurd h (by decide)) | (try simp only [go_sem, simprocAttr, beqE, htn] at h)))) | omega | ((first | fail); try simp only [go_sem, simprocAttr, beqE, htn]) | (intro h))
  · have h0 : (d.ls.getD i []).getD 0 (0, 0) = d.pts.getD (g.es.getD i (0, 0)).1.toNat (0, 0) := by assumption
    simp only [endL, h0, decide_true, Bool.true_and]
  · have h0 : ¬ (d.ls.getD i []).getD 0 (0, 0) = d.pts.getD (g.es.getD i (0, 0)).1.toNat (0, 0) := by assumption
    simp only [endL, h0, decide_false, Bool.false_and]
def idxP (l : List Pt) (x : Pt) : Int := findI (fun y => decide (x = y)) l
theorem idxP_has (l : List Pt) (x : Pt) : decide (0 ≤ idxP l x) = decide (x ∈ l) := by
  unfold idxP; rw [findI_any, Bool.eq_iff_iff]; simp [-Prod.exists, -Prod.forall]
theorem indexP_spec (ps : List Pt) (x : Pt) (hl : ps.length ≤ 9223372036854775807) :
    Spec Try.prog 123 (Args [.d (sP ps), eP x]) [] (eN (idxP ps x)) [] := by
  (refine Spec.intro (C := T.cfg [] []) (rs := [.t 4]) (T.cfg_ok _ _) Try.func123 rfl rfl Try.ntmps123 Try.results123 (by simp [AObj.isNest]) (by simp [AObj.isNest]) (by kernel_rfl) ?_; intro X hX hP hC hXn hXm vals hA; refine ⟨_, by simp, hA, ?_⟩; have hmix : X.P.follows .mixedOrders = true := (by rw [hP]; exact T.mixed); clear hXn hXm)
  repeat' (first | ((first | ((with_reducible (first | apply oA | apply oB)); exact rfl; intro K hK) | (refine hK _ ?_; clear hK K) | ((with_reducible (first | apply oG | apply oH)); iterate 3 exact rfl) | ((with_reducible apply oI); (iterate 2 exact rfl); intro K hK) | (with_reducible (first | apply wI | apply wJ | apply wK))); try simp only [go_sem, simprocAttr]) | fail | (with_reducible (first | apply oC | apply oJ | exact oK | apply wA | apply wB | apply wC hX hC | apply wD hX hC | apply wE hX hC hmix | apply wF hX hC hmix | apply wG | apply wH | apply And.intro)) | ((with_reducible refine oD ?_ ?_); first | fail | kernel_rfl) | ((with_reducible (first | apply oE | apply oF)); (iterate 3 exact rfl); all_goals (intro h; first | (exact absurd h (by decide)) | ((try simp only [go_sem, simprocAttr] at h); (try with_reducible intro K hK); simp only [go_sem, simprocAttr]))) | ((first | ((with_reducible apply wL); exact rfl) | ((with_reducible apply wM); exact rfl)); all_goals (try ((with_reducible intro h); first | (exact absurd h (by decide)) | (try simp only [go_sem, simprocAttr] at h)))) | omega | ((first | fail); try simp only [go_sem, simprocAttr]) | (intro h))
  refine awp_loopP (fun k : Nat => k ≤ ps.length ∧ ∀ j, j < k → decide (x = ps.getD j (0, 0)) = false) (fun k => ⟨[(0, .d (sP ps)), (3, .ptr 3 0), (7, eN ps.length), (8, eN k)], [(3, .box [eN x.1, eN x.2])]⟩) (fun k => ps.length - k) 0 (by simp) ?_ ?_
  · (refine Le.of ?_ ?_ <;> simp [go_sem, simprocAttr])
  rintro k ⟨hk, hg⟩
  repeat' (first | ((first | ((with_reducible (first | apply oA | apply oB)); exact rfl; intro K hK) | (refine hK _ ?_; clear hK K) | ((with_reducible (first | apply oG | apply oH)); iterate 3 exact rfl) | ((with_reducible apply oI); (iterate 2 exact rfl); intro K hK) | (with_reducible (first | apply wI | apply wJ | apply wK))); try simp only [go_sem, simprocAttr, beqE]) | fail | (with_reducible (first | apply oC | apply oJ | exact oK | apply wA | apply wB | apply wC hX hC | apply wD hX hC | apply wE hX hC hmix | apply wF hX hC hmix | apply wG | apply wH | apply And.intro)) | ((with_reducible refine oD ?_ ?_); first | fail | kernel_rfl) | ((with_reducible (first | apply oE | apply oF)); (iterate 3 exact rfl); all_goals (intro h; first | (exact absurd h (by decide)) | ((try simp only [go_sem, simprocAttr, beqE] at h); (try with_reducible intro K hK); simp only [go_sem, simprocAttr, beqE]))) | ((first | ((with_reducible apply wL); exact rfl) | ((with_reducible apply wM); exact rfl)); all_goals (try ((with_reducible intro h); first | (exact absurd h (by decide)) | (try simp only [go_sem, simprocAttr, beqE] at h)))) | omega | ((first | fail); try simp only [go_sem, simprocAttr, beqE]) | (intro h))
  · exact (findI_at (d := (0, 0)) (by omega) hg (by simpa using h)).symm
  · refine ⟨k + 1, ⟨by omega, fun j hj => ?_⟩, ?_, by omega⟩
    · by_cases hjk : j = k
      · subst hjk; exact h
      · simpa using hg j (by omega)
    · (refine Le.of ?_ ?_ <;> simp [go_sem, simprocAttr, beqE])
  · exact (findI_none (0, 0) fun j hj => hg j (by omega)).symm
theorem containsP_spec (ps : List Pt) (x : Pt) (hl : ps.length ≤ 9223372036854775807) :
    Spec Try.prog 82 (Args [.d (sP ps), eP x]) [] (eB (decide (x ∈ ps))) [] := by
  rw [← idxP_has]
  (refine Spec.intro (C := T.cfg [] []) (rs := [.t 4]) (T.cfg_ok _ _) Try.func82 rfl rfl Try.ntmps82 Try.results82 (by simp [AObj.isNest]) (by simp [AObj.isNest]) (by kernel_rfl) ?_; intro X hX hP hC hXn hXm vals hA; refine ⟨_, by simp, hA, ?_⟩; have hmix : X.P.follows .mixedOrders = true := (by rw [hP]; exact T.mixed); clear hXn hXm)
  repeat' (first | ((first | ((with_reducible (first | apply oA | apply oB)); exact rfl; intro K hK) | (refine hK _ ?_; clear hK K) | ((with_reducible (first | apply oG | apply oH)); iterate 3 exact rfl) | ((with_reducible apply oI); (iterate 2 exact rfl); intro K hK) | (with_reducible (first | apply wI | apply wJ | apply wK))); try simp only [go_sem, simprocAttr]) | fail | (with_reducible (first | apply oC | apply oJ | exact oK | apply wA | apply wB | apply wC hX hC | apply wD hX hC | apply wE hX hC hmix | apply wF hX hC hmix | apply wG | apply wH | apply And.intro)) | ((with_reducible refine oD ?_ ?_); first | fail | kernel_rfl) | ((with_reducible (first | apply oE | apply oF)); (iterate 3 exact rfl); all_goals (intro h; first | (exact absurd h (by decide)) | ((try simp only [go_sem, simprocAttr] at h); (try with_reducible intro K hK); simp only [go_sem, simprocAttr]))) | ((first | ((with_reducible apply wL); exact rfl) | ((with_reducible apply wM); exact rfl)); all_goals (try ((with_reducible intro h); first | (exact absurd h (by decide)) | (try simp only [go_sem, simprocAttr] at h)))) | omega | ((first | refine acall_simple hX hC hP (indexP_spec ps x hl) rfl rfl rfl (by simp only [go_sem, simprocAttr]) rfl ?_); try simp only [go_sem, simprocAttr]) | (intro h))
/-- Is a vertex at a point of its own? -/
def aloneV (d : Dr) (x : Nat) : Bool := !decide (d.pts.getD x (0, 0) ∈ d.pts.take x)
theorem alone_spec (g : Gr) (d : Dr) (h : DrOk g d) (x : Nat) (hx : x < d.pts.length) : Spec Try.prog 39 (Args [.ptr 10000 0, eN x]) [(10000, lkO g d)] (eB (aloneV d x)) [(10000, lkO g d)] := by
  have hn := mayB_n h.may
  have hnp := h.np
  have hl : (d.pts.take x).length ≤ 9223372036854775807 := by rw [List.length_take]; omega
  unfold lkO
  (refine Spec.intro (C := T.cfg [] []) (rs := [.t 4]) (T.cfg_ok _ _) Try.func39 rfl rfl Try.ntmps39 Try.results39 (by simp [AObj.isNest]) (by simp [AObj.isNest]) (by kernel_rfl) ?_; intro X hX hP hC hXn hXm vals hA; refine ⟨_, by simp, hA, ?_⟩; have hmix : X.P.follows .mixedOrders = true := (by rw [hP]; exact T.mixed); clear hXn hXm)
  repeat' (first | ((first | ((with_reducible (first | apply oA | apply oB)); exact rfl; intro K hK) | (refine hK _ ?_; clear hK K) | ((with_reducible (first | apply oG | apply oH)); iterate 3 exact rfl) | ((with_reducible apply oI); (iterate 2 exact rfl); intro K hK) | (with_reducible (first | apply wI | apply wJ | apply wK))); try simp only [go_sem, simprocAttr, ← List.map_take]) | fail | (with_reducible (first | apply oC | apply oJ | exact oK | apply wA | apply wB | apply wC hX hC | apply wD hX hC | apply wE hX hC hmix | apply wF hX hC hmix | apply wG | apply wH | apply And.intro)) | ((with_reducible refine oD ?_ ?_); first | fail | kernel_rfl) | ((with_reducible (first | apply oE | apply oF)); (iterate 3 exact rfl); all_goals (intro h; first | (exact absurd h (by decide)) | ((try simp only [go_sem, simprocAttr, ← List.map_take] at h); (try with_reducible intro K hK); simp only [go_sem, simprocAttr, ← List.map_take]))) | ((first | ((with_reducible apply wL); exact rfl) | ((with_reducible apply wM); exact rfl)); all_goals (try ((with_reducible intro h); first | (exact absurd h (by decide)) | (try simp only [go_sem, simprocAttr, ← List.map_take] at h)))) | omega | ((first | refine acall_simple hX hC hP (containsP_spec (d.pts.take x) (d.pts.getD x (0, 0)) hl) rfl rfl rfl (by simp only [go_sem, simprocAttr, ← List.map_take]) rfl ?_); try simp only [go_sem, simprocAttr, ← List.map_take]) | (intro h))
  rfl
/-- Is no other vertex than its ends on a line? -/
def freeK (g : Gr) (d : Dr) (i k : Nat) : Bool := (List.range k).all fun x => decide ((x : Int) = (g.es.getD i (0, 0)).1) || decide ((x : Int) = (g.es.getD i (0, 0)).2) || !onL (d.ls.getD i []) (d.pts.getD x (0, 0))
def freeL (g : Gr) (d : Dr) (i : Nat) : Bool := freeK g d i d.pts.length
theorem freeK_next {g : Gr} {d : Dr} {i k : Nat} : freeK g d i (k + 1) = (freeK g d i k && (decide ((k : Int) = (g.es.getD i (0, 0)).1) || decide ((k : Int) = (g.es.getD i (0, 0)).2) || !onL (d.ls.getD i []) (d.pts.getD k (0, 0)))) := by
  simp [freeK, List.range_succ]
theorem all_not {n k : Nat} {f : Nat → Bool} (hk : k < n) (h : f k = false) : (List.range n).all f = false := by
  rw [List.all_eq_false]; exact ⟨k, List.mem_range.2 hk, by simp [h]⟩
theorem free_spec (g : Gr) (d : Dr) (h : DrOk g d) (i : Nat) (hi : i < g.es.length) : Spec Try.prog 40 (Args [.ptr 10000 0, eN i]) [(10000, lkO g d)] (eB (freeL g d i)) [(10000, lkO g d)] := by
  have hn := mayB_n h.may
  have hnp := h.np
  have hnl := h.nl
  obtain ⟨h2, h8⟩ := h.line hi
  have h1 : 1 ≤ (d.ls.getD i []).length := by omega
  have hl : (d.ls.getD i []).length ≤ 1000000 := by omega
  unfold lkO
  (refine Spec.intro (C := T.cfg [] []) (rs := [.t 4]) (T.cfg_ok _ _) Try.func40 rfl rfl Try.ntmps40 Try.results40 (by simp [AObj.isNest]) (by simp [AObj.isNest]) (by kernel_rfl) ?_; intro X hX hP hC hXn hXm vals hA; refine ⟨_, by simp, hA, ?_⟩; have hmix : X.P.follows .mixedOrders = true := (by rw [hP]; exact T.mixed); clear hXn hXm)
  repeat' (first | ((first | ((with_reducible (first | apply oA | apply oB)); exact rfl; intro K hK) | (refine hK _ ?_; clear hK K) | ((with_reducible (first | apply oG | apply oH)); iterate 3 exact rfl) | ((with_reducible apply oI); (iterate 2 exact rfl); intro K hK) | (with_reducible (first | apply wI | apply wJ | apply wK))); try simp only [go_sem, simprocAttr]) | fail | (with_reducible (first | apply oC | apply oJ | exact oK | apply wA | apply wB | apply wC hX hC | apply wD hX hC | apply wE hX hC hmix | apply wF hX hC hmix | apply wG | apply wH | apply And.intro)) | ((with_reducible refine oD ?_ ?_); first | fail | kernel_rfl) | ((with_reducible (first | apply oE | apply oF)); (iterate 3 exact rfl); all_goals (intro h; first | (exact absurd h (by decide)) | ((try simp only [go_sem, simprocAttr] at h); (try with_reducible intro K hK); simp only [go_sem, simprocAttr]))) | ((first | ((with_reducible apply wL); exact rfl) | ((with_reducible apply wM); exact rfl)); all_goals (try ((with_reducible intro h); first | (exact absurd h (by decide)) | (try simp only [go_sem, simprocAttr] at h)))) | omega | ((first | fail); try simp only [go_sem, simprocAttr]) | (intro h))
  refine awp_loopP (fun k : Nat => k ≤ d.pts.length ∧ freeK g d i k = true) (fun k => ⟨[(0, .ptr 10000 0), (1, eN i), (5, .ptr 5 0), (20, .d (sP d.pts)), (21, eN d.pts.length), (22, eN k)], [(5, .box [eN (g.es.getD i (0, 0)).1, eN (g.es.getD i (0, 0)).2]), (10000, lkO g d)]⟩) (fun k => d.pts.length - k) 0 (by simp [freeK]) ?_ ?_
  · (refine Le.of ?_ ?_ <;> simp [go_sem, simprocAttr])
  rintro k ⟨hk, hf⟩
  rcases Nat.lt_or_ge k d.pts.length with hlt | hge
  · have hb : decide ((k : Int) < (d.pts.length : Int)) = true := decide_eq_true (by omega)
    have hnx := freeK_next (g := g) (d := d) (i := i) (k := k)
    rw [hf, Bool.true_and] at hnx
    repeat' (first | ((first | ((with_reducible (first | apply oA | apply oB)); exact rfl; intro K hK) | (refine hK _ ?_; clear hK K) | ((with_reducible (first | apply oG | apply oH)); iterate 3 exact rfl) | ((with_reducible apply oI); (iterate 2 exact rfl); intro K hK) | (with_reducible (first | apply wI | apply wJ | apply wK))); try simp only [go_sem, simprocAttr, hb]) | fail | (with_reducible (first | apply oC | apply oJ | exact oK | apply wA | apply wB | apply wC hX hC | apply wD hX hC | apply wE hX hC hmix | apply wF hX hC hmix | apply wG | apply wH | apply And.intro)) | ((with_reducible refine oD ?_ ?_); first | fail | kernel_rfl) | ((with_reducible (first | apply oE | apply oF)); (iterate 3 exact rfl); all_goals (intro h; first | (exact absurd h (by decide)) | ((try simp only [go_sem, simprocAttr, hb] at h); (try with_reducible intro K hK); simp only [go_sem, simprocAttr, hb]))) | ((first | ((with_reducible apply wL); exact rfl) | ((with_reducible apply wM); exact rfl)); all_goals (try ((with_reducible intro h); first | (exact absurd h (by decide)) | (try simp only [go_sem, simprocAttr, hb] at h)))) | omega | ((first | refine acall_simple hX hC hP (hasP_spec (d.ls.getD i []) (d.pts.getD k (0, 0)) h1 hl) rfl rfl rfl (by simp only [go_sem, simprocAttr, hb]) rfl ?_); try simp only [go_sem, simprocAttr, hb]) | (intro h))
    · rw [freeL, freeK]
      refine (all_not hlt ?_).symm
      simp only [*, decide_false, Bool.or_false, Bool.false_or, Bool.not_true]
    all_goals (
      refine ⟨k + 1, ⟨by omega, ?_⟩, ?_, by omega⟩
      · rw [hnx]; simp only [*, decide_true, Bool.true_or, Bool.or_true, Bool.not_false]
      · (refine Le.of ?_ ?_ <;> simp [go_sem, simprocAttr, hb]))
  · have hb : decide ((k : Int) < (d.pts.length : Int)) = false := decide_eq_false (by omega)
    obtain rfl : k = d.pts.length := by omega
    repeat' (first | ((first | ((with_reducible (first | apply oA | apply oB)); exact rfl; intro K hK) | (refine hK _ ?_; clear hK K) | ((with_reducible (first | apply oG | apply oH)); iterate 3 exact rfl) | ((with_reducible apply oI); (iterate 2 exact rfl); intro K hK) | (with_reducible (first | apply wI | apply wJ | apply wK))); try simp only [go_sem, simprocAttr, hb]) | fail | (with_reducible (first | apply oC | apply oJ | exact oK | apply wA | apply wB | apply wC hX hC | apply wD hX hC | apply wE hX hC hmix | apply wF hX hC hmix | apply wG | apply wH | apply And.intro)) | ((with_reducible refine oD ?_ ?_); first | fail | kernel_rfl) | ((with_reducible (first | apply oE | apply oF)); (iterate 3 exact rfl); all_goals (intro h; first | (exact absurd h (by decide)) | ((try simp only [go_sem, simprocAttr, hb] at h); (try with_reducible intro K hK); simp only [go_sem, simprocAttr, hb]))) | ((first | ((with_reducible apply wL); exact rfl) | ((with_reducible apply wM); exact rfl)); all_goals (try ((with_reducible intro h); first | (exact absurd h (by decide)) | (try simp only [go_sem, simprocAttr, hb] at h)))) | omega | ((first | refine acall_simple hX hC hP (hasP_spec (d.ls.getD i []) (d.pts.getD k (0, 0)) h1 hl) rfl rfl rfl (by simp only [go_sem, simprocAttr, hb]) rfl ?_); try simp only [go_sem, simprocAttr, hb]) | (intro h))
    · exact hf.symm
end Go.Ab
end
section
namespace Go.Ab
open Go.Proofs
attribute [local congr] ACall.congr
set_option maxRecDepth 10000

def eHas (e : Edge) (x : Int) : Bool := decide (x = e.1) || decide (x = e.2)
/-- The points of vertices that are ends of two edges. -/
def comK (g : Gr) (d : Dr) (i k : Nat) (m : Nat) : List Pt := (([(g.es.getD i (0, 0)).1, (g.es.getD i (0, 0)).2].take m).filter (eHas (g.es.getD k (0, 0)))).map fun x => d.pts.getD x.toNat (0, 0)
def comL (g : Gr) (d : Dr) (i k : Nat) : List Pt := comK g d i k 2
theorem comL_len {g : Gr} {d : Dr} {i k : Nat} : (comL g d i k).length ≤ 2 := by
  unfold comL comK
  rw [List.length_map]
  exact Nat.le_trans (List.length_filter_le _ _) (by simp)
theorem comK_len {g : Gr} {d : Dr} {i k m : Nat} : (comK g d i k m).length ≤ 2 := by
  unfold comK
  rw [List.length_map]
  refine Nat.le_trans (List.length_filter_le _ _) ?_
  rw [List.length_take]; simp; omega
theorem comK_1 {g : Gr} {d : Dr} {i k : Nat} : comK g d i k 1 = comK g d i k 0 ++ if (g.es.getD i (0, 0)).1 = (g.es.getD k (0, 0)).1 ∨ (g.es.getD i (0, 0)).1 = (g.es.getD k (0, 0)).2 then [d.pts.getD (g.es.getD i (0, 0)).1.toNat (0, 0)] else [] := by
  simp only [comK, List.take_succ_cons, List.take_zero, List.filter_nil, List.map_nil, List.nil_append, List.filter_cons, eHas, Bool.or_eq_true, decide_eq_true_eq]
  split <;> rfl
theorem comK_2 {g : Gr} {d : Dr} {i k : Nat} : comK g d i k 2 = comK g d i k 1 ++ if (g.es.getD i (0, 0)).2 = (g.es.getD k (0, 0)).1 ∨ (g.es.getD i (0, 0)).2 = (g.es.getD k (0, 0)).2 then [d.pts.getD (g.es.getD i (0, 0)).2.toNat (0, 0)] else [] := by
  simp only [comK, List.take_succ_cons, List.take_zero, List.filter_nil, List.map_nil, List.nil_append, List.filter_cons, eHas, Bool.or_eq_true, decide_eq_true_eq]
  split <;> split <;> rfl
theorem common_spec (g : Gr) (d : Dr) (h : DrOk g d) (i k : Nat) (hi : i < g.es.length) (hk : k < g.es.length) : Spec Try.prog 84 (Args [.ptr 10000 0, eN i, eN k]) [(10000, lkO g d)] (.d (sP (comL g d i k))) [(10000, lkO g d)] := by
  have hn := mayB_n h.may
  have hnp := h.np
  obtain ⟨⟨he0, he1⟩, he2, he3⟩ := mayB_e h.may hi
  obtain ⟨⟨hk0, hk1⟩, hk2, hk3⟩ := mayB_e h.may hk
  unfold lkO
  (refine Spec.intro (C := T.cfg [] []) (rs := [.t 6]) (T.cfg_ok _ _) Try.func84 rfl rfl Try.ntmps84 Try.results84 (by simp [AObj.isNest]) (by simp [AObj.isNest]) (by kernel_rfl) ?_; intro X hX hP hC hXn hXm vals hA; refine ⟨_, by simp, hA, ?_⟩; have hmix : X.P.follows .mixedOrders = true := (by rw [hP]; exact T.mixed); clear hXn hXm)
  repeat' (first | ((first | ((with_reducible (first | apply oA | apply oB)); exact rfl; intro K hK) | (refine hK _ ?_; clear hK K) | ((with_reducible (first | apply oG | apply oH)); iterate 3 exact rfl) | ((with_reducible apply oI); (iterate 2 exact rfl); intro K hK) | (with_reducible (first | apply wI | apply wJ | apply wK))); try simp only [go_sem, simprocAttr]) | fail | (with_reducible (first | apply oC | apply oJ | exact oK | apply wA | apply wB | apply wC hX hC | apply wD hX hC | apply wE hX hC hmix | apply wF hX hC hmix | apply wG | apply wH | apply And.intro)) | ((with_reducible refine oD ?_ ?_); first | fail | kernel_rfl) | ((with_reducible (first | apply oE | apply oF)); (iterate 3 exact rfl); all_goals (intro h; first | (exact absurd h (by decide)) | ((try simp only [go_sem, simprocAttr] at h); (try with_reducible intro K hK); simp only [go_sem, simprocAttr]))) | ((first | ((with_reducible apply wL); exact rfl) | ((with_reducible apply wM); exact rfl)); all_goals (try ((with_reducible intro h); first | (exact absurd h (by decide)) | (try simp only [go_sem, simprocAttr] at h)))) | omega | ((first | fail); try simp only [go_sem, simprocAttr]) | (intro h))
  (refine awp_new hX 6 55 (.tip 39 2 []) (by simp only [go_sem, simprocAttr]) (by simp only [go_sem, simprocAttr]) (by decide) ⟨39, 2, by decide, .inr rfl⟩ ?_; simp only [go_sem, simprocAttr])
  refine awp_loopP (fun m : Nat => m ≤ 2) (fun m => ⟨[(0, .ptr 10000 0), (8, .ptr 8 0), (31, .agg [eN (g.es.getD i (0, 0)).1, eN (g.es.getD i (0, 0)).2]), (32, eN m), (6, .ref 55)], [(55, .tip 39 2 ((comK g d i k m).map rP)), (8, .box [eN (g.es.getD k (0, 0)).1, eN (g.es.getD k (0, 0)).2]), (10000, lkO g d)]⟩) (fun m => 2 - m) 0 (by omega) ?_ ?_
  · refine Le.of ?_ ?_ <;> simp [go_sem, simprocAttr, comK]
  rintro m hm
  have hlen := comK_len (g := g) (d := d) (i := i) (k := k) (m := m)
  match m, hm with
  | 0, _ =>
    have hx := comK_1 (g := g) (d := d) (i := i) (k := k)
    repeat' (first | ((first | ((with_reducible (first | apply oA | apply oB)); exact rfl; intro K hK) | (refine hK _ ?_; clear hK K) | ((with_reducible (first | apply oG | apply oH)); iterate 3 exact rfl) | ((with_reducible apply oI); (iterate 2 exact rfl); intro K hK) | (with_reducible (first | apply wI | apply wJ | apply wK))); try simp only [go_sem, simprocAttr]) | fail | (with_reducible (first | apply oC | apply oJ | exact oK | apply wA | apply wB | apply wC hX hC | apply wD hX hC | apply wE hX hC hmix | apply wF hX hC hmix | apply wG | apply wH | apply And.intro)) | ((with_reducible refine oD ?_ ?_); first | fail | kernel_rfl) | ((with_reducible (first | apply oE | apply oF)); (iterate 3 exact rfl); all_goals (intro h; first | (exact absurd h (by decide)) | ((try simp only [go_sem, simprocAttr] at h); (try with_reducible intro K hK); simp only [go_sem, simprocAttr]))) | ((first | ((with_reducible apply wL); exact rfl) | ((with_reducible apply wM); exact rfl)); all_goals (try ((with_reducible intro h); first | (exact absurd h (by decide)) | (try simp only [go_sem, simprocAttr] at h)))) | omega | ((first | fail); try simp only [go_sem, simprocAttr]) | (intro h))
    all_goals (refine ⟨1, by omega, ?_, by omega⟩; first | rw [if_pos (by omega)] at hx | rw [if_neg (by omega)] at hx)
    all_goals (refine Le.of ?_ ?_ <;> simp [go_sem, simprocAttr, hx, rP])
  | 1, _ =>
    have hx := comK_2 (g := g) (d := d) (i := i) (k := k)
    repeat' (first | ((first | ((with_reducible (first | apply oA | apply oB)); exact rfl; intro K hK) | (refine hK _ ?_; clear hK K) | ((with_reducible (first | apply oG | apply oH)); iterate 3 exact rfl) | ((with_reducible apply oI); (iterate 2 exact rfl); intro K hK) | (with_reducible (first | apply wI | apply wJ | apply wK))); try simp only [go_sem, simprocAttr]) | fail | (with_reducible (first | apply oC | apply oJ | exact oK | apply wA | apply wB | apply wC hX hC | apply wD hX hC | apply wE hX hC hmix | apply wF hX hC hmix | apply wG | apply wH | apply And.intro)) | ((with_reducible refine oD ?_ ?_); first | fail | kernel_rfl) | ((with_reducible (first | apply oE | apply oF)); (iterate 3 exact rfl); all_goals (intro h; first | (exact absurd h (by decide)) | ((try simp only [go_sem, simprocAttr] at h); (try with_reducible intro K hK); simp only [go_sem, simprocAttr]))) | ((first | ((with_reducible apply wL); exact rfl) | ((with_reducible apply wM); exact rfl)); all_goals (try ((with_reducible intro h); first | (exact absurd h (by decide)) | (try simp only [go_sem, simprocAttr] at h)))) | omega | ((first | fail); try simp only [go_sem, simprocAttr]) | (intro h))
    all_goals (refine ⟨2, by omega, ?_, by omega⟩; first | rw [if_pos (by omega)] at hx | rw [if_neg (by omega)] at hx)
    all_goals (refine Le.of ?_ ?_ <;> simp [go_sem, simprocAttr, hx, rP])
  | 2, _ =>
    repeat' (first | ((first | ((with_reducible (first | apply oA | apply oB)); exact rfl; intro K hK) | (refine hK _ ?_; clear hK K) | ((with_reducible (first | apply oG | apply oH)); iterate 3 exact rfl) | ((with_reducible apply oI); (iterate 2 exact rfl); intro K hK) | (with_reducible (first | apply wI | apply wJ | apply wK))); try simp only [go_sem, simprocAttr]) | fail | (with_reducible (first | apply oC | apply oJ | exact oK | apply wA | apply wB | apply wC hX hC | apply wD hX hC | apply wE hX hC hmix | apply wF hX hC hmix | apply wG | apply wH | apply And.intro)) | ((with_reducible refine oD ?_ ?_); first | fail | kernel_rfl) | ((with_reducible (first | apply oE | apply oF)); (iterate 3 exact rfl); all_goals (intro h; first | (exact absurd h (by decide)) | ((try simp only [go_sem, simprocAttr] at h); (try with_reducible intro K hK); simp only [go_sem, simprocAttr]))) | ((first | ((with_reducible apply wL); exact rfl) | ((with_reducible apply wM); exact rfl)); all_goals (try ((with_reducible intro h); first | (exact absurd h (by decide)) | (try simp only [go_sem, simprocAttr] at h)))) | omega | ((first | fail); try simp only [go_sem, simprocAttr]) | (intro h))
    rfl
  | m + 3, hm => omega
theorem all_take {α : Type} {f : α → Bool} {xs : List α} (d : α) {k : Nat} (h1 : k < xs.length) (h : (xs.take k).all f = true) (he : f (xs.getD k d) = true) : (xs.take (k + 1)).all f = true := by
  rw [List.take_add_one, List.all_append, h, List.getElem?_eq_getElem h1]
  simp only [List.getD_eq_getElem?_getD, List.getElem?_eq_getElem h1, Option.getD_some] at he
  simp [he]
theorem all_take_no {α : Type} {f : α → Bool} {xs : List α} {d : α} {k : Nat} (h1 : k < xs.length) (he : f (xs.getD k d) = false) : xs.all f = false := by
  rw [List.all_eq_false]
  exact ⟨_, getD_memX h1, by rw [he]; simp⟩
def robQ2 (a b : Pc) : List (Nat × AObj) := [(10000, .rob [eN a.1.1, eN a.1.2, eN a.2.1, eN a.2.2]), (10001, .rob [eN b.1.1, eN b.1.2, eN b.2.1, eN b.2.2])]
theorem robQ2_ok (a b : Pc) : Robs (robQ2 a b) := ⟨by simp [robQ2, AObj.ro], by simp [robQ2, nodupM, look], by simp [robQ2], by simp [robQ2, AObj.ids, AV.ids, AV.idss, eN]⟩
attribute [go_sem] robQ2
theorem apart1_spec (a b : Pc) (p : Pt) : Spec Try.prog 86 (Args [eP p, .ptr 10000 0, .ptr 10001 0]) (robQ2 a b) (eB (OnV a.1 a.2 p && OnV b.1 b.2 p)) (robQ2 a b) := by
  unfold robQ2
  (refine Spec.intro (C := T.cfg [] []) (rs := [.t 4]) (T.cfg_ok _ _) Try.func86 rfl rfl Try.ntmps86 Try.results86 (by simp [AObj.isNest]) (by simp [AObj.isNest]) (by kernel_rfl) ?_; intro X hX hP hC hXn hXm vals hA; refine ⟨_, by simp, hA, ?_⟩; have hmix : X.P.follows .mixedOrders = true := (by rw [hP]; exact T.mixed); clear hXn hXm)
  repeat' (first | ((first | ((with_reducible (first | apply oA | apply oB)); exact rfl; intro K hK) | (refine hK _ ?_; clear hK K) | ((with_reducible (first | apply oG | apply oH)); iterate 3 exact rfl) | ((with_reducible apply oI); (iterate 2 exact rfl); intro K hK) | (with_reducible (first | apply wI | apply wJ | apply wK))); try simp only [go_sem, simprocAttr]) | fail | (with_reducible (first | apply oC | apply oJ | exact oK | apply wA | apply wB | apply wC hX hC | apply wD hX hC | apply wE hX hC hmix | apply wF hX hC hmix | apply wG | apply wH | apply And.intro)) | ((with_reducible refine oD ?_ ?_); first | fail | kernel_rfl) | ((with_reducible (first | apply oE | apply oF)); (iterate 3 exact rfl); all_goals (intro h; first | (exact absurd h (by decide)) | ((try simp only [go_sem, simprocAttr] at h); (try with_reducible intro K hK); simp only [go_sem, simprocAttr]))) | ((first | ((with_reducible apply wL); exact rfl) | ((with_reducible apply wM); exact rfl)); all_goals (try ((with_reducible intro h); first | (exact absurd h (by decide)) | (try simp only [go_sem, simprocAttr] at h)))) | omega | ((first | first | refine acall_simple hX hC hP (On_spec a.1 a.2 p) rfl rfl rfl (by simp only [go_sem, simprocAttr]) rfl ?_ | refine acall_simple hX hC hP (On_spec b.1 b.2 p) rfl rfl rfl (by simp only [go_sem, simprocAttr]) rfl ?_); try simp only [go_sem, simprocAttr]) | (intro h))
  all_goals simp [*]
/-- Do two pieces meet otherwise than at a common end? -/
def badPc (es : List Pt) (a b : Pc) : Bool := decide (1 < meetV a.1 a.2 b.1 b.2) || (decide (meetV a.1 a.2 b.1 b.2 = 1) && !es.any fun p => OnV a.1 a.2 p && OnV b.1 b.2 p)
def apartK (g : Gr) (d : Dr) (i m : Nat) : Bool := (List.range m).all fun k => (pcs (d.ls.getD i [])).all fun a => (pcs (d.ls.getD k [])).all fun b => !badPc (comL g d i k) a b
def apartL (g : Gr) (d : Dr) (i : Nat) : Bool := apartK g d i i
theorem apartK_next {g : Gr} {d : Dr} {i m : Nat} : apartK g d i (m + 1) = (apartK g d i m && (pcs (d.ls.getD i [])).all fun a => (pcs (d.ls.getD m [])).all fun b => !badPc (comL g d i m) a b) := by
  simp [apartK, List.range_succ]
theorem apart_spec (g : Gr) (d : Dr) (hD : DrOk g d) (i : Nat) (hi : i < g.es.length) : Spec Try.prog 41 (Args [.ptr 10000 0, eN i]) [(10000, lkO g d)] (eB (apartL g d i)) [(10000, lkO g d)] := by
  have hn := mayB_n hD.may
  have hnp := hD.np
  have hnl := hD.nl
  obtain ⟨h2, h8⟩ := hD.line hi
  have h1 : 1 ≤ (d.ls.getD i []).length := by omega
  have hl : (d.ls.getD i []).length ≤ 1000000 := by omega
  have hpl : (pcs (d.ls.getD i [])).length = (d.ls.getD i []).length - 1 := pcs_length
  unfold lkO
  (refine Spec.intro (C := T.cfg [] []) (rs := [.t 4]) (T.cfg_ok _ _) Try.func41 rfl rfl Try.ntmps41 Try.results41 (by simp [AObj.isNest]) (by simp [AObj.isNest]) (by kernel_rfl) ?_; intro X hX hP hC hXn hXm vals hA; refine ⟨_, by simp, hA, ?_⟩; have hmix : X.P.follows .mixedOrders = true := (by rw [hP]; exact T.mixed); clear hXn hXm)
  repeat' (first | ((first | ((with_reducible (first | apply oA | apply oB)); exact rfl; intro K hK) | (refine hK _ ?_; clear hK K) | ((with_reducible (first | apply oG | apply oH)); iterate 3 exact rfl) | ((with_reducible apply oI); (iterate 2 exact rfl); intro K hK) | (with_reducible (first | apply wI | apply wJ | apply wK))); try simp only [go_sem, simprocAttr]) | fail | (with_reducible (first | apply oC | apply oJ | exact oK | apply wA | apply wB | apply wC hX hC | apply wD hX hC | apply wE hX hC hmix | apply wF hX hC hmix | apply wG | apply wH | apply And.intro)) | ((with_reducible refine oD ?_ ?_); first | fail | kernel_rfl) | ((with_reducible (first | apply oE | apply oF)); (iterate 3 exact rfl); all_goals (intro h; first | (exact absurd h (by decide)) | ((try simp only [go_sem, simprocAttr] at h); (try with_reducible intro K hK); simp only [go_sem, simprocAttr]))) | ((first | ((with_reducible apply wL); exact rfl) | ((with_reducible apply wM); exact rfl)); all_goals (try ((with_reducible intro h); first | (exact absurd h (by decide)) | (try simp only [go_sem, simprocAttr] at h)))) | omega | ((first | fail); try simp only [go_sem, simprocAttr]) | (intro h))
  refine awp_loopP (fun k : Nat => k ≤ i ∧ apartK g d i k = true) (fun k => ⟨[(0, .ptr 10000 0), (1, eN i), (13, eN i), (14, eN k)], [(10000, lkO g d)]⟩) (fun k => i - k) 0 (by simp [apartK]) ?_ ?_
  · (refine Le.of ?_ ?_ <;> simp [go_sem, simprocAttr])
  rintro k ⟨hk, hf⟩
  rcases Nat.lt_or_ge k i with hlt | hge
  · have hb : decide ((k : Int) < (i : Int)) = true := decide_eq_true (by omega)
    have hkl : k < g.es.length := by omega
    obtain ⟨h2', h8'⟩ := hD.line hkl
    have h1' : 1 ≤ (d.ls.getD k []).length := by omega
    have hl' : (d.ls.getD k []).length ≤ 1000000 := by omega
    have hpl' : (pcs (d.ls.getD k [])).length = (d.ls.getD k []).length - 1 := pcs_length
    have hcl : (comL g d i k).length ≤ 9223372036854775807 := by have := comL_len (g := g) (d := d) (i := i) (k := k); omega
    have hnx := apartK_next (g := g) (d := d) (i := i) (m := k)
    rw [hf, Bool.true_and] at hnx
    repeat' (first | ((first | ((with_reducible (first | apply oA | apply oB)); exact rfl; intro K hK) | (refine hK _ ?_; clear hK K) | ((with_reducible (first | apply oG | apply oH)); iterate 3 exact rfl) | ((with_reducible apply oI); (iterate 2 exact rfl); intro K hK) | (with_reducible (first | apply wI | apply wJ | apply wK))); try simp only [go_sem, simprocAttr, hb]) | fail | (with_reducible (first | apply oC | apply oJ | exact oK | apply wA | apply wB | apply wC hX hC | apply wD hX hC | apply wE hX hC hmix | apply wF hX hC hmix | apply wG | apply wH | apply And.intro)) | ((with_reducible refine oD ?_ ?_); first | fail | kernel_rfl) | ((with_reducible (first | apply oE | apply oF)); (iterate 3 exact rfl); all_goals (intro h; first | (exact absurd h (by decide)) | ((try simp only [go_sem, simprocAttr, hb] at h); (try with_reducible intro K hK); simp only [go_sem, simprocAttr, hb]))) | ((first | ((with_reducible apply wL); exact rfl) | ((with_reducible apply wM); exact rfl)); all_goals (try ((with_reducible intro h); first | (exact absurd h (by decide)) | (try simp only [go_sem, simprocAttr, hb] at h)))) | omega | ((first | first | (first | (refine acall_same hX hC hP (robK g d) (common_spec g d hD i k hi hkl) rfl rfl rfl ?_ ?_ rfl rfl ?_; (focus (simp only [go_sem, simprocAttr, hb]; done)); (focus (first | (intro p hp; exact mem_look (Robs.nd (robK g d)) hp) | (simp [go_sem, simprocAttr, hb]; done)))) | (refine acall_same hX hC hP (robK g d) (common_spec g d hD i k hi hkl) rfl rfl rfl ?_ ?_ ?_ rfl ?_; (focus (simp only [go_sem, simprocAttr, hb]; done)); (focus (first | (intro p hp; exact mem_look (Robs.nd (robK g d)) hp) | (simp [go_sem, simprocAttr, hb]; done))); (focus (simp [go_sem, simprocAttr, hb]; done)))) | refine acall_simple hX hC hP (pieces_spec (d.ls.getD i []) h1 hl) rfl rfl rfl (by simp only [go_sem, simprocAttr, hb]) rfl ?_); try simp only [go_sem, simprocAttr, hb]) | (intro h))
    refine awp_loopP (fun s : Nat => s ≤ (pcs (d.ls.getD i [])).length ∧ ((pcs (d.ls.getD i [])).take s).all (fun a => (pcs (d.ls.getD k [])).all fun b => !badPc (comL g d i k) a b) = true) (fun s => ⟨[(0, .ptr 10000 0), (1, eN i), (13, eN i), (14, eN k), (5, eN k), (6, .d (sP (comL g d i k))), (29, .d (sQ (pcs (d.ls.getD i [])))), (30, eN (pcs (d.ls.getD i [])).length), (31, eN s)], [(10000, lkO g d)]⟩) (fun s => (pcs (d.ls.getD i [])).length - s) 0 (by simp) ?_ ?_
    · (refine ⟨leT_spec ?_, fun _ _ h => h⟩; simp [go_sem, simprocAttr, hb])
    rintro s ⟨hs, hsa⟩
    rcases Nat.lt_or_ge s (pcs (d.ls.getD i [])).length with hsl | hsg
    · have hb1 : decide ((s : Int) < ((pcs (d.ls.getD i [])).length : Int)) = true := decide_eq_true (by omega)
      obtain ⟨a, ha⟩ : ∃ a, a = (pcs (d.ls.getD i [])).getD s ((0, 0), (0, 0)) := ⟨_, rfl⟩
      repeat' (first | ((first | ((with_reducible (first | apply oA | apply oB)); exact rfl; intro K hK) | (refine hK _ ?_; clear hK K) | ((with_reducible (first | apply oG | apply oH)); iterate 3 exact rfl) | ((with_reducible apply oI); (iterate 2 exact rfl); intro K hK) | (with_reducible (first | apply wI | apply wJ | apply wK))); try simp only [go_sem, simprocAttr, hb1, ← ha]) | fail | (with_reducible (first | apply oC | apply oJ | exact oK | apply wA | apply wB | apply wC hX hC | apply wD hX hC | apply wE hX hC hmix | apply wF hX hC hmix | apply wG | apply wH | apply And.intro)) | ((with_reducible refine oD ?_ ?_); first | fail | kernel_rfl) | ((with_reducible (first | apply oE | apply oF)); (iterate 3 exact rfl); all_goals (intro h; first | (exact absurd h (by decide)) | ((try simp only [go_sem, simprocAttr, hb1, ← ha] at h); (try with_reducible intro K hK); simp only [go_sem, simprocAttr, hb1, ← ha]))) | ((first | ((with_reducible apply wL); exact rfl) | ((with_reducible apply wM); exact rfl)); all_goals (try ((with_reducible intro h); first | (exact absurd h (by decide)) | (try simp only [go_sem, simprocAttr, hb1, ← ha] at h)))) | omega | ((first | first | refine acall_simple hX hC hP (pieces_spec (d.ls.getD k []) h1' hl') rfl rfl rfl (by simp only [go_sem, simprocAttr, hb1, ← ha]) rfl ?_); try simp only [go_sem, simprocAttr, hb1, ← ha]) | (intro h))
      refine awp_loopP (fun t : Nat => t ≤ (pcs (d.ls.getD k [])).length ∧ ((pcs (d.ls.getD k [])).take t).all (fun b => !badPc (comL g d i k) a b) = true) (fun t => ⟨[(0, .ptr 10000 0), (1, eN i), (13, eN i), (14, eN k), (5, eN k), (6, .d (sP (comL g d i k))), (29, .d (sQ (pcs (d.ls.getD i [])))), (30, eN (pcs (d.ls.getD i [])).length), (31, eN s), (8, .ptr 8 0), (43, .d (sQ (pcs (d.ls.getD k [])))), (44, eN (pcs (d.ls.getD k [])).length), (45, eN t)], [(8, .box [eN a.1.1, eN a.1.2, eN a.2.1, eN a.2.2]), (10000, lkO g d)]⟩) (fun t => (pcs (d.ls.getD k [])).length - t) 0 (by simp) ?_ ?_
      · (refine Le.of ?_ ?_ <;> simp [go_sem, simprocAttr, hb1, ← ha])
      rintro t ⟨ht, hta⟩
      rcases Nat.lt_or_ge t (pcs (d.ls.getD k [])).length with htl | htg
      · have hb2 : decide ((t : Int) < ((pcs (d.ls.getD k [])).length : Int)) = true := decide_eq_true (by omega)
        obtain ⟨b, hbb⟩ : ∃ b, b = (pcs (d.ls.getD k [])).getD t ((0, 0), (0, 0)) := ⟨_, rfl⟩
        have hbad : badPc (comL g d i k) a b = (decide (1 < meetV a.1 a.2 b.1 b.2) || (decide (meetV a.1 a.2 b.1 b.2 = 1) && !(comL g d i k).any fun p => OnV a.1 a.2 p && OnV b.1 b.2 p)) := rfl
        have hno : badPc (comL g d i k) a b = true → apartL g d i = false := fun hb => all_not hlt (all_take_no (d := ((0, 0), (0, 0))) hsl (by rw [← ha]; exact all_take_no (d := ((0, 0), (0, 0))) htl (by rw [← hbb, hb]; rfl)))
        repeat' (first | ((first | ((with_reducible (first | apply oA | apply oB)); exact rfl; intro K hK) | (refine hK _ ?_; clear hK K) | ((with_reducible (first | apply oG | apply oH)); iterate 3 exact rfl) | ((with_reducible apply oI); (iterate 2 exact rfl); intro K hK) | (with_reducible (first | apply wI | apply wJ | apply wK))); try simp only [go_sem, simprocAttr, hb2, ← hbb]) | fail | (with_reducible (first | apply oC | apply oJ | exact oK | apply wA | apply wB | apply wC hX hC | apply wD hX hC | apply wE hX hC hmix | apply wF hX hC hmix | apply wG | apply wH | apply And.intro)) | ((with_reducible refine oD ?_ ?_); first | fail | kernel_rfl) | ((with_reducible (first | apply oE | apply oF)); (iterate 3 exact rfl); all_goals (intro h; first | (exact absurd h (by decide)) | ((try simp only [go_sem, simprocAttr, hb2, ← hbb] at h); (try with_reducible intro K hK); simp only [go_sem, simprocAttr, hb2, ← hbb]))) | ((first | ((with_reducible apply wL); exact rfl) | ((with_reducible apply wM); exact rfl)); all_goals (try ((with_reducible intro h); first | (exact absurd h (by decide)) | (try simp only [go_sem, simprocAttr, hb2, ← hbb] at h)))) | omega | ((first | first | refine acall_simple hX hC hP (meet_spec a.1 a.2 b.1 b.2) rfl rfl rfl (by simp only [go_sem, simprocAttr, hb2, ← hbb]) rfl ?_ | (refine acall_rob hX hC hP [(10000, 8), (10001, 10)] (containsFuncPR_spec (robQ2_ok a b) _ _ (fun p => OnV a.1 a.2 p && OnV b.1 b.2 p) (comL g d i k) (fun p _ => apart1_spec a b p) hcl) rfl rfl rfl ?_ ?_ ?_ ?_ ?_ ?_ rfl rfl ?_ ?_; (focus (simp only [go_sem, simprocAttr, hb2, ← hbb]; done)); (iterate 6 (focus (simp [go_sem, simprocAttr, hb2, ← hbb]; done))); simp only [go_sem, simprocAttr, hb2, ← hbb, List.map_cons, List.map_nil])); try simp only [go_sem, simprocAttr, hb2, ← hbb]) | (intro h))
        all_goals first
          | (refine (hno ?_).symm; rw [hbad]; simp only [decide_eq_true_eq, Bool.or_eq_true, Bool.and_eq_true, Bool.not_eq_true']; first | exact .inl (by assumption) | exact .inr ⟨by assumption, by assumption⟩)
          | (have hgo : badPc (comL g d i k) a b = false := (by rw [hbad]; simp only [Bool.or_eq_false_iff, decide_eq_false_iff_not, Bool.and_eq_false_iff, Bool.not_eq_false']; first | exact ⟨by omega, .inl (by assumption)⟩ | exact ⟨by omega, .inr (by assumption)⟩)
             refine ⟨t + 1, ⟨by omega, all_take ((0, 0), (0, 0)) htl hta (by rw [← hbb, hgo]; rfl)⟩, ?_, by omega⟩
             (refine Le.of ?_ ?_ <;> simp [go_sem, simprocAttr, hb2, ← hbb]))
      · have hb2 : decide ((t : Int) < ((pcs (d.ls.getD k [])).length : Int)) = false := decide_eq_false (by omega)
        rw [List.take_of_length_le htg] at hta
        repeat' (first | ((first | ((with_reducible (first | apply oA | apply oB)); exact rfl; intro K hK) | (refine hK _ ?_; clear hK K) | ((with_reducible (first | apply oG | apply oH)); iterate 3 exact rfl) | ((with_reducible apply oI); (iterate 2 exact rfl); intro K hK) | (with_reducible (first | apply wI | apply wJ | apply wK))); try simp only [go_sem, simprocAttr, hb2]) | fail | (with_reducible (first | apply oC | apply oJ | exact oK | apply wA | apply wB | apply wC hX hC | apply wD hX hC | apply wE hX hC hmix | apply wF hX hC hmix | apply wG | apply wH | apply And.intro)) | ((with_reducible refine oD ?_ ?_); first | fail | kernel_rfl) | ((with_reducible (first | apply oE | apply oF)); (iterate 3 exact rfl); all_goals (intro h; first | (exact absurd h (by decide)) | ((try simp only [go_sem, simprocAttr, hb2] at h); (try with_reducible intro K hK); simp only [go_sem, simprocAttr, hb2]))) | ((first | ((with_reducible apply wL); exact rfl) | ((with_reducible apply wM); exact rfl)); all_goals (try ((with_reducible intro h); first | (exact absurd h (by decide)) | (try simp only [go_sem, simprocAttr, hb2] at h)))) | omega | ((first | fail); try simp only [go_sem, simprocAttr, hb2]) | (intro h))
        refine ⟨s + 1, ⟨by omega, all_take ((0, 0), (0, 0)) hsl hsa (by rw [← ha]; exact hta)⟩, ?_, by omega⟩
        (refine Le.of ?_ ?_ <;> simp [go_sem, simprocAttr, hb2])
    · have hb1 : decide ((s : Int) < ((pcs (d.ls.getD i [])).length : Int)) = false := decide_eq_false (by omega)
      rw [List.take_of_length_le hsg] at hsa
      repeat' (first | ((first | ((with_reducible (first | apply oA | apply oB)); exact rfl; intro K hK) | (refine hK _ ?_; clear hK K) | ((with_reducible (first | apply oG | apply oH)); iterate 3 exact rfl) | ((with_reducible apply oI); (iterate 2 exact rfl); intro K hK) | (with_reducible (first | apply wI | apply wJ | apply wK))); try simp only [go_sem, simprocAttr, hb1]) | fail | (with_reducible (first | apply oC | apply oJ | exact oK | apply wA | apply wB | apply wC hX hC | apply wD hX hC | apply wE hX hC hmix | apply wF hX hC hmix | apply wG | apply wH | apply And.intro)) | ((with_reducible refine oD ?_ ?_); first | fail | kernel_rfl) | ((with_reducible (first | apply oE | apply oF)); (iterate 3 exact rfl); all_goals (intro h; first | (exact absurd h (by decide)) | ((try simp only [go_sem, simprocAttr, hb1] at h); (try with_reducible intro K hK); simp only [go_sem, simprocAttr, hb1]))) | ((first | ((with_reducible apply wL); exact rfl) | ((with_reducible apply wM); exact rfl)); all_goals (try ((with_reducible intro h); first | (exact absurd h (by decide)) | (try simp only [go_sem, simprocAttr, hb1] at h)))) | omega | ((first | fail); try simp only [go_sem, simprocAttr, hb1]) | (intro h))
      refine ⟨k + 1, ⟨by omega, by rw [hnx]; exact hsa⟩, ?_, by omega⟩
      (refine Le.of ?_ ?_ <;> simp [go_sem, simprocAttr, hb1])
  · have hb : decide ((k : Int) < (i : Int)) = false := decide_eq_false (by omega)
    obtain rfl : k = i := by omega
    repeat' (first | ((first | ((with_reducible (first | apply oA | apply oB)); exact rfl; intro K hK) | (refine hK _ ?_; clear hK K) | ((with_reducible (first | apply oG | apply oH)); iterate 3 exact rfl) | ((with_reducible apply oI); (iterate 2 exact rfl); intro K hK) | (with_reducible (first | apply wI | apply wJ | apply wK))); try simp only [go_sem, simprocAttr, hb]) | fail | (with_reducible (first | apply oC | apply oJ | exact oK | apply wA | apply wB | apply wC hX hC | apply wD hX hC | apply wE hX hC hmix | apply wF hX hC hmix | apply wG | apply wH | apply And.intro)) | ((with_reducible refine oD ?_ ?_); first | fail | kernel_rfl) | ((with_reducible (first | apply oE | apply oF)); (iterate 3 exact rfl); all_goals (intro h; first | (exact absurd h (by decide)) | ((try simp only [go_sem, simprocAttr, hb] at h); (try with_reducible intro K hK); simp only [go_sem, simprocAttr, hb]))) | ((first | ((with_reducible apply wL); exact rfl) | ((with_reducible apply wM); exact rfl)); all_goals (try ((with_reducible intro h); first | (exact absurd h (by decide)) | (try simp only [go_sem, simprocAttr, hb] at h)))) | omega | ((first | fail); try simp only [go_sem, simprocAttr, hb]) | (intro h))
    exact hf.symm
end Go.Ab
end
