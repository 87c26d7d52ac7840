/- AugmentTells, walked: the example, and the law. -/
import Derived.Test.YtilamojcledkaaaL3P14
set_option linter.unusedSimpArgs false
set_option linter.unusedVariables false
namespace Go.Ab
open Go.Proofs
attribute [local congr] ACall.congr
set_option maxRecDepth 10000
set_option maxHeartbeats 8000000

def g16 : Gr := ⟨3, [(0, 1), (0, 2)]⟩
def p16 : Pl := ⟨[0, 1, 2], [[0, 1], [], []]⟩
def x16 : Gr := ⟨4, [(0, 1), (0, 2), (1, 3), (2, 3)]⟩
def q16 : Pl := ⟨[0, 1, 2, 3], [[0, 1], [2], [3], []]⟩
theorem ok16 : (true = true) ↔ (chkG g16).1 = 0 ∧ PlanOk g16 p16 := ⟨fun _ => ⟨by decide, ⟨rfl, by decide, by decide⟩⟩, fun _ => rfl⟩
theorem aug16 : augR true g16 p16 = (x16, q16, 0) := rfl
theorem is16 : isB x16 = true := by decide
theorem is16' : isB g16 = false := by decide
theorem speaks16_spec : Spec Try.prog 15 (Args []) [] (eB true) [] := by
  have hAu := augment_spec g16 (by decide) p16 ⟨by decide, by decide, by decide⟩ (by decide) (by decide) (by decide) true ok16
  rw [aug16] at hAu
  simp only at hAu
  have h1 := is16
  have h2 := is16'
  have e1 : g16.es.map rE = [[.sc (.int .i64 0), .sc (.int .i64 1)], [.sc (.int .i64 0), .sc (.int .i64 2)]] := rfl
  have e2 : p16.ord.map rI = [[.sc (.int .i64 0)], [.sc (.int .i64 1)], [.sc (.int .i64 2)]] := rfl
  have e3 : vI p16.outs = [[.sl 1 [[.sc (.int .i64 0)], [.sc (.int .i64 1)]]], [.sl 1 []], [.sl 1 []]] := rfl
  have e4 : g16.n = 3 := rfl
  have e5 : x16.n = 4 := rfl
  have e6 : x16.es.map rE = [[.sc (.int .i64 0), .sc (.int .i64 1)], [.sc (.int .i64 0), .sc (.int .i64 2)], [.sc (.int .i64 1), .sc (.int .i64 3)], [.sc (.int .i64 2), .sc (.int .i64 3)]] := rfl
  have e7 : q16.ord.map rI = [[.sc (.int .i64 0)], [.sc (.int .i64 1)], [.sc (.int .i64 2)], [.sc (.int .i64 3)]] := rfl
  have e8 : vI q16.outs = [[.sl 1 [[.sc (.int .i64 0)], [.sc (.int .i64 1)]]], [.sl 1 [[.sc (.int .i64 2)]]], [.sl 1 [[.sc (.int .i64 3)]]], [.sl 1 []]] := rfl
  have e9 : ∀ d, [[D.sc (.int .i64 0), D.sc (.int .i64 1)], [D.sc (.int .i64 0), D.sc (.int .i64 2)], [D.sc (.int .i64 1), D.sc (.int .i64 3)], [D.sc (.int .i64 2), D.sc (.int .i64 3)]].getD 3 d = [D.sc (.int .i64 2), D.sc (.int .i64 3)] := fun d => rfl
  (refine Spec.intro (C := T.cfg [] []) (rs := [.t 0]) (T.cfg_ok _ _) Try.func15 rfl rfl Try.ntmps15 Try.results15 (by simp [AObj.isNest]) (by simp [AObj.isNest]) (by kernel_rfl) ?_; intro X hX hP hC hXn hXm vals hA; refine ⟨_, by simp, hA, ?_⟩; have hmix : X.P.follows .mixedOrders = true := (by rw [hP]; exact T.mixed); clear hXn hXm)
  repeat' (first | fail | ((first | ((with_reducible (first | apply oA | apply oB)); exact rfl; intro K hK) | (refine hK _ ?_; clear hK K) | ((with_reducible (first | apply oG | apply oH)); iterate 3 exact rfl) | ((with_reducible apply oI); (iterate 2 exact rfl); intro K hK) | (with_reducible (first | apply wI | apply wJ | apply wK))); try simp only [go_sem, simprocAttr, h1, h2, e1, e2, e3, e4, e5, e6, e7, e8, e9]) | fail | (with_reducible (first | apply oC | apply oJ | exact oK | apply wA | apply wB | apply wC hX hC | apply wD hX hC | apply wE hX hC hmix | apply wF hX hC hmix | apply wG | apply wH | apply And.intro)) | ((with_reducible refine oD ?_ ?_); first | fail | kernel_rfl) | ((with_reducible (first | apply oE | apply oF)); (iterate 3 exact rfl); all_goals (intro h; first | (exact absurd h (by decide)) | ((try simp only [go_sem, simprocAttr, h1, h2, e1, e2, e3, e4, e5, e6, e7, e8, e9] at h); (try with_reducible intro K hK); simp only [go_sem, simprocAttr, h1, h2, e1, e2, e3, e4, e5, e6, e7, e8, e9]))) | ((first | ((with_reducible apply wL); exact rfl) | ((with_reducible apply wM); exact rfl)); all_goals (try ((with_reducible intro h); first | (exact absurd h (by decide)) | (try simp only [go_sem, simprocAttr, h1, h2, e1, e2, e3, e4, e5, e6, e7, e8, e9] at h)))) | omega | ((first | first | (refine acall_look hX hC hP (hAu) rfl rfl rfl ?_ ?_ rfl ?_; iterate 2 (focus (simp only [go_sem, simprocAttr, h1, h2, e1, e2, e3, e4, e5, e6, e7, e8, e9]; done))) | refine acall_simple hX hC hP (augIs_spec x16 (by decide)) rfl rfl rfl (by simp only [go_sem, simprocAttr, h1, h2, e1, e2, e3, e4, e5, e6, e7, e8, e9]) rfl ?_ | refine acall_simple hX hC hP (augIs_spec g16 (by decide)) rfl rfl rfl (by simp only [go_sem, simprocAttr, h1, h2, e1, e2, e3, e4, e5, e6, e7, e8, e9]) rfl ?_ | (refine acall_look hX hC hP (augIs_spec x16 (by decide)) rfl rfl rfl ?_ ?_ rfl ?_; iterate 2 (focus (simp only [go_sem, simprocAttr, h1, h2, e1, e2, e3, e4, e5, e6, e7, e8, e9]; done))) | (refine acall_look hX hC hP (augIs_spec g16 (by decide)) rfl rfl rfl ?_ ?_ rfl ?_; iterate 2 (focus (simp only [go_sem, simprocAttr, h1, h2, e1, e2, e3, e4, e5, e6, e7, e8, e9]; done)))); try simp only [go_sem, simprocAttr, h1, h2, e1, e2, e3, e4, e5, e6, e7, e8, e9]) | (intro h))
theorem aug_len {b : Bool} {g : Gr} {p : Pl} (hr : b = true ↔ (chkG g).1 = 0 ∧ PlanOk g p) (h2 : p.outs.length ≤ 100) (h3 : ∀ l ∈ p.outs, l.length ≤ 200) : (augR b g p).1.es.length ≤ 128 ∧ (augR b g p).2.1.ord.length ≤ 1000 ∧ (augR b g p).2.1.outs.length ≤ 1000 ∧ ∀ l ∈ (augR b g p).2.1.outs, l.length ≤ 1000 := by
  unfold augR
  split
  · simp [gz, pz]
  rename_i h0
  split
  · simp [gz, pz]
  rename_i h1
  obtain ⟨hrun, _⟩ := runRes_ok hr (by simpa using h0)
  have hes : (augG g p).es.length ≤ 128 := by omega
  have hnn : (augG g p).n ≤ 64 := by omega
  refine ⟨hes, ?_, ?_, ?_⟩
  · have hle := plan_len hrun.2.1
    have hn := mayB_n (good_may hrun.1)
    show (if _ then _ else _ : List Int).length ≤ 1000
    split
    · rw [List.length_append]; simp; omega
    · omega
  · rw [aug_outs hrun]; simp [docO]; omega
  · intro l hl
    rw [aug_outs hrun] at hl
    simp only [docO, List.mem_map, List.mem_range] at hl
    obtain ⟨v, hv, rfl⟩ := hl
    split
    · rename_i h4
      by_cases hvo : v < p.outs.length
      · have := h3 _ (getD_memX (d := []) hvo); omega
      · rw [List.getD_eq_getElem?_getD, List.getElem?_eq_none (by omega)] at h4; simp at h4
    · exact Nat.le_trans outZ_len (by omega)
theorem augmentTells_spec (g : Gr) (p : Pl) (hl : g.es.length ≤ 9223372036854775807) (hp : PlMax p) : Spec Try.prog 5 (Args [eG g, ePl p]) [] (eB true) [] := by
  have hG := great10_spec g p hl hp
  (refine Spec.intro (C := T.cfg [] []) (rs := [.t 4]) (T.cfg_ok _ _) Try.func5 rfl rfl Try.ntmps5 Try.results5 (by simp [AObj.isNest]) (by simp [AObj.isNest]) (by kernel_rfl) ?_; intro X hX hP hC hXn hXm vals hA; refine ⟨_, by simp, hA, ?_⟩; have hmix : X.P.follows .mixedOrders = true := (by rw [hP]; exact T.mixed); clear hXn hXm)
  cases hB : bigB g p with
  | true =>
    rw [hB] at hG
    repeat' (first | fail | ((first | ((with_reducible (first | apply oA | apply oB)); exact rfl; intro K hK) | (refine hK _ ?_; clear hK K) | ((with_reducible (first | apply oG | apply oH)); iterate 3 exact rfl) | ((with_reducible apply oI); (iterate 2 exact rfl); intro K hK) | (with_reducible (first | apply wI | apply wJ | apply wK))); try simp only [go_sem, simprocAttr]) | fail | (with_reducible (first | apply oC | apply oJ | exact oK | apply wA | apply wB | apply wC hX hC | apply wD hX hC | apply wE hX hC hmix | apply wF hX hC hmix | apply wG | apply wH | apply And.intro)) | ((with_reducible refine oD ?_ ?_); first | fail | kernel_rfl) | ((with_reducible (first | apply oE | apply oF)); (iterate 3 exact rfl); all_goals (intro h; first | (exact absurd h (by decide)) | ((try simp only [go_sem, simprocAttr] at h); (try with_reducible intro K hK); simp only [go_sem, simprocAttr]))) | ((first | ((with_reducible apply wL); exact rfl) | ((with_reducible apply wM); exact rfl)); all_goals (try ((with_reducible intro h); first | (exact absurd h (by decide)) | (try simp only [go_sem, simprocAttr] at h)))) | omega | ((first | first | refine acall_simple hX hC hP (speaks16_spec) rfl rfl rfl (by simp only [go_sem, simprocAttr]) rfl ?_ | refine acall_simple hX hC hP (hG) rfl rfl rfl (by simp only [go_sem, simprocAttr]) rfl ?_); try simp only [go_sem, simprocAttr]) | (intro h))
  | false =>
    rw [hB] at hG
    obtain ⟨b1, b2, b3, b4⟩ := big_not hB
    obtain ⟨b, hr⟩ : ∃ b : Bool, (b = true ↔ (chkG g).1 = 0 ∧ PlanOk g p) := by
      by_cases h : (chkG g).1 = 0 ∧ PlanOk g p
      · exact ⟨true, by simp [h]⟩
      · exact ⟨false, by simp [h]⟩
    have hA1 := augment_spec g (by omega) p (plLen_of hB) (by omega) (by omega) (fun l hl => by have := b4 l hl; omega) b hr
    have hA2 := refAugment_spec g (by omega) p (plLen_of hB) (by omega) (by omega) (fun l hl => by have := b4 l hl; omega) b hr
    obtain ⟨l1, l2, l3, l4⟩ := aug_len hr b3 b4
    generalize augR b g p = R at hA1 hA2 l1 l2 l3 l4
    have hS := same_spec R.1 R.1 (by omega)
    have hP1 := samePlan_spec R.2.1 ⟨by omega, by omega, fun l hl => by have := l4 l hl; omega⟩
    have hI1 := augIs_spec g (by omega)
    have hI2 := refIs_spec g (by omega)
    repeat' (first | fail | ((first | ((with_reducible (first | apply oA | apply oB)); exact rfl; intro K hK) | (refine hK _ ?_; clear hK K) | ((with_reducible (first | apply oG | apply oH)); iterate 3 exact rfl) | ((with_reducible apply oI); (iterate 2 exact rfl); intro K hK) | (with_reducible (first | apply wI | apply wJ | apply wK))); try simp only [go_sem, simprocAttr, decide_true, Bool.and_self]) | fail | (with_reducible (first | apply oC | apply oJ | exact oK | apply wA | apply wB | apply wC hX hC | apply wD hX hC | apply wE hX hC hmix | apply wF hX hC hmix | apply wG | apply wH | apply And.intro)) | ((with_reducible refine oD ?_ ?_); first | fail | kernel_rfl) | ((with_reducible (first | apply oE | apply oF)); (iterate 3 exact rfl); all_goals (intro h; first | (exact absurd h (by decide)) | ((try simp only [go_sem, simprocAttr, decide_true, Bool.and_self] at h); (try with_reducible intro K hK); simp only [go_sem, simprocAttr, decide_true, Bool.and_self]))) | ((first | ((with_reducible apply wL); exact rfl) | ((with_reducible apply wM); exact rfl)); all_goals (try ((with_reducible intro h); first | (exact absurd h (by decide)) | (try simp only [go_sem, simprocAttr, decide_true, Bool.and_self] at h)))) | omega | ((first | first | refine acall_simple hX hC hP (speaks16_spec) rfl rfl rfl (by simp only [go_sem, simprocAttr, decide_true, Bool.and_self]) rfl ?_ | refine acall_simple hX hC hP (hG) rfl rfl rfl (by simp only [go_sem, simprocAttr, decide_true, Bool.and_self]) rfl ?_ | refine acall_simple hX hC hP (hA1) rfl rfl rfl (by simp only [go_sem, simprocAttr, decide_true, Bool.and_self]) rfl ?_ | refine acall_simple hX hC hP (hA2) rfl rfl rfl (by simp only [go_sem, simprocAttr, decide_true, Bool.and_self]) rfl ?_ | refine acall_simple hX hC hP (hS) rfl rfl rfl (by simp only [go_sem, simprocAttr, decide_true, Bool.and_self]) rfl ?_ | refine acall_simple hX hC hP (hP1) rfl rfl rfl (by simp only [go_sem, simprocAttr, decide_true, Bool.and_self]) rfl ?_ | refine acall_simple hX hC hP (hI1) rfl rfl rfl (by simp only [go_sem, simprocAttr, decide_true, Bool.and_self]) rfl ?_ | refine acall_simple hX hC hP (hI2) rfl rfl rfl (by simp only [go_sem, simprocAttr, decide_true, Bool.and_self]) rfl ?_); try simp only [go_sem, simprocAttr, decide_true, Bool.and_self]) | (intro h))
end Go.Ab
