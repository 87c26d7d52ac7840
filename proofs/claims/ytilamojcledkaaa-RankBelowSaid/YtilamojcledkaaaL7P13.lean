/- A part of the proof. -/
import Derived.Test.YtilamojcledkaaaL7P12
set_option linter.unusedSimpArgs false
set_option linter.unusedVariables false
section
namespace Go.Ab
open Go.Proofs
attribute [local congr] ACall.congr
set_option maxRecDepth 10000
set_option maxHeartbeats 8000000
def swapT (l : List It) (k : Nat) : List It := (List.range l.length).map fun p => if p < k ∨ l.length - 1 < p + k then l.getD (l.length - 1 - p) (0, 0, 0) else l.getD p (0, 0, 0)
theorem swapT_length {l : List It} {k : Nat} : (swapT l k).length = l.length := by simp [swapT]
theorem swapT_get {l : List It} {k p : Nat} (h : p < l.length) : (swapT l k)[p]? = some (if p < k ∨ l.length - 1 < p + k then l.getD (l.length - 1 - p) (0, 0, 0) else l.getD p (0, 0, 0)) := by
 simp [swapT, List.getElem?_range h]
theorem swapT_getD {l : List It} {k p : Nat} (h : p < l.length) (d : It) : (swapT l k).getD p d = if p < k ∨ l.length - 1 < p + k then l.getD (l.length - 1 - p) (0, 0, 0) else l.getD p (0, 0, 0) := by
 rw [List.getD_eq_getElem?_getD, swapT_get h]; rfl
theorem swapT_zero {l : List It} : swapT l 0 = l := by
 refine List.ext_getElem? fun i => ?_
 by_cases hi : i < l.length
 ·rw [swapT_get hi, if_neg (by omega), List.getD_eq_getElem?_getD, List.getElem?_eq_getElem hi]; rfl
 ·rw [List.getElem?_eq_none (by rw [swapT_length]; omega), List.getElem?_eq_none (by omega)]
theorem swapT_end {l : List It} {k : Nat} (h : l.length ≤ 2 * k + 1) : swapT l k = l.reverse := by
 refine List.ext_getElem? fun i => ?_
 by_cases hi : i < l.length
 ·rw [swapT_get hi, List.getElem?_reverse hi]
  split
  ·rw [List.getD_eq_getElem?_getD, List.getElem?_eq_getElem (by omega)]; rfl
  ·have : i = l.length - 1 - i := by omega
   rw [← this, List.getD_eq_getElem?_getD, List.getElem?_eq_getElem hi]; rfl
 ·rw [List.getElem?_eq_none (by rw [swapT_length]; omega), List.getElem?_eq_none (by rw [List.length_reverse]; omega)]
theorem swapT_next {l : List It} {k : Nat} (h : k < l.length - 1 - k) : ((swapT l k).set k ((swapT l k).getD (l.length - 1 - k) (0, 0, 0))).set (l.length - 1 - k) ((swapT l k).getD k (0, 0, 0)) = swapT l (k + 1) := by
 refine List.ext_getElem? fun i => ?_
 rw [List.getElem?_set, List.length_set, swapT_length, List.getElem?_set, swapT_length]
 by_cases hi : i < l.length
 ·rw [swapT_get hi, swapT_get hi, swapT_getD (by omega), swapT_getD (by omega)]
  by_cases h1 : l.length - 1 - k = i
  ·rw [if_pos h1, if_pos (by omega), if_neg (by omega), if_pos (by omega)]
   congr 2; omega
  ·rw [if_neg h1]
   by_cases h2 : k = i
   ·rw [if_pos h2, if_pos (by omega), if_neg (by omega), if_pos (by omega)]
    congr 2; omega
   ·rw [if_neg h2]
    congr 1
    by_cases h3 : i < k ∨ l.length - 1 < i + k
    ·rw [if_pos h3, if_pos (by omega)]
    ·rw [if_neg h3, if_neg (by omega)]
 ·rw [List.getElem?_eq_none (by rw [swapT_length]; omega), List.getElem?_eq_none (by rw [swapT_length]; omega), if_neg (by omega), if_neg (by omega)]
theorem set_rT (l : List It) (k : Nat) (t : It) : (l.map rT).set k [.sc (.int .i64 t.1), .sc (.int .i64 t.2.1), .sc (.int .i64 t.2.2)] = (l.set k t).map rT := by
 rw [List.map_set]; rfl
theorem reverseT_spec (l : List It) (hl : l.length ≤ 1000000) : Spec Try.prog 107 (Args [.ref 10000]) [(10000, .own 71 3 (l.map rT))] (.tup []) [(10000, .own 71 3 (l.reverse.map rT))] := by
 (refine Spec.intro (C := T.cfg [] []) (rs := []) (T.cfg_ok _ _) Try.func107 rfl rfl Try.ntmps107 Try.results107 (by simp [AObj.isNest]) (by simp [AObj.isNest]) (by kernel_rfl) ?_; intro X hX hP hC hXn hXm vals hA; refine ⟨_, by simp, hA, ?_⟩; have hmix : X.P.follows .mixedOrders = true := (by rw [hP]; exact T.mixed); clear hXn hXm)
 repeat' (first | fail | ((first | ((with_reducible (first | apply oA | apply oB)); exact rfl; intro K hK) | (refine hK _ ?_; clear hK K) | ((with_reducible (first | apply oG | apply oH)); iterate 3 exact rfl) | ((with_reducible apply oI); (iterate 2 exact rfl); intro K hK) | (with_reducible (first | apply wI | apply wJ | apply wK))); try simp only [go_sem, simprocAttr]) | fail | (with_reducible (first | apply oC | apply oJ | exact oK | apply wA | apply wB | apply wC hX hC | apply wD hX hC | apply wE hX hC hmix | apply wF hX hC hmix | apply wG | apply wH | apply And.intro)) | ((with_reducible refine oD ?_ ?_); first | fail | kernel_rfl) | ((with_reducible (first | apply oE | apply oF)); (iterate 3 exact rfl); all_goals (intro h; first | (exact absurd h (by decide)) | ((try simp only [go_sem, simprocAttr] at h); (try with_reducible intro K hK); simp only [go_sem, simprocAttr]))) | ((first | ((with_reducible apply wL); exact rfl) | ((with_reducible apply wM); exact rfl)); all_goals (try ((with_reducible intro h); first | (exact absurd h (by decide)) | (try simp only [go_sem, simprocAttr] at h)))) | omega | ((first | fail); try simp only [go_sem, simprocAttr]) | (intro h))
 refine awp_loopP (fun k : Nat => 2 * k ≤ l.length + 1) (fun k => ⟨[(0, .ref 10000), (2, eN k), (3, eN ((l.length : Int) - 1 - k))], [(10000, .own 71 3 ((swapT l k).map rT))]⟩) (fun k => l.length + 1 - k) 0 (by omega) ?_ ?_
 ·refine Le.of ?_ ?_ <;> simp [go_sem, simprocAttr, swapT_zero]
 rintro k hk
 rcases Nat.lt_or_ge (2 * k + 1) l.length with hlt | hge
 ·have hb : decide ((k : Int) < (l.length : Int) - 1 - (k : Int)) = true := decide_eq_true (by omega)
  have ht : ((l.length : Int) - 1 - (k : Int)).toNat = l.length - 1 - k := by omega
  repeat' (first | fail | ((first | ((with_reducible (first | apply oA | apply oB)); exact rfl; intro K hK) | (refine hK _ ?_; clear hK K) | ((with_reducible (first | apply oG | apply oH)); iterate 3 exact rfl) | ((with_reducible apply oI); (iterate 2 exact rfl); intro K hK) | (with_reducible (first | apply wI | apply wJ | apply wK))); try simp only [go_sem, simprocAttr, hb, ht, swapT_length, set_rT, List.length_cons, List.length_nil, List.drop_succ_cons, List.drop_zero, List.drop_nil]) | fail | (with_reducible (first | apply oC | apply oJ | exact oK | apply wA | apply wB | apply wC hX hC | apply wD hX hC | apply wE hX hC hmix | apply wF hX hC hmix | apply wG | apply wH | apply And.intro)) | ((with_reducible refine oD ?_ ?_); first | fail | kernel_rfl) | ((with_reducible (first | apply oE | apply oF)); (iterate 3 exact rfl); all_goals (intro h; first | (exact absurd h (by decide)) | ((try simp only [go_sem, simprocAttr, hb, ht, swapT_length, set_rT, List.length_cons, List.length_nil, List.drop_succ_cons, List.drop_zero, List.drop_nil] at h); (try with_reducible intro K hK); simp only [go_sem, simprocAttr, hb, ht, swapT_length, set_rT, List.length_cons, List.length_nil, List.drop_succ_cons, List.drop_zero, List.drop_nil]))) | ((first | ((with_reducible apply wL); exact rfl) | ((with_reducible apply wM); exact rfl)); all_goals (try ((with_reducible intro h); first | (exact absurd h (by decide)) | (try simp only [go_sem, simprocAttr, hb, ht, swapT_length, set_rT, List.length_cons, List.length_nil, List.drop_succ_cons, List.drop_zero, List.drop_nil] at h)))) | omega | ((first | fail); try simp only [go_sem, simprocAttr, hb, ht, swapT_length, set_rT, List.length_cons, List.length_nil, List.drop_succ_cons, List.drop_zero, List.drop_nil]) | (intro h))
  refine ⟨k + 1, by omega, ?_, by omega⟩
  refine Le.of ?_ ?_ <;> simp [go_sem, simprocAttr]
  ·omega
  ·rw [← swapT_next (by omega), List.map_set, List.map_set]
   simp only [List.getD_eq_getElem?_getD]
   rfl
 ·have hb : decide ((k : Int) < (l.length : Int) - 1 - (k : Int)) = false := decide_eq_false (by omega)
  repeat' (first | fail | ((first | ((with_reducible (first | apply oA | apply oB)); exact rfl; intro K hK) | (refine hK _ ?_; clear hK K) | ((with_reducible (first | apply oG | apply oH)); iterate 3 exact rfl) | ((with_reducible apply oI); (iterate 2 exact rfl); intro K hK) | (with_reducible (first | apply wI | apply wJ | apply wK))); try simp only [go_sem, simprocAttr, hb]) | fail | (with_reducible (first | apply oC | apply oJ | exact oK | apply wA | apply wB | apply wC hX hC | apply wD hX hC | apply wE hX hC hmix | apply wF hX hC hmix | apply wG | apply wH | apply And.intro)) | ((with_reducible refine oD ?_ ?_); first | fail | kernel_rfl) | ((with_reducible (first | apply oE | apply oF)); (iterate 3 exact rfl); all_goals (intro h; first | (exact absurd h (by decide)) | ((try simp only [go_sem, simprocAttr, hb] at h); (try with_reducible intro K hK); simp only [go_sem, simprocAttr, hb]))) | ((first | ((with_reducible apply wL); exact rfl) | ((with_reducible apply wM); exact rfl)); all_goals (try ((with_reducible intro h); first | (exact absurd h (by decide)) | (try simp only [go_sem, simprocAttr, hb] at h)))) | omega | ((first | fail); try simp only [go_sem, simprocAttr, hb]) | (intro h))
  simp only [go_sem, simprocAttr, hb, swapT_end hge]
theorem cloneO_spec (ps : List It) (hl : ps.length ≤ 1000000) :
  Spec Try.prog 63 (Args [.d (sT ps)]) [] (.ref 10000) [(10000, .own 71 3 (ps.map rT))] := by
 (refine Spec.introR (C := T.cfg [5, 7] []) (rs := [.t 2]) [(10000, 7)] (T.cfg_ok _ _) Try.func63 rfl rfl Try.ntmps63 Try.results63 (by simp [AObj.isNest]) (by simp [AObj.isNest]) (by first | (simp [look]; done) | (simp [asN]; done) | (intro l hl; simp only [asN]; repeat (rw [if_neg (fun e => by subst e; simp [look] at hl)]))) (by first | (simp [look]; done) | (simp [asN]; done) | (intro l hl; simp only [asN]; repeat (rw [if_neg (fun e => by subst e; simp [look] at hl)]))) (by kernel_rfl) ?_; intro X hX hP hC hXn hXm vals hA; refine ⟨_, by simp, hA, ?_⟩; have hmix : X.P.follows .mixedOrders = true := (by rw [hP]; exact T.mixed); clear hXn hXm)
 repeat' (first | (show awp _ .ret _ _; (try simp only [go_sem, simprocAttr]); refine awp_new hX 2 7 (.own 71 3 []) ?_ ?_ (by decide) ⟨71, 3, by decide, .inl rfl⟩ ?_; (iterate 2 (focus (simp only [go_sem, simprocAttr]; done))); simp only [go_sem, simprocAttr]) | ((first | ((with_reducible (first | apply oA | apply oB)); exact rfl; intro K hK) | (refine hK _ ?_; clear hK K) | ((with_reducible (first | apply oG | apply oH)); iterate 3 exact rfl) | ((with_reducible apply oI); (iterate 2 exact rfl); intro K hK) | (with_reducible (first | apply wI | apply wJ | apply wK))); try simp only [go_sem, simprocAttr]) | fail | (with_reducible (first | apply oC | apply oJ | exact oK | apply wA | apply wB | apply wC hX hC | apply wD hX hC | apply wE hX hC hmix | apply wF hX hC hmix | apply wG | apply wH | apply And.intro)) | ((with_reducible refine oD ?_ ?_); first | fail | kernel_rfl) | ((with_reducible (first | apply oE | apply oF)); (iterate 3 exact rfl); all_goals (intro h; first | (exact absurd h (by decide)) | ((try simp only [go_sem, simprocAttr] at h); (try with_reducible intro K hK); simp only [go_sem, simprocAttr]))) | ((first | ((with_reducible apply wL); exact rfl) | ((with_reducible apply wM); exact rfl)); all_goals (try ((with_reducible intro h); first | (exact absurd h (by decide)) | (try simp only [go_sem, simprocAttr] at h)))) | omega | ((first | fail); try simp only [go_sem, simprocAttr]) | (intro h))
 exact h.symm
theorem rowO_spec (ds : List D) (row : List It) (hr : row.length ≤ 1000000) : Spec Try.prog 28 (Args [.d (.pt (sT row :: ds))]) [] (.ref 10000) [(10000, .own 71 3 (row.map rT))] := by
 (refine Spec.introR (C := T.cfg [] []) (rs := [.t 2]) [(10000, 7)] (T.cfg_ok _ _) Try.func28 rfl rfl Try.ntmps28 Try.results28 (by simp [AObj.isNest]) (by simp [AObj.isNest]) (by first | (simp [look]; done) | (simp [asN]; done) | (intro l hl; simp only [asN]; repeat (rw [if_neg (fun e => by subst e; simp [look] at hl)]))) (by first | (simp [look]; done) | (simp [asN]; done) | (intro l hl; simp only [asN]; repeat (rw [if_neg (fun e => by subst e; simp [look] at hl)]))) (by kernel_rfl) ?_; intro X hX hP hC hXn hXm vals hA; refine ⟨_, by simp, hA, ?_⟩; have hmix : X.P.follows .mixedOrders = true := (by rw [hP]; exact T.mixed); clear hXn hXm)
 repeat' (first | fail | ((first | ((with_reducible (first | apply oA | apply oB)); exact rfl; intro K hK) | (refine hK _ ?_; clear hK K) | ((with_reducible (first | apply oG | apply oH)); iterate 3 exact rfl) | ((with_reducible apply oI); (iterate 2 exact rfl); intro K hK) | (with_reducible (first | apply wI | apply wJ | apply wK))); try simp only [go_sem, simprocAttr]) | fail | (with_reducible (first | apply oC | apply oJ | exact oK | apply wA | apply wB | apply wC hX hC | apply wD hX hC | apply wE hX hC hmix | apply wF hX hC hmix | apply wG | apply wH | apply And.intro)) | ((with_reducible refine oD ?_ ?_); first | fail | kernel_rfl) | ((with_reducible (first | apply oE | apply oF)); (iterate 3 exact rfl); all_goals (intro h; first | (exact absurd h (by decide)) | ((try simp only [go_sem, simprocAttr] at h); (try with_reducible intro K hK); simp only [go_sem, simprocAttr]))) | ((first | ((with_reducible apply wL); exact rfl) | ((with_reducible apply wM); exact rfl)); all_goals (try ((with_reducible intro h); first | (exact absurd h (by decide)) | (try simp only [go_sem, simprocAttr] at h)))) | omega | ((first | (refine acall_gen hX hC hP [(10000, 7)] (cloneO_spec row hr) rfl rfl rfl ?_ ?_ ?_ ?_ ?_ ?_ ?_ ?_ ?_ ?_ ?_ ?_ ?_ ?_; (focus (simp only [go_sem, simprocAttr]; done)); (iterate 12 (focus (simp [go_sem, simprocAttr]; done))); simp only [go_sem, simprocAttr, List.map_cons, List.map_nil])); try simp only [go_sem, simprocAttr]) | (intro h))
def headI (rs : List Int) (l : List It) : Int := match l.find? (fun t => decide (t.2.2 ∈ rs)) with
 | some t => t.2.2
 | none => rs.headD (-1)
theorem pick_spec (rs : List Int) (l : List It) (hr : rs ≠ []) (hrl : rs.length ≤ 1000000) (hl : l.length ≤ 1000000) : Spec Try.prog 142 (Args [.d (sI rs), .d (sT l)]) [] (eN (headI rs l)) [] := by
 generalize hH : headI rs l = H
 (refine Spec.intro (C := T.cfg [] []) (rs := [.t 4]) (T.cfg_ok _ _) Try.func142 rfl rfl Try.ntmps142 Try.results142 (by simp [AObj.isNest]) (by simp [AObj.isNest]) (by kernel_rfl) ?_; intro X hX hP hC hXn hXm vals hA; refine ⟨_, by simp, hA, ?_⟩; have hmix : X.P.follows .mixedOrders = true := (by rw [hP]; exact T.mixed); clear hXn hXm)
 repeat' (first | fail | ((first | ((with_reducible (first | apply oA | apply oB)); exact rfl; intro K hK) | (refine hK _ ?_; clear hK K) | ((with_reducible (first | apply oG | apply oH)); iterate 3 exact rfl) | ((with_reducible apply oI); (iterate 2 exact rfl); intro K hK) | (with_reducible (first | apply wI | apply wJ | apply wK))); try simp only [go_sem, simprocAttr]) | fail | (with_reducible (first | apply oC | apply oJ | exact oK | apply wA | apply wB | apply wC hX hC | apply wD hX hC | apply wE hX hC hmix | apply wF hX hC hmix | apply wG | apply wH | apply And.intro)) | ((with_reducible refine oD ?_ ?_); first | fail | kernel_rfl) | ((with_reducible (first | apply oE | apply oF)); (iterate 3 exact rfl); all_goals (intro h; first | (exact absurd h (by decide)) | ((try simp only [go_sem, simprocAttr] at h); (try with_reducible intro K hK); simp only [go_sem, simprocAttr]))) | ((first | ((with_reducible apply wL); exact rfl) | ((with_reducible apply wM); exact rfl)); all_goals (try ((with_reducible intro h); first | (exact absurd h (by decide)) | (try simp only [go_sem, simprocAttr] at h)))) | omega | ((first | fail); try simp only [go_sem, simprocAttr]) | (intro h))
 refine awp_loopP (fun k : Nat => k ≤ l.length ∧ ∀ j, j < k → (l.getD j (0, 0, 0)).2.2 ∉ rs) (fun k => ⟨[(0, .d (sI rs)), (7, .d (sT l)), (8, eN l.length), (9, eN k)], []⟩) (fun k => l.length - k) 0 (by simp) ?_ ?_
 ·(refine Le.of ?_ ?_ <;> simp [go_sem, simprocAttr])
 rintro k ⟨hk, hg⟩
 rcases Nat.lt_or_ge k l.length with hkl | hkg
 ·have hb : decide ((k : Int) < (l.length : Int)) = true := decide_eq_true (by omega)
  by_cases h1 : (l.getD k (0, 0, 0)).2.2 ∈ rs
  ·have hb1 : decide ((l.getD k (0, 0, 0)).2.2 ∈ rs) = true := decide_eq_true h1
   have : (l.getD k (0, 0, 0)).2.2 = H := by
    rw [← hH]; unfold headI
    have : l.find? (fun t => decide (t.2.2 ∈ rs)) = some (l.getD k (0, 0, 0)) := by
     rw [List.find?_eq_some_iff_getElem]
     refine ⟨hb1, k, hkl, by rw [List.getD_eq_getElem?_getD, List.getElem?_eq_getElem hkl]; rfl, fun j hj => ?_⟩
     have := hg j hj
     rw [List.getD_eq_getElem?_getD, List.getElem?_eq_getElem (by omega)] at this
     simpa using this
    rw [this]
   have hb2 : decide (H ∈ rs) = true := by rw [← this]; exact hb1
   repeat' (first | fail | ((first | ((with_reducible (first | apply oA | apply oB)); exact rfl; intro K hK) | (refine hK _ ?_; clear hK K) | ((with_reducible (first | apply oG | apply oH)); iterate 3 exact rfl) | ((with_reducible apply oI); (iterate 2 exact rfl); intro K hK) | (with_reducible (first | apply wI | apply wJ | apply wK))); try simp only [go_sem, simprocAttr, hb, hb2, this]) | fail | (with_reducible (first | apply oC | apply oJ | exact oK | apply wA | apply wB | apply wC hX hC | apply wD hX hC | apply wE hX hC hmix | apply wF hX hC hmix | apply wG | apply wH | apply And.intro)) | ((with_reducible refine oD ?_ ?_); first | fail | kernel_rfl) | ((with_reducible (first | apply oE | apply oF)); (iterate 3 exact rfl); all_goals (intro h; first | (exact absurd h (by decide)) | ((try simp only [go_sem, simprocAttr, hb, hb2, this] at h); (try with_reducible intro K hK); simp only [go_sem, simprocAttr, hb, hb2, this]))) | ((first | ((with_reducible apply wL); exact rfl) | ((with_reducible apply wM); exact rfl)); all_goals (try ((with_reducible intro h); first | (exact absurd h (by decide)) | (try simp only [go_sem, simprocAttr, hb, hb2, this] at h)))) | omega | ((first | first | refine acall_simple hX hC hP (containsI_spec rs H (by omega)) rfl rfl rfl (by simp only [go_sem, simprocAttr, hb, hb2, this]) rfl ?_); try simp only [go_sem, simprocAttr, hb, hb2, this]) | (intro h))
  ·have hb1 : decide ((l.getD k (0, 0, 0)).2.2 ∈ rs) = false := decide_eq_false h1
   repeat' (first | fail | ((first | ((with_reducible (first | apply oA | apply oB)); exact rfl; intro K hK) | (refine hK _ ?_; clear hK K) | ((with_reducible (first | apply oG | apply oH)); iterate 3 exact rfl) | ((with_reducible apply oI); (iterate 2 exact rfl); intro K hK) | (with_reducible (first | apply wI | apply wJ | apply wK))); try simp only [go_sem, simprocAttr, hb, hb1]) | fail | (with_reducible (first | apply oC | apply oJ | exact oK | apply wA | apply wB | apply wC hX hC | apply wD hX hC | apply wE hX hC hmix | apply wF hX hC hmix | apply wG | apply wH | apply And.intro)) | ((with_reducible refine oD ?_ ?_); first | fail | kernel_rfl) | ((with_reducible (first | apply oE | apply oF)); (iterate 3 exact rfl); all_goals (intro h; first | (exact absurd h (by decide)) | ((try simp only [go_sem, simprocAttr, hb, hb1] at h); (try with_reducible intro K hK); simp only [go_sem, simprocAttr, hb, hb1]))) | ((first | ((with_reducible apply wL); exact rfl) | ((with_reducible apply wM); exact rfl)); all_goals (try ((with_reducible intro h); first | (exact absurd h (by decide)) | (try simp only [go_sem, simprocAttr, hb, hb1] at h)))) | omega | ((first | first | refine acall_simple hX hC hP (containsI_spec rs (l.getD k (0, 0, 0)).2.2 (by omega)) rfl rfl rfl (by simp only [go_sem, simprocAttr, hb, hb1]) rfl ?_); try simp only [go_sem, simprocAttr, hb, hb1]) | (intro h))
   refine ⟨k + 1, ⟨by omega, fun j hj => ?_⟩, ?_, by omega⟩
   ·by_cases e : j = k
    ·subst e; exact h1
    ·exact hg j (by omega)
   ·(refine Le.of ?_ ?_ <;> simp [go_sem, simprocAttr, hb, hb1])
 ·have hb : decide ((k : Int) < (l.length : Int)) = false := decide_eq_false (by omega)
  have hpos := List.length_pos_iff.2 hr
  have : rs.getD 0 0 = H := by
   rw [← hH]; unfold headI
   have : l.find? (fun t => decide (t.2.2 ∈ rs)) = none := by
    rw [List.find?_eq_none]
    intro t ht
    obtain ⟨j, hj, rfl⟩ := List.mem_iff_getElem.1 ht
    have := hg j (by omega)
    rw [List.getD_eq_getElem?_getD, List.getElem?_eq_getElem hj] at this
    simpa using this
   rw [this]
   match rs, hr with
   | a :: _, _ => rfl
  repeat' (first | fail | ((first | ((with_reducible (first | apply oA | apply oB)); exact rfl; intro K hK) | (refine hK _ ?_; clear hK K) | ((with_reducible (first | apply oG | apply oH)); iterate 3 exact rfl) | ((with_reducible apply oI); (iterate 2 exact rfl); intro K hK) | (with_reducible (first | apply wI | apply wJ | apply wK))); try simp only [go_sem, simprocAttr, hb, this]) | fail | (with_reducible (first | apply oC | apply oJ | exact oK | apply wA | apply wB | apply wC hX hC | apply wD hX hC | apply wE hX hC hmix | apply wF hX hC hmix | apply wG | apply wH | apply And.intro)) | ((with_reducible refine oD ?_ ?_); first | fail | kernel_rfl) | ((with_reducible (first | apply oE | apply oF)); (iterate 3 exact rfl); all_goals (intro h; first | (exact absurd h (by decide)) | ((try simp only [go_sem, simprocAttr, hb, this] at h); (try with_reducible intro K hK); simp only [go_sem, simprocAttr, hb, this]))) | ((first | ((with_reducible apply wL); exact rfl) | ((with_reducible apply wM); exact rfl)); all_goals (try ((with_reducible intro h); first | (exact absurd h (by decide)) | (try simp only [go_sem, simprocAttr, hb, this] at h)))) | omega | ((first | fail); try simp only [go_sem, simprocAttr, hb, this]) | (intro h))
end Go.Ab
end
section
namespace Go.Ab
open Go.Proofs
attribute [local congr] ACall.congr
set_option maxRecDepth 10000
set_option maxHeartbeats 8000000
def buO (n : Int) (es : List Edge) (ord : List Int) (O : List (List Int)) : List (Nat × AObj) := [(10000, .box [eN n, .ref 10001, .ref 10002, .ref 10003]), (10001, .tip 53 2 (es.map rE)), (10002, .tip 3 1 (ord.map rI)), (10003, .own 32 1 (vI O))]
def buN (n : Int) (es : List Edge) (ord : List Int) (O : List (List Int)) : List (Nat × AObj) := [(10000, .box [eN n, .ref 10004, .ref 10002, .ref 10003]), (10004, .tip 53 2 (es.map rE)), (10002, .tip 3 1 (ord.map rI)), (10003, .own 32 1 (vI O))]
def layE (x : Int) (items : List It) : List Edge := (loose items).map fun v => (v, x)
end Go.Ab
end
section
namespace Go.Ab
open Go.Proofs
attribute [local congr] ACall.congr
set_option maxRecDepth 10000
set_option maxHeartbeats 16000000
def pz : Pl := ⟨[], []⟩
def augR (b : Bool) (g : Gr) (p : Pl) : Gr × Pl × Int :=
 if (runRes b g p).2.1 ≠ 0 then (gz, pz, 1) else if 64 < (augG g p).n ∨ 128 < (augG g p).es.length then (gz, pz, 10) else (augG g p, augP g p, 0)
theorem runRes_ok {b : Bool} {g : Gr} {p : Pl} (hr : b = true ↔ (chkG g).1 = 0 ∧ PlanOk g p) (h : (runRes b g p).2.1 = 0) : RunsP g p ∧ runRes b g p = ((endR g p g.n.toNat, lastR g p), (0, 0)) := by
 cases b with
 | false => simp [runRes] at h
 | true =>
  have hR : runRes true g p = match stopK g p g.n.toNat with
   | some i => (([], []), (3, (i : Int)))
   | none => ((endR g p g.n.toNat, (fK g p g.n.toNat).row), (0, 0)) := rfl
  cases hs : stopK g p g.n.toNat with
  | some i => rw [hR, hs] at h; simp at h
  | none =>
   obtain ⟨h1, h2⟩ := hr.1 rfl
   exact ⟨⟨h1, h2, stopK_none.1 hs⟩, by rw [hR, hs]; rfl⟩
end Go.Ab
end
section
namespace Go.Ab
open Go.Proofs
attribute [local congr] ACall.congr
set_option maxRecDepth 10000
set_option maxHeartbeats 16000000
def docK (p : Pl) (x : Gr) (k : Nat) : List (List Int) := (List.range k).map fun v => if 0 < (p.outs.getD v []).length then p.outs.getD v [] else outZ x (v : Int)
end Go.Ab
end
section
namespace Go.Ab
open Go.Proofs
attribute [local congr] ACall.congr
set_option maxRecDepth 10000
set_option maxHeartbeats 8000000
def bigB (g : Gr) (p : Pl) : Bool := decide (200 < g.es.length) || decide (100 < p.ord.length) || decide (100 < p.outs.length) || p.outs.any fun l => decide (200 < l.length)
structure PlMax (p : Pl) : Prop where
 ord : p.ord.length ≤ 9223372036854775807
 outs : p.outs.length ≤ 9223372036854775807
 each : ∀ l ∈ p.outs, l.length ≤ 9223372036854775807
def isB (g : Gr) : Bool := decide ((chkG g).1 = 0) && decide ((bareG (·.1) g).length = 1)
theorem augIs_spec (g : Gr) (hl : g.es.length ≤ 1000) : Spec Try.prog 21 (Args [eG g]) [] (eB (isB g)) [] := by
 by_cases hc : (chkG g).1 = 0
 ·have hm := good_may hc
  have hb1 : decide ((chkG g).1 = 0) = true := decide_eq_true hc
  have hI : isB g = decide (((bareG (·.1) g).length : Int) = 1) := by
   unfold isB; rw [hb1, Bool.true_and, decide_eq_decide]; omega
  rw [hI]
  generalize hbl : bareG (·.1) g = bl
  have hS := sinks_spec g hm
  rw [hbl] at hS
  (refine Spec.intro (C := T.cfg [] []) (rs := [.t 2]) (T.cfg_ok _ _) Try.func21 rfl rfl Try.ntmps21 Try.results21 (by simp [AObj.isNest]) (by simp [AObj.isNest]) (by kernel_rfl) ?_; intro X hX hP hC hXn hXm vals hA; refine ⟨_, by simp, hA, ?_⟩; have hmix : X.P.follows .mixedOrders = true := (by rw [hP]; exact T.mixed); clear hXn hXm)
  repeat' (first | fail | ((first | ((with_reducible (first | apply oA | apply oB)); exact rfl; intro K hK) | (refine hK _ ?_; clear hK K) | ((with_reducible (first | apply oG | apply oH)); iterate 3 exact rfl) | ((with_reducible apply oI); (iterate 2 exact rfl); intro K hK) | (with_reducible (first | apply wI | apply wJ | apply wK))); try simp only [go_sem, simprocAttr, hb1]) | fail | (with_reducible (first | apply oC | apply oJ | exact oK | apply wA | apply wB | apply wC hX hC | apply wD hX hC | apply wE hX hC hmix | apply wF hX hC hmix | apply wG | apply wH | apply And.intro)) | ((with_reducible refine oD ?_ ?_); first | fail | kernel_rfl) | ((with_reducible (first | apply oE | apply oF)); (iterate 3 exact rfl); all_goals (intro h; first | (exact absurd h (by decide)) | ((try simp only [go_sem, simprocAttr, hb1] at h); (try with_reducible intro K hK); simp only [go_sem, simprocAttr, hb1]))) | ((first | ((with_reducible apply wL); exact rfl) | ((with_reducible apply wM); exact rfl)); all_goals (try ((with_reducible intro h); first | (exact absurd h (by decide)) | (try simp only [go_sem, simprocAttr, hb1] at h)))) | omega | ((first | first | refine acall_simple hX hC hP (check_spec g hl) rfl rfl rfl (by simp only [go_sem, simprocAttr, hb1]) rfl ?_ | refine acall_simple hX hC hP (of_spec g hm) rfl rfl rfl (by simp only [go_sem, simprocAttr, hb1]) rfl ?_ | refine acall_simple hX hC hP (hS) rfl rfl rfl (by simp only [go_sem, simprocAttr, hb1]) rfl ?_); try simp only [go_sem, simprocAttr, hb1]) | (intro h))
 ·have hb1 : decide ((chkG g).1 = 0) = false := decide_eq_false hc
  have hI : isB g = false := by unfold isB; rw [hb1]; rfl
  rw [hI]
  (refine Spec.intro (C := T.cfg [] []) (rs := [.t 2]) (T.cfg_ok _ _) Try.func21 rfl rfl Try.ntmps21 Try.results21 (by simp [AObj.isNest]) (by simp [AObj.isNest]) (by kernel_rfl) ?_; intro X hX hP hC hXn hXm vals hA; refine ⟨_, by simp, hA, ?_⟩; have hmix : X.P.follows .mixedOrders = true := (by rw [hP]; exact T.mixed); clear hXn hXm)
  repeat' (first | fail | ((first | ((with_reducible (first | apply oA | apply oB)); exact rfl; intro K hK) | (refine hK _ ?_; clear hK K) | ((with_reducible (first | apply oG | apply oH)); iterate 3 exact rfl) | ((with_reducible apply oI); (iterate 2 exact rfl); intro K hK) | (with_reducible (first | apply wI | apply wJ | apply wK))); try simp only [go_sem, simprocAttr, hb1]) | fail | (with_reducible (first | apply oC | apply oJ | exact oK | apply wA | apply wB | apply wC hX hC | apply wD hX hC | apply wE hX hC hmix | apply wF hX hC hmix | apply wG | apply wH | apply And.intro)) | ((with_reducible refine oD ?_ ?_); first | fail | kernel_rfl) | ((with_reducible (first | apply oE | apply oF)); (iterate 3 exact rfl); all_goals (intro h; first | (exact absurd h (by decide)) | ((try simp only [go_sem, simprocAttr, hb1] at h); (try with_reducible intro K hK); simp only [go_sem, simprocAttr, hb1]))) | ((first | ((with_reducible apply wL); exact rfl) | ((with_reducible apply wM); exact rfl)); all_goals (try ((with_reducible intro h); first | (exact absurd h (by decide)) | (try simp only [go_sem, simprocAttr, hb1] at h)))) | omega | ((first | first | refine acall_simple hX hC hP (check_spec g hl) rfl rfl rfl (by simp only [go_sem, simprocAttr, hb1]) rfl ?_); try simp only [go_sem, simprocAttr, hb1]) | (intro h))
end Go.Ab
end
section
namespace Go.Ab
open Go.Proofs
attribute [local congr] ACall.congr
set_option maxRecDepth 10000
set_option maxHeartbeats 8000000
theorem pick_eq {g : Gr} (hm : mayB g = true) {f : Fr} (hi : FrInv g f) (rev : Bool) : headI (readyL g f) (lookR rev f.row) = pickF g f rev := by
 unfold headI pickF
 have : (fun t : It => decide (t.2.2 ∈ readyL g f)) = fun t : It => rReadyF g f t.2.2 := by
  funext t
  cases h : rReadyF g f t.2.2 with
  | true => exact decide_eq_true ((readyL_memF hm hi).2 h)
  | false => exact decide_eq_false fun h2 => by rw [(readyL_memF hm hi).1 h2] at h; cases h
 rw [this]
 rfl
theorem look0_spec (row : List It) : Spec Try.prog 106 (Args [.ref 10000]) [(10000, .own 71 3 (row.map rT))] (.tup []) [(10000, .own 71 3 ((lookR false row).map rT))] := by
 (refine Spec.intro (C := T.cfg [] []) (rs := []) (T.cfg_ok _ _) Try.func106 rfl rfl Try.ntmps106 Try.results106 (by simp [AObj.isNest]) (by simp [AObj.isNest]) (by kernel_rfl) ?_; intro X hX hP hC hXn hXm vals hA; refine ⟨_, by simp, hA, ?_⟩; have hmix : X.P.follows .mixedOrders = true := (by rw [hP]; exact T.mixed); clear hXn hXm)
 repeat' (first | fail | ((first | ((with_reducible (first | apply oA | apply oB)); exact rfl; intro K hK) | (refine hK _ ?_; clear hK K) | ((with_reducible (first | apply oG | apply oH)); iterate 3 exact rfl) | ((with_reducible apply oI); (iterate 2 exact rfl); intro K hK) | (with_reducible (first | apply wI | apply wJ | apply wK))); try simp only [go_sem, simprocAttr, lookR]) | fail | (with_reducible (first | apply oC | apply oJ | exact oK | apply wA | apply wB | apply wC hX hC | apply wD hX hC | apply wE hX hC hmix | apply wF hX hC hmix | apply wG | apply wH | apply And.intro)) | ((with_reducible refine oD ?_ ?_); first | fail | kernel_rfl) | ((with_reducible (first | apply oE | apply oF)); (iterate 3 exact rfl); all_goals (intro h; first | (exact absurd h (by decide)) | ((try simp only [go_sem, simprocAttr, lookR] at h); (try with_reducible intro K hK); simp only [go_sem, simprocAttr, lookR]))) | ((first | ((with_reducible apply wL); exact rfl) | ((with_reducible apply wM); exact rfl)); all_goals (try ((with_reducible intro h); first | (exact absurd h (by decide)) | (try simp only [go_sem, simprocAttr, lookR] at h)))) | omega | ((first | fail); try simp only [go_sem, simprocAttr, lookR]) | (intro h))
theorem look1_spec (row : List It) (hl : row.length ≤ 1000000) : Spec Try.prog 107 (Args [.ref 10000]) [(10000, .own 71 3 (row.map rT))] (.tup []) [(10000, .own 71 3 ((lookR true row).map rT))] := reverseT_spec row hl
theorem walk_spec (g : Gr) (p : Pl) (h : RunsP g p) (rev : Bool) (F : Nat) (hLook : ∀ row : List It, row.length ≤ 1000000 → Spec Try.prog F (Args [.ref 10000]) [(10000, .own 71 3 (row.map rT))] (.tup []) [(10000, .own 71 3 ((lookR rev row).map rT))]) :
  Spec Try.prog 105 (Args [eG g, .d (.sl 1 (vI p.outs)), .fn F [] []]) [] (.d (sI (rankL g p rev g.n.toNat))) [] := by
 have hm := good_may h.1
 have hn := mayB_n hm
 (refine Spec.intro (C := T.cfg [] []) (rs := [.t 6]) (T.cfg_ok _ _) Try.func105 rfl rfl Try.ntmps105 Try.results105 (by simp [AObj.isNest]) (by simp [AObj.isNest]) (by kernel_rfl) ?_; intro X hX hP hC hXn hXm vals hA; refine ⟨_, by simp, hA, ?_⟩; have hmix : X.P.follows .mixedOrders = true := (by rw [hP]; exact T.mixed); clear hXn hXm)
 repeat' (first | fail | ((first | ((with_reducible (first | apply oA | apply oB)); exact rfl; intro K hK) | (refine hK _ ?_; clear hK K) | ((with_reducible (first | apply oG | apply oH)); iterate 3 exact rfl) | ((with_reducible apply oI); (iterate 2 exact rfl); intro K hK) | (with_reducible (first | apply wI | apply wJ | apply wK))); try simp only [go_sem, simprocAttr]) | (show awp _ (.seq (.region 3 _ _) _) _ _; (refine awp_nilD 15 0 3 rfl rfl rfl ?_; simp only [LA.app, ASt.put, ASt.kill, putM, rml, List.set_cons_zero, List.set_cons_succ, go_sem, simprocAttr]); (refine awp_newB hX 15 2 200 (.tip 3 1 []) rfl rfl rfl (by simp only [go_sem, simprocAttr]) (by decide) (by simp [go_sem, simprocAttr]) ⟨3, 1, by decide, .inr rfl⟩ ?_; simp only [LA.app, ASt.put, ASt.kill, subT, rmk, putM, rml, kl, AV.sub, AV.subs, AObj.sub, List.set_cons_zero, List.set_cons_succ, go_sem, simprocAttr])) | (with_reducible (first | apply oC | apply oJ | exact oK | apply wA | apply wB | apply wC hX hC | apply wD hX hC | apply wE hX hC hmix | apply wF hX hC hmix | apply wG | apply wH | apply And.intro)) | ((with_reducible refine oD ?_ ?_); first | fail | kernel_rfl) | ((with_reducible (first | apply oE | apply oF)); (iterate 3 exact rfl); all_goals (intro h; first | (exact absurd h (by decide)) | ((try simp only [go_sem, simprocAttr] at h); (try with_reducible intro K hK); simp only [go_sem, simprocAttr]))) | ((first | ((with_reducible apply wL); exact rfl) | ((with_reducible apply wM); exact rfl)); all_goals (try ((with_reducible intro h); first | (exact absurd h (by decide)) | (try simp only [go_sem, simprocAttr] at h)))) | omega | ((first | first | (refine acall_genC hX hC hP [(10000, 15)] (newF_spec g (by omega) h.1 hm) rfl rfl rfl ?_ ?_ ?_ ?_ ?_ ?_ ?_ ?_ ?_ ?_ ?_ ?_ ?_ ?_; (focus (simp only [go_sem, simprocAttr]; done)); (iterate 12 (focus (simp [go_sem, simprocAttr]; done))); simp only [go_sem, simprocAttr, List.map_cons, List.map_nil])); try simp only [go_sem, simprocAttr]) | (intro h))
 have hrep : List.replicate g.n.toNat [D.sc (.int .i64 0)] = (rankL g p rev 0).map rI := by rw [rankL, List.map_replicate]; rfl
 rw [hrep]
 refine awp_loopP (fun k : Nat => k ≤ g.n.toNat) (fun k => ⟨[(1, .d (.sl 1 (vI p.outs))), (2, .fn F [] []), (7, .ptr 15 0), (9, .ref 20), (22, eN g.n), (23, eN k)], [(15, .box [.d (sT (walkF g p rev k).row), .d (vw g), .ref 200]), (200, .tip 3 1 ((walkF g p rev k).pl.map rI)), (20, .own 3 1 ((rankL g p rev k).map rI))]⟩) (fun k => g.n.toNat - k) 0 (by omega) ?_ ?_
 ·refine Le.of ?_ ?_ <;> simp [go_sem, simprocAttr, walkF]
 rintro k hk
 obtain ⟨hi, hpl, _, hrl⟩ := walk_inv h rev hk
 have hmul : k * (g.es.length + 1) ≤ 64 * 129 := Nat.mul_le_mul (by omega) (by omega)
 rcases Nat.lt_or_ge k g.n.toNat with hkl | hkg
 rotate_left
 ·have hb : decide ((k : Int) < g.n) = false := decide_eq_false (by omega)
  obtain rfl : k = g.n.toNat := by omega
  repeat' (first | fail | ((first | ((with_reducible (first | apply oA | apply oB)); exact rfl; intro K hK) | (refine hK _ ?_; clear hK K) | ((with_reducible (first | apply oG | apply oH)); iterate 3 exact rfl) | ((with_reducible apply oI); (iterate 2 exact rfl); intro K hK) | (with_reducible (first | apply wI | apply wJ | apply wK))); try simp only [go_sem, simprocAttr, hb]) | fail | (with_reducible (first | apply oC | apply oJ | exact oK | apply wA | apply wB | apply wC hX hC | apply wD hX hC | apply wE hX hC hmix | apply wF hX hC hmix | apply wG | apply wH | apply And.intro)) | ((with_reducible refine oD ?_ ?_); first | fail | kernel_rfl) | ((with_reducible (first | apply oE | apply oF)); (iterate 3 exact rfl); all_goals (intro h; first | (exact absurd h (by decide)) | ((try simp only [go_sem, simprocAttr, hb] at h); (try with_reducible intro K hK); simp only [go_sem, simprocAttr, hb]))) | ((first | ((with_reducible apply wL); exact rfl) | ((with_reducible apply wM); exact rfl)); all_goals (try ((with_reducible intro h); first | (exact absurd h (by decide)) | (try simp only [go_sem, simprocAttr, hb] at h)))) | omega | ((first | fail); try simp only [go_sem, simprocAttr, hb]) | (intro h))
 have hb : decide ((k : Int) < g.n) = true := decide_eq_true (by omega)
 obtain ⟨hR, hne⟩ := walk_ready h rev hkl
 have hrn := ready_rng hR
 have hll : (readyL g (walkF g p rev k)).length ≤ 64 := by have := readyK_len (g := g) (f := walkF g p rev k) (k := g.n.toNat); unfold readyL; omega
 have hpe := pick_eq hm hi.toFrInv rev
 have hlo : (lookR rev (walkF g p rev k).row).length = (walkF g p rev k).row.length := by unfold lookR; split <;> simp
 have hPi := pick_spec (readyL g (walkF g p rev k)) (lookR rev (walkF g p rev k).row) hne (by omega) (by omega)
 rw [hpe] at hPi
 clear hpe
 have hRo := rowO_spec [vw g, sI (walkF g p rev k).pl] (walkF g p rev k).row (by omega)
 have hLk := hLook (walkF g p rev k).row (by omega)
 have hRd := readyL_spec g hm (walkF g p rev k) (by omega) (by omega)
 have hper := lAt_perm h.2.1 hrn.1 hrn.2.1
 have hol := lAt_len h.2.1 hrn.1 hrn.2.1
 have hnx : walkF g p rev (k + 1) = (succF g (walkF g p rev k) (pickF g (walkF g p rev k) rev) (lAt p (pickF g (walkF g p rev k) rev))).2 := rfl
 have hrx : rankL g p rev (k + 1) = (rankL g p rev k).set (pickF g (walkF g p rev k) rev).toNat (k : Int) := rfl
 have hrk := rankL_len (g := g) (p := p) (rev := rev) (k := k)
 generalize pickF g (walkF g p rev k) rev = x0 at *
 obtain ⟨x, rfl⟩ : ∃ x : Nat, x0 = x := ⟨x0.toNat, by omega⟩
 have hxl : x < p.outs.length := by have := h.2.1.1; omega
 have hv := vI_getD hxl
 have hla : lAt p (x : Int) = p.outs.getD x [] := by unfold lAt; rw [Int.toNat_natCast]
 rw [hla] at hper hol hnx
 rw [Int.toNat_natCast] at hrx
 have hPl := placeA_spec g hm (walkF g p rev k) hi (x : Int) (p.outs.getD x []) (by omega) (by omega) (by omega)
 have hpk : rPlaceF g (walkF g p rev k) (x : Int) (p.outs.getD x []) = succF g (walkF g p rev k) (x : Int) (p.outs.getD x []) := by
  unfold rPlaceF
  rw [if_neg (by rw [hR]; simp), if_neg]
  rintro (h | ⟨i, h1, h2⟩)
  ·exact h hper.length_eq
  ·exact h2 (hper.mem_iff.2 h1)
 rw [hpk] at hPl
 generalize p.outs.getD x [] = o at hv hPl hnx
 generalize readyL g (walkF g p rev k) = L at hPi hRd hll
 generalize lookR rev (walkF g p rev k).row = LR at hPi hLk hlo
 generalize hff : walkF g p rev (k + 1) = f' at hnx
 generalize walkF g p rev k = f at *
 generalize succF g f (x : Int) o = su at hPl hnx
 repeat' (first | fail | ((first | ((with_reducible (first | apply oA | apply oB)); exact rfl; intro K hK) | (refine hK _ ?_; clear hK K) | ((with_reducible (first | apply oG | apply oH)); iterate 3 exact rfl) | ((with_reducible apply oI); (iterate 2 exact rfl); intro K hK) | (with_reducible (first | apply wI | apply wJ | apply wK))); try simp only [go_sem, simprocAttr, hb, hv, hrk, frO, frN, frD]) | (show awp _ (.region 11 _ _) _ _; (refine awp_mvB hX 15 2 201 200 rfl rfl rfl (by first | exact .inl rfl | exact .inr rfl) (by decide) (by decide) ?_; simp only [LA.app, ASt.put, ASt.kill, subT, rmk, putM, rml, kl, AV.sub, AV.subs, AObj.sub, List.set_cons_zero, List.set_cons_succ, go_sem, simprocAttr, hb, hv, hrk, frO, frN, frD])) | (with_reducible (first | apply oC | apply oJ | exact oK | apply wA | apply wB | apply wC hX hC | apply wD hX hC | apply wE hX hC hmix | apply wF hX hC hmix | apply wG | apply wH | apply And.intro)) | ((with_reducible refine oD ?_ ?_); first | fail | kernel_rfl) | ((with_reducible (first | apply oE | apply oF)); (iterate 3 exact rfl); all_goals (intro h; first | (exact absurd h (by decide)) | ((try simp only [go_sem, simprocAttr, hb, hv, hrk, frO, frN, frD] at h); (try with_reducible intro K hK); simp only [go_sem, simprocAttr, hb, hv, hrk, frO, frN, frD]))) | ((first | ((with_reducible apply wL); exact rfl) | ((with_reducible apply wM); exact rfl)); all_goals (try ((with_reducible intro h); first | (exact absurd h (by decide)) | (try simp only [go_sem, simprocAttr, hb, hv, hrk, frO, frN, frD] at h)))) | omega | ((first | first | (refine acall_lend1o hX hC hP 29 (hRo) rfl rfl rfl ?_ ?_ (by first | exact ⟨_, _, _, rfl, flatI⟩ | exact ⟨_, _, _, rfl, flatT⟩) rfl (by decide) ?_; (iterate 2 (focus (simp only [go_sem, simprocAttr, hb, hv, hrk, frO, frN, frD]; done))); simp only [go_sem, simprocAttr, hb, hv, hrk, frO, frN, frD]) | (refine acall_gen hX hC hP [(10000, 29)] (hLk) rfl rfl rfl ?_ ?_ ?_ ?_ ?_ ?_ ?_ ?_ ?_ ?_ ?_ ?_ ?_ ?_; (focus (simp only [go_sem, simprocAttr, hb, hv, hrk, frO, frN, frD]; done)); (iterate 12 (focus (simp [go_sem, simprocAttr, hb, hv, hrk, frO, frN, frD]; done))); simp only [go_sem, simprocAttr, hb, hv, hrk, frO, frN, frD, List.map_cons, List.map_nil]) | (refine acall_lend1 hX hC hP 34 (hRd) rfl rfl rfl ?_ ?_ (by first | exact ⟨_, _, _, rfl, flatI⟩ | exact ⟨_, _, _, rfl, flatT⟩) rfl (by decide) ?_; (iterate 2 (focus (simp only [go_sem, simprocAttr, hb, hv, hrk, frO, frN, frD]; done))); simp only [go_sem, simprocAttr, hb, hv, hrk, frO, frN, frD]) | (refine acall_lend hX hC hP (hPi) rfl rfl rfl ?_ ?_ ?_ ?_; iterate 3 (focus (simp only [go_sem, simprocAttr, hb, hv, hrk, frO, frN, frD]; done))) | (refine acall_gen hX hC hP [(10000, 15), (10001, 200), (10002, 201)] (hPl) rfl rfl rfl ?_ ?_ ?_ ?_ ?_ ?_ ?_ ?_ ?_ ?_ ?_ ?_ ?_ ?_; (focus (simp only [go_sem, simprocAttr, hb, hv, hrk, frO, frN, frD]; done)); (iterate 12 (focus (simp [go_sem, simprocAttr, hb, hv, hrk, frO, frN, frD]; done))); simp only [go_sem, simprocAttr, hb, hv, hrk, frO, frN, frD, List.map_cons, List.map_nil])); try simp only [go_sem, simprocAttr, hb, hv, hrk, frO, frN, frD]) | (intro h))
 refine ⟨k + 1, by omega, ?_, by omega⟩
 rw [hrx, hff, hnx]
 refine Le.of ?_ ?_ <;> simp [go_sem, simprocAttr, hb, hv, hrk, frO, frN, frD, rI]
def rkR (b : Bool) (g : Gr) (p : Pl) : List Int × List Int × Int :=
 if (runRes b g p).2.1 = 0 ∧ isB g = true then (rankL g p false g.n.toNat, rankL g p true g.n.toNat, 0) else ([], [], 1)
theorem ranks_spec (g : Gr) (hl : g.es.length ≤ 1000) (p : Pl) (hp : PlLen p) (b : Bool) (hr : b = true ↔ (chkG g).1 = 0 ∧ PlanOk g p) :
  Spec Try.prog 64 (Args [eG g, ePl p]) [] (.tup [.d (sI (rkR b g p).1), .d (sI (rkR b g p).2.1), eN (rkR b g p).2.2]) [] := by
 have hO := sweepRun_spec g hl p hp b hr
 have hI := augIs_spec g hl
 by_cases h0 : (runRes b g p).2.1 = 0
 rotate_left
 ·have hK : rkR b g p = ([], [], 1) := if_neg fun h => h0 h.1
  have hb0 : decide ((runRes b g p).2.1 = 0) = false := decide_eq_false h0
  rw [hK]
  (refine Spec.intro (C := T.cfg [] []) (rs := [.t 4, .t 5, .t 6]) (T.cfg_ok _ _) Try.func64 rfl rfl Try.ntmps64 Try.results64 (by simp [AObj.isNest]) (by simp [AObj.isNest]) (by kernel_rfl) ?_; intro X hX hP hC hXn hXm vals hA; refine ⟨_, by simp, hA, ?_⟩; have hmix : X.P.follows .mixedOrders = true := (by rw [hP]; exact T.mixed); clear hXn hXm)
  repeat' (first | fail | ((first | ((with_reducible (first | apply oA | apply oB)); exact rfl; intro K hK) | (refine hK _ ?_; clear hK K) | ((with_reducible (first | apply oG | apply oH)); iterate 3 exact rfl) | ((with_reducible apply oI); (iterate 2 exact rfl); intro K hK) | (with_reducible (first | apply wI | apply wJ | apply wK))); try simp only [go_sem, simprocAttr, hb0]) | fail | (with_reducible (first | apply oC | apply oJ | exact oK | apply wA | apply wB | apply wC hX hC | apply wD hX hC | apply wE hX hC hmix | apply wF hX hC hmix | apply wG | apply wH | apply And.intro)) | ((with_reducible refine oD ?_ ?_); first | fail | kernel_rfl) | ((with_reducible (first | apply oE | apply oF)); (iterate 3 exact rfl); all_goals (intro h; first | (exact absurd h (by decide)) | ((try simp only [go_sem, simprocAttr, hb0] at h); (try with_reducible intro K hK); simp only [go_sem, simprocAttr, hb0]))) | ((first | ((with_reducible apply wL); exact rfl) | ((with_reducible apply wM); exact rfl)); all_goals (try ((with_reducible intro h); first | (exact absurd h (by decide)) | (try simp only [go_sem, simprocAttr, hb0] at h)))) | omega | ((first | first | refine acall_simple hX hC hP (hO) rfl rfl rfl (by simp only [go_sem, simprocAttr, hb0]) rfl ?_); try simp only [go_sem, simprocAttr, hb0]) | (intro h))
 obtain ⟨hrun, hR⟩ := runRes_ok hr h0
 rw [hR] at hO
 simp only at hO
 cases hIs : isB g with
 | false =>
  have hK : rkR b g p = ([], [], 1) := if_neg fun h => by rw [hIs] at h; cases h.2
  rw [hK]
  rw [hIs] at hI
  (refine Spec.intro (C := T.cfg [] []) (rs := [.t 4, .t 5, .t 6]) (T.cfg_ok _ _) Try.func64 rfl rfl Try.ntmps64 Try.results64 (by simp [AObj.isNest]) (by simp [AObj.isNest]) (by kernel_rfl) ?_; intro X hX hP hC hXn hXm vals hA; refine ⟨_, by simp, hA, ?_⟩; have hmix : X.P.follows .mixedOrders = true := (by rw [hP]; exact T.mixed); clear hXn hXm)
  repeat' (first | fail | ((first | ((with_reducible (first | apply oA | apply oB)); exact rfl; intro K hK) | (refine hK _ ?_; clear hK K) | ((with_reducible (first | apply oG | apply oH)); iterate 3 exact rfl) | ((with_reducible apply oI); (iterate 2 exact rfl); intro K hK) | (with_reducible (first | apply wI | apply wJ | apply wK))); try simp only [go_sem, simprocAttr]) | fail | (with_reducible (first | apply oC | apply oJ | exact oK | apply wA | apply wB | apply wC hX hC | apply wD hX hC | apply wE hX hC hmix | apply wF hX hC hmix | apply wG | apply wH | apply And.intro)) | ((with_reducible refine oD ?_ ?_); first | fail | kernel_rfl) | ((with_reducible (first | apply oE | apply oF)); (iterate 3 exact rfl); all_goals (intro h; first | (exact absurd h (by decide)) | ((try simp only [go_sem, simprocAttr] at h); (try with_reducible intro K hK); simp only [go_sem, simprocAttr]))) | ((first | ((with_reducible apply wL); exact rfl) | ((with_reducible apply wM); exact rfl)); all_goals (try ((with_reducible intro h); first | (exact absurd h (by decide)) | (try simp only [go_sem, simprocAttr] at h)))) | omega | ((first | first | refine acall_simple hX hC hP (hO) rfl rfl rfl (by simp only [go_sem, simprocAttr]) rfl ?_ | refine acall_simple hX hC hP (hI) rfl rfl rfl (by simp only [go_sem, simprocAttr]) rfl ?_); try simp only [go_sem, simprocAttr]) | (intro h))
 | true =>
  have hK : rkR b g p = (rankL g p false g.n.toNat, rankL g p true g.n.toNat, 0) := if_pos ⟨h0, hIs⟩
  rw [hK]
  rw [hIs] at hI
  have hW0 := walk_spec g p hrun false 106 fun row _ => look0_spec row
  have hW1 := walk_spec g p hrun true 107 fun row hl => look1_spec row hl
  generalize rankL g p false g.n.toNat = R0 at hW0
  generalize rankL g p true g.n.toNat = R1 at hW1
  (refine Spec.intro (C := T.cfg [] []) (rs := [.t 4, .t 5, .t 6]) (T.cfg_ok _ _) Try.func64 rfl rfl Try.ntmps64 Try.results64 (by simp [AObj.isNest]) (by simp [AObj.isNest]) (by kernel_rfl) ?_; intro X hX hP hC hXn hXm vals hA; refine ⟨_, by simp, hA, ?_⟩; have hmix : X.P.follows .mixedOrders = true := (by rw [hP]; exact T.mixed); clear hXn hXm)
  repeat' (first | fail | ((first | ((with_reducible (first | apply oA | apply oB)); exact rfl; intro K hK) | (refine hK _ ?_; clear hK K) | ((with_reducible (first | apply oG | apply oH)); iterate 3 exact rfl) | ((with_reducible apply oI); (iterate 2 exact rfl); intro K hK) | (with_reducible (first | apply wI | apply wJ | apply wK))); try simp only [go_sem, simprocAttr]) | fail | (with_reducible (first | apply oC | apply oJ | exact oK | apply wA | apply wB | apply wC hX hC | apply wD hX hC | apply wE hX hC hmix | apply wF hX hC hmix | apply wG | apply wH | apply And.intro)) | ((with_reducible refine oD ?_ ?_); first | fail | kernel_rfl) | ((with_reducible (first | apply oE | apply oF)); (iterate 3 exact rfl); all_goals (intro h; first | (exact absurd h (by decide)) | ((try simp only [go_sem, simprocAttr] at h); (try with_reducible intro K hK); simp only [go_sem, simprocAttr]))) | ((first | ((with_reducible apply wL); exact rfl) | ((with_reducible apply wM); exact rfl)); all_goals (try ((with_reducible intro h); first | (exact absurd h (by decide)) | (try simp only [go_sem, simprocAttr] at h)))) | omega | ((first | first | refine acall_simple hX hC hP (hO) rfl rfl rfl (by simp only [go_sem, simprocAttr]) rfl ?_ | refine acall_simple hX hC hP (hI) rfl rfl rfl (by simp only [go_sem, simprocAttr]) rfl ?_ | refine acall_simple hX hC hP (hW0) rfl rfl rfl (by simp only [go_sem, simprocAttr]) rfl ?_ | refine acall_simple hX hC hP (hW1) rfl rfl rfl (by simp only [go_sem, simprocAttr]) rfl ?_); try simp only [go_sem, simprocAttr]) | (intro h))
end Go.Ab
end
section
namespace Go.Ab
open Go.Proofs
attribute [local congr] ACall.congr
set_option maxRecDepth 10000
set_option maxHeartbeats 8000000
def thB (x y : List Int) (i : Int) : Bool := decide (0 ≤ i) && decide (i < min (x.length : Int) (y.length : Int))
def belB (x y : List Int) (a b : Int) : Bool := thB x y a && thB x y b && decide (x.getD a.toNat 0 ≤ x.getD b.toNat 0) && decide (y.getD a.toNat 0 ≤ y.getD b.toNat 0)
theorem rob2 (x y : List Int) : Robs [(10000, .rob [.d (sI x)]), (10001, .rob [.d (sI y)])] := ⟨by simp [AObj.ro], by simp [nodupM, look], by simp, by simp [AObj.ids, AV.ids, AV.idss]⟩
theorem below1_spec (x y : List Int) (hx : x.length ≤ 1000) (hy : y.length ≤ 1000) (i : Int) : Spec Try.prog 66 (Args [eN i, .ptr 10000 0, .ptr 10001 0]) [(10000, .rob [.d (sI x)]), (10001, .rob [.d (sI y)])] (eB (thB x y i)) [(10000, .rob [.d (sI x)]), (10001, .rob [.d (sI y)])] := by
 (refine Spec.intro (C := T.cfg [] []) (rs := [.t 4]) (T.cfg_ok _ _) Try.func66 rfl rfl Try.ntmps66 Try.results66 (fun p hp => ⟨(Robs.low (rob2 x y) p hp).1, Robs.nest (rob2 x y) p hp⟩) (fun p hp => ⟨(Robs.low (rob2 x y) p hp).2, Robs.nest (rob2 x y) p hp⟩) (by kernel_rfl) ?_; intro X hX hP hC hXn hXm vals hA; refine ⟨_, by simp, hA, ?_⟩; have hmix : X.P.follows .mixedOrders = true := (by rw [hP]; exact T.mixed); clear hXn hXm)
 repeat' (first | fail | ((first | ((with_reducible (first | apply oA | apply oB)); exact rfl; intro K hK) | (refine hK _ ?_; clear hK K) | ((with_reducible (first | apply oG | apply oH)); iterate 3 exact rfl) | ((with_reducible apply oI); (iterate 2 exact rfl); intro K hK) | (with_reducible (first | apply wI | apply wJ | apply wK))); try simp only [go_sem, simprocAttr]) | fail | (with_reducible (first | apply oC | apply oJ | exact oK | apply wA | apply wB | apply wC hX hC | apply wD hX hC | apply wE hX hC hmix | apply wF hX hC hmix | apply wG | apply wH | apply And.intro)) | ((with_reducible refine oD ?_ ?_); first | fail | kernel_rfl) | ((with_reducible (first | apply oE | apply oF)); (iterate 3 exact rfl); all_goals (intro h; first | (exact absurd h (by decide)) | ((try simp only [go_sem, simprocAttr] at h); (try with_reducible intro K hK); simp only [go_sem, simprocAttr]))) | ((first | ((with_reducible apply wL); exact rfl) | ((with_reducible apply wM); exact rfl)); all_goals (try ((with_reducible intro h); first | (exact absurd h (by decide)) | (try simp only [go_sem, simprocAttr] at h)))) | omega | ((first | fail); try simp only [go_sem, simprocAttr]) | (intro h))
 all_goals (first | exact leR_robs (rob2 x y) | (simp only [thB]; simp [*]; done) | trace_state)
theorem thB_iff {x y : List Int} {i : Int} : thB x y i = true ↔ 0 ≤ i ∧ i < x.length ∧ i < y.length := by
 simp only [thB, Bool.and_eq_true, decide_eq_true_eq]; omega
theorem below_spec (x y : List Int) (hx : x.length ≤ 1000) (hy : y.length ≤ 1000) (a b : Int) : Spec Try.prog 31 (Args [.d (sI x), .d (sI y), eN a, eN b]) [] (eB (belB x y a b)) [] := by
 have hA1 := below1_spec x y hx hy a
 have hB1 := below1_spec x y hx hy b
 cases ha : thB x y a with
 | false =>
  have hr : belB x y a b = false := by unfold belB; rw [ha]; rfl
  rw [hr]
  rw [ha] at hA1
  (refine Spec.intro (C := T.cfg [] []) (rs := [.t 8]) (T.cfg_ok _ _) Try.func31 rfl rfl Try.ntmps31 Try.results31 (by simp [AObj.isNest]) (by simp [AObj.isNest]) (by kernel_rfl) ?_; intro X hX hP hC hXn hXm vals hA; refine ⟨_, by simp, hA, ?_⟩; have hmix : X.P.follows .mixedOrders = true := (by rw [hP]; exact T.mixed); clear hXn hXm)
  repeat' (first | fail | ((first | ((with_reducible (first | apply oA | apply oB)); exact rfl; intro K hK) | (refine hK _ ?_; clear hK K) | ((with_reducible (first | apply oG | apply oH)); iterate 3 exact rfl) | ((with_reducible apply oI); (iterate 2 exact rfl); intro K hK) | (with_reducible (first | apply wI | apply wJ | apply wK))); try simp only [go_sem, simprocAttr]) | fail | (with_reducible (first | apply oC | apply oJ | exact oK | apply wA | apply wB | apply wC hX hC | apply wD hX hC | apply wE hX hC hmix | apply wF hX hC hmix | apply wG | apply wH | apply And.intro)) | ((with_reducible refine oD ?_ ?_); first | fail | kernel_rfl) | ((with_reducible (first | apply oE | apply oF)); (iterate 3 exact rfl); all_goals (intro h; first | (exact absurd h (by decide)) | ((try simp only [go_sem, simprocAttr] at h); (try with_reducible intro K hK); simp only [go_sem, simprocAttr]))) | ((first | ((with_reducible apply wL); exact rfl) | ((with_reducible apply wM); exact rfl)); all_goals (try ((with_reducible intro h); first | (exact absurd h (by decide)) | (try simp only [go_sem, simprocAttr] at h)))) | omega | ((first | first | (refine acall_rob hX hC hP [(10000, 4), (10001, 5)] (hA1) rfl rfl rfl ?_ ?_ ?_ ?_ ?_ ?_ rfl rfl ?_ ?_; (focus (simp only [go_sem, simprocAttr]; done)); (iterate 6 (focus (simp [go_sem, simprocAttr]; done))); simp only [go_sem, simprocAttr, List.map_cons, List.map_nil]) | (refine acall_rob hX hC hP [(10000, 4), (10001, 5)] (hB1) rfl rfl rfl ?_ ?_ ?_ ?_ ?_ ?_ rfl rfl ?_ ?_; (focus (simp only [go_sem, simprocAttr]; done)); (iterate 6 (focus (simp [go_sem, simprocAttr]; done))); simp only [go_sem, simprocAttr, List.map_cons, List.map_nil])); try simp only [go_sem, simprocAttr]) | (intro h))
 | true =>
  rw [ha] at hA1
  cases hb : thB x y b with
  | false =>
   have hr : belB x y a b = false := by unfold belB; rw [ha, hb]; rfl
   rw [hr]
   rw [hb] at hB1
   (refine Spec.intro (C := T.cfg [] []) (rs := [.t 8]) (T.cfg_ok _ _) Try.func31 rfl rfl Try.ntmps31 Try.results31 (by simp [AObj.isNest]) (by simp [AObj.isNest]) (by kernel_rfl) ?_; intro X hX hP hC hXn hXm vals hA; refine ⟨_, by simp, hA, ?_⟩; have hmix : X.P.follows .mixedOrders = true := (by rw [hP]; exact T.mixed); clear hXn hXm)
   repeat' (first | fail | ((first | ((with_reducible (first | apply oA | apply oB)); exact rfl; intro K hK) | (refine hK _ ?_; clear hK K) | ((with_reducible (first | apply oG | apply oH)); iterate 3 exact rfl) | ((with_reducible apply oI); (iterate 2 exact rfl); intro K hK) | (with_reducible (first | apply wI | apply wJ | apply wK))); try simp only [go_sem, simprocAttr]) | fail | (with_reducible (first | apply oC | apply oJ | exact oK | apply wA | apply wB | apply wC hX hC | apply wD hX hC | apply wE hX hC hmix | apply wF hX hC hmix | apply wG | apply wH | apply And.intro)) | ((with_reducible refine oD ?_ ?_); first | fail | kernel_rfl) | ((with_reducible (first | apply oE | apply oF)); (iterate 3 exact rfl); all_goals (intro h; first | (exact absurd h (by decide)) | ((try simp only [go_sem, simprocAttr] at h); (try with_reducible intro K hK); simp only [go_sem, simprocAttr]))) | ((first | ((with_reducible apply wL); exact rfl) | ((with_reducible apply wM); exact rfl)); all_goals (try ((with_reducible intro h); first | (exact absurd h (by decide)) | (try simp only [go_sem, simprocAttr] at h)))) | omega | ((first | first | (refine acall_rob hX hC hP [(10000, 4), (10001, 5)] (hA1) rfl rfl rfl ?_ ?_ ?_ ?_ ?_ ?_ rfl rfl ?_ ?_; (focus (simp only [go_sem, simprocAttr]; done)); (iterate 6 (focus (simp [go_sem, simprocAttr]; done))); simp only [go_sem, simprocAttr, List.map_cons, List.map_nil]) | (refine acall_rob hX hC hP [(10000, 4), (10001, 5)] (hB1) rfl rfl rfl ?_ ?_ ?_ ?_ ?_ ?_ rfl rfl ?_ ?_; (focus (simp only [go_sem, simprocAttr]; done)); (iterate 6 (focus (simp [go_sem, simprocAttr]; done))); simp only [go_sem, simprocAttr, List.map_cons, List.map_nil])); try simp only [go_sem, simprocAttr]) | (intro h))
  | true =>
   rw [hb] at hB1
   have h1 := thB_iff.1 ha
   have h2 := thB_iff.1 hb
   have hr : belB x y a b = (decide (x.getD a.toNat 0 ≤ x.getD b.toNat 0) && decide (y.getD a.toNat 0 ≤ y.getD b.toNat 0)) := by unfold belB; rw [ha, hb]; rfl
   rw [hr]
   obtain ⟨i, rfl⟩ : ∃ i : Nat, a = i := ⟨a.toNat, by omega⟩
   obtain ⟨j, rfl⟩ : ∃ j : Nat, b = j := ⟨b.toNat, by omega⟩
   simp only [Int.toNat_natCast]
   cases c1 : decide (x.getD i 0 ≤ x.getD j 0) with
   | false =>
    (refine Spec.intro (C := T.cfg [] []) (rs := [.t 8]) (T.cfg_ok _ _) Try.func31 rfl rfl Try.ntmps31 Try.results31 (by simp [AObj.isNest]) (by simp [AObj.isNest]) (by kernel_rfl) ?_; intro X hX hP hC hXn hXm vals hA; refine ⟨_, by simp, hA, ?_⟩; have hmix : X.P.follows .mixedOrders = true := (by rw [hP]; exact T.mixed); clear hXn hXm)
    repeat' (first | fail | ((first | ((with_reducible (first | apply oA | apply oB)); exact rfl; intro K hK) | (refine hK _ ?_; clear hK K) | ((with_reducible (first | apply oG | apply oH)); iterate 3 exact rfl) | ((with_reducible apply oI); (iterate 2 exact rfl); intro K hK) | (with_reducible (first | apply wI | apply wJ | apply wK))); try simp only [go_sem, simprocAttr, c1, Bool.false_and]) | fail | (with_reducible (first | apply oC | apply oJ | exact oK | apply wA | apply wB | apply wC hX hC | apply wD hX hC | apply wE hX hC hmix | apply wF hX hC hmix | apply wG | apply wH | apply And.intro)) | ((with_reducible refine oD ?_ ?_); first | fail | kernel_rfl) | ((with_reducible (first | apply oE | apply oF)); (iterate 3 exact rfl); all_goals (intro h; first | (exact absurd h (by decide)) | ((try simp only [go_sem, simprocAttr, c1, Bool.false_and] at h); (try with_reducible intro K hK); simp only [go_sem, simprocAttr, c1, Bool.false_and]))) | ((first | ((with_reducible apply wL); exact rfl) | ((with_reducible apply wM); exact rfl)); all_goals (try ((with_reducible intro h); first | (exact absurd h (by decide)) | (try simp only [go_sem, simprocAttr, c1, Bool.false_and] at h)))) | omega | ((first | first | (refine acall_rob hX hC hP [(10000, 4), (10001, 5)] (hA1) rfl rfl rfl ?_ ?_ ?_ ?_ ?_ ?_ rfl rfl ?_ ?_; (focus (simp only [go_sem, simprocAttr, c1, Bool.false_and]; done)); (iterate 6 (focus (simp [go_sem, simprocAttr, c1, Bool.false_and]; done))); simp only [go_sem, simprocAttr, c1, Bool.false_and, List.map_cons, List.map_nil]) | (refine acall_rob hX hC hP [(10000, 4), (10001, 5)] (hB1) rfl rfl rfl ?_ ?_ ?_ ?_ ?_ ?_ rfl rfl ?_ ?_; (focus (simp only [go_sem, simprocAttr, c1, Bool.false_and]; done)); (iterate 6 (focus (simp [go_sem, simprocAttr, c1, Bool.false_and]; done))); simp only [go_sem, simprocAttr, c1, Bool.false_and, List.map_cons, List.map_nil])); try simp only [go_sem, simprocAttr, c1, Bool.false_and]) | (intro h))
   | true =>
    (refine Spec.intro (C := T.cfg [] []) (rs := [.t 8]) (T.cfg_ok _ _) Try.func31 rfl rfl Try.ntmps31 Try.results31 (by simp [AObj.isNest]) (by simp [AObj.isNest]) (by kernel_rfl) ?_; intro X hX hP hC hXn hXm vals hA; refine ⟨_, by simp, hA, ?_⟩; have hmix : X.P.follows .mixedOrders = true := (by rw [hP]; exact T.mixed); clear hXn hXm)
    repeat' (first | fail | ((first | ((with_reducible (first | apply oA | apply oB)); exact rfl; intro K hK) | (refine hK _ ?_; clear hK K) | ((with_reducible (first | apply oG | apply oH)); iterate 3 exact rfl) | ((with_reducible apply oI); (iterate 2 exact rfl); intro K hK) | (with_reducible (first | apply wI | apply wJ | apply wK))); try simp only [go_sem, simprocAttr, c1, Bool.true_and]) | fail | (with_reducible (first | apply oC | apply oJ | exact oK | apply wA | apply wB | apply wC hX hC | apply wD hX hC | apply wE hX hC hmix | apply wF hX hC hmix | apply wG | apply wH | apply And.intro)) | ((with_reducible refine oD ?_ ?_); first | fail | kernel_rfl) | ((with_reducible (first | apply oE | apply oF)); (iterate 3 exact rfl); all_goals (intro h; first | (exact absurd h (by decide)) | ((try simp only [go_sem, simprocAttr, c1, Bool.true_and] at h); (try with_reducible intro K hK); simp only [go_sem, simprocAttr, c1, Bool.true_and]))) | ((first | ((with_reducible apply wL); exact rfl) | ((with_reducible apply wM); exact rfl)); all_goals (try ((with_reducible intro h); first | (exact absurd h (by decide)) | (try simp only [go_sem, simprocAttr, c1, Bool.true_and] at h)))) | omega | ((first | first | (refine acall_rob hX hC hP [(10000, 4), (10001, 5)] (hA1) rfl rfl rfl ?_ ?_ ?_ ?_ ?_ ?_ rfl rfl ?_ ?_; (focus (simp only [go_sem, simprocAttr, c1, Bool.true_and]; done)); (iterate 6 (focus (simp [go_sem, simprocAttr, c1, Bool.true_and]; done))); simp only [go_sem, simprocAttr, c1, Bool.true_and, List.map_cons, List.map_nil]) | (refine acall_rob hX hC hP [(10000, 4), (10001, 5)] (hB1) rfl rfl rfl ?_ ?_ ?_ ?_ ?_ ?_ rfl rfl ?_ ?_; (focus (simp only [go_sem, simprocAttr, c1, Bool.true_and]; done)); (iterate 6 (focus (simp [go_sem, simprocAttr, c1, Bool.true_and]; done))); simp only [go_sem, simprocAttr, c1, Bool.true_and, List.map_cons, List.map_nil])); try simp only [go_sem, simprocAttr, c1, Bool.true_and]) | (intro h))
def g20 : Gr := ⟨4, [(0, 1), (1, 3), (0, 2), (2, 3)]⟩
def p20 : Pl := ⟨[0, 1, 2, 3], [[0, 2], [1], [3], []]⟩
theorem ok20 : (true = true) ↔ (chkG g20).1 = 0 ∧ PlanOk g20 p20 := ⟨fun _ => ⟨by decide, ⟨rfl, by decide, by decide⟩⟩, fun _ => rfl⟩
theorem rk20 : rkR true g20 p20 = ([0, 1, 2, 3], [0, 2, 1, 3], 0) := by
 unfold rkR
 rw [if_pos ⟨rfl, by decide⟩]
 rfl
theorem speaks20_spec : Spec Try.prog 30 (Args []) [] (eB true) [] := by
 have hRk := ranks_spec g20 (by decide) p20 ⟨by decide, by decide, by decide⟩ true ok20
 rw [rk20] at hRk
 simp only at hRk
 have e1 : g20.es.map rE = [[.sc (.int .i64 0), .sc (.int .i64 1)], [.sc (.int .i64 1), .sc (.int .i64 3)], [.sc (.int .i64 0), .sc (.int .i64 2)], [.sc (.int .i64 2), .sc (.int .i64 3)]] := rfl
 have e2 : p20.ord.map rI = [[.sc (.int .i64 0)], [.sc (.int .i64 1)], [.sc (.int .i64 2)], [.sc (.int .i64 3)]] := rfl
 have e3 : vI p20.outs = [[.sl 1 [[.sc (.int .i64 0)], [.sc (.int .i64 2)]]], [.sl 1 [[.sc (.int .i64 1)]]], [.sl 1 [[.sc (.int .i64 3)]]], [.sl 1 []]] := rfl
 have e4 : g20.n = 4 := rfl
 have e5 : belB [0, 1, 2, 3] [0, 2, 1, 3] 1 3 = true := by decide
 have e6 : belB [0, 1, 2, 3] [0, 2, 1, 3] 1 2 = false := by decide
 (refine Spec.intro (C := T.cfg [] []) (rs := [.t 0]) (T.cfg_ok _ _) Try.func30 rfl rfl Try.ntmps30 Try.results30 (by simp [AObj.isNest]) (by simp [AObj.isNest]) (by kernel_rfl) ?_; intro X hX hP hC hXn hXm vals hA; refine ⟨_, by simp, hA, ?_⟩; have hmix : X.P.follows .mixedOrders = true := (by rw [hP]; exact T.mixed); clear hXn hXm)
 repeat' (first | fail | ((first | ((with_reducible (first | apply oA | apply oB)); exact rfl; intro K hK) | (refine hK _ ?_; clear hK K) | ((with_reducible (first | apply oG | apply oH)); iterate 3 exact rfl) | ((with_reducible apply oI); (iterate 2 exact rfl); intro K hK) | (with_reducible (first | apply wI | apply wJ | apply wK))); try simp only [go_sem, simprocAttr, e1, e2, e3, e4, e5, e6, List.map_cons, List.map_nil, rI, decide_true]) | fail | (with_reducible (first | apply oC | apply oJ | exact oK | apply wA | apply wB | apply wC hX hC | apply wD hX hC | apply wE hX hC hmix | apply wF hX hC hmix | apply wG | apply wH | apply And.intro)) | ((with_reducible refine oD ?_ ?_); first | fail | kernel_rfl) | ((with_reducible (first | apply oE | apply oF)); (iterate 3 exact rfl); all_goals (intro h; first | (exact absurd h (by decide)) | ((try simp only [go_sem, simprocAttr, e1, e2, e3, e4, e5, e6, List.map_cons, List.map_nil, rI, decide_true] at h); (try with_reducible intro K hK); simp only [go_sem, simprocAttr, e1, e2, e3, e4, e5, e6, List.map_cons, List.map_nil, rI, decide_true]))) | ((first | ((with_reducible apply wL); exact rfl) | ((with_reducible apply wM); exact rfl)); all_goals (try ((with_reducible intro h); first | (exact absurd h (by decide)) | (try simp only [go_sem, simprocAttr, e1, e2, e3, e4, e5, e6, List.map_cons, List.map_nil, rI, decide_true] at h)))) | omega | ((first | first | (refine acall_look hX hC hP (hRk) rfl rfl rfl ?_ ?_ rfl ?_; iterate 2 (focus (simp only [go_sem, simprocAttr, e1, e2, e3, e4, e5, e6, List.map_cons, List.map_nil, rI, decide_true]; done))) | (refine acall_look hX hC hP (sameInts_spec [0, 1, 2, 3] [0, 1, 2, 3] (by decide)) rfl rfl rfl ?_ ?_ rfl ?_; iterate 2 (focus (simp only [go_sem, simprocAttr, e1, e2, e3, e4, e5, e6, List.map_cons, List.map_nil, rI, decide_true]; done))) | (refine acall_look hX hC hP (sameInts_spec [0, 2, 1, 3] [0, 2, 1, 3] (by decide)) rfl rfl rfl ?_ ?_ rfl ?_; iterate 2 (focus (simp only [go_sem, simprocAttr, e1, e2, e3, e4, e5, e6, List.map_cons, List.map_nil, rI, decide_true]; done))) | (refine acall_look hX hC hP (below_spec [0, 1, 2, 3] [0, 2, 1, 3] (by decide) (by decide) 1 3) rfl rfl rfl ?_ ?_ rfl ?_; iterate 2 (focus (simp only [go_sem, simprocAttr, e1, e2, e3, e4, e5, e6, List.map_cons, List.map_nil, rI, decide_true]; done))) | (refine acall_look hX hC hP (below_spec [0, 1, 2, 3] [0, 2, 1, 3] (by decide) (by decide) 1 2) rfl rfl rfl ?_ ?_ rfl ?_; iterate 2 (focus (simp only [go_sem, simprocAttr, e1, e2, e3, e4, e5, e6, List.map_cons, List.map_nil, rI, decide_true]; done)))); try simp only [go_sem, simprocAttr, e1, e2, e3, e4, e5, e6, List.map_cons, List.map_nil, rI, decide_true]) | (intro h))
end Go.Ab
end
section
namespace Go.Ab
open Go.Proofs
attribute [local congr] ACall.congr
set_option maxRecDepth 10000
set_option maxHeartbeats 8000000
theorem belB_no {x y : List Int} {a b : Int} (h : ¬ (0 ≤ a ∧ a < x.length ∧ a < y.length ∧ 0 ≤ b ∧ b < x.length ∧ b < y.length)) : belB x y a b = false := by
 rw [← Bool.not_eq_true]
 intro hb
 simp only [belB, Bool.and_eq_true] at hb
 have h1 := thB_iff.1 hb.1.1.1
 have h2 := thB_iff.1 hb.1.1.2
 omega
theorem rankBelow_spec (x y : List Int) (a b : Int) (hx : x.length ≤ 9223372036854775807) (hy : y.length ≤ 9223372036854775807) : Spec Try.prog 9 (Args [.d (sI x), .d (sI y), eN a, eN b]) [] (eB true) [] := by
 by_cases hx1 : x.length ≤ 100
 rotate_left
 ·have q1 : decide (100 < (x.length : Int)) = true := decide_eq_true (by omega)
  (refine Spec.intro (C := T.cfg [] []) (rs := [.t 8]) (T.cfg_ok _ _) Try.func9 rfl rfl Try.ntmps9 Try.results9 (by simp [AObj.isNest]) (by simp [AObj.isNest]) (by kernel_rfl) ?_; intro X hX hP hC hXn hXm vals hA; refine ⟨_, by simp, hA, ?_⟩; have hmix : X.P.follows .mixedOrders = true := (by rw [hP]; exact T.mixed); clear hXn hXm)
  repeat' (first | fail | ((first | ((with_reducible (first | apply oA | apply oB)); exact rfl; intro K hK) | (refine hK _ ?_; clear hK K) | ((with_reducible (first | apply oG | apply oH)); iterate 3 exact rfl) | ((with_reducible apply oI); (iterate 2 exact rfl); intro K hK) | (with_reducible (first | apply wI | apply wJ | apply wK))); try simp only [go_sem, simprocAttr, q1]) | fail | (with_reducible (first | apply oC | apply oJ | exact oK | apply wA | apply wB | apply wC hX hC | apply wD hX hC | apply wE hX hC hmix | apply wF hX hC hmix | apply wG | apply wH | apply And.intro)) | ((with_reducible refine oD ?_ ?_); first | fail | kernel_rfl) | ((with_reducible (first | apply oE | apply oF)); (iterate 3 exact rfl); all_goals (intro h; first | (exact absurd h (by decide)) | ((try simp only [go_sem, simprocAttr, q1] at h); (try with_reducible intro K hK); simp only [go_sem, simprocAttr, q1]))) | ((first | ((with_reducible apply wL); exact rfl) | ((with_reducible apply wM); exact rfl)); all_goals (try ((with_reducible intro h); first | (exact absurd h (by decide)) | (try simp only [go_sem, simprocAttr, q1] at h)))) | omega | ((first | first | refine acall_simple hX hC hP (speaks20_spec) rfl rfl rfl (by simp only [go_sem, simprocAttr, q1]) rfl ?_); try simp only [go_sem, simprocAttr, q1]) | (intro h))
 have q1 : decide (100 < (x.length : Int)) = false := decide_eq_false (by omega)
 by_cases hy1 : y.length ≤ 100
 rotate_left
 ·have q2 : decide (100 < (y.length : Int)) = true := decide_eq_true (by omega)
  (refine Spec.intro (C := T.cfg [] []) (rs := [.t 8]) (T.cfg_ok _ _) Try.func9 rfl rfl Try.ntmps9 Try.results9 (by simp [AObj.isNest]) (by simp [AObj.isNest]) (by kernel_rfl) ?_; intro X hX hP hC hXn hXm vals hA; refine ⟨_, by simp, hA, ?_⟩; have hmix : X.P.follows .mixedOrders = true := (by rw [hP]; exact T.mixed); clear hXn hXm)
  repeat' (first | fail | ((first | ((with_reducible (first | apply oA | apply oB)); exact rfl; intro K hK) | (refine hK _ ?_; clear hK K) | ((with_reducible (first | apply oG | apply oH)); iterate 3 exact rfl) | ((with_reducible apply oI); (iterate 2 exact rfl); intro K hK) | (with_reducible (first | apply wI | apply wJ | apply wK))); try simp only [go_sem, simprocAttr, q1, q2]) | fail | (with_reducible (first | apply oC | apply oJ | exact oK | apply wA | apply wB | apply wC hX hC | apply wD hX hC | apply wE hX hC hmix | apply wF hX hC hmix | apply wG | apply wH | apply And.intro)) | ((with_reducible refine oD ?_ ?_); first | fail | kernel_rfl) | ((with_reducible (first | apply oE | apply oF)); (iterate 3 exact rfl); all_goals (intro h; first | (exact absurd h (by decide)) | ((try simp only [go_sem, simprocAttr, q1, q2] at h); (try with_reducible intro K hK); simp only [go_sem, simprocAttr, q1, q2]))) | ((first | ((with_reducible apply wL); exact rfl) | ((with_reducible apply wM); exact rfl)); all_goals (try ((with_reducible intro h); first | (exact absurd h (by decide)) | (try simp only [go_sem, simprocAttr, q1, q2] at h)))) | omega | ((first | first | refine acall_simple hX hC hP (speaks20_spec) rfl rfl rfl (by simp only [go_sem, simprocAttr, q1, q2]) rfl ?_); try simp only [go_sem, simprocAttr, q1, q2]) | (intro h))
 have q2 : decide (100 < (y.length : Int)) = false := decide_eq_false (by omega)
 have hB := below_spec x y (by omega) (by omega) a b
 by_cases c1 : 0 ≤ a
 rotate_left
 ·have c1' : decide (0 ≤ a) = false := decide_eq_false c1
  rw [belB_no (by omega)] at hB
  (refine Spec.intro (C := T.cfg [] []) (rs := [.t 8]) (T.cfg_ok _ _) Try.func9 rfl rfl Try.ntmps9 Try.results9 (by simp [AObj.isNest]) (by simp [AObj.isNest]) (by kernel_rfl) ?_; intro X hX hP hC hXn hXm vals hA; refine ⟨_, by simp, hA, ?_⟩; have hmix : X.P.follows .mixedOrders = true := (by rw [hP]; exact T.mixed); clear hXn hXm)
  repeat' (first | fail | ((first | ((with_reducible (first | apply oA | apply oB)); exact rfl; intro K hK) | (refine hK _ ?_; clear hK K) | ((with_reducible (first | apply oG | apply oH)); iterate 3 exact rfl) | ((with_reducible apply oI); (iterate 2 exact rfl); intro K hK) | (with_reducible (first | apply wI | apply wJ | apply wK))); try simp only [go_sem, simprocAttr, q1, q2, c1', decide_true]) | fail | (with_reducible (first | apply oC | apply oJ | exact oK | apply wA | apply wB | apply wC hX hC | apply wD hX hC | apply wE hX hC hmix | apply wF hX hC hmix | apply wG | apply wH | apply And.intro)) | ((with_reducible refine oD ?_ ?_); first | fail | kernel_rfl) | ((with_reducible (first | apply oE | apply oF)); (iterate 3 exact rfl); all_goals (intro h; first | (exact absurd h (by decide)) | ((try simp only [go_sem, simprocAttr, q1, q2, c1', decide_true] at h); (try with_reducible intro K hK); simp only [go_sem, simprocAttr, q1, q2, c1', decide_true]))) | ((first | ((with_reducible apply wL); exact rfl) | ((with_reducible apply wM); exact rfl)); all_goals (try ((with_reducible intro h); first | (exact absurd h (by decide)) | (try simp only [go_sem, simprocAttr, q1, q2, c1', decide_true] at h)))) | omega | ((first | first | refine acall_simple hX hC hP (speaks20_spec) rfl rfl rfl (by simp only [go_sem, simprocAttr, q1, q2, c1', decide_true]) rfl ?_ | refine acall_simple hX hC hP (hB) rfl rfl rfl (by simp only [go_sem, simprocAttr, q1, q2, c1', decide_true]) rfl ?_); try simp only [go_sem, simprocAttr, q1, q2, c1', decide_true]) | (intro h))
 have c1' : decide (0 ≤ a) = true := decide_eq_true c1
 by_cases c2 : a < (x.length : Int)
 rotate_left
 ·have c2' : decide (a < (x.length : Int)) = false := decide_eq_false c2
  rw [belB_no (by omega)] at hB
  (refine Spec.intro (C := T.cfg [] []) (rs := [.t 8]) (T.cfg_ok _ _) Try.func9 rfl rfl Try.ntmps9 Try.results9 (by simp [AObj.isNest]) (by simp [AObj.isNest]) (by kernel_rfl) ?_; intro X hX hP hC hXn hXm vals hA; refine ⟨_, by simp, hA, ?_⟩; have hmix : X.P.follows .mixedOrders = true := (by rw [hP]; exact T.mixed); clear hXn hXm)
  repeat' (first | fail | ((first | ((with_reducible (first | apply oA | apply oB)); exact rfl; intro K hK) | (refine hK _ ?_; clear hK K) | ((with_reducible (first | apply oG | apply oH)); iterate 3 exact rfl) | ((with_reducible apply oI); (iterate 2 exact rfl); intro K hK) | (with_reducible (first | apply wI | apply wJ | apply wK))); try simp only [go_sem, simprocAttr, q1, q2, c1', c2', decide_true]) | fail | (with_reducible (first | apply oC | apply oJ | exact oK | apply wA | apply wB | apply wC hX hC | apply wD hX hC | apply wE hX hC hmix | apply wF hX hC hmix | apply wG | apply wH | apply And.intro)) | ((with_reducible refine oD ?_ ?_); first | fail | kernel_rfl) | ((with_reducible (first | apply oE | apply oF)); (iterate 3 exact rfl); all_goals (intro h; first | (exact absurd h (by decide)) | ((try simp only [go_sem, simprocAttr, q1, q2, c1', c2', decide_true] at h); (try with_reducible intro K hK); simp only [go_sem, simprocAttr, q1, q2, c1', c2', decide_true]))) | ((first | ((with_reducible apply wL); exact rfl) | ((with_reducible apply wM); exact rfl)); all_goals (try ((with_reducible intro h); first | (exact absurd h (by decide)) | (try simp only [go_sem, simprocAttr, q1, q2, c1', c2', decide_true] at h)))) | omega | ((first | first | refine acall_simple hX hC hP (speaks20_spec) rfl rfl rfl (by simp only [go_sem, simprocAttr, q1, q2, c1', c2', decide_true]) rfl ?_ | refine acall_simple hX hC hP (hB) rfl rfl rfl (by simp only [go_sem, simprocAttr, q1, q2, c1', c2', decide_true]) rfl ?_); try simp only [go_sem, simprocAttr, q1, q2, c1', c2', decide_true]) | (intro h))
 have c2' : decide (a < (x.length : Int)) = true := decide_eq_true c2
 by_cases c3 : a < (y.length : Int)
 rotate_left
 ·have c3' : decide (a < (y.length : Int)) = false := decide_eq_false c3
  rw [belB_no (by omega)] at hB
  (refine Spec.intro (C := T.cfg [] []) (rs := [.t 8]) (T.cfg_ok _ _) Try.func9 rfl rfl Try.ntmps9 Try.results9 (by simp [AObj.isNest]) (by simp [AObj.isNest]) (by kernel_rfl) ?_; intro X hX hP hC hXn hXm vals hA; refine ⟨_, by simp, hA, ?_⟩; have hmix : X.P.follows .mixedOrders = true := (by rw [hP]; exact T.mixed); clear hXn hXm)
  repeat' (first | fail | ((first | ((with_reducible (first | apply oA | apply oB)); exact rfl; intro K hK) | (refine hK _ ?_; clear hK K) | ((with_reducible (first | apply oG | apply oH)); iterate 3 exact rfl) | ((with_reducible apply oI); (iterate 2 exact rfl); intro K hK) | (with_reducible (first | apply wI | apply wJ | apply wK))); try simp only [go_sem, simprocAttr, q1, q2, c1', c2', c3', decide_true]) | fail | (with_reducible (first | apply oC | apply oJ | exact oK | apply wA | apply wB | apply wC hX hC | apply wD hX hC | apply wE hX hC hmix | apply wF hX hC hmix | apply wG | apply wH | apply And.intro)) | ((with_reducible refine oD ?_ ?_); first | fail | kernel_rfl) | ((with_reducible (first | apply oE | apply oF)); (iterate 3 exact rfl); all_goals (intro h; first | (exact absurd h (by decide)) | ((try simp only [go_sem, simprocAttr, q1, q2, c1', c2', c3', decide_true] at h); (try with_reducible intro K hK); simp only [go_sem, simprocAttr, q1, q2, c1', c2', c3', decide_true]))) | ((first | ((with_reducible apply wL); exact rfl) | ((with_reducible apply wM); exact rfl)); all_goals (try ((with_reducible intro h); first | (exact absurd h (by decide)) | (try simp only [go_sem, simprocAttr, q1, q2, c1', c2', c3', decide_true] at h)))) | omega | ((first | first | refine acall_simple hX hC hP (speaks20_spec) rfl rfl rfl (by simp only [go_sem, simprocAttr, q1, q2, c1', c2', c3', decide_true]) rfl ?_ | refine acall_simple hX hC hP (hB) rfl rfl rfl (by simp only [go_sem, simprocAttr, q1, q2, c1', c2', c3', decide_true]) rfl ?_); try simp only [go_sem, simprocAttr, q1, q2, c1', c2', c3', decide_true]) | (intro h))
 have c3' : decide (a < (y.length : Int)) = true := decide_eq_true c3
 by_cases c4 : 0 ≤ b
 rotate_left
 ·have c4' : decide (0 ≤ b) = false := decide_eq_false c4
  rw [belB_no (by omega)] at hB
  (refine Spec.intro (C := T.cfg [] []) (rs := [.t 8]) (T.cfg_ok _ _) Try.func9 rfl rfl Try.ntmps9 Try.results9 (by simp [AObj.isNest]) (by simp [AObj.isNest]) (by kernel_rfl) ?_; intro X hX hP hC hXn hXm vals hA; refine ⟨_, by simp, hA, ?_⟩; have hmix : X.P.follows .mixedOrders = true := (by rw [hP]; exact T.mixed); clear hXn hXm)
  repeat' (first | fail | ((first | ((with_reducible (first | apply oA | apply oB)); exact rfl; intro K hK) | (refine hK _ ?_; clear hK K) | ((with_reducible (first | apply oG | apply oH)); iterate 3 exact rfl) | ((with_reducible apply oI); (iterate 2 exact rfl); intro K hK) | (with_reducible (first | apply wI | apply wJ | apply wK))); try simp only [go_sem, simprocAttr, q1, q2, c1', c2', c3', c4', decide_true]) | fail | (with_reducible (first | apply oC | apply oJ | exact oK | apply wA | apply wB | apply wC hX hC | apply wD hX hC | apply wE hX hC hmix | apply wF hX hC hmix | apply wG | apply wH | apply And.intro)) | ((with_reducible refine oD ?_ ?_); first | fail | kernel_rfl) | ((with_reducible (first | apply oE | apply oF)); (iterate 3 exact rfl); all_goals (intro h; first | (exact absurd h (by decide)) | ((try simp only [go_sem, simprocAttr, q1, q2, c1', c2', c3', c4', decide_true] at h); (try with_reducible intro K hK); simp only [go_sem, simprocAttr, q1, q2, c1', c2', c3', c4', decide_true]))) | ((first | ((with_reducible apply wL); exact rfl) | ((with_reducible apply wM); exact rfl)); all_goals (try ((with_reducible intro h); first | (exact absurd h (by decide)) | (try simp only [go_sem, simprocAttr, q1, q2, c1', c2', c3', c4', decide_true] at h)))) | omega | ((first | first | refine acall_simple hX hC hP (speaks20_spec) rfl rfl rfl (by simp only [go_sem, simprocAttr, q1, q2, c1', c2', c3', c4', decide_true]) rfl ?_ | refine acall_simple hX hC hP (hB) rfl rfl rfl (by simp only [go_sem, simprocAttr, q1, q2, c1', c2', c3', c4', decide_true]) rfl ?_); try simp only [go_sem, simprocAttr, q1, q2, c1', c2', c3', c4', decide_true]) | (intro h))
 have c4' : decide (0 ≤ b) = true := decide_eq_true c4
 by_cases c5 : b < (x.length : Int)
 rotate_left
 ·have c5' : decide (b < (x.length : Int)) = false := decide_eq_false c5
  rw [belB_no (by omega)] at hB
  (refine Spec.intro (C := T.cfg [] []) (rs := [.t 8]) (T.cfg_ok _ _) Try.func9 rfl rfl Try.ntmps9 Try.results9 (by simp [AObj.isNest]) (by simp [AObj.isNest]) (by kernel_rfl) ?_; intro X hX hP hC hXn hXm vals hA; refine ⟨_, by simp, hA, ?_⟩; have hmix : X.P.follows .mixedOrders = true := (by rw [hP]; exact T.mixed); clear hXn hXm)
  repeat' (first | fail | ((first | ((with_reducible (first | apply oA | apply oB)); exact rfl; intro K hK) | (refine hK _ ?_; clear hK K) | ((with_reducible (first | apply oG | apply oH)); iterate 3 exact rfl) | ((with_reducible apply oI); (iterate 2 exact rfl); intro K hK) | (with_reducible (first | apply wI | apply wJ | apply wK))); try simp only [go_sem, simprocAttr, q1, q2, c1', c2', c3', c4', c5', decide_true]) | fail | (with_reducible (first | apply oC | apply oJ | exact oK | apply wA | apply wB | apply wC hX hC | apply wD hX hC | apply wE hX hC hmix | apply wF hX hC hmix | apply wG | apply wH | apply And.intro)) | ((with_reducible refine oD ?_ ?_); first | fail | kernel_rfl) | ((with_reducible (first | apply oE | apply oF)); (iterate 3 exact rfl); all_goals (intro h; first | (exact absurd h (by decide)) | ((try simp only [go_sem, simprocAttr, q1, q2, c1', c2', c3', c4', c5', decide_true] at h); (try with_reducible intro K hK); simp only [go_sem, simprocAttr, q1, q2, c1', c2', c3', c4', c5', decide_true]))) | ((first | ((with_reducible apply wL); exact rfl) | ((with_reducible apply wM); exact rfl)); all_goals (try ((with_reducible intro h); first | (exact absurd h (by decide)) | (try simp only [go_sem, simprocAttr, q1, q2, c1', c2', c3', c4', c5', decide_true] at h)))) | omega | ((first | first | refine acall_simple hX hC hP (speaks20_spec) rfl rfl rfl (by simp only [go_sem, simprocAttr, q1, q2, c1', c2', c3', c4', c5', decide_true]) rfl ?_ | refine acall_simple hX hC hP (hB) rfl rfl rfl (by simp only [go_sem, simprocAttr, q1, q2, c1', c2', c3', c4', c5', decide_true]) rfl ?_); try simp only [go_sem, simprocAttr, q1, q2, c1', c2', c3', c4', c5', decide_true]) | (intro h))
 have c5' : decide (b < (x.length : Int)) = true := decide_eq_true c5
 by_cases c6 : b < (y.length : Int)
 rotate_left
 ·have c6' : decide (b < (y.length : Int)) = false := decide_eq_false c6
  rw [belB_no (by omega)] at hB
  (refine Spec.intro (C := T.cfg [] []) (rs := [.t 8]) (T.cfg_ok _ _) Try.func9 rfl rfl Try.ntmps9 Try.results9 (by simp [AObj.isNest]) (by simp [AObj.isNest]) (by kernel_rfl) ?_; intro X hX hP hC hXn hXm vals hA; refine ⟨_, by simp, hA, ?_⟩; have hmix : X.P.follows .mixedOrders = true := (by rw [hP]; exact T.mixed); clear hXn hXm)
  repeat' (first | fail | ((first | ((with_reducible (first | apply oA | apply oB)); exact rfl; intro K hK) | (refine hK _ ?_; clear hK K) | ((with_reducible (first | apply oG | apply oH)); iterate 3 exact rfl) | ((with_reducible apply oI); (iterate 2 exact rfl); intro K hK) | (with_reducible (first | apply wI | apply wJ | apply wK))); try simp only [go_sem, simprocAttr, q1, q2, c1', c2', c3', c4', c5', c6', decide_true]) | fail | (with_reducible (first | apply oC | apply oJ | exact oK | apply wA | apply wB | apply wC hX hC | apply wD hX hC | apply wE hX hC hmix | apply wF hX hC hmix | apply wG | apply wH | apply And.intro)) | ((with_reducible refine oD ?_ ?_); first | fail | kernel_rfl) | ((with_reducible (first | apply oE | apply oF)); (iterate 3 exact rfl); all_goals (intro h; first | (exact absurd h (by decide)) | ((try simp only [go_sem, simprocAttr, q1, q2, c1', c2', c3', c4', c5', c6', decide_true] at h); (try with_reducible intro K hK); simp only [go_sem, simprocAttr, q1, q2, c1', c2', c3', c4', c5', c6', decide_true]))) | ((first | ((with_reducible apply wL); exact rfl) | ((with_reducible apply wM); exact rfl)); all_goals (try ((with_reducible intro h); first | (exact absurd h (by decide)) | (try simp only [go_sem, simprocAttr, q1, q2, c1', c2', c3', c4', c5', c6', decide_true] at h)))) | omega | ((first | first | refine acall_simple hX hC hP (speaks20_spec) rfl rfl rfl (by simp only [go_sem, simprocAttr, q1, q2, c1', c2', c3', c4', c5', c6', decide_true]) rfl ?_ | refine acall_simple hX hC hP (hB) rfl rfl rfl (by simp only [go_sem, simprocAttr, q1, q2, c1', c2', c3', c4', c5', c6', decide_true]) rfl ?_); try simp only [go_sem, simprocAttr, q1, q2, c1', c2', c3', c4', c5', c6', decide_true]) | (intro h))
 have c6' : decide (b < (y.length : Int)) = true := decide_eq_true c6
 have hr : belB x y a b = (decide (x.getD a.toNat 0 ≤ x.getD b.toNat 0) && decide (y.getD a.toNat 0 ≤ y.getD b.toNat 0)) := by
  have h1 : thB x y a = true := thB_iff.2 (by omega)
  have h2 : thB x y b = true := thB_iff.2 (by omega)
  unfold belB; rw [h1, h2]; rfl
 rw [hr] at hB
 obtain ⟨i, rfl⟩ : ∃ i : Nat, a = i := ⟨a.toNat, by omega⟩
 obtain ⟨j, rfl⟩ : ∃ j : Nat, b = j := ⟨b.toNat, by omega⟩
 simp only [Int.toNat_natCast] at hB
 cases d1 : decide (x.getD i 0 ≤ x.getD j 0) with
 | false =>
  rw [d1, Bool.false_and] at hB
  (refine Spec.intro (C := T.cfg [] []) (rs := [.t 8]) (T.cfg_ok _ _) Try.func9 rfl rfl Try.ntmps9 Try.results9 (by simp [AObj.isNest]) (by simp [AObj.isNest]) (by kernel_rfl) ?_; intro X hX hP hC hXn hXm vals hA; refine ⟨_, by simp, hA, ?_⟩; have hmix : X.P.follows .mixedOrders = true := (by rw [hP]; exact T.mixed); clear hXn hXm)
  repeat' (first | fail | ((first | ((with_reducible (first | apply oA | apply oB)); exact rfl; intro K hK) | (refine hK _ ?_; clear hK K) | ((with_reducible (first | apply oG | apply oH)); iterate 3 exact rfl) | ((with_reducible apply oI); (iterate 2 exact rfl); intro K hK) | (with_reducible (first | apply wI | apply wJ | apply wK))); try simp only [go_sem, simprocAttr, q1, q2, c1', c2', c3', c4', c5', c6', d1, decide_true]) | fail | (with_reducible (first | apply oC | apply oJ | exact oK | apply wA | apply wB | apply wC hX hC | apply wD hX hC | apply wE hX hC hmix | apply wF hX hC hmix | apply wG | apply wH | apply And.intro)) | ((with_reducible refine oD ?_ ?_); first | fail | kernel_rfl) | ((with_reducible (first | apply oE | apply oF)); (iterate 3 exact rfl); all_goals (intro h; first | (exact absurd h (by decide)) | ((try simp only [go_sem, simprocAttr, q1, q2, c1', c2', c3', c4', c5', c6', d1, decide_true] at h); (try with_reducible intro K hK); simp only [go_sem, simprocAttr, q1, q2, c1', c2', c3', c4', c5', c6', d1, decide_true]))) | ((first | ((with_reducible apply wL); exact rfl) | ((with_reducible apply wM); exact rfl)); all_goals (try ((with_reducible intro h); first | (exact absurd h (by decide)) | (try simp only [go_sem, simprocAttr, q1, q2, c1', c2', c3', c4', c5', c6', d1, decide_true] at h)))) | omega | ((first | first | refine acall_simple hX hC hP (speaks20_spec) rfl rfl rfl (by simp only [go_sem, simprocAttr, q1, q2, c1', c2', c3', c4', c5', c6', d1, decide_true]) rfl ?_ | refine acall_simple hX hC hP (hB) rfl rfl rfl (by simp only [go_sem, simprocAttr, q1, q2, c1', c2', c3', c4', c5', c6', d1, decide_true]) rfl ?_); try simp only [go_sem, simprocAttr, q1, q2, c1', c2', c3', c4', c5', c6', d1, decide_true]) | (intro h))
 | true =>
  rw [d1, Bool.true_and] at hB
  cases d2 : decide (y.getD i 0 ≤ y.getD j 0) with
  | false =>
   rw [d2] at hB
   (refine Spec.intro (C := T.cfg [] []) (rs := [.t 8]) (T.cfg_ok _ _) Try.func9 rfl rfl Try.ntmps9 Try.results9 (by simp [AObj.isNest]) (by simp [AObj.isNest]) (by kernel_rfl) ?_; intro X hX hP hC hXn hXm vals hA; refine ⟨_, by simp, hA, ?_⟩; have hmix : X.P.follows .mixedOrders = true := (by rw [hP]; exact T.mixed); clear hXn hXm)
   repeat' (first | fail | ((first | ((with_reducible (first | apply oA | apply oB)); exact rfl; intro K hK) | (refine hK _ ?_; clear hK K) | ((with_reducible (first | apply oG | apply oH)); iterate 3 exact rfl) | ((with_reducible apply oI); (iterate 2 exact rfl); intro K hK) | (with_reducible (first | apply wI | apply wJ | apply wK))); try simp only [go_sem, simprocAttr, q1, q2, c1', c2', c3', c4', c5', c6', d1, d2, decide_true]) | fail | (with_reducible (first | apply oC | apply oJ | exact oK | apply wA | apply wB | apply wC hX hC | apply wD hX hC | apply wE hX hC hmix | apply wF hX hC hmix | apply wG | apply wH | apply And.intro)) | ((with_reducible refine oD ?_ ?_); first | fail | kernel_rfl) | ((with_reducible (first | apply oE | apply oF)); (iterate 3 exact rfl); all_goals (intro h; first | (exact absurd h (by decide)) | ((try simp only [go_sem, simprocAttr, q1, q2, c1', c2', c3', c4', c5', c6', d1, d2, decide_true] at h); (try with_reducible intro K hK); simp only [go_sem, simprocAttr, q1, q2, c1', c2', c3', c4', c5', c6', d1, d2, decide_true]))) | ((first | ((with_reducible apply wL); exact rfl) | ((with_reducible apply wM); exact rfl)); all_goals (try ((with_reducible intro h); first | (exact absurd h (by decide)) | (try simp only [go_sem, simprocAttr, q1, q2, c1', c2', c3', c4', c5', c6', d1, d2, decide_true] at h)))) | omega | ((first | first | refine acall_simple hX hC hP (speaks20_spec) rfl rfl rfl (by simp only [go_sem, simprocAttr, q1, q2, c1', c2', c3', c4', c5', c6', d1, d2, decide_true]) rfl ?_ | refine acall_simple hX hC hP (hB) rfl rfl rfl (by simp only [go_sem, simprocAttr, q1, q2, c1', c2', c3', c4', c5', c6', d1, d2, decide_true]) rfl ?_); try simp only [go_sem, simprocAttr, q1, q2, c1', c2', c3', c4', c5', c6', d1, d2, decide_true]) | (intro h))
  | true =>
   rw [d2] at hB
   (refine Spec.intro (C := T.cfg [] []) (rs := [.t 8]) (T.cfg_ok _ _) Try.func9 rfl rfl Try.ntmps9 Try.results9 (by simp [AObj.isNest]) (by simp [AObj.isNest]) (by kernel_rfl) ?_; intro X hX hP hC hXn hXm vals hA; refine ⟨_, by simp, hA, ?_⟩; have hmix : X.P.follows .mixedOrders = true := (by rw [hP]; exact T.mixed); clear hXn hXm)
   repeat' (first | fail | ((first | ((with_reducible (first | apply oA | apply oB)); exact rfl; intro K hK) | (refine hK _ ?_; clear hK K) | ((with_reducible (first | apply oG | apply oH)); iterate 3 exact rfl) | ((with_reducible apply oI); (iterate 2 exact rfl); intro K hK) | (with_reducible (first | apply wI | apply wJ | apply wK))); try simp only [go_sem, simprocAttr, q1, q2, c1', c2', c3', c4', c5', c6', d1, d2, decide_true]) | fail | (with_reducible (first | apply oC | apply oJ | exact oK | apply wA | apply wB | apply wC hX hC | apply wD hX hC | apply wE hX hC hmix | apply wF hX hC hmix | apply wG | apply wH | apply And.intro)) | ((with_reducible refine oD ?_ ?_); first | fail | kernel_rfl) | ((with_reducible (first | apply oE | apply oF)); (iterate 3 exact rfl); all_goals (intro h; first | (exact absurd h (by decide)) | ((try simp only [go_sem, simprocAttr, q1, q2, c1', c2', c3', c4', c5', c6', d1, d2, decide_true] at h); (try with_reducible intro K hK); simp only [go_sem, simprocAttr, q1, q2, c1', c2', c3', c4', c5', c6', d1, d2, decide_true]))) | ((first | ((with_reducible apply wL); exact rfl) | ((with_reducible apply wM); exact rfl)); all_goals (try ((with_reducible intro h); first | (exact absurd h (by decide)) | (try simp only [go_sem, simprocAttr, q1, q2, c1', c2', c3', c4', c5', c6', d1, d2, decide_true] at h)))) | omega | ((first | first | refine acall_simple hX hC hP (speaks20_spec) rfl rfl rfl (by simp only [go_sem, simprocAttr, q1, q2, c1', c2', c3', c4', c5', c6', d1, d2, decide_true]) rfl ?_ | refine acall_simple hX hC hP (hB) rfl rfl rfl (by simp only [go_sem, simprocAttr, q1, q2, c1', c2', c3', c4', c5', c6', d1, d2, decide_true]) rfl ?_); try simp only [go_sem, simprocAttr, q1, q2, c1', c2', c3', c4', c5', c6', d1, d2, decide_true]) | (intro h))
end Go.Ab
end
