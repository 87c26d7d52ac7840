/- A part of the proof. -/
import Derived.Test.YtilamojcledkaaaGreatL2P12
set_option linter.unusedSimpArgs false
set_option linter.unusedVariables false
section
namespace Go.Ab
open Go.Proofs
attribute [local congr] ACall.congr
set_option maxRecDepth 10000
set_option maxHeartbeats 4000000
theorem has9_spec (ps : List Int) (x : Int) (hl : ps.length ≤ 9223372036854775807) : Spec Tryz.prog 62 (Args [.d (sI ps), eN x]) [] (eB (decide (x ∈ ps))) [] := by
 (refine Spec.intro (C := T.cfg [] []) (rs := [.t 4]) (T.cfg_ok _ _) Tryz.func62 rfl rfl Tryz.ntmps62 Tryz.results62 (by simp [AObj.isNest]) (by simp [AObj.isNest]) (by kernel_rfl) ?_; intro X hX hP hC hXn hXm vals hA; refine ⟨_, by simp, hA, ?_⟩; have hmix : X.P.follows .mixedOrders = true := (by rw [hP]; exact T.mixed); clear hXn hXm)
 repeat' (first | fail | ((first | ((with_reducible (first | apply oA | apply oB)); exact rfl; intro K hK) | (refine hK _ ?_; clear hK K) | ((with_reducible (first | apply oG | apply oH)); iterate 3 exact rfl) | ((with_reducible apply oI); (iterate 2 exact rfl); intro K hK) | (with_reducible (first | apply wI | apply wJ | apply wK))); try simp only [go_sem, simprocAttr]) | fail | (with_reducible (first | apply oC | apply oJ | exact oK | apply wA | apply wB | apply wC hX hC | apply wD hX hC | apply wE hX hC hmix | apply wF hX hC hmix | apply wG | apply wH | apply And.intro)) | ((with_reducible refine oD ?_ ?_); first | fail | kernel_rfl) | ((with_reducible (first | apply oE | apply oF)); (iterate 3 exact rfl); all_goals (intro h; first | (exact absurd h (by decide)) | ((try simp only [go_sem, simprocAttr] at h); (try with_reducible intro K hK); simp only [go_sem, simprocAttr]))) | ((first | ((with_reducible apply wL); exact rfl) | ((with_reducible apply wM); exact rfl)); all_goals (try ((with_reducible intro h); first | (exact absurd h (by decide)) | (try simp only [go_sem, simprocAttr] at h)))) | omega | ((first | fail); try simp only [go_sem, simprocAttr]) | (intro h))
 refine awp_loopP (fun k : Nat => k ≤ ps.length ∧ ∀ j, j < k → ps.getD j 0 ≠ x) (fun k => ⟨[(0, .d (sI ps)), (1, eN x), (5, eN k)], []⟩) (fun k => ps.length - k) 0 (by simp) ?_ ?_
 ·(refine ⟨leT_spec ?_, fun _ _ h => h⟩; simp [go_sem, simprocAttr])
 rintro k ⟨hk, hg⟩
 rcases Nat.lt_or_ge k ps.length with hlt | hge
 ·have hb : decide ((k : Int) < (ps.length : Int)) = true := decide_eq_true (by omega)
  repeat' (first | fail | ((first | ((with_reducible (first | apply oA | apply oB)); exact rfl; intro K hK) | (refine hK _ ?_; clear hK K) | ((with_reducible (first | apply oG | apply oH)); iterate 3 exact rfl) | ((with_reducible apply oI); (iterate 2 exact rfl); intro K hK) | (with_reducible (first | apply wI | apply wJ | apply wK))); try simp only [go_sem, simprocAttr, hb]) | fail | (with_reducible (first | apply oC | apply oJ | exact oK | apply wA | apply wB | apply wC hX hC | apply wD hX hC | apply wE hX hC hmix | apply wF hX hC hmix | apply wG | apply wH | apply And.intro)) | ((with_reducible refine oD ?_ ?_); first | fail | kernel_rfl) | ((with_reducible (first | apply oE | apply oF)); (iterate 3 exact rfl); all_goals (intro h; first | (exact absurd h (by decide)) | ((try simp only [go_sem, simprocAttr, hb] at h); (try with_reducible intro K hK); simp only [go_sem, simprocAttr, hb]))) | ((first | ((with_reducible apply wL); exact rfl) | ((with_reducible apply wM); exact rfl)); all_goals (try ((with_reducible intro h); first | (exact absurd h (by decide)) | (try simp only [go_sem, simprocAttr, hb] at h)))) | omega | ((first | fail); try simp only [go_sem, simprocAttr, hb]) | (intro h))
  ·have hm := getD_memX (d := 0) hlt
   rw [h] at hm
   exact (decide_eq_true hm).symm
  ·refine ⟨k + 1, ⟨by omega, fun j hj => ?_⟩, ?_, by omega⟩
   ·by_cases hjk : j = k
    ·subst hjk; assumption
    ·exact hg j (by omega)
   ·(refine ⟨leT_spec ?_, fun _ _ h => h⟩; simp [go_sem, simprocAttr, hb])
 ·have hb : decide ((k : Int) < (ps.length : Int)) = false := decide_eq_false (by omega)
  repeat' (first | fail | ((first | ((with_reducible (first | apply oA | apply oB)); exact rfl; intro K hK) | (refine hK _ ?_; clear hK K) | ((with_reducible (first | apply oG | apply oH)); iterate 3 exact rfl) | ((with_reducible apply oI); (iterate 2 exact rfl); intro K hK) | (with_reducible (first | apply wI | apply wJ | apply wK))); try simp only [go_sem, simprocAttr, hb]) | fail | (with_reducible (first | apply oC | apply oJ | exact oK | apply wA | apply wB | apply wC hX hC | apply wD hX hC | apply wE hX hC hmix | apply wF hX hC hmix | apply wG | apply wH | apply And.intro)) | ((with_reducible refine oD ?_ ?_); first | fail | kernel_rfl) | ((with_reducible (first | apply oE | apply oF)); (iterate 3 exact rfl); all_goals (intro h; first | (exact absurd h (by decide)) | ((try simp only [go_sem, simprocAttr, hb] at h); (try with_reducible intro K hK); simp only [go_sem, simprocAttr, hb]))) | ((first | ((with_reducible apply wL); exact rfl) | ((with_reducible apply wM); exact rfl)); all_goals (try ((with_reducible intro h); first | (exact absurd h (by decide)) | (try simp only [go_sem, simprocAttr, hb] at h)))) | omega | ((first | fail); try simp only [go_sem, simprocAttr, hb]) | (intro h))
  refine (decide_eq_false fun hm => ?_).symm
  obtain ⟨j, hj, hx⟩ := List.mem_iff_getElem.1 hm
  exact hg j (by omega) (by rw [List.getD_eq_getElem?_getD, List.getElem?_eq_getElem hj]; exact hx)
def rfC (g : Gr) (f : Fr) : List AV := [eN g.n, .d (sE g.es), .d (sT f.row), .d (sI f.pl)]
def metK (row : List It) (x : Int) : Nat → Int
 | 0 => 0
 | k + 1 => if (row.getD k (0, 0, 0)).2.2 = x then metK row x k + 1 else metK row x k
theorem metK_next {row : List It} {x : Int} {k : Nat} : metK row x (k + 1) = if (row.getD k (0, 0, 0)).2.2 = x then metK row x k + 1 else metK row x k := rfl
theorem metK_le {row : List It} {x : Int} : ∀ k : Nat, 0 ≤ metK row x k ∧ metK row x k ≤ k
 | 0 => by simp [metK]
 | k + 1 => by
  have := metK_le (row := row) (x := x) k
  rw [metK_next]
  split <;> omega
def lateJ (row : List It) (x : Int) (need : Nat) (j : Nat) : Bool := decide ((row.getD j (0, 0, 0)).2.2 ≠ x) && decide (0 ≤ (row.getD j (0, 0, 0)).1) && decide (0 < metK row x j) && decide (metK row x j < need)
theorem lateJ_iff {row : List It} {x : Int} {need j : Nat} : lateJ row x need j = true ↔ ((row.getD j (0, 0, 0)).2.2 ≠ x ∧ 0 ≤ (row.getD j (0, 0, 0)).1) ∧ 0 < metK row x j ∧ metK row x j < need := by
 simp only [lateJ, Bool.and_eq_true, decide_eq_true_eq, and_assoc]
def needN (g : Gr) (x : Int) : Nat := (endsZ (·.2) g.es g.es.length x).length
def rReadyF (g : Gr) (f : Fr) (x : Int) : Bool :=
 if x < 0 ∨ g.n ≤ x ∨ x ∈ f.pl then false else if needN g x = 0 then true else
 !(List.range f.row.length).any (lateJ f.row x (needN g x)) && decide (metK f.row x f.row.length = needN g x)
theorem endF0 : endF false = (fun e : Edge => e.2) := rfl
theorem endF1 : endF true = (fun e : Edge => e.1) := rfl
theorem anyR_at {n j : Nat} {p : Nat → Bool} (h : j < n) (hp : p j = true) : (List.range n).any p = true := List.any_eq_true.2 ⟨j, List.mem_range.2 h, hp⟩
theorem anyR_no {n : Nat} {p : Nat → Bool} (h : ∀ j, j < n → p j = false) : (List.range n).any p = false := by
 rw [List.any_eq_false]
 intro j hj
 rw [h j (List.mem_range.1 hj)]; simp
theorem rReady_spec (g : Gr) (hl : g.es.length ≤ 1000) (f : Fr) (x : Int) (hr : f.row.length ≤ 1000000) (hpl : f.pl.length ≤ 1000000) : Spec Tryz.prog 61 (Args [.ptr 10000 0, eN x]) [(10000, .rob (rfC g f))] (eB (rReadyF g f x)) [(10000, .rob (rfC g f))] := by
 have hp : f.pl.length ≤ 9223372036854775807 := by omega
 unfold rfC
 by_cases hx : x < 0 ∨ g.n ≤ x ∨ x ∈ f.pl
 ·have hR : rReadyF g f x = false := if_pos hx
  (refine Spec.intro (C := T.cfg [] []) (rs := [.t 4]) (T.cfg_ok _ _) Tryz.func61 rfl rfl Tryz.ntmps61 Tryz.results61 (by simp [AObj.isNest]) (by simp [AObj.isNest]) (by kernel_rfl) ?_; intro X hX hP hC hXn hXm vals hA; refine ⟨_, by simp, hA, ?_⟩; have hmix : X.P.follows .mixedOrders = true := (by rw [hP]; exact T.mixed); clear hXn hXm)
  by_cases h1 : x < 0
  ·have hb1 : decide (x < 0) = true := decide_eq_true h1
   repeat' (first | fail | ((first | ((with_reducible (first | apply oA | apply oB)); exact rfl; intro K hK) | (refine hK _ ?_; clear hK K) | ((with_reducible (first | apply oG | apply oH)); iterate 3 exact rfl) | ((with_reducible apply oI); (iterate 2 exact rfl); intro K hK) | (with_reducible (first | apply wI | apply wJ | apply wK))); try simp only [go_sem, simprocAttr, hR, hb1]) | fail | (with_reducible (first | apply oC | apply oJ | exact oK | apply wA | apply wB | apply wC hX hC | apply wD hX hC | apply wE hX hC hmix | apply wF hX hC hmix | apply wG | apply wH | apply And.intro)) | ((with_reducible refine oD ?_ ?_); first | fail | kernel_rfl) | ((with_reducible (first | apply oE | apply oF)); (iterate 3 exact rfl); all_goals (intro h; first | (exact absurd h (by decide)) | ((try simp only [go_sem, simprocAttr, hR, hb1] at h); (try with_reducible intro K hK); simp only [go_sem, simprocAttr, hR, hb1]))) | ((first | ((with_reducible apply wL); exact rfl) | ((with_reducible apply wM); exact rfl)); all_goals (try ((with_reducible intro h); first | (exact absurd h (by decide)) | (try simp only [go_sem, simprocAttr, hR, hb1] at h)))) | omega | ((first | first | refine acall_simple hX hC hP (has9_spec f.pl x hp) rfl rfl rfl (by simp only [go_sem, simprocAttr, hR, hb1]) rfl ?_ | refine acall_simple hX hC hP (ends_spec g x false hl) rfl rfl rfl (by simp only [go_sem, simprocAttr, hR, hb1]) rfl ?_); try simp only [go_sem, simprocAttr, hR, hb1]) | (intro h))
  have hb1 : decide (x < 0) = false := decide_eq_false h1
  by_cases h2 : g.n ≤ x
  ·have hb2 : decide (g.n ≤ x) = true := decide_eq_true h2
   repeat' (first | fail | ((first | ((with_reducible (first | apply oA | apply oB)); exact rfl; intro K hK) | (refine hK _ ?_; clear hK K) | ((with_reducible (first | apply oG | apply oH)); iterate 3 exact rfl) | ((with_reducible apply oI); (iterate 2 exact rfl); intro K hK) | (with_reducible (first | apply wI | apply wJ | apply wK))); try simp only [go_sem, simprocAttr, hR, hb1, hb2]) | fail | (with_reducible (first | apply oC | apply oJ | exact oK | apply wA | apply wB | apply wC hX hC | apply wD hX hC | apply wE hX hC hmix | apply wF hX hC hmix | apply wG | apply wH | apply And.intro)) | ((with_reducible refine oD ?_ ?_); first | fail | kernel_rfl) | ((with_reducible (first | apply oE | apply oF)); (iterate 3 exact rfl); all_goals (intro h; first | (exact absurd h (by decide)) | ((try simp only [go_sem, simprocAttr, hR, hb1, hb2] at h); (try with_reducible intro K hK); simp only [go_sem, simprocAttr, hR, hb1, hb2]))) | ((first | ((with_reducible apply wL); exact rfl) | ((with_reducible apply wM); exact rfl)); all_goals (try ((with_reducible intro h); first | (exact absurd h (by decide)) | (try simp only [go_sem, simprocAttr, hR, hb1, hb2] at h)))) | omega | ((first | first | refine acall_simple hX hC hP (has9_spec f.pl x hp) rfl rfl rfl (by simp only [go_sem, simprocAttr, hR, hb1, hb2]) rfl ?_ | refine acall_simple hX hC hP (ends_spec g x false hl) rfl rfl rfl (by simp only [go_sem, simprocAttr, hR, hb1, hb2]) rfl ?_); try simp only [go_sem, simprocAttr, hR, hb1, hb2]) | (intro h))
  have hb2 : decide (g.n ≤ x) = false := decide_eq_false h2
  have h3 : x ∈ f.pl := by rcases hx with h | h | h; exact absurd h h1; exact absurd h h2; exact h
  have hb3 : decide (x ∈ f.pl) = true := decide_eq_true h3
  repeat' (first | fail | ((first | ((with_reducible (first | apply oA | apply oB)); exact rfl; intro K hK) | (refine hK _ ?_; clear hK K) | ((with_reducible (first | apply oG | apply oH)); iterate 3 exact rfl) | ((with_reducible apply oI); (iterate 2 exact rfl); intro K hK) | (with_reducible (first | apply wI | apply wJ | apply wK))); try simp only [go_sem, simprocAttr, hR, hb1, hb2, hb3]) | fail | (with_reducible (first | apply oC | apply oJ | exact oK | apply wA | apply wB | apply wC hX hC | apply wD hX hC | apply wE hX hC hmix | apply wF hX hC hmix | apply wG | apply wH | apply And.intro)) | ((with_reducible refine oD ?_ ?_); first | fail | kernel_rfl) | ((with_reducible (first | apply oE | apply oF)); (iterate 3 exact rfl); all_goals (intro h; first | (exact absurd h (by decide)) | ((try simp only [go_sem, simprocAttr, hR, hb1, hb2, hb3] at h); (try with_reducible intro K hK); simp only [go_sem, simprocAttr, hR, hb1, hb2, hb3]))) | ((first | ((with_reducible apply wL); exact rfl) | ((with_reducible apply wM); exact rfl)); all_goals (try ((with_reducible intro h); first | (exact absurd h (by decide)) | (try simp only [go_sem, simprocAttr, hR, hb1, hb2, hb3] at h)))) | omega | ((first | first | refine acall_simple hX hC hP (has9_spec f.pl x hp) rfl rfl rfl (by simp only [go_sem, simprocAttr, hR, hb1, hb2, hb3]) rfl ?_ | refine acall_simple hX hC hP (ends_spec g x false hl) rfl rfl rfl (by simp only [go_sem, simprocAttr, hR, hb1, hb2, hb3]) rfl ?_); try simp only [go_sem, simprocAttr, hR, hb1, hb2, hb3]) | (intro h))
 ·have hb1 : decide (x < 0) = false := decide_eq_false fun h => hx (.inl h)
  have hb2 : decide (g.n ≤ x) = false := decide_eq_false fun h => hx (.inr (.inl h))
  have hb3 : decide (x ∈ f.pl) = false := decide_eq_false fun h => hx (.inr (.inr h))
  have hR : rReadyF g f x = if needN g x = 0 then true else !(List.range f.row.length).any (lateJ f.row x (needN g x)) && decide (metK f.row x f.row.length = needN g x) := if_neg hx
  have hnd : (endsZ (·.2) g.es g.es.length x).length = needN g x := rfl
  have hnl : needN g x ≤ 1000 := Nat.le_trans endsZ_len hl
  generalize needN g x = need at hR hnd hnl
  by_cases h4 : need = 0
  ·have hb4 : decide ((need : Int) = 0) = true := decide_eq_true (by omega)
   rw [if_pos h4] at hR
   (refine Spec.intro (C := T.cfg [] []) (rs := [.t 4]) (T.cfg_ok _ _) Tryz.func61 rfl rfl Tryz.ntmps61 Tryz.results61 (by simp [AObj.isNest]) (by simp [AObj.isNest]) (by kernel_rfl) ?_; intro X hX hP hC hXn hXm vals hA; refine ⟨_, by simp, hA, ?_⟩; have hmix : X.P.follows .mixedOrders = true := (by rw [hP]; exact T.mixed); clear hXn hXm)
   repeat' (first | fail | ((first | ((with_reducible (first | apply oA | apply oB)); exact rfl; intro K hK) | (refine hK _ ?_; clear hK K) | ((with_reducible (first | apply oG | apply oH)); iterate 3 exact rfl) | ((with_reducible apply oI); (iterate 2 exact rfl); intro K hK) | (with_reducible (first | apply wI | apply wJ | apply wK))); try simp only [go_sem, simprocAttr, hR, hb1, hb2, hb3, hb4, endF0, hnd]) | fail | (with_reducible (first | apply oC | apply oJ | exact oK | apply wA | apply wB | apply wC hX hC | apply wD hX hC | apply wE hX hC hmix | apply wF hX hC hmix | apply wG | apply wH | apply And.intro)) | ((with_reducible refine oD ?_ ?_); first | fail | kernel_rfl) | ((with_reducible (first | apply oE | apply oF)); (iterate 3 exact rfl); all_goals (intro h; first | (exact absurd h (by decide)) | ((try simp only [go_sem, simprocAttr, hR, hb1, hb2, hb3, hb4, endF0, hnd] at h); (try with_reducible intro K hK); simp only [go_sem, simprocAttr, hR, hb1, hb2, hb3, hb4, endF0, hnd]))) | ((first | ((with_reducible apply wL); exact rfl) | ((with_reducible apply wM); exact rfl)); all_goals (try ((with_reducible intro h); first | (exact absurd h (by decide)) | (try simp only [go_sem, simprocAttr, hR, hb1, hb2, hb3, hb4, endF0, hnd] at h)))) | omega | ((first | first | refine acall_simple hX hC hP (has9_spec f.pl x hp) rfl rfl rfl (by simp only [go_sem, simprocAttr, hR, hb1, hb2, hb3, hb4, endF0, hnd]) rfl ?_ | refine acall_simple hX hC hP (ends_spec g x false hl) rfl rfl rfl (by simp only [go_sem, simprocAttr, hR, hb1, hb2, hb3, hb4, endF0, hnd]) rfl ?_); try simp only [go_sem, simprocAttr, hR, hb1, hb2, hb3, hb4, endF0, hnd]) | (intro h))
  ·have hb4 : decide ((need : Int) = 0) = false := decide_eq_false (by omega)
   rw [if_neg h4] at hR
   generalize rReadyF g f x = res at hR
   (refine Spec.intro (C := T.cfg [] []) (rs := [.t 4]) (T.cfg_ok _ _) Tryz.func61 rfl rfl Tryz.ntmps61 Tryz.results61 (by simp [AObj.isNest]) (by simp [AObj.isNest]) (by kernel_rfl) ?_; intro X hX hP hC hXn hXm vals hA; refine ⟨_, by simp, hA, ?_⟩; have hmix : X.P.follows .mixedOrders = true := (by rw [hP]; exact T.mixed); clear hXn hXm)
   repeat' (first | fail | ((first | ((with_reducible (first | apply oA | apply oB)); exact rfl; intro K hK) | (refine hK _ ?_; clear hK K) | ((with_reducible (first | apply oG | apply oH)); iterate 3 exact rfl) | ((with_reducible apply oI); (iterate 2 exact rfl); intro K hK) | (with_reducible (first | apply wI | apply wJ | apply wK))); try simp only [go_sem, simprocAttr, hb1, hb2, hb3, hb4, endF0, hnd]) | fail | (with_reducible (first | apply oC | apply oJ | exact oK | apply wA | apply wB | apply wC hX hC | apply wD hX hC | apply wE hX hC hmix | apply wF hX hC hmix | apply wG | apply wH | apply And.intro)) | ((with_reducible refine oD ?_ ?_); first | fail | kernel_rfl) | ((with_reducible (first | apply oE | apply oF)); (iterate 3 exact rfl); all_goals (intro h; first | (exact absurd h (by decide)) | ((try simp only [go_sem, simprocAttr, hb1, hb2, hb3, hb4, endF0, hnd] at h); (try with_reducible intro K hK); simp only [go_sem, simprocAttr, hb1, hb2, hb3, hb4, endF0, hnd]))) | ((first | ((with_reducible apply wL); exact rfl) | ((with_reducible apply wM); exact rfl)); all_goals (try ((with_reducible intro h); first | (exact absurd h (by decide)) | (try simp only [go_sem, simprocAttr, hb1, hb2, hb3, hb4, endF0, hnd] at h)))) | omega | ((first | first | refine acall_simple hX hC hP (has9_spec f.pl x hp) rfl rfl rfl (by simp only [go_sem, simprocAttr, hb1, hb2, hb3, hb4, endF0, hnd]) rfl ?_ | refine acall_simple hX hC hP (ends_spec g x false hl) rfl rfl rfl (by simp only [go_sem, simprocAttr, hb1, hb2, hb3, hb4, endF0, hnd]) rfl ?_); try simp only [go_sem, simprocAttr, hb1, hb2, hb3, hb4, endF0, hnd]) | (intro h))
   refine awp_loopP (fun k : Nat => k ≤ f.row.length ∧ ∀ j, j < k → lateJ f.row x need j = false) (fun k => ⟨[(0, .ptr 10000 0), (1, eN x), (5, eN need), (6, eN (metK f.row x k)), (7, eN k)], [(10000, .rob [eN g.n, .d (sE g.es), .d (sT f.row), .d (sI f.pl)])]⟩) (fun k => f.row.length - k) 0 (by simp) ?_ ?_
   ·refine Le.of ?_ ?_ <;> simp [go_sem, simprocAttr, hb1, hb2, hb3, hb4, endF0, hnd, metK]
   rintro k ⟨hk, hg⟩
   rcases Nat.lt_or_ge k f.row.length with hlt | hge
   ·have hb : decide ((k : Int) < (f.row.length : Int)) = true := decide_eq_true (by omega)
    have hmk := metK_le (row := f.row) (x := x) k
    have hnx := metK_next (row := f.row) (x := x) (k := k)
    have step : lateJ f.row x need k = false → ∀ j, j < k + 1 → lateJ f.row x need j = false := fun h j hj => by
     by_cases hjk : j = k
     ·subst hjk; exact h
     ·exact hg j (by omega)
    repeat' (first | fail | ((first | ((with_reducible (first | apply oA | apply oB)); exact rfl; intro K hK) | (refine hK _ ?_; clear hK K) | ((with_reducible (first | apply oG | apply oH)); iterate 3 exact rfl) | ((with_reducible apply oI); (iterate 2 exact rfl); intro K hK) | (with_reducible (first | apply wI | apply wJ | apply wK))); try simp only [go_sem, simprocAttr, hb]) | fail | (with_reducible (first | apply oC | apply oJ | exact oK | apply wA | apply wB | apply wC hX hC | apply wD hX hC | apply wE hX hC hmix | apply wF hX hC hmix | apply wG | apply wH | apply And.intro)) | ((with_reducible refine oD ?_ ?_); first | fail | kernel_rfl) | ((with_reducible (first | apply oE | apply oF)); (iterate 3 exact rfl); all_goals (intro h; first | (exact absurd h (by decide)) | ((try simp only [go_sem, simprocAttr, hb] at h); (try with_reducible intro K hK); simp only [go_sem, simprocAttr, hb]))) | ((first | ((with_reducible apply wL); exact rfl) | ((with_reducible apply wM); exact rfl)); all_goals (try ((with_reducible intro h); first | (exact absurd h (by decide)) | (try simp only [go_sem, simprocAttr, hb] at h)))) | omega | ((first | first | refine acall_simple hX hC hP (has9_spec f.pl x hp) rfl rfl rfl (by simp only [go_sem, simprocAttr, hb]) rfl ?_ | refine acall_simple hX hC hP (ends_spec g x false hl) rfl rfl rfl (by simp only [go_sem, simprocAttr, hb]) rfl ?_); try simp only [go_sem, simprocAttr, hb]) | (intro h))
    all_goals (first | (rw [hR, anyR_at hlt (lateJ_iff.2 ⟨⟨by assumption, by assumption⟩, by assumption, by assumption⟩)]; rfl) | skip)
    all_goals (first | rw [if_neg (by assumption)] at hnx | rw [if_pos (by assumption)] at hnx)
    all_goals (refine ⟨k + 1, ⟨by omega, step (by rw [← Bool.not_eq_true]; intro hh; obtain ⟨⟨_, _⟩, _, _⟩ := lateJ_iff.1 hh; contradiction)⟩, ?_, by omega⟩; refine Le.of ?_ ?_ <;> simp [go_sem, simprocAttr, hb, hnx])
   ·have hb : decide ((k : Int) < (f.row.length : Int)) = false := decide_eq_false (by omega)
    obtain rfl : k = f.row.length := by omega
    rw [anyR_no hg] at hR
    repeat' (first | fail | ((first | ((with_reducible (first | apply oA | apply oB)); exact rfl; intro K hK) | (refine hK _ ?_; clear hK K) | ((with_reducible (first | apply oG | apply oH)); iterate 3 exact rfl) | ((with_reducible apply oI); (iterate 2 exact rfl); intro K hK) | (with_reducible (first | apply wI | apply wJ | apply wK))); try simp only [go_sem, simprocAttr, hb, hR]) | fail | (with_reducible (first | apply oC | apply oJ | exact oK | apply wA | apply wB | apply wC hX hC | apply wD hX hC | apply wE hX hC hmix | apply wF hX hC hmix | apply wG | apply wH | apply And.intro)) | ((with_reducible refine oD ?_ ?_); first | fail | kernel_rfl) | ((with_reducible (first | apply oE | apply oF)); (iterate 3 exact rfl); all_goals (intro h; first | (exact absurd h (by decide)) | ((try simp only [go_sem, simprocAttr, hb, hR] at h); (try with_reducible intro K hK); simp only [go_sem, simprocAttr, hb, hR]))) | ((first | ((with_reducible apply wL); exact rfl) | ((with_reducible apply wM); exact rfl)); all_goals (try ((with_reducible intro h); first | (exact absurd h (by decide)) | (try simp only [go_sem, simprocAttr, hb, hR] at h)))) | omega | ((first | first | refine acall_simple hX hC hP (has9_spec f.pl x hp) rfl rfl rfl (by simp only [go_sem, simprocAttr, hb, hR]) rfl ?_ | refine acall_simple hX hC hP (ends_spec g x false hl) rfl rfl rfl (by simp only [go_sem, simprocAttr, hb, hR]) rfl ?_); try simp only [go_sem, simprocAttr, hb, hR]) | (intro h))
end Go.Ab
end
section
namespace Go.Ab
open Go.Proofs
attribute [local congr] ACall.congr
set_option maxRecDepth 10000
set_option maxHeartbeats 4000000
end Go.Ab
end
section
namespace Go.Ab
open Go.Proofs
attribute [local congr] ACall.congr
set_option maxRecDepth 10000
set_option maxHeartbeats 8000000
def outZ (g : Gr) (x : Int) : List Int := endsZ (·.1) g.es g.es.length x
def succF (g : Gr) (f : Fr) (x : Int) (outs : List Int) : (List It × Int) × Fr :=
 (((f.row.take (spanF f.row x).2.1.toNat).drop (max (spanF f.row x).1 0).toNat, 0), ⟨f.row.take (max (spanF f.row x).1 0).toNat ++ aboveF g x outs ++ f.row.drop (spanF f.row x).2.1.toNat, f.pl ++ [x]⟩)
def rPlaceF (g : Gr) (f : Fr) (x : Int) (outs : List Int) : (List It × Int) × Fr :=
 if rReadyF g f x = false then (([], 3), f) else
 if outs.length ≠ (outZ g x).length ∨ ∃ i ∈ outZ g x, i ∉ outs then (([], 1), f) else succF g f x outs
theorem endsZ_nodup {f : Edge → Int} {es : List Edge} {k : Nat} {x : Int} : (endsZ f es k x).Nodup := by
 unfold endsZ
 exact List.Pairwise.map _ (fun a b h e => h (Int.ofNat.inj e)) (List.Pairwise.filter _ List.nodup_range)
theorem pigeon : ∀ {ms os : List Int}, ms.Nodup → (∀ i ∈ ms, i ∈ os) → os.length = ms.length → ∀ i ∈ os, i ∈ ms
 | [], os, _, _, hl, i, hi => by
  have : os = [] := List.eq_nil_of_length_eq_zero (by simpa using hl)
  rw [this] at hi; exact hi
 | m :: ms, os, hn, hs, hl, i, hi => by
  rw [List.nodup_cons] at hn
  have hm := hs m (List.mem_cons_self ..)
  by_cases h : i = m
  ·rw [h]; exact List.mem_cons_self ..
  ·refine List.mem_cons_of_mem _ (pigeon hn.2 (os := os.erase m) (fun j hj => ?_) ?_ i ?_)
   ·have : j ≠ m := fun e => hn.1 (e ▸ hj)
    exact (List.mem_erase_of_ne this).2 (hs j (List.mem_cons_of_mem _ hj))
   ·rw [List.length_erase_of_mem hm, hl]; simp
   ·exact (List.mem_erase_of_ne h).2 hi
theorem outZ_len {g : Gr} {x : Int} : (outZ g x).length ≤ g.es.length := endsZ_len
theorem rPlace_spec (g : Gr) (hl : g.es.length ≤ 1000) (f : Fr) (x : Int) (outs : List Int) (hr : f.row.length ≤ 300000) (hp : f.pl.length ≤ 100000) (ho : outs.length ≤ 9223372036854775807) :
  Spec Tryz.prog 32 (Args [.ptr 10000 0, eN x, .d (sI outs)]) [(10000, .box (rfC g f))] (.tup [.d (sT (rPlaceF g f x outs).1.1), eN (rPlaceF g f x outs).1.2]) [(10000, .box (rfC g (rPlaceF g f x outs).2))] := by
 have hr1 : f.row.length ≤ 1000000 := by omega
 have hp1 : f.pl.length ≤ 1000000 := by omega
 have ho1 : outs.length ≤ 9223372036854775807 := by omega
 have hml := outZ_len (g := g) (x := x)
 have hmz : endsZ (fun e => e.1) g.es g.es.length x = outZ g x := rfl
 cases hR : rReadyF g f x with
 | false =>
  have hP : rPlaceF g f x outs = (([], 3), f) := if_pos hR
  rw [hP]
  unfold rfC
  (refine Spec.intro (C := T.cfg [] []) (rs := [.t 6, .t 7]) (T.cfg_ok _ _) Tryz.func32 rfl rfl Tryz.ntmps32 Tryz.results32 (by simp [AObj.isNest]) (by simp [AObj.isNest]) (by kernel_rfl) ?_; intro X hX hP hC hXn hXm vals hA; refine ⟨_, by simp, hA, ?_⟩; have hmix : X.P.follows .mixedOrders = true := (by rw [hP]; exact T.mixed); clear hXn hXm)
  repeat' (first | fail | ((first | ((with_reducible (first | apply oA | apply oB)); exact rfl; intro K hK) | (refine hK _ ?_; clear hK K) | ((with_reducible (first | apply oG | apply oH)); iterate 3 exact rfl) | ((with_reducible apply oI); (iterate 2 exact rfl); intro K hK) | (with_reducible (first | apply wI | apply wJ | apply wK))); try simp only [go_sem, simprocAttr, hR, rfC]) | fail | (with_reducible (first | apply oC | apply oJ | exact oK | apply wA | apply wB | apply wC hX hC | apply wD hX hC | apply wE hX hC hmix | apply wF hX hC hmix | apply wG | apply wH | apply And.intro)) | ((with_reducible refine oD ?_ ?_); first | fail | kernel_rfl) | ((with_reducible (first | apply oE | apply oF)); (iterate 3 exact rfl); all_goals (intro h; first | (exact absurd h (by decide)) | ((try simp only [go_sem, simprocAttr, hR, rfC] at h); (try with_reducible intro K hK); simp only [go_sem, simprocAttr, hR, rfC]))) | ((first | ((with_reducible apply wL); exact rfl) | ((with_reducible apply wM); exact rfl)); all_goals (try ((with_reducible intro h); first | (exact absurd h (by decide)) | (try simp only [go_sem, simprocAttr, hR, rfC] at h)))) | omega | ((first | first | (refine acall_rob hX hC hP [(10000, 10000)] (rReady_spec g hl f x hr1 hp1) rfl rfl rfl ?_ ?_ ?_ ?_ ?_ ?_ rfl rfl ?_ ?_; (focus (simp only [go_sem, simprocAttr, hR, rfC]; done)); (iterate 6 (focus (simp [go_sem, simprocAttr, hR, rfC]; done))); simp only [go_sem, simprocAttr, hR, rfC, List.map_cons, List.map_nil]) | refine acall_simple hX hC hP (ends_spec g x true hl) rfl rfl rfl (by simp only [go_sem, simprocAttr, hR, rfC]) rfl ?_ | refine acall_simple hX hC hP (has9_spec outs ((outZ g x).getD k 0) ho1) rfl rfl rfl (by simp only [go_sem, simprocAttr, hR, rfC]) rfl ?_); try simp only [go_sem, simprocAttr, hR, rfC]) | (intro h))
 | true =>
 have hR' : ¬ rReadyF g f x = false := by rw [hR]; simp
 by_cases hlen : outs.length ≠ (outZ g x).length
 ·have hP : rPlaceF g f x outs = (([], 1), f) := by unfold rPlaceF; rw [if_neg hR', if_pos (.inl hlen)]
  have hb1 : decide ((outs.length : Int) = ((outZ g x).length : Int)) = false := decide_eq_false (by omega)
  rw [hP]
  unfold rfC
  (refine Spec.intro (C := T.cfg [] []) (rs := [.t 6, .t 7]) (T.cfg_ok _ _) Tryz.func32 rfl rfl Tryz.ntmps32 Tryz.results32 (by simp [AObj.isNest]) (by simp [AObj.isNest]) (by kernel_rfl) ?_; intro X hX hP hC hXn hXm vals hA; refine ⟨_, by simp, hA, ?_⟩; have hmix : X.P.follows .mixedOrders = true := (by rw [hP]; exact T.mixed); clear hXn hXm)
  repeat' (first | fail | ((first | ((with_reducible (first | apply oA | apply oB)); exact rfl; intro K hK) | (refine hK _ ?_; clear hK K) | ((with_reducible (first | apply oG | apply oH)); iterate 3 exact rfl) | ((with_reducible apply oI); (iterate 2 exact rfl); intro K hK) | (with_reducible (first | apply wI | apply wJ | apply wK))); try simp only [go_sem, simprocAttr, hR, rfC, endF1, hmz, hb1]) | fail | (with_reducible (first | apply oC | apply oJ | exact oK | apply wA | apply wB | apply wC hX hC | apply wD hX hC | apply wE hX hC hmix | apply wF hX hC hmix | apply wG | apply wH | apply And.intro)) | ((with_reducible refine oD ?_ ?_); first | fail | kernel_rfl) | ((with_reducible (first | apply oE | apply oF)); (iterate 3 exact rfl); all_goals (intro h; first | (exact absurd h (by decide)) | ((try simp only [go_sem, simprocAttr, hR, rfC, endF1, hmz, hb1] at h); (try with_reducible intro K hK); simp only [go_sem, simprocAttr, hR, rfC, endF1, hmz, hb1]))) | ((first | ((with_reducible apply wL); exact rfl) | ((with_reducible apply wM); exact rfl)); all_goals (try ((with_reducible intro h); first | (exact absurd h (by decide)) | (try simp only [go_sem, simprocAttr, hR, rfC, endF1, hmz, hb1] at h)))) | omega | ((first | first | (refine acall_rob hX hC hP [(10000, 10000)] (rReady_spec g hl f x hr1 hp1) rfl rfl rfl ?_ ?_ ?_ ?_ ?_ ?_ rfl rfl ?_ ?_; (focus (simp only [go_sem, simprocAttr, hR, rfC, endF1, hmz, hb1]; done)); (iterate 6 (focus (simp [go_sem, simprocAttr, hR, rfC, endF1, hmz, hb1]; done))); simp only [go_sem, simprocAttr, hR, rfC, endF1, hmz, hb1, List.map_cons, List.map_nil]) | refine acall_simple hX hC hP (ends_spec g x true hl) rfl rfl rfl (by simp only [go_sem, simprocAttr, hR, rfC, endF1, hmz, hb1]) rfl ?_ | refine acall_simple hX hC hP (has9_spec outs ((outZ g x).getD k 0) ho1) rfl rfl rfl (by simp only [go_sem, simprocAttr, hR, rfC, endF1, hmz, hb1]) rfl ?_); try simp only [go_sem, simprocAttr, hR, rfC, endF1, hmz, hb1]) | (intro h))
 rw [ne_eq, Decidable.not_not] at hlen
 have hb1 : decide ((outs.length : Int) = ((outZ g x).length : Int)) = true := decide_eq_true (by omega)
 have hP : rPlaceF g f x outs = if ∃ i ∈ outZ g x, i ∉ outs then (([], 1), f) else succF g f x outs := by
  unfold rPlaceF
  rw [if_neg hR']
  by_cases hE : ∃ i ∈ outZ g x, i ∉ outs
  ·rw [if_pos (.inr hE), if_pos hE]
  ·rw [if_neg (fun h => by rcases h with h | h; exact h hlen; exact hE h), if_neg hE]
 rw [hP]
 generalize hpp : (if ∃ i ∈ outZ g x, i ∉ outs then (([], 1), f) else succF g f x outs : (List It × Int) × Fr) = pp
 unfold rfC
 (refine Spec.intro (C := T.cfg [] []) (rs := [.t 6, .t 7]) (T.cfg_ok _ _) Tryz.func32 rfl rfl Tryz.ntmps32 Tryz.results32 (by simp [AObj.isNest]) (by simp [AObj.isNest]) (by kernel_rfl) ?_; intro X hX hP hC hXn hXm vals hA; refine ⟨_, by simp, hA, ?_⟩; have hmix : X.P.follows .mixedOrders = true := (by rw [hP]; exact T.mixed); clear hXn hXm)
 repeat' (first | fail | ((first | ((with_reducible (first | apply oA | apply oB)); exact rfl; intro K hK) | (refine hK _ ?_; clear hK K) | ((with_reducible (first | apply oG | apply oH)); iterate 3 exact rfl) | ((with_reducible apply oI); (iterate 2 exact rfl); intro K hK) | (with_reducible (first | apply wI | apply wJ | apply wK))); try simp only [go_sem, simprocAttr, hR, rfC, endF1, hmz, hb1]) | fail | (with_reducible (first | apply oC | apply oJ | exact oK | apply wA | apply wB | apply wC hX hC | apply wD hX hC | apply wE hX hC hmix | apply wF hX hC hmix | apply wG | apply wH | apply And.intro)) | ((with_reducible refine oD ?_ ?_); first | fail | kernel_rfl) | ((with_reducible (first | apply oE | apply oF)); (iterate 3 exact rfl); all_goals (intro h; first | (exact absurd h (by decide)) | ((try simp only [go_sem, simprocAttr, hR, rfC, endF1, hmz, hb1] at h); (try with_reducible intro K hK); simp only [go_sem, simprocAttr, hR, rfC, endF1, hmz, hb1]))) | ((first | ((with_reducible apply wL); exact rfl) | ((with_reducible apply wM); exact rfl)); all_goals (try ((with_reducible intro h); first | (exact absurd h (by decide)) | (try simp only [go_sem, simprocAttr, hR, rfC, endF1, hmz, hb1] at h)))) | omega | ((first | first | (refine acall_rob hX hC hP [(10000, 10000)] (rReady_spec g hl f x hr1 hp1) rfl rfl rfl ?_ ?_ ?_ ?_ ?_ ?_ rfl rfl ?_ ?_; (focus (simp only [go_sem, simprocAttr, hR, rfC, endF1, hmz, hb1]; done)); (iterate 6 (focus (simp [go_sem, simprocAttr, hR, rfC, endF1, hmz, hb1]; done))); simp only [go_sem, simprocAttr, hR, rfC, endF1, hmz, hb1, List.map_cons, List.map_nil]) | refine acall_simple hX hC hP (ends_spec g x true hl) rfl rfl rfl (by simp only [go_sem, simprocAttr, hR, rfC, endF1, hmz, hb1]) rfl ?_ | refine acall_simple hX hC hP (has9_spec outs ((outZ g x).getD k 0) ho1) rfl rfl rfl (by simp only [go_sem, simprocAttr, hR, rfC, endF1, hmz, hb1]) rfl ?_); try simp only [go_sem, simprocAttr, hR, rfC, endF1, hmz, hb1]) | (intro h))
 refine awp_loopP (fun k : Nat => k ≤ (outZ g x).length ∧ ∀ j, j < k → (outZ g x).getD j 0 ∈ outs) (fun k => ⟨[(0, .ptr 10000 0), (1, eN x), (2, .d (sI outs)), (8, .d (sI (outZ g x))), (9, eN k)], [(10000, .box [eN g.n, .d (sE g.es), .d (sT f.row), .d (sI f.pl)])]⟩) (fun k => (outZ g x).length - k) 0 (by simp) ?_ ?_
 ·(refine Le.of ?_ ?_ <;> simp [go_sem, simprocAttr, hR, rfC, endF1, hmz, hb1])
 rintro k ⟨hk, hg⟩
 rcases Nat.lt_or_ge k (outZ g x).length with hlt | hge
 ·have hb : decide ((k : Int) < ((outZ g x).length : Int)) = true := decide_eq_true (by omega)
  by_cases hin : (outZ g x).getD k 0 ∈ outs
  ·have hb2 : decide ((outZ g x).getD k 0 ∈ outs) = true := decide_eq_true hin
   repeat' (first | fail | ((first | ((with_reducible (first | apply oA | apply oB)); exact rfl; intro K hK) | (refine hK _ ?_; clear hK K) | ((with_reducible (first | apply oG | apply oH)); iterate 3 exact rfl) | ((with_reducible apply oI); (iterate 2 exact rfl); intro K hK) | (with_reducible (first | apply wI | apply wJ | apply wK))); try simp only [go_sem, simprocAttr, hb, hb2]) | fail | (with_reducible (first | apply oC | apply oJ | exact oK | apply wA | apply wB | apply wC hX hC | apply wD hX hC | apply wE hX hC hmix | apply wF hX hC hmix | apply wG | apply wH | apply And.intro)) | ((with_reducible refine oD ?_ ?_); first | fail | kernel_rfl) | ((with_reducible (first | apply oE | apply oF)); (iterate 3 exact rfl); all_goals (intro h; first | (exact absurd h (by decide)) | ((try simp only [go_sem, simprocAttr, hb, hb2] at h); (try with_reducible intro K hK); simp only [go_sem, simprocAttr, hb, hb2]))) | ((first | ((with_reducible apply wL); exact rfl) | ((with_reducible apply wM); exact rfl)); all_goals (try ((with_reducible intro h); first | (exact absurd h (by decide)) | (try simp only [go_sem, simprocAttr, hb, hb2] at h)))) | omega | ((first | first | (refine acall_rob hX hC hP [(10000, 10000)] (rReady_spec g hl f x hr1 hp1) rfl rfl rfl ?_ ?_ ?_ ?_ ?_ ?_ rfl rfl ?_ ?_; (focus (simp only [go_sem, simprocAttr, hb, hb2]; done)); (iterate 6 (focus (simp [go_sem, simprocAttr, hb, hb2]; done))); simp only [go_sem, simprocAttr, hb, hb2, List.map_cons, List.map_nil]) | refine acall_simple hX hC hP (ends_spec g x true hl) rfl rfl rfl (by simp only [go_sem, simprocAttr, hb, hb2]) rfl ?_ | refine acall_simple hX hC hP (has9_spec outs ((outZ g x).getD k 0) ho1) rfl rfl rfl (by simp only [go_sem, simprocAttr, hb, hb2]) rfl ?_); try simp only [go_sem, simprocAttr, hb, hb2]) | (intro h))
   refine ⟨k + 1, ⟨by omega, fun j hj => ?_⟩, ?_, by omega⟩
   ·by_cases hjk : j = k
    ·subst hjk; exact hin
    ·exact hg j (by omega)
   ·(refine Le.of ?_ ?_ <;> simp [go_sem, simprocAttr, hb, hb2])
  ·have hb2 : decide ((outZ g x).getD k 0 ∈ outs) = false := decide_eq_false hin
   rw [if_pos ⟨_, getD_memX (d := 0) hlt, hin⟩] at hpp
   subst hpp
   repeat' (first | fail | ((first | ((with_reducible (first | apply oA | apply oB)); exact rfl; intro K hK) | (refine hK _ ?_; clear hK K) | ((with_reducible (first | apply oG | apply oH)); iterate 3 exact rfl) | ((with_reducible apply oI); (iterate 2 exact rfl); intro K hK) | (with_reducible (first | apply wI | apply wJ | apply wK))); try simp only [go_sem, simprocAttr, hb, hb2]) | fail | (with_reducible (first | apply oC | apply oJ | exact oK | apply wA | apply wB | apply wC hX hC | apply wD hX hC | apply wE hX hC hmix | apply wF hX hC hmix | apply wG | apply wH | apply And.intro)) | ((with_reducible refine oD ?_ ?_); first | fail | kernel_rfl) | ((with_reducible (first | apply oE | apply oF)); (iterate 3 exact rfl); all_goals (intro h; first | (exact absurd h (by decide)) | ((try simp only [go_sem, simprocAttr, hb, hb2] at h); (try with_reducible intro K hK); simp only [go_sem, simprocAttr, hb, hb2]))) | ((first | ((with_reducible apply wL); exact rfl) | ((with_reducible apply wM); exact rfl)); all_goals (try ((with_reducible intro h); first | (exact absurd h (by decide)) | (try simp only [go_sem, simprocAttr, hb, hb2] at h)))) | omega | ((first | first | (refine acall_rob hX hC hP [(10000, 10000)] (rReady_spec g hl f x hr1 hp1) rfl rfl rfl ?_ ?_ ?_ ?_ ?_ ?_ rfl rfl ?_ ?_; (focus (simp only [go_sem, simprocAttr, hb, hb2]; done)); (iterate 6 (focus (simp [go_sem, simprocAttr, hb, hb2]; done))); simp only [go_sem, simprocAttr, hb, hb2, List.map_cons, List.map_nil]) | refine acall_simple hX hC hP (ends_spec g x true hl) rfl rfl rfl (by simp only [go_sem, simprocAttr, hb, hb2]) rfl ?_ | refine acall_simple hX hC hP (has9_spec outs ((outZ g x).getD k 0) ho1) rfl rfl rfl (by simp only [go_sem, simprocAttr, hb, hb2]) rfl ?_); try simp only [go_sem, simprocAttr, hb, hb2]) | (intro h))
 have hb : decide ((k : Int) < ((outZ g x).length : Int)) = false := decide_eq_false (by omega)
 have hsub : ∀ i ∈ outZ g x, i ∈ outs := fun i hi => by
  obtain ⟨j, hj, rfl⟩ := List.mem_iff_getElem.1 hi
  have := hg j (by omega)
  rwa [List.getD_eq_getElem?_getD, List.getElem?_eq_getElem hj] at this
 have hom : ∀ i ∈ outs, 0 ≤ i ∧ i < g.es.length := fun i hi => (endsZ_mem (pigeon endsZ_nodup hsub hlen i hi)).1
 rw [if_neg (fun ⟨i, h1, h2⟩ => h2 (hsub i h1))] at hpp
 subst hpp
 clear hk hg hge hsub hP
 repeat' (first | fail | ((first | ((with_reducible (first | apply oA | apply oB)); exact rfl; intro K hK) | (refine hK _ ?_; clear hK K) | ((with_reducible (first | apply oG | apply oH)); iterate 3 exact rfl) | ((with_reducible apply oI); (iterate 2 exact rfl); intro K hK) | (with_reducible (first | apply wI | apply wJ | apply wK))); try simp only [go_sem, simprocAttr, hb]) | fail | (with_reducible (first | apply oC | apply oJ | exact oK | apply wA | apply wB | apply wC hX hC | apply wD hX hC | apply wE hX hC hmix | apply wF hX hC hmix | apply wG | apply wH | apply And.intro)) | ((with_reducible refine oD ?_ ?_); first | fail | kernel_rfl) | ((with_reducible (first | apply oE | apply oF)); (iterate 3 exact rfl); all_goals (intro h; first | (exact absurd h (by decide)) | ((try simp only [go_sem, simprocAttr, hb] at h); (try with_reducible intro K hK); simp only [go_sem, simprocAttr, hb]))) | ((first | ((with_reducible apply wL); exact rfl) | ((with_reducible apply wM); exact rfl)); all_goals (try ((with_reducible intro h); first | (exact absurd h (by decide)) | (try simp only [go_sem, simprocAttr, hb] at h)))) | omega | ((first | first | (refine acall_rob hX hC hP [(10000, 10000)] (rReady_spec g hl f x hr1 hp1) rfl rfl rfl ?_ ?_ ?_ ?_ ?_ ?_ rfl rfl ?_ ?_; (focus (simp only [go_sem, simprocAttr, hb]; done)); (iterate 6 (focus (simp [go_sem, simprocAttr, hb]; done))); simp only [go_sem, simprocAttr, hb, List.map_cons, List.map_nil]) | refine acall_simple hX hC hP (ends_spec g x true hl) rfl rfl rfl (by simp only [go_sem, simprocAttr, hb]) rfl ?_ | refine acall_simple hX hC hP (has9_spec outs ((outZ g x).getD k 0) ho1) rfl rfl rfl (by simp only [go_sem, simprocAttr, hb]) rfl ?_); try simp only [go_sem, simprocAttr, hb]) | (intro h))
 (refine awp_mv hX 10 45 72 (by simp only [go_sem, simprocAttr, hb]) rfl (by first | exact .inl rfl | exact .inr rfl) (by decide) ?_; simp only [go_sem, simprocAttr, hb])
 refine awp_loopP (fun k : Nat => k ≤ outs.length) (fun k => ⟨[(0, .ptr 10000 0), (1, eN x), (2, .d (sI outs)), (11, eN k), (10, .ref 72)], [(10000, .box [eN g.n, .d (sE g.es), .d (sT f.row), .d (sI f.pl)]), (72, .tip 62 3 (((outs.take k).map (itemF g x)).map rT))]⟩) (fun k => outs.length - k) 0 (by omega) ?_ ?_
 ·refine Le.of ?_ ?_ <;> simp [go_sem, simprocAttr, hb]
 clear hb
 rintro k hk
 rcases Nat.lt_or_ge k outs.length with hlt | hge
 ·have hb : decide ((k : Int) < (outs.length : Int)) = true := decide_eq_true (by omega)
  have hnx := take_nextX (f := itemF g x) (d := 0) hlt
  have hoi := hom _ (getD_memX (d := 0) hlt)
  have hlk : (outs.take k).length = k := by simp; omega
  repeat' (first | fail | ((first | ((with_reducible (first | apply oA | apply oB)); exact rfl; intro K hK) | (refine hK _ ?_; clear hK K) | ((with_reducible (first | apply oG | apply oH)); iterate 3 exact rfl) | ((with_reducible apply oI); (iterate 2 exact rfl); intro K hK) | (with_reducible (first | apply wI | apply wJ | apply wK))); try simp only [go_sem, simprocAttr, hb, hlk]) | fail | (with_reducible (first | apply oC | apply oJ | exact oK | apply wA | apply wB | apply wC hX hC | apply wD hX hC | apply wE hX hC hmix | apply wF hX hC hmix | apply wG | apply wH | apply And.intro)) | ((with_reducible refine oD ?_ ?_); first | fail | kernel_rfl) | ((with_reducible (first | apply oE | apply oF)); (iterate 3 exact rfl); all_goals (intro h; first | (exact absurd h (by decide)) | ((try simp only [go_sem, simprocAttr, hb, hlk] at h); (try with_reducible intro K hK); simp only [go_sem, simprocAttr, hb, hlk]))) | ((first | ((with_reducible apply wL); exact rfl) | ((with_reducible apply wM); exact rfl)); all_goals (try ((with_reducible intro h); first | (exact absurd h (by decide)) | (try simp only [go_sem, simprocAttr, hb, hlk] at h)))) | omega | ((first | first | (refine acall_rob hX hC hP [(10000, 10000)] (rReady_spec g hl f x hr1 hp1) rfl rfl rfl ?_ ?_ ?_ ?_ ?_ ?_ rfl rfl ?_ ?_; (focus (simp only [go_sem, simprocAttr, hb, hlk]; done)); (iterate 6 (focus (simp [go_sem, simprocAttr, hb, hlk]; done))); simp only [go_sem, simprocAttr, hb, hlk, List.map_cons, List.map_nil]) | refine acall_simple hX hC hP (ends_spec g x true hl) rfl rfl rfl (by simp only [go_sem, simprocAttr, hb, hlk]) rfl ?_ | refine acall_simple hX hC hP (has9_spec outs ((outZ g x).getD k 0) ho1) rfl rfl rfl (by simp only [go_sem, simprocAttr, hb, hlk]) rfl ?_); try simp only [go_sem, simprocAttr, hb, hlk]) | (intro h))
  refine ⟨k + 1, by omega, ?_, by omega⟩
  refine Le.of ?_ ?_ <;> simp [go_sem, simprocAttr, hb, hlk, hnx, itemF]
 have hb : decide ((k : Int) < (outs.length : Int)) = false := decide_eq_false (by omega)
 obtain rfl : k = outs.length := by omega
 have ht : outs.take outs.length = outs := List.take_of_length_le (by omega)
 clear hk hge
 by_cases h0 : outs = []
 ·have hA : aboveF g x outs = [(-1, x, -1)] := if_pos h0
  have hb0 : decide ((outs.length : Int) = 0) = true := decide_eq_true (by rw [h0]; rfl)
  have hm0 : (outs.map (itemF g x)).map rT = [] := by rw [h0]; rfl
  repeat' (first | fail | ((first | ((with_reducible (first | apply oA | apply oB)); exact rfl; intro K hK) | (refine hK _ ?_; clear hK K) | ((with_reducible (first | apply oG | apply oH)); iterate 3 exact rfl) | ((with_reducible apply oI); (iterate 2 exact rfl); intro K hK) | (with_reducible (first | apply wI | apply wJ | apply wK))); try simp only [go_sem, simprocAttr, hb, ht, hb0, hm0, List.nil_append]) | fail | (with_reducible (first | apply oC | apply oJ | exact oK | apply wA | apply wB | apply wC hX hC | apply wD hX hC | apply wE hX hC hmix | apply wF hX hC hmix | apply wG | apply wH | apply And.intro)) | ((with_reducible refine oD ?_ ?_); first | fail | kernel_rfl) | ((with_reducible (first | apply oE | apply oF)); (iterate 3 exact rfl); all_goals (intro h; first | (exact absurd h (by decide)) | ((try simp only [go_sem, simprocAttr, hb, ht, hb0, hm0, List.nil_append] at h); (try with_reducible intro K hK); simp only [go_sem, simprocAttr, hb, ht, hb0, hm0, List.nil_append]))) | ((first | ((with_reducible apply wL); exact rfl) | ((with_reducible apply wM); exact rfl)); all_goals (try ((with_reducible intro h); first | (exact absurd h (by decide)) | (try simp only [go_sem, simprocAttr, hb, ht, hb0, hm0, List.nil_append] at h)))) | omega | ((first | first | (refine acall_rob hX hC hP [(10000, 10000)] (rReady_spec g hl f x hr1 hp1) rfl rfl rfl ?_ ?_ ?_ ?_ ?_ ?_ rfl rfl ?_ ?_; (focus (simp only [go_sem, simprocAttr, hb, ht, hb0, hm0, List.nil_append]; done)); (iterate 6 (focus (simp [go_sem, simprocAttr, hb, ht, hb0, hm0, List.nil_append]; done))); simp only [go_sem, simprocAttr, hb, ht, hb0, hm0, List.nil_append, List.map_cons, List.map_nil]) | refine acall_simple hX hC hP (ends_spec g x true hl) rfl rfl rfl (by simp only [go_sem, simprocAttr, hb, ht, hb0, hm0, List.nil_append]) rfl ?_ | refine acall_simple hX hC hP (has9_spec outs ((outZ g x).getD k 0) ho1) rfl rfl rfl (by simp only [go_sem, simprocAttr, hb, ht, hb0, hm0, List.nil_append]) rfl ?_); try simp only [go_sem, simprocAttr, hb, ht, hb0, hm0, List.nil_append]) | (intro h))
  (refine awp_mv hX 10 80 72 (by simp only [go_sem, simprocAttr, hb, ht, hb0, hm0, List.nil_append]) rfl (by first | exact .inl rfl | exact .inr rfl) (by decide) ?_; simp only [go_sem, simprocAttr, hb, ht, hb0, hm0, List.nil_append])
  refine awp_loopP (fun k : Nat => k ≤ f.row.length) (fun k => ⟨[(0, .ptr 10000 0), (1, eN x), (10, .ref 72), (12, eN (spanK f.row x k).1), (13, eN ((spanK f.row x k).2.1 - 1)), (14, eN k)], [(10000, .box [eN g.n, .d (sE g.es), .d (sT f.row), .d (sI f.pl)]), (72, .tip 62 3 ((aboveF g x outs).map rT))]⟩) (fun k => f.row.length - k) 0 (by omega) ?_ ?_
  ·refine Le.of ?_ ?_ <;> simp [go_sem, simprocAttr, hb, ht, hb0, hm0, List.nil_append, spanK, hA]
  rintro k hk
  rcases Nat.lt_or_ge k f.row.length with hlt | hge
  ·have hb : decide ((k : Int) < (f.row.length : Int)) = true := decide_eq_true (by omega)
   have hok := spanK_ok (row := f.row) (x := x) k
   have hnx := spanK_next (row := f.row) (x := x) (k := k)
   have hm1 : (spanK f.row x k).1 < 0 ↔ (spanK f.row x k).1 = -1 := by
    rcases hok with ⟨h1, _⟩ | ⟨a, b, c, h1, _⟩
    ·rw [h1]; exact ⟨fun _ => rfl, fun _ => by decide⟩
    ·rw [h1]; show (a : Int) < 0 ↔ (a : Int) = -1; omega
   repeat' (first | fail | ((first | ((with_reducible (first | apply oA | apply oB)); exact rfl; intro K hK) | (refine hK _ ?_; clear hK K) | ((with_reducible (first | apply oG | apply oH)); iterate 3 exact rfl) | ((with_reducible apply oI); (iterate 2 exact rfl); intro K hK) | (with_reducible (first | apply wI | apply wJ | apply wK))); try simp only [go_sem, simprocAttr, hb]) | fail | (with_reducible (first | apply oC | apply oJ | exact oK | apply wA | apply wB | apply wC hX hC | apply wD hX hC | apply wE hX hC hmix | apply wF hX hC hmix | apply wG | apply wH | apply And.intro)) | ((with_reducible refine oD ?_ ?_); first | fail | kernel_rfl) | ((with_reducible (first | apply oE | apply oF)); (iterate 3 exact rfl); all_goals (intro h; first | (exact absurd h (by decide)) | ((try simp only [go_sem, simprocAttr, hb] at h); (try with_reducible intro K hK); simp only [go_sem, simprocAttr, hb]))) | ((first | ((with_reducible apply wL); exact rfl) | ((with_reducible apply wM); exact rfl)); all_goals (try ((with_reducible intro h); first | (exact absurd h (by decide)) | (try simp only [go_sem, simprocAttr, hb] at h)))) | omega | ((first | first | (refine acall_rob hX hC hP [(10000, 10000)] (rReady_spec g hl f x hr1 hp1) rfl rfl rfl ?_ ?_ ?_ ?_ ?_ ?_ rfl rfl ?_ ?_; (focus (simp only [go_sem, simprocAttr, hb]; done)); (iterate 6 (focus (simp [go_sem, simprocAttr, hb]; done))); simp only [go_sem, simprocAttr, hb, List.map_cons, List.map_nil]) | refine acall_simple hX hC hP (ends_spec g x true hl) rfl rfl rfl (by simp only [go_sem, simprocAttr, hb]) rfl ?_ | refine acall_simple hX hC hP (has9_spec outs ((outZ g x).getD k 0) ho1) rfl rfl rfl (by simp only [go_sem, simprocAttr, hb]) rfl ?_); try simp only [go_sem, simprocAttr, hb]) | (intro h))
   all_goals (try rw [hm1] at *)
   all_goals (first | rw [if_neg (by assumption)] at hnx | (rw [if_pos (by assumption)] at hnx; first | rw [if_pos (by assumption)] at hnx | rw [if_neg (by assumption)] at hnx))
   all_goals (refine ⟨k + 1, by omega, ?_, by omega⟩; refine Le.of ?_ ?_ <;> simp [go_sem, simprocAttr, hb, hnx])
  have hb : decide ((k : Int) < (f.row.length : Int)) = false := decide_eq_false (by omega)
  obtain rfl : k = f.row.length := by omega
  clear hk hge
  have htr : List.take f.row.length (f.row.map rT) = f.row.map rT := List.take_of_length_le (by simp)
  have hal := aboveF_len (g := g) (x := x) (outs := outs)
  rcases spanK_ok (row := f.row) (x := x) f.row.length with ⟨hs, _⟩ | ⟨a, b, c, hs, hab, hbl, _⟩
  ·have hS : succF g f x outs = (([], 0), ⟨aboveF g x outs ++ f.row, f.pl ++ [x]⟩) := by
    have e : spanF f.row x = (-1, 0, 0) := hs
    unfold succF
    rw [e]; simp; exact .inl (by decide)
   repeat' (first | (show awp _ .ret _ _; (try simp only [go_sem, simprocAttr, hb, hs, hS, htr, List.map_append, List.map_cons, List.map_nil, rI, List.length_append, List.length_map, List.length_take, List.length_drop]); (refine awp_frzT hX 113 rfl ?_; simp only [go_sem, simprocAttr, hb, hs, hS, htr, List.map_append, List.map_cons, List.map_nil, rI, List.length_append, List.length_map, List.length_take, List.length_drop]); first | (refine awp_frzT hX 124 rfl ?_; simp only [go_sem, simprocAttr, hb, hs, hS, htr, List.map_append, List.map_cons, List.map_nil, rI, List.length_append, List.length_map, List.length_take, List.length_drop]) | (refine awp_frzT hX 156 rfl ?_; simp only [go_sem, simprocAttr, hb, hs, hS, htr, List.map_append, List.map_cons, List.map_nil, rI, List.length_append, List.length_map, List.length_take, List.length_drop])) | ((first | ((with_reducible (first | apply oA | apply oB)); exact rfl; intro K hK) | (refine hK _ ?_; clear hK K) | ((with_reducible (first | apply oG | apply oH)); iterate 3 exact rfl) | ((with_reducible apply oI); (iterate 2 exact rfl); intro K hK) | (with_reducible (first | apply wI | apply wJ | apply wK))); try simp only [go_sem, simprocAttr, hb, hs, hS, htr, List.map_append, List.map_cons, List.map_nil, rI, List.length_append, List.length_map, List.length_take, List.length_drop]) | fail | (with_reducible (first | apply oC | apply oJ | exact oK | apply wA | apply wB | apply wC hX hC | apply wD hX hC | apply wE hX hC hmix | apply wF hX hC hmix | apply wG | apply wH | apply And.intro)) | ((with_reducible refine oD ?_ ?_); first | fail | kernel_rfl) | ((with_reducible (first | apply oE | apply oF)); (iterate 3 exact rfl); all_goals (intro h; first | (exact absurd h (by decide)) | ((try simp only [go_sem, simprocAttr, hb, hs, hS, htr, List.map_append, List.map_cons, List.map_nil, rI, List.length_append, List.length_map, List.length_take, List.length_drop] at h); (try with_reducible intro K hK); simp only [go_sem, simprocAttr, hb, hs, hS, htr, List.map_append, List.map_cons, List.map_nil, rI, List.length_append, List.length_map, List.length_take, List.length_drop]))) | ((first | ((with_reducible apply wL); exact rfl) | ((with_reducible apply wM); exact rfl)); all_goals (try ((with_reducible intro h); first | (exact absurd h (by decide)) | (try simp only [go_sem, simprocAttr, hb, hs, hS, htr, List.map_append, List.map_cons, List.map_nil, rI, List.length_append, List.length_map, List.length_take, List.length_drop] at h)))) | omega | ((first | first | (refine acall_rob hX hC hP [(10000, 10000)] (rReady_spec g hl f x hr1 hp1) rfl rfl rfl ?_ ?_ ?_ ?_ ?_ ?_ rfl rfl ?_ ?_; (focus (simp only [go_sem, simprocAttr, hb, hs, hS, htr, List.map_append, List.map_cons, List.map_nil, rI, List.length_append, List.length_map, List.length_take, List.length_drop]; done)); (iterate 6 (focus (simp [go_sem, simprocAttr, hb, hs, hS, htr, List.map_append, List.map_cons, List.map_nil, rI, List.length_append, List.length_map, List.length_take, List.length_drop]; done))); simp only [go_sem, simprocAttr, hb, hs, hS, htr, List.map_append, List.map_cons, List.map_nil, rI, List.length_append, List.length_map, List.length_take, List.length_drop, List.map_cons, List.map_nil]) | refine acall_simple hX hC hP (ends_spec g x true hl) rfl rfl rfl (by simp only [go_sem, simprocAttr, hb, hs, hS, htr, List.map_append, List.map_cons, List.map_nil, rI, List.length_append, List.length_map, List.length_take, List.length_drop]) rfl ?_ | refine acall_simple hX hC hP (has9_spec outs ((outZ g x).getD k 0) ho1) rfl rfl rfl (by simp only [go_sem, simprocAttr, hb, hs, hS, htr, List.map_append, List.map_cons, List.map_nil, rI, List.length_append, List.length_map, List.length_take, List.length_drop]) rfl ?_); try simp only [go_sem, simprocAttr, hb, hs, hS, htr, List.map_append, List.map_cons, List.map_nil, rI, List.length_append, List.length_map, List.length_take, List.length_drop]) | (intro h))
  ·have hS : succF g f x outs = (((f.row.take b).drop a, 0), ⟨f.row.take a ++ aboveF g x outs ++ f.row.drop b, f.pl ++ [x]⟩) := by
    have e : spanF f.row x = ((a : Int), (b : Int), (c : Int)) := hs
    unfold succF
    rw [e]
    have e1 : (max (a : Int) 0).toNat = a := by omega
    simp only [e1, Int.toNat_natCast]
   have hbb : ((b : Int) - 1 + 1) = b := by omega
   repeat' (first | (show awp _ .ret _ _; (try simp only [go_sem, simprocAttr, hb, hs, hS, hbb, htr, List.map_append, List.map_cons, List.map_nil, List.map_take, List.map_drop, rI, List.length_append, List.length_map, List.length_take, List.length_drop]); (refine awp_frzT hX 113 rfl ?_; simp only [go_sem, simprocAttr, hb, hs, hS, hbb, htr, List.map_append, List.map_cons, List.map_nil, List.map_take, List.map_drop, rI, List.length_append, List.length_map, List.length_take, List.length_drop]); first | (refine awp_frzT hX 124 rfl ?_; simp only [go_sem, simprocAttr, hb, hs, hS, hbb, htr, List.map_append, List.map_cons, List.map_nil, List.map_take, List.map_drop, rI, List.length_append, List.length_map, List.length_take, List.length_drop]) | (refine awp_frzT hX 156 rfl ?_; simp only [go_sem, simprocAttr, hb, hs, hS, hbb, htr, List.map_append, List.map_cons, List.map_nil, List.map_take, List.map_drop, rI, List.length_append, List.length_map, List.length_take, List.length_drop])) | ((first | ((with_reducible (first | apply oA | apply oB)); exact rfl; intro K hK) | (refine hK _ ?_; clear hK K) | ((with_reducible (first | apply oG | apply oH)); iterate 3 exact rfl) | ((with_reducible apply oI); (iterate 2 exact rfl); intro K hK) | (with_reducible (first | apply wI | apply wJ | apply wK))); try simp only [go_sem, simprocAttr, hb, hs, hS, hbb, htr, List.map_append, List.map_cons, List.map_nil, List.map_take, List.map_drop, rI, List.length_append, List.length_map, List.length_take, List.length_drop]) | fail | (with_reducible (first | apply oC | apply oJ | exact oK | apply wA | apply wB | apply wC hX hC | apply wD hX hC | apply wE hX hC hmix | apply wF hX hC hmix | apply wG | apply wH | apply And.intro)) | ((with_reducible refine oD ?_ ?_); first | fail | kernel_rfl) | ((with_reducible (first | apply oE | apply oF)); (iterate 3 exact rfl); all_goals (intro h; first | (exact absurd h (by decide)) | ((try simp only [go_sem, simprocAttr, hb, hs, hS, hbb, htr, List.map_append, List.map_cons, List.map_nil, List.map_take, List.map_drop, rI, List.length_append, List.length_map, List.length_take, List.length_drop] at h); (try with_reducible intro K hK); simp only [go_sem, simprocAttr, hb, hs, hS, hbb, htr, List.map_append, List.map_cons, List.map_nil, List.map_take, List.map_drop, rI, List.length_append, List.length_map, List.length_take, List.length_drop]))) | ((first | ((with_reducible apply wL); exact rfl) | ((with_reducible apply wM); exact rfl)); all_goals (try ((with_reducible intro h); first | (exact absurd h (by decide)) | (try simp only [go_sem, simprocAttr, hb, hs, hS, hbb, htr, List.map_append, List.map_cons, List.map_nil, List.map_take, List.map_drop, rI, List.length_append, List.length_map, List.length_take, List.length_drop] at h)))) | omega | ((first | first | (refine acall_rob hX hC hP [(10000, 10000)] (rReady_spec g hl f x hr1 hp1) rfl rfl rfl ?_ ?_ ?_ ?_ ?_ ?_ rfl rfl ?_ ?_; (focus (simp only [go_sem, simprocAttr, hb, hs, hS, hbb, htr, List.map_append, List.map_cons, List.map_nil, List.map_take, List.map_drop, rI, List.length_append, List.length_map, List.length_take, List.length_drop]; done)); (iterate 6 (focus (simp [go_sem, simprocAttr, hb, hs, hS, hbb, htr, List.map_append, List.map_cons, List.map_nil, List.map_take, List.map_drop, rI, List.length_append, List.length_map, List.length_take, List.length_drop]; done))); simp only [go_sem, simprocAttr, hb, hs, hS, hbb, htr, List.map_append, List.map_cons, List.map_nil, List.map_take, List.map_drop, rI, List.length_append, List.length_map, List.length_take, List.length_drop, List.map_cons, List.map_nil]) | refine acall_simple hX hC hP (ends_spec g x true hl) rfl rfl rfl (by simp only [go_sem, simprocAttr, hb, hs, hS, hbb, htr, List.map_append, List.map_cons, List.map_nil, List.map_take, List.map_drop, rI, List.length_append, List.length_map, List.length_take, List.length_drop]) rfl ?_ | refine acall_simple hX hC hP (has9_spec outs ((outZ g x).getD k 0) ho1) rfl rfl rfl (by simp only [go_sem, simprocAttr, hb, hs, hS, hbb, htr, List.map_append, List.map_cons, List.map_nil, List.map_take, List.map_drop, rI, List.length_append, List.length_map, List.length_take, List.length_drop]) rfl ?_); try simp only [go_sem, simprocAttr, hb, hs, hS, hbb, htr, List.map_append, List.map_cons, List.map_nil, List.map_take, List.map_drop, rI, List.length_append, List.length_map, List.length_take, List.length_drop]) | (intro h))
 ·have hA : aboveF g x outs = outs.map (itemF g x) := if_neg h0
  have hb0 : decide ((outs.length : Int) = 0) = false := decide_eq_false fun h => h0 (List.eq_nil_of_length_eq_zero (by omega))
  repeat' (first | fail | ((first | ((with_reducible (first | apply oA | apply oB)); exact rfl; intro K hK) | (refine hK _ ?_; clear hK K) | ((with_reducible (first | apply oG | apply oH)); iterate 3 exact rfl) | ((with_reducible apply oI); (iterate 2 exact rfl); intro K hK) | (with_reducible (first | apply wI | apply wJ | apply wK))); try simp only [go_sem, simprocAttr, hb, ht, hb0]) | fail | (with_reducible (first | apply oC | apply oJ | exact oK | apply wA | apply wB | apply wC hX hC | apply wD hX hC | apply wE hX hC hmix | apply wF hX hC hmix | apply wG | apply wH | apply And.intro)) | ((with_reducible refine oD ?_ ?_); first | fail | kernel_rfl) | ((with_reducible (first | apply oE | apply oF)); (iterate 3 exact rfl); all_goals (intro h; first | (exact absurd h (by decide)) | ((try simp only [go_sem, simprocAttr, hb, ht, hb0] at h); (try with_reducible intro K hK); simp only [go_sem, simprocAttr, hb, ht, hb0]))) | ((first | ((with_reducible apply wL); exact rfl) | ((with_reducible apply wM); exact rfl)); all_goals (try ((with_reducible intro h); first | (exact absurd h (by decide)) | (try simp only [go_sem, simprocAttr, hb, ht, hb0] at h)))) | omega | ((first | first | (refine acall_rob hX hC hP [(10000, 10000)] (rReady_spec g hl f x hr1 hp1) rfl rfl rfl ?_ ?_ ?_ ?_ ?_ ?_ rfl rfl ?_ ?_; (focus (simp only [go_sem, simprocAttr, hb, ht, hb0]; done)); (iterate 6 (focus (simp [go_sem, simprocAttr, hb, ht, hb0]; done))); simp only [go_sem, simprocAttr, hb, ht, hb0, List.map_cons, List.map_nil]) | refine acall_simple hX hC hP (ends_spec g x true hl) rfl rfl rfl (by simp only [go_sem, simprocAttr, hb, ht, hb0]) rfl ?_ | refine acall_simple hX hC hP (has9_spec outs ((outZ g x).getD k 0) ho1) rfl rfl rfl (by simp only [go_sem, simprocAttr, hb, ht, hb0]) rfl ?_); try simp only [go_sem, simprocAttr, hb, ht, hb0]) | (intro h))
  refine awp_loopP (fun k : Nat => k ≤ f.row.length) (fun k => ⟨[(0, .ptr 10000 0), (1, eN x), (10, .ref 72), (12, eN (spanK f.row x k).1), (13, eN ((spanK f.row x k).2.1 - 1)), (14, eN k)], [(10000, .box [eN g.n, .d (sE g.es), .d (sT f.row), .d (sI f.pl)]), (72, .tip 62 3 ((aboveF g x outs).map rT))]⟩) (fun k => f.row.length - k) 0 (by omega) ?_ ?_
  ·refine Le.of ?_ ?_ <;> simp [go_sem, simprocAttr, hb, ht, hb0, spanK, hA]
  rintro k hk
  rcases Nat.lt_or_ge k f.row.length with hlt | hge
  ·have hb : decide ((k : Int) < (f.row.length : Int)) = true := decide_eq_true (by omega)
   have hok := spanK_ok (row := f.row) (x := x) k
   have hnx := spanK_next (row := f.row) (x := x) (k := k)
   have hm1 : (spanK f.row x k).1 < 0 ↔ (spanK f.row x k).1 = -1 := by
    rcases hok with ⟨h1, _⟩ | ⟨a, b, c, h1, _⟩
    ·rw [h1]; exact ⟨fun _ => rfl, fun _ => by decide⟩
    ·rw [h1]; show (a : Int) < 0 ↔ (a : Int) = -1; omega
   repeat' (first | fail | ((first | ((with_reducible (first | apply oA | apply oB)); exact rfl; intro K hK) | (refine hK _ ?_; clear hK K) | ((with_reducible (first | apply oG | apply oH)); iterate 3 exact rfl) | ((with_reducible apply oI); (iterate 2 exact rfl); intro K hK) | (with_reducible (first | apply wI | apply wJ | apply wK))); try simp only [go_sem, simprocAttr, hb]) | fail | (with_reducible (first | apply oC | apply oJ | exact oK | apply wA | apply wB | apply wC hX hC | apply wD hX hC | apply wE hX hC hmix | apply wF hX hC hmix | apply wG | apply wH | apply And.intro)) | ((with_reducible refine oD ?_ ?_); first | fail | kernel_rfl) | ((with_reducible (first | apply oE | apply oF)); (iterate 3 exact rfl); all_goals (intro h; first | (exact absurd h (by decide)) | ((try simp only [go_sem, simprocAttr, hb] at h); (try with_reducible intro K hK); simp only [go_sem, simprocAttr, hb]))) | ((first | ((with_reducible apply wL); exact rfl) | ((with_reducible apply wM); exact rfl)); all_goals (try ((with_reducible intro h); first | (exact absurd h (by decide)) | (try simp only [go_sem, simprocAttr, hb] at h)))) | omega | ((first | first | (refine acall_rob hX hC hP [(10000, 10000)] (rReady_spec g hl f x hr1 hp1) rfl rfl rfl ?_ ?_ ?_ ?_ ?_ ?_ rfl rfl ?_ ?_; (focus (simp only [go_sem, simprocAttr, hb]; done)); (iterate 6 (focus (simp [go_sem, simprocAttr, hb]; done))); simp only [go_sem, simprocAttr, hb, List.map_cons, List.map_nil]) | refine acall_simple hX hC hP (ends_spec g x true hl) rfl rfl rfl (by simp only [go_sem, simprocAttr, hb]) rfl ?_ | refine acall_simple hX hC hP (has9_spec outs ((outZ g x).getD k 0) ho1) rfl rfl rfl (by simp only [go_sem, simprocAttr, hb]) rfl ?_); try simp only [go_sem, simprocAttr, hb]) | (intro h))
   all_goals (try rw [hm1] at *)
   all_goals (first | rw [if_neg (by assumption)] at hnx | (rw [if_pos (by assumption)] at hnx; first | rw [if_pos (by assumption)] at hnx | rw [if_neg (by assumption)] at hnx))
   all_goals (refine ⟨k + 1, by omega, ?_, by omega⟩; refine Le.of ?_ ?_ <;> simp [go_sem, simprocAttr, hb, hnx])
  have hb : decide ((k : Int) < (f.row.length : Int)) = false := decide_eq_false (by omega)
  obtain rfl : k = f.row.length := by omega
  clear hk hge
  have htr : List.take f.row.length (f.row.map rT) = f.row.map rT := List.take_of_length_le (by simp)
  have hal := aboveF_len (g := g) (x := x) (outs := outs)
  rcases spanK_ok (row := f.row) (x := x) f.row.length with ⟨hs, _⟩ | ⟨a, b, c, hs, hab, hbl, _⟩
  ·have hS : succF g f x outs = (([], 0), ⟨aboveF g x outs ++ f.row, f.pl ++ [x]⟩) := by
    have e : spanF f.row x = (-1, 0, 0) := hs
    unfold succF
    rw [e]; simp; exact .inl (by decide)
   repeat' (first | (show awp _ .ret _ _; (try simp only [go_sem, simprocAttr, hb, hs, hS, htr, List.map_append, List.map_cons, List.map_nil, rI, List.length_append, List.length_map, List.length_take, List.length_drop]); (refine awp_frzT hX 113 rfl ?_; simp only [go_sem, simprocAttr, hb, hs, hS, htr, List.map_append, List.map_cons, List.map_nil, rI, List.length_append, List.length_map, List.length_take, List.length_drop]); first | (refine awp_frzT hX 124 rfl ?_; simp only [go_sem, simprocAttr, hb, hs, hS, htr, List.map_append, List.map_cons, List.map_nil, rI, List.length_append, List.length_map, List.length_take, List.length_drop]) | (refine awp_frzT hX 156 rfl ?_; simp only [go_sem, simprocAttr, hb, hs, hS, htr, List.map_append, List.map_cons, List.map_nil, rI, List.length_append, List.length_map, List.length_take, List.length_drop])) | ((first | ((with_reducible (first | apply oA | apply oB)); exact rfl; intro K hK) | (refine hK _ ?_; clear hK K) | ((with_reducible (first | apply oG | apply oH)); iterate 3 exact rfl) | ((with_reducible apply oI); (iterate 2 exact rfl); intro K hK) | (with_reducible (first | apply wI | apply wJ | apply wK))); try simp only [go_sem, simprocAttr, hb, hs, hS, htr, List.map_append, List.map_cons, List.map_nil, rI, List.length_append, List.length_map, List.length_take, List.length_drop]) | fail | (with_reducible (first | apply oC | apply oJ | exact oK | apply wA | apply wB | apply wC hX hC | apply wD hX hC | apply wE hX hC hmix | apply wF hX hC hmix | apply wG | apply wH | apply And.intro)) | ((with_reducible refine oD ?_ ?_); first | fail | kernel_rfl) | ((with_reducible (first | apply oE | apply oF)); (iterate 3 exact rfl); all_goals (intro h; first | (exact absurd h (by decide)) | ((try simp only [go_sem, simprocAttr, hb, hs, hS, htr, List.map_append, List.map_cons, List.map_nil, rI, List.length_append, List.length_map, List.length_take, List.length_drop] at h); (try with_reducible intro K hK); simp only [go_sem, simprocAttr, hb, hs, hS, htr, List.map_append, List.map_cons, List.map_nil, rI, List.length_append, List.length_map, List.length_take, List.length_drop]))) | ((first | ((with_reducible apply wL); exact rfl) | ((with_reducible apply wM); exact rfl)); all_goals (try ((with_reducible intro h); first | (exact absurd h (by decide)) | (try simp only [go_sem, simprocAttr, hb, hs, hS, htr, List.map_append, List.map_cons, List.map_nil, rI, List.length_append, List.length_map, List.length_take, List.length_drop] at h)))) | omega | ((first | first | (refine acall_rob hX hC hP [(10000, 10000)] (rReady_spec g hl f x hr1 hp1) rfl rfl rfl ?_ ?_ ?_ ?_ ?_ ?_ rfl rfl ?_ ?_; (focus (simp only [go_sem, simprocAttr, hb, hs, hS, htr, List.map_append, List.map_cons, List.map_nil, rI, List.length_append, List.length_map, List.length_take, List.length_drop]; done)); (iterate 6 (focus (simp [go_sem, simprocAttr, hb, hs, hS, htr, List.map_append, List.map_cons, List.map_nil, rI, List.length_append, List.length_map, List.length_take, List.length_drop]; done))); simp only [go_sem, simprocAttr, hb, hs, hS, htr, List.map_append, List.map_cons, List.map_nil, rI, List.length_append, List.length_map, List.length_take, List.length_drop, List.map_cons, List.map_nil]) | refine acall_simple hX hC hP (ends_spec g x true hl) rfl rfl rfl (by simp only [go_sem, simprocAttr, hb, hs, hS, htr, List.map_append, List.map_cons, List.map_nil, rI, List.length_append, List.length_map, List.length_take, List.length_drop]) rfl ?_ | refine acall_simple hX hC hP (has9_spec outs ((outZ g x).getD k 0) ho1) rfl rfl rfl (by simp only [go_sem, simprocAttr, hb, hs, hS, htr, List.map_append, List.map_cons, List.map_nil, rI, List.length_append, List.length_map, List.length_take, List.length_drop]) rfl ?_); try simp only [go_sem, simprocAttr, hb, hs, hS, htr, List.map_append, List.map_cons, List.map_nil, rI, List.length_append, List.length_map, List.length_take, List.length_drop]) | (intro h))
  ·have hS : succF g f x outs = (((f.row.take b).drop a, 0), ⟨f.row.take a ++ aboveF g x outs ++ f.row.drop b, f.pl ++ [x]⟩) := by
    have e : spanF f.row x = ((a : Int), (b : Int), (c : Int)) := hs
    unfold succF
    rw [e]
    have e1 : (max (a : Int) 0).toNat = a := by omega
    simp only [e1, Int.toNat_natCast]
   have hbb : ((b : Int) - 1 + 1) = b := by omega
   repeat' (first | (show awp _ .ret _ _; (try simp only [go_sem, simprocAttr, hb, hs, hS, hbb, htr, List.map_append, List.map_cons, List.map_nil, List.map_take, List.map_drop, rI, List.length_append, List.length_map, List.length_take, List.length_drop]); (refine awp_frzT hX 113 rfl ?_; simp only [go_sem, simprocAttr, hb, hs, hS, hbb, htr, List.map_append, List.map_cons, List.map_nil, List.map_take, List.map_drop, rI, List.length_append, List.length_map, List.length_take, List.length_drop]); first | (refine awp_frzT hX 124 rfl ?_; simp only [go_sem, simprocAttr, hb, hs, hS, hbb, htr, List.map_append, List.map_cons, List.map_nil, List.map_take, List.map_drop, rI, List.length_append, List.length_map, List.length_take, List.length_drop]) | (refine awp_frzT hX 156 rfl ?_; simp only [go_sem, simprocAttr, hb, hs, hS, hbb, htr, List.map_append, List.map_cons, List.map_nil, List.map_take, List.map_drop, rI, List.length_append, List.length_map, List.length_take, List.length_drop])) | ((first | ((with_reducible (first | apply oA | apply oB)); exact rfl; intro K hK) | (refine hK _ ?_; clear hK K) | ((with_reducible (first | apply oG | apply oH)); iterate 3 exact rfl) | ((with_reducible apply oI); (iterate 2 exact rfl); intro K hK) | (with_reducible (first | apply wI | apply wJ | apply wK))); try simp only [go_sem, simprocAttr, hb, hs, hS, hbb, htr, List.map_append, List.map_cons, List.map_nil, List.map_take, List.map_drop, rI, List.length_append, List.length_map, List.length_take, List.length_drop]) | fail | (with_reducible (first | apply oC | apply oJ | exact oK | apply wA | apply wB | apply wC hX hC | apply wD hX hC | apply wE hX hC hmix | apply wF hX hC hmix | apply wG | apply wH | apply And.intro)) | ((with_reducible refine oD ?_ ?_); first | fail | kernel_rfl) | ((with_reducible (first | apply oE | apply oF)); (iterate 3 exact rfl); all_goals (intro h; first | (exact absurd h (by decide)) | ((try simp only [go_sem, simprocAttr, hb, hs, hS, hbb, htr, List.map_append, List.map_cons, List.map_nil, List.map_take, List.map_drop, rI, List.length_append, List.length_map, List.length_take, List.length_drop] at h); (try with_reducible intro K hK); simp only [go_sem, simprocAttr, hb, hs, hS, hbb, htr, List.map_append, List.map_cons, List.map_nil, List.map_take, List.map_drop, rI, List.length_append, List.length_map, List.length_take, List.length_drop]))) | ((first | ((with_reducible apply wL); exact rfl) | ((with_reducible apply wM); exact rfl)); all_goals (try ((with_reducible intro h); first | (exact absurd h (by decide)) | (try simp only [go_sem, simprocAttr, hb, hs, hS, hbb, htr, List.map_append, List.map_cons, List.map_nil, List.map_take, List.map_drop, rI, List.length_append, List.length_map, List.length_take, List.length_drop] at h)))) | omega | ((first | first | (refine acall_rob hX hC hP [(10000, 10000)] (rReady_spec g hl f x hr1 hp1) rfl rfl rfl ?_ ?_ ?_ ?_ ?_ ?_ rfl rfl ?_ ?_; (focus (simp only [go_sem, simprocAttr, hb, hs, hS, hbb, htr, List.map_append, List.map_cons, List.map_nil, List.map_take, List.map_drop, rI, List.length_append, List.length_map, List.length_take, List.length_drop]; done)); (iterate 6 (focus (simp [go_sem, simprocAttr, hb, hs, hS, hbb, htr, List.map_append, List.map_cons, List.map_nil, List.map_take, List.map_drop, rI, List.length_append, List.length_map, List.length_take, List.length_drop]; done))); simp only [go_sem, simprocAttr, hb, hs, hS, hbb, htr, List.map_append, List.map_cons, List.map_nil, List.map_take, List.map_drop, rI, List.length_append, List.length_map, List.length_take, List.length_drop, List.map_cons, List.map_nil]) | refine acall_simple hX hC hP (ends_spec g x true hl) rfl rfl rfl (by simp only [go_sem, simprocAttr, hb, hs, hS, hbb, htr, List.map_append, List.map_cons, List.map_nil, List.map_take, List.map_drop, rI, List.length_append, List.length_map, List.length_take, List.length_drop]) rfl ?_ | refine acall_simple hX hC hP (has9_spec outs ((outZ g x).getD k 0) ho1) rfl rfl rfl (by simp only [go_sem, simprocAttr, hb, hs, hS, hbb, htr, List.map_append, List.map_cons, List.map_nil, List.map_take, List.map_drop, rI, List.length_append, List.length_map, List.length_take, List.length_drop]) rfl ?_); try simp only [go_sem, simprocAttr, hb, hs, hS, hbb, htr, List.map_append, List.map_cons, List.map_nil, List.map_take, List.map_drop, rI, List.length_append, List.length_map, List.length_take, List.length_drop]) | (intro h))
end Go.Ab
end
section
namespace Go.Ab
open Go.Proofs
attribute [local congr] ACall.congr
set_option maxRecDepth 10000
set_option maxHeartbeats 4000000
def vI (ls : List (List Int)) : List (List D) := ls.map fun l => [sI l]
theorem vI_length {ls : List (List Int)} : (vI ls).length = ls.length := by simp [vI]
theorem vI_getD {ls : List (List Int)} {k : Nat} (h : k < ls.length) (d : List D) : (vI ls).getD k d = [sI (ls.getD k [])] := by
 simp [vI, List.getD_eq_getElem?_getD, List.getElem?_eq_getElem h]
attribute [go_sem] vI_length
def without (l : List Int) (i : Nat) : List Int := l.take i ++ l.drop (i + 1)
def ordN : Nat → List Int → List (List Int)
 | 0, _ => [[]]
 | n + 1, l => (List.range l.length).flatMap fun i => (ordN n (without l i)).map fun t => l.getD i 0 :: t
def ordI (n : Nat) (l : List Int) (k : Nat) : List (List Int) := (List.range k).flatMap fun i => (ordN n (without l i)).map fun t => l.getD i 0 :: t
def fac : Nat → Nat
 | 0 => 1
 | n + 1 => (n + 1) * fac n
end Go.Ab
end
section
namespace Go.Ab
open Go.Proofs
attribute [local congr] ACall.congr
set_option maxRecDepth 10000
set_option maxHeartbeats 8000000
def canN (g : Gr) : Nat → Fr → Bool
 | 0, f => decide ((f.pl.length : Int) = g.n)
 | m + 1, f => decide ((f.pl.length : Int) = g.n) || (List.range g.n.toNat).any fun x => rReadyF g f (x : Int) && (ordN (outZ g (x : Int)).length (outZ g (x : Int))).any fun o => canN g m (succF g f (x : Int) o).2
def canX (g : Gr) (m : Nat) (f : Fr) (x : Nat) : Bool := rReadyF g f (x : Int) && (ordN (outZ g (x : Int)).length (outZ g (x : Int))).any fun o => canN g m (succF g f (x : Int) o).2
theorem succF_len {g : Gr} {f : Fr} {x : Int} {o : List Int} : (succF g f x o).2.row.length ≤ f.row.length + o.length + 1 ∧ (succF g f x o).2.pl.length = f.pl.length + 1 := by
 obtain ⟨a, b, ha, hb, hab, hbl⟩ := spanF_nat f.row x
 have := aboveF_len (g := g) (x := x) (outs := o)
 have e : succF g f x o = (((f.row.take b).drop a, 0), ⟨f.row.take a ++ aboveF g x o ++ f.row.drop b, f.pl ++ [x]⟩) := by
  simp only [succF, ha, hb, Int.toNat_natCast]
 rw [e]
 refine ⟨?_, by simp⟩
 show (f.row.take a ++ aboveF g x o ++ f.row.drop b).length ≤ _
 rw [List.length_append, List.length_append, List.length_take, List.length_drop]
 omega
end Go.Ab
end
section
namespace Go.Ab
open Go.Proofs
attribute [local congr] ACall.congr
set_option maxRecDepth 10000
set_option maxHeartbeats 4000000
theorem refCheckN_spec (g : Gr) (hl : g.es.length ≤ 9223372036854775807) (hm : mayB g = false) : Spec Tryz.prog 59 (Args [eG g]) [] (.tup [eN (rchkG g).1, eN (rchkG g).2.1, .d (sI (rchkG g).2.2)]) [] := by
 (refine Spec.intro (C := T.cfg [] []) (rs := [.t 2, .t 3, .t 4]) (T.cfg_ok _ _) Tryz.func59 rfl rfl Tryz.ntmps59 Tryz.results59 (by simp [AObj.isNest]) (by simp [AObj.isNest]) (by kernel_rfl) ?_; intro X hX hP hC hXn hXm vals hA; refine ⟨_, by simp, hA, ?_⟩; have hmix : X.P.follows .mixedOrders = true := (by rw [hP]; exact T.mixed); clear hXn hXm)
 repeat' (first | fail | ((first | ((with_reducible (first | apply oA | apply oB)); exact rfl; intro K hK) | (refine hK _ ?_; clear hK K) | ((with_reducible (first | apply oG | apply oH)); iterate 3 exact rfl) | ((with_reducible apply oI); (iterate 2 exact rfl); intro K hK) | (with_reducible (first | apply wI | apply wJ | apply wK))); try simp only [go_sem, simprocAttr, hm]) | fail | (with_reducible (first | apply oC | apply oJ | exact oK | apply wA | apply wB | apply wC hX hC | apply wD hX hC | apply wE hX hC hmix | apply wF hX hC hmix | apply wG | apply wH | apply And.intro)) | ((with_reducible refine oD ?_ ?_); first | fail | kernel_rfl) | ((with_reducible (first | apply oE | apply oF)); (iterate 3 exact rfl); all_goals (intro h; first | (exact absurd h (by decide)) | ((try simp only [go_sem, simprocAttr, hm] at h); (try with_reducible intro K hK); simp only [go_sem, simprocAttr, hm]))) | ((first | ((with_reducible apply wL); exact rfl) | ((with_reducible apply wM); exact rfl)); all_goals (try ((with_reducible intro h); first | (exact absurd h (by decide)) | (try simp only [go_sem, simprocAttr, hm] at h)))) | omega | ((first | first | refine acall_simple hX hC hP (refMay_spec g hl) rfl rfl rfl (by simp only [go_sem, simprocAttr, hm]) rfl ?_); try simp only [go_sem, simprocAttr, hm]) | (intro h))
 all_goals simp [rchkG, chkOf, hm]
theorem refCheckA_spec (g : Gr) (hl : g.es.length ≤ 9223372036854775807) : Spec Tryz.prog 59 (Args [eG g]) [] (.tup [eN (rchkG g).1, eN (rchkG g).2.1, .d (sI (rchkG g).2.2)]) [] := by
 cases hm : mayB g with
 | false => exact refCheckN_spec g hl hm
 | true => exact refCheck_spec g (by have := mayB_n hm; omega)
theorem refGoodA_spec (g : Gr) (hl : g.es.length ≤ 9223372036854775807) : Spec Tryz.prog 28 (Args [eG g]) [] (eB (decide ((chkG g).1 = 0))) [] := by
 rw [chk_eq]
 (refine Spec.intro (C := T.cfg [] []) (rs := [.t 2]) (T.cfg_ok _ _) Tryz.func28 rfl rfl Tryz.ntmps28 Tryz.results28 (by simp [AObj.isNest]) (by simp [AObj.isNest]) (by kernel_rfl) ?_; intro X hX hP hC hXn hXm vals hA; refine ⟨_, by simp, hA, ?_⟩; have hmix : X.P.follows .mixedOrders = true := (by rw [hP]; exact T.mixed); clear hXn hXm)
 repeat' (first | fail | ((first | ((with_reducible (first | apply oA | apply oB)); exact rfl; intro K hK) | (refine hK _ ?_; clear hK K) | ((with_reducible (first | apply oG | apply oH)); iterate 3 exact rfl) | ((with_reducible apply oI); (iterate 2 exact rfl); intro K hK) | (with_reducible (first | apply wI | apply wJ | apply wK))); try simp only [go_sem, simprocAttr]) | fail | (with_reducible (first | apply oC | apply oJ | exact oK | apply wA | apply wB | apply wC hX hC | apply wD hX hC | apply wE hX hC hmix | apply wF hX hC hmix | apply wG | apply wH | apply And.intro)) | ((with_reducible refine oD ?_ ?_); first | fail | kernel_rfl) | ((with_reducible (first | apply oE | apply oF)); (iterate 3 exact rfl); all_goals (intro h; first | (exact absurd h (by decide)) | ((try simp only [go_sem, simprocAttr] at h); (try with_reducible intro K hK); simp only [go_sem, simprocAttr]))) | ((first | ((with_reducible apply wL); exact rfl) | ((with_reducible apply wM); exact rfl)); all_goals (try ((with_reducible intro h); first | (exact absurd h (by decide)) | (try simp only [go_sem, simprocAttr] at h)))) | omega | ((first | first | refine acall_simple hX hC hP (refCheckA_spec g hl) rfl rfl rfl (by simp only [go_sem, simprocAttr]) rfl ?_); try simp only [go_sem, simprocAttr]) | (intro h))
end Go.Ab
end
section
namespace Go.Ab
open Go.Proofs
attribute [local congr] ACall.congr
set_option maxRecDepth 10000
set_option maxHeartbeats 4000000
def g9 : Gr := ⟨3, [(0, 1), (0, 2), (1, 2)]⟩
def fr0 : Fr := ⟨[], []⟩
def fr1 : Fr := ⟨[(0, 0, 1), (1, 0, 2)], [0]⟩
def fr2 : Fr := ⟨[(2, 1, 2), (1, 0, 2)], [0, 1]⟩
def fr3 : Fr := ⟨[(-1, 2, -1)], [0, 1, 2]⟩
end Go.Ab
end
section
namespace Go.Ab
open Go.Proofs
set_option maxRecDepth 10000
def ItOk (g : Gr) (t : It) : Prop := (t.1 = -1 ∧ t.2.2 = -1) ∨ (0 ≤ t.1 ∧ t.1 < g.es.length ∧ t.2.1 = (g.es.getD t.1.toNat (0, 0)).1 ∧ t.2.2 = (g.es.getD t.1.toNat (0, 0)).2)
structure FrInv (g : Gr) (f : Fr) : Prop where
 it : ∀ t ∈ f.row, ItOk g t
 pl : f.pl.Nodup
 rng : ∀ x ∈ f.pl, 0 ≤ x ∧ x < g.n
theorem span_met {row : List It} {x : Int} : ∀ k : Nat, (spanK row x k).2.2 = metK row x k
 | 0 => rfl
 | k + 1 => by
  rw [spanK_next, metK_next]
  split
  ·show (spanK row x k).2.2 + 1 = _
   rw [span_met k]
  ·exact span_met k
theorem metK_mono {row : List It} {x : Int} {j : Nat} : ∀ d : Nat, metK row x j ≤ metK row x (j + d)
 | 0 => Int.le_refl _
 | d + 1 => by
  have := metK_mono (row := row) (x := x) (j := j) d
  rw [← Nat.add_assoc, metK_next]
  split <;> omega
theorem metK_zero {row : List It} {x : Int} : ∀ {k : Nat}, (∀ j, j < k → (row.getD j (0, 0, 0)).2.2 ≠ x) → metK row x k = 0
 | 0, _ => rfl
 | k + 1, h => by
  rw [metK_next, if_neg (h k (by omega))]
  exact metK_zero fun j hj => h j (by omega)
theorem metK_same {row : List It} {x : Int} {b : Nat} : ∀ {d : Nat}, (∀ j, b ≤ j → j < b + d → (row.getD j (0, 0, 0)).2.2 ≠ x) → metK row x (b + d) = metK row x b
 | 0, _ => rfl
 | d + 1, h => by
  rw [← Nat.add_assoc, metK_next, if_neg (h (b + d) (by omega) (by omega))]
  exact metK_same fun j h1 h2 => h j h1 (by omega)
theorem thereG_in {f : Edge → Int} {g : Gr} {x : Int} (h0 : 0 ≤ x) (h1 : x < g.n) : thereG f g x = endsZ f g.es g.es.length x := if_pos ⟨h0, h1⟩
theorem needN_pos {g : Gr} {e : Int} (h0 : 0 ≤ e) (h1 : e < g.es.length) : 0 < needN g (g.es.getD e.toNat (0, 0)).2 := by
 refine List.length_pos_iff.2 fun h => ?_
 have hm : e ∈ endsZ (·.2) g.es g.es.length (g.es.getD e.toNat (0, 0)).2 := by
  simp only [endsZ, List.mem_map, List.mem_filter, List.mem_range, decide_eq_true_eq]
  exact ⟨e.toNat, ⟨by omega, rfl⟩, by simp; omega⟩
 rw [h] at hm; cases hm
theorem any_slice {row : List It} {p : It → Bool} {a b : Nat} (hb : b ≤ row.length) : ((row.take b).drop a).any p = true ↔ ∃ j, a ≤ j ∧ j < b ∧ p (row.getD j (0, 0, 0)) = true := by
 rw [List.any_eq_true]
 constructor
 ·rintro ⟨t, ht, hp⟩
  obtain ⟨k, hk, rfl⟩ := List.mem_iff_getElem.1 ht
  simp only [List.length_drop, List.length_take] at hk
  refine ⟨a + k, by omega, by omega, ?_⟩
  rw [List.getD_eq_getElem?_getD, List.getElem?_eq_getElem (show a + k < row.length by omega)]
  simpa using hp
 ·rintro ⟨j, h1, h2, hp⟩
  rw [List.getD_eq_getElem?_getD, List.getElem?_eq_getElem (show j < row.length by omega)] at hp
  refine ⟨row[j], ?_, hp⟩
  refine List.mem_iff_getElem.2 ⟨j - a, by simp; omega, ?_⟩
  simp only [List.getElem_drop, List.getElem_take]
  congr 1; omega
theorem ItOk.head {g : Gr} (hm : mayB g = true) {t : It} (h : ItOk g t) : (0 ≤ t.1 ↔ t.2.2 ≠ -1) ∧ -1 ≤ t.2.2 := by
 rcases h with ⟨h1, h2⟩ | ⟨h1, h2, _, h4⟩
 ·omega
 ·obtain ⟨_, h5, _⟩ := mayB_e hm (k := t.1.toNat) (by omega)
  omega
theorem ready_eq {g : Gr} (hm : mayB g = true) {f : Fr} (hi : FrInv g f) (x : Int) : readyF g f x = rReadyF g f x := by
 by_cases hx : x < 0 ∨ g.n ≤ x ∨ x ∈ f.pl
 ·rw [readyF, rReadyF, if_pos hx, if_pos hx]
 rw [readyF, rReadyF, if_neg hx, if_neg hx]
 have hx0 : 0 ≤ x ∧ x < g.n := by
  constructor
  ·exact Int.not_lt.1 fun h => hx (.inl h)
  ·exact Int.not_le.1 fun h => hx (.inr (.inl h))
 have hmem : ∀ j, j < f.row.length → ItOk g (f.row.getD j (0, 0, 0)) := fun j hj => hi.it _ (getD_memX hj)
 rw [thereG_in hx0.1 hx0.2]
 have hN : (endsZ (fun e => e.2) g.es g.es.length x).length = needN g x := rfl
 rw [hN]
 have hmet : (spanF f.row x).2.2 = metK f.row x f.row.length := span_met _
 by_cases h0 : needN g x = 0
 ·rw [if_pos h0, h0, decide_eq_true rfl, Bool.true_or, Bool.and_true, decide_eq_true_eq, hmet, metK_zero]
  ·rfl
  ·intro j hj he
   rcases hmem j hj with ⟨_, h2⟩ | ⟨h1, h2, _, h4⟩
   ·omega
   ·have := needN_pos h1 h2
    rw [← h4, he] at this
    omega
 ·rw [if_neg h0, decide_eq_false h0, Bool.false_or, hmet]
  generalize needN g x = need at h0
  rcases spanK_ok (row := f.row) (x := x) f.row.length with ⟨hs, hno⟩ | ⟨a, b, c, hs, hab, hbl, hc0, hcl, ha, hb, hlo, hhi⟩
  ·rw [metK_zero hno]
   have e1 : decide ((0 : Int) = (need : Int)) = false := decide_eq_false (by omega)
   rw [e1, Bool.false_and, Bool.and_false]
  ·have hs' : spanF f.row x = ((a : Int), (b : Int), (c : Int)) := hs
   have hmc : metK f.row x f.row.length = c := by rw [← hmet, hs']
   rw [hs', hmc]
   simp only [Int.toNat_natCast]
   rw [Bool.and_comm]
   by_cases hcn : ¬ (c : Int) = need
   ·rw [decide_eq_false hcn, Bool.and_false, Bool.and_false]
   rw [Decidable.not_not] at hcn
   rw [decide_eq_true hcn, Bool.and_true, Bool.and_true, bareF]
   congr 1
   rw [Bool.eq_iff_iff, any_slice hbl, List.any_eq_true]
   have ma : metK f.row x a = 0 := metK_zero hlo
   have ma1 : metK f.row x (a + 1) = 1 := by rw [metK_next, if_pos ha, ma]; rfl
   have mb : metK f.row x b = need := by
    have h := metK_same (row := f.row) (x := x) (b := b) (d := f.row.length - b) fun j h1 h2 => hhi j h1 (by omega)
    rw [show b + (f.row.length - b) = f.row.length by omega, hmc] at h
    omega
   have mb1 : metK f.row x (b - 1) + 1 = need := by
    have h := metK_next (row := f.row) (x := x) (k := b - 1)
    rw [if_pos hb, show b - 1 + 1 = b by omega, mb] at h
    omega
   constructor
   ·rintro ⟨j, h1, h2, hp⟩
    simp only [otherI, Bool.and_eq_true, decide_eq_true_eq] at hp
    have hja : j ≠ a := fun e => hp.1 (by rw [e]; exact ha)
    have hjb : j ≠ b - 1 := fun e => hp.1 (by rw [e]; exact hb)
    have g1 := metK_mono (row := f.row) (x := x) (j := a + 1) (j - (a + 1))
    rw [show a + 1 + (j - (a + 1)) = j by omega] at g1
    have g2 := metK_mono (row := f.row) (x := x) (j := j) (b - 1 - j)
    rw [show j + (b - 1 - j) = b - 1 by omega] at g2
    exact ⟨j, List.mem_range.2 (by omega), lateJ_iff.2 ⟨⟨hp.1, ((hmem j (by omega)).head hm).1.2 hp.2⟩, by omega, by omega⟩⟩
   ·rintro ⟨j, hj, hl⟩
    have hj := List.mem_range.1 hj
    obtain ⟨⟨h1, h2⟩, h3, h4⟩ := lateJ_iff.1 hl
    refine ⟨j, ?_, ?_, ?_⟩
    ·refine Nat.not_lt.1 fun h => ?_
     have := metK_zero (row := f.row) (x := x) (k := j) fun i hi => hlo i (by omega)
     omega
    ·refine Nat.not_le.1 fun h => ?_
     have := metK_same (row := f.row) (x := x) (b := b) (d := j - b) fun i h1 h2 => hhi i h1 (by omega)
     rw [show b + (j - b) = j by omega] at this
     omega
    ·simp only [otherI, Bool.and_eq_true, decide_eq_true_eq]
     exact ⟨h1, ((hmem j hj).head hm).1.1 h2⟩
theorem pigeonP : ∀ {ms os : List Int}, ms.Nodup → (∀ i ∈ ms, i ∈ os) → os.length = ms.length → os.Perm ms
 | [], os, _, _, hl => by
  have h : os = [] := List.eq_nil_of_length_eq_zero (by simpa using hl)
  rw [h]
 | m :: ms, os, hn, hs, hl => by
  rw [List.nodup_cons] at hn
  have hm := hs m (List.mem_cons_self ..)
  refine (List.perm_cons_erase hm).trans (List.Perm.cons m (pigeonP hn.2 (fun j hj => ?_) ?_))
  ·have : j ≠ m := fun e => hn.1 (e ▸ hj)
   exact (List.mem_erase_of_ne this).2 (hs j (List.mem_cons_of_mem _ hj))
  ·rw [List.length_erase_of_mem hm, hl]; simp
theorem outZ_sorted {g : Gr} {x : Int} : (outZ g x).Pairwise (· ≤ ·) := by
 unfold outZ endsZ
 refine List.Pairwise.map _ (fun a b (h : a < b) => ?_) (List.Pairwise.filter _ List.pairwise_lt_range)
 show (a : Int) ≤ b
 omega
theorem srt_perm {l m : List Int} (h : l.Perm m) (hm : m.Pairwise (· ≤ ·)) : srt l = m := by
 have h1 : (srt l).Pairwise (· ≤ ·) := by
  have := List.pairwise_mergeSort (le := fun a b : Int => decide (a ≤ b)) (by simp; omega) (by simp; omega) l
  simpa [srt] using this
 have h2 : (srt l).Perm m := (by unfold srt; exact (List.mergeSort_perm l _).trans h)
 exact h2.eq_of_pairwise (fun a b _ _ h1 h2 => Int.le_antisymm h1 h2) h1 hm
theorem ready_rng {g : Gr} {f : Fr} {x : Int} (h : rReadyF g f x = true) : 0 ≤ x ∧ x < g.n ∧ x ∉ f.pl := by
 unfold rReadyF at h
 by_cases hx : x < 0 ∨ g.n ≤ x ∨ x ∈ f.pl
 ·rw [if_pos hx] at h; cases h
 ·exact ⟨Int.not_lt.1 fun h => hx (.inl h), Int.not_le.1 fun h => hx (.inr (.inl h)), fun h => hx (.inr (.inr h))⟩
theorem place_eq {g : Gr} (hm : mayB g = true) {f : Fr} (hi : FrInv g f) (x : Int) (outs : List Int) : placeF g f x outs = rPlaceF g f x outs := by
 rw [placeF, rPlaceF, ready_eq hm hi]
 cases hR : rReadyF g f x with
 | false => rw [if_pos rfl, if_pos rfl]
 | true =>
  obtain ⟨h0, h1, h2⟩ := ready_rng hR
  have ht : ¬ (true = false) := by simp
  rw [if_neg ht, if_neg ht, thereG_in h0 h1]
  show (if srt outs ≠ outZ g x then _ else succF g f x outs) = _
  by_cases hs : srt outs = outZ g x
  ·rw [if_neg (fun h => h hs), if_neg]
   rintro (h | ⟨i, h3, h4⟩)
   ·exact h (by rw [← hs, srt_length])
   ·exact h4 (srt_memX.1 (hs ▸ h3))
  ·rw [if_pos hs, if_pos]
   refine Decidable.byContradiction fun h => hs ?_
   have hl : outs.length = (outZ g x).length := Decidable.byContradiction fun e => h (.inl e)
   exact srt_perm (pigeonP endsZ_nodup (fun i hi => Decidable.byContradiction fun e => h (.inr ⟨i, hi, e⟩)) hl) outZ_sorted
theorem above_ok {g : Gr} {x : Int} {outs : List Int} (ho : ∀ i ∈ outs, i ∈ outZ g x) : ∀ t ∈ aboveF g x outs, ItOk g t := by
 intro t ht
 unfold aboveF at ht
 split at ht
 ·rw [List.mem_singleton] at ht
  rw [ht]; exact .inl ⟨rfl, rfl⟩
 ·obtain ⟨i, hi, rfl⟩ := List.mem_map.1 ht
  obtain ⟨⟨h1, h2⟩, h3⟩ := endsZ_mem (ho i hi)
  exact .inr ⟨h1, h2, h3.symm, rfl⟩
theorem succ_inv {g : Gr} {f : Fr} (hi : FrInv g f) {x : Int} (hR : rReadyF g f x = true) {outs : List Int} (ho : ∀ i ∈ outs, i ∈ outZ g x) : FrInv g (succF g f x outs).2 := by
 obtain ⟨h0, h1, h2⟩ := ready_rng hR
 refine ⟨fun t ht => ?_, ?_, fun y hy => ?_⟩
 ·simp only [succF, List.mem_append] at ht
  rcases ht with (ht | ht) | ht
  ·exact hi.it t (List.mem_of_mem_take ht)
  ·exact above_ok ho t ht
  ·exact hi.it t (List.mem_of_mem_drop ht)
 ·show (f.pl ++ [x]).Nodup
  rw [List.nodup_append]
  refine ⟨hi.pl, by simp, fun a ha b hb e => h2 ?_⟩
  rw [List.mem_singleton] at hb
  rw [← hb, ← e]; exact ha
 ·have hy : y ∈ f.pl ++ [x] := hy
  rcases List.mem_append.1 hy with h | h
  ·exact hi.rng y h
  ·rw [List.mem_singleton] at h
   rw [h]; exact ⟨h0, h1⟩
end Go.Ab
end
section
namespace Go.Ab
open Go.Proofs
set_option maxRecDepth 10000
def isH (x : Int) (t : It) : Bool := decide (t.2.2 = x)
structure Mid (x : Int) (X : List It) : Prop where
 fst : ∃ p X', X = p :: X' ∧ p.2.2 = x
 lst : ∃ X' q, X = X' ++ [q] ∧ q.2.2 = x
 al : ∀ t ∈ X, t.2.2 = x ∨ t.2.2 = -1
def NoH (x : Int) (l : List It) : Prop := ∀ t ∈ l, t.2.2 ≠ x
theorem NoH.app {x : Int} {l m : List It} (h : NoH x l) (h' : NoH x m) : NoH x (l ++ m) := fun t ht => (List.mem_append.1 ht).elim (h t) (h' t)
theorem NoH.left {x : Int} {l m : List It} (h : NoH x (l ++ m)) : NoH x l := fun t ht => h t (List.mem_append.2 (.inl ht))
theorem NoH.right {x : Int} {l m : List It} (h : NoH x (l ++ m)) : NoH x m := fun t ht => h t (List.mem_append.2 (.inr ht))
theorem Mid.noH {x y : Int} {X : List It} (h : Mid x X) (hxy : x ≠ y) (hy : 0 ≤ y) : NoH y X := fun t ht e => by
 rcases h.al t ht with h1 | h1 <;> omega
theorem metK_count {row : List It} {x : Int} : ∀ {k : Nat}, k ≤ row.length → metK row x k = ((row.take k).countP (isH x) : Nat)
 | 0, _ => by simp [metK]
 | k + 1, h => by
  rw [metK_next, metK_count (k := k) (by omega), List.take_add_one, List.getElem?_eq_getElem (show k < row.length by omega), List.countP_append]
  simp only [Option.toList, List.countP_cons, List.countP_nil, isH, decide_eq_true_eq, List.getD_eq_getElem?_getD, List.getElem?_eq_getElem (show k < row.length by omega), Option.getD_some]
  split <;> simp
theorem getD_app1 {A X C : List It} {p : It} {X' : List It} (h : X = p :: X') : (A ++ X ++ C).getD A.length (0, 0, 0) = p := by
 subst h; simp [List.getD_eq_getElem?_getD]
theorem getD_app2 {A X C : List It} {q : It} {X' : List It} (h : X = X' ++ [q]) : (A ++ X ++ C).getD (A.length + X.length - 1) (0, 0, 0) = q := by
 subst h
 have e : A.length + (X' ++ [q]).length - 1 = (A ++ X').length := by simp
 rw [e, show A ++ (X' ++ [q]) ++ C = (A ++ X') ++ ([q] ++ C) by simp]
 simp [List.getD_eq_getElem?_getD]
theorem getD_app3 {A L : List It} {j : Nat} (h : j < A.length) : (A ++ L).getD j (0, 0, 0) ∈ A := by
 rw [List.getD_eq_getElem?_getD, List.getElem?_append_left h, List.getElem?_eq_getElem h]
 exact List.getElem_mem h
theorem getD_app4 {A L : List It} {j : Nat} (h : A.length ≤ j) (h' : j < (A ++ L).length) : (A ++ L).getD j (0, 0, 0) ∈ L := by
 rw [List.length_append] at h'
 rw [List.getD_eq_getElem?_getD, List.getElem?_append_right h, List.getElem?_eq_getElem (by omega)]
 exact List.getElem_mem _
theorem span_of {A X C : List It} {x : Int} (hA : NoH x A) (hC : NoH x C) (hX : Mid x X) :
  (spanF (A ++ X ++ C) x).1 = (A.length : Int) ∧ (spanF (A ++ X ++ C) x).2.1 = ((A.length + X.length : Nat) : Int) ∧ (spanF (A ++ X ++ C) x).2.2 = (X.countP (isH x) : Nat) := by
 have hcnt : (spanF (A ++ X ++ C) x).2.2 = (X.countP (isH x) : Nat) := by
  unfold spanF
  rw [span_met, metK_count (Nat.le_refl _), List.take_length, List.countP_append, List.countP_append]
  have h1 : A.countP (isH x) = 0 := List.countP_eq_zero.2 fun t ht => by simp [isH, hA t ht]
  have h2 : C.countP (isH x) = 0 := List.countP_eq_zero.2 fun t ht => by simp [isH, hC t ht]
  rw [h1, h2]; simp
 obtain ⟨p, X', e1, hp⟩ := hX.fst
 obtain ⟨X'', q, e2, hq⟩ := hX.lst
 have g1 := getD_app1 (A := A) (C := C) e1
 have g2 := getD_app2 (A := A) (C := C) e2
 have hXl : 0 < X.length := by rw [e1]; simp
 have hlen : (A ++ X ++ C).length = A.length + X.length + C.length := by simp; omega
 rcases spanK_ok (row := A ++ X ++ C) (x := x) (A ++ X ++ C).length with ⟨_, hno⟩ | ⟨a, b, c, hs, hab, hbl, hc0, hcl, ha, hb, hlo, hhi⟩
 ·exact absurd (by rw [g1]; exact hp) (hno A.length (by omega))
 ·have hs' : spanF (A ++ X ++ C) x = ((a : Int), (b : Int), (c : Int)) := hs
  refine ⟨?_, ?_, hcnt⟩
  ·rw [hs']
   have h1 : ¬ A.length < a := fun h => hlo _ h (by rw [g1]; exact hp)
   have h2 : ¬ a < A.length := fun h => hA _ (by have := getD_app3 (L := X ++ C) h; rw [← List.append_assoc] at this; exact this) ha
   simp only; omega
  ·rw [hs']
   have h1 : ¬ b < A.length + X.length := fun h => hhi (A.length + X.length - 1) (by omega) (by omega) (by rw [g2]; exact hq)
   have h2 : ¬ A.length + X.length < b := fun h => hC _ (getD_app4 (A := A ++ X) (j := b - 1) (by simp; omega) (by omega)) hb
   simp only; omega
theorem ready_join {g : Gr} (hm : mayB g = true) {f : Fr} (hi : FrInv g f) {A X C : List It} {x : Int} (h0 : 0 ≤ x) (h1 : x < g.n) (hp : x ∉ f.pl) (hr : f.row = A ++ X ++ C) (hA : NoH x A) (hC : NoH x C) (hX : Mid x X)
  (hc : X.countP (isH x) = needN g x) : rReadyF g f x = true := by
 rw [← ready_eq hm hi, readyF, if_neg (by rintro (h | h | h); omega; omega; exact hp h)]
 obtain ⟨e1, e2, e3⟩ := span_of hA hC hX
 rw [hr, e1, e2, e3, thereG_in h0 h1, Bool.and_eq_true, decide_eq_true_eq]
 refine ⟨by rw [hc]; rfl, ?_⟩
 rw [Bool.or_eq_true]; right
 simp only [bareF, Int.toNat_natCast]
 rw [List.take_append_of_le_length (by simp), List.take_of_length_le (by simp), List.drop_left, Bool.not_eq_true', List.any_eq_false]
 intro t ht
 simp only [otherI, Bool.and_eq_true, decide_eq_true_eq]
 rcases hX.al t ht with h | h <;> simp [h]
theorem ready_split {g : Gr} (hm : mayB g = true) {f : Fr} (hi : FrInv g f) {x : Int} (hR : rReadyF g f x = true) (hn : needN g x ≠ 0) :
  ∃ A X C, f.row = A ++ X ++ C ∧ NoH x A ∧ NoH x C ∧ Mid x X ∧ X.countP (isH x) = needN g x := by
 obtain ⟨h0, h1, h2⟩ := ready_rng hR
 rw [← ready_eq hm hi, readyF, if_neg (by rintro (h | h | h); omega; omega; exact h2 h), thereG_in h0 h1, Bool.and_eq_true, decide_eq_true_eq] at hR
 have hN : (endsZ (fun e => e.2) g.es g.es.length x).length = needN g x := rfl
 rw [hN, decide_eq_false hn, Bool.false_or] at hR
 obtain ⟨hc, hb⟩ := hR
 have hcnt : (f.row.countP (isH x) : Int) = needN g x := by
  rw [← hc]; unfold spanF
  rw [span_met, metK_count (Nat.le_refl _), List.take_length]
 rcases spanK_ok (row := f.row) (x := x) f.row.length with ⟨hs, hno⟩ | ⟨a, b, c, hs, hab, hbl, hc0, hcl, ha, hb', hlo, hhi⟩
 ·have : spanF f.row x = (-1, 0, 0) := hs
  rw [this] at hc
  exfalso; simp only at hc; omega
 ·have hs' : spanF f.row x = ((a : Int), (b : Int), (c : Int)) := hs
  rw [hs'] at hb
  simp only [Int.toNat_natCast] at hb
  have hA : NoH x (f.row.take a) := fun t ht => by
   obtain ⟨j, hj, rfl⟩ := List.mem_iff_getElem.1 ht
   simp only [List.length_take] at hj
   have := hlo j (by omega)
   rw [List.getD_eq_getElem?_getD, List.getElem?_eq_getElem (show j < f.row.length by omega)] at this
   simpa using this
  have hC : NoH x (f.row.drop b) := fun t ht => by
   obtain ⟨j, hj, rfl⟩ := List.mem_iff_getElem.1 ht
   simp only [List.length_drop] at hj
   have := hhi (b + j) (by omega) (by omega)
   rw [List.getD_eq_getElem?_getD, List.getElem?_eq_getElem (show b + j < f.row.length by omega)] at this
   simpa using this
  have hrow : f.row = f.row.take a ++ (f.row.take b).drop a ++ f.row.drop b := by
   have e1 : f.row.take a = (f.row.take b).take a := by rw [List.take_take, Nat.min_eq_left (by omega)]
   rw [e1, List.take_append_drop, List.take_append_drop]
  refine ⟨f.row.take a, (f.row.take b).drop a, f.row.drop b, hrow, hA, hC, ⟨?_, ?_, ?_⟩, ?_⟩
  ·refine ⟨f.row.getD a (0, 0, 0), (f.row.take b).drop (a + 1), ?_, ha⟩
   rw [List.drop_eq_getElem_cons (by simp; omega)]
   congr 1
   rw [List.getD_eq_getElem?_getD, List.getElem?_eq_getElem (show a < f.row.length by omega)]
   simp
  ·refine ⟨(f.row.take (b - 1)).drop a, f.row.getD (b - 1) (0, 0, 0), ?_, hb'⟩
   have e : f.row.take b = f.row.take (b - 1) ++ [f.row.getD (b - 1) (0, 0, 0)] := by
    conv => lhs; rw [show b = b - 1 + 1 by omega]
    rw [List.take_add_one, List.getD_eq_getElem?_getD, List.getElem?_eq_getElem (show b - 1 < f.row.length by omega)]
    rfl
   rw [e, List.drop_append_of_le_length (by simp; omega)]
  ·intro t ht
   rw [bareF, Bool.not_eq_true', List.any_eq_false] at hb
   have := hb t ht
   simp only [otherI, Bool.and_eq_true, decide_eq_true_eq, not_and] at this
   by_cases h : t.2.2 = x
   ·exact .inl h
   ·exact .inr (Decidable.byContradiction fun h' => this h h')
  ·have h1 : (f.row.take a).countP (isH x) = 0 := List.countP_eq_zero.2 fun t ht => by simp [isH, hA t ht]
   have h2 : (f.row.drop b).countP (isH x) = 0 := List.countP_eq_zero.2 fun t ht => by simp [isH, hC t ht]
   rw [hrow, List.countP_append, List.countP_append, h1, h2] at hcnt
   omega
theorem succ_of {g : Gr} {f : Fr} {A X C : List It} {x : Int} (o : List Int) (hr : f.row = A ++ X ++ C) (hA : NoH x A) (hC : NoH x C) (hX : Mid x X) :
  succF g f x o = ((X, 0), ⟨A ++ aboveF g x o ++ C, f.pl ++ [x]⟩) := by
 obtain ⟨e1, e2, e3⟩ := span_of hA hC hX
 have e4 : max (A.length : Int) 0 = (A.length : Int) := by omega
 unfold succF
 rw [hr, e1, e2, e4, Int.toNat_natCast, Int.toNat_natCast]
 rw [List.take_append_of_le_length (show A.length + X.length ≤ (A ++ X).length by simp), List.take_of_length_le (show (A ++ X).length ≤ A.length + X.length by simp), List.drop_left]
 rw [show (A ++ X ++ C).take A.length = A by rw [List.append_assoc, List.take_left]]
 rw [show (A ++ X ++ C).drop (A.length + X.length) = C by rw [← List.length_append, List.drop_left]]
theorem succ_none {g : Gr} {f : Fr} {x : Int} (o : List Int) (hr : NoH x f.row) : succF g f x o = (([], 0), ⟨aboveF g x o ++ f.row, f.pl ++ [x]⟩) := by
 have hs : spanF f.row x = (-1, 0, 0) := by
  rcases spanK_ok (row := f.row) (x := x) f.row.length with ⟨hs, _⟩ | ⟨a, b, c, hs, hab, hbl, hc0, hcl, ha, hb', hlo, hhi⟩
  ·exact hs
  ·exact absurd ha (hr _ (getD_memX (by omega)))
 have e4 : max (-1 : Int) 0 = 0 := by omega
 unfold succF
 rw [hs]
 simp [e4]
end Go.Ab
end
section
namespace Go.Ab
open Go.Proofs
set_option maxRecDepth 10000
structure FrI (g : Gr) (f : Fr) : Prop extends FrInv g f where
 tail : ∀ t ∈ f.row, 0 ≤ t.1 → t.2.1 ∈ f.pl
 head : ∀ t ∈ f.row, 0 ≤ t.1 → t.2.2 ∉ f.pl
 once : f.row.Pairwise fun s t => 0 ≤ s.1 → s.1 ≠ t.1
 low : ∀ i, i < g.es.length → hd g i ∈ f.pl → tl g i ∈ f.pl
 src : (f.pl = [] ∧ f.row = []) ∨ ∃ s ∈ f.pl, needN g s = 0
theorem frI_new (g : Gr) : FrI g ⟨[], []⟩ :=
 { it := by simp, pl := by simp, rng := by simp, tail := by simp, head := by simp, once := by simp, low := by simp, src := .inl ⟨rfl, rfl⟩ }
theorem all_in {g : Gr} (hm : mayB g = true) {f : Fr} (hi : FrI g f) {x : Int} (hR : rReadyF g f x = true) {i : Nat} (hl : i < g.es.length) (hx : hd g i = x) : ∃ t ∈ f.row, t.1 = i ∧ t.2.1 = tl g i ∧ t.2.2 = x := by
 have hn : needN g x ≠ 0 := by
  have := needN_pos (g := g) (e := (i : Int)) (by omega) (by omega)
  rw [Int.toNat_natCast, show (g.es.getD i (0, 0)).2 = x from hx] at this
  omega
 obtain ⟨A, X, C, hr, hA, hC, hX, hc⟩ := ready_split hm hi.toFrInv hR hn
 have hN : (endsZ (fun e => e.2) g.es g.es.length x).length = needN g x := rfl
 have hok : ∀ t ∈ f.row, t.2.2 = x → 0 ≤ t.1 ∧ t.1 < g.es.length ∧ t.2.1 = (g.es.getD t.1.toNat (0, 0)).1 ∧ t.2.2 = (g.es.getD t.1.toNat (0, 0)).2 := fun t ht he => by
  rcases hi.it t ht with ⟨_, h2⟩ | h
  ·have := (ready_rng hR).1; omega
  ·exact h
 have hmem : ∀ t ∈ X, t ∈ f.row := fun t ht => by rw [hr]; simp [ht]
 have hperm := pigeonP (ms := (X.filter (isH x)).map (·.1)) (os := endsZ (fun e => e.2) g.es g.es.length x)
 have key : ∀ i ∈ endsZ (fun e => e.2) g.es g.es.length x, i ∈ (X.filter (isH x)).map (·.1) := by
  refine pigeon (ms := (X.filter (isH x)).map (·.1)) (os := endsZ (fun e => e.2) g.es g.es.length x) ?_ ?_ ?_
  ·have h1 : X.Pairwise fun s t => 0 ≤ s.1 → s.1 ≠ t.1 := by
    have := hi.once
    rw [hr, List.pairwise_append, List.pairwise_append] at this
    exact this.1.2.1
   have h2 := h1.filter (isH x)
   rw [List.Nodup, List.pairwise_map]
   refine h2.imp_of_mem fun {a b} ha hb h => h ?_
   obtain ⟨ha1, ha2⟩ := List.mem_filter.1 ha
   exact (hok a (hmem a ha1) (by simpa [isH] using ha2)).1
  ·intro e he
   obtain ⟨t, ht, rfl⟩ := List.mem_map.1 he
   obtain ⟨ht1, ht2⟩ := List.mem_filter.1 ht
   have ht2 : t.2.2 = x := by simpa [isH] using ht2
   obtain ⟨h1, h2, h3, h4⟩ := hok t (hmem t ht1) ht2
   simp only [endsZ, List.mem_map, List.mem_filter, List.mem_range, decide_eq_true_eq]
   exact ⟨t.1.toNat, ⟨by omega, by rw [← h4]; exact ht2⟩, by simp; omega⟩
  ·rw [hN, ← hc, List.length_map, List.countP_eq_length_filter]
 have hie : (i : Int) ∈ endsZ (fun e => e.2) g.es g.es.length x := by
  simp only [endsZ, List.mem_map, List.mem_filter, List.mem_range, decide_eq_true_eq]
  exact ⟨i, ⟨hl, hx⟩, rfl⟩
 obtain ⟨t, ht, he⟩ := List.mem_map.1 (key _ hie)
 obtain ⟨ht1, ht2⟩ := List.mem_filter.1 ht
 have ht2 : t.2.2 = x := by simpa [isH] using ht2
 obtain ⟨h1, h2, h3, h4⟩ := hok t (hmem t ht1) ht2
 refine ⟨t, hmem t ht1, he, ?_, ht2⟩
 rw [h3, he, Int.toNat_natCast]; rfl
theorem ready_none {g : Gr} (hm : mayB g = true) {f : Fr} (hi : FrInv g f) {x : Int} (h0 : 0 ≤ x) (hn : needN g x = 0) : NoH x f.row := by
 intro t ht he
 rcases hi.it t ht with ⟨_, h2⟩ | ⟨h1, h2, _, h4⟩
 ·omega
 ·have := needN_pos h1 h2
  rw [← h4, he] at this
  omega
theorem succ_cases {g : Gr} (hm : mayB g = true) {f : Fr} (hi : FrInv g f) {x : Int} (hR : rReadyF g f x = true) :
  ∃ A X C, f.row = A ++ X ++ C ∧ NoH x A ∧ NoH x C ∧ (∀ t ∈ X, t.2.2 = x ∨ t.2.2 = -1) ∧ ∀ o, succF g f x o = ((X, 0), ⟨A ++ aboveF g x o ++ C, f.pl ++ [x]⟩) := by
 by_cases hn : needN g x = 0
 ·have h := ready_none hm hi (ready_rng hR).1 hn
  exact ⟨[], [], f.row, by simp, fun t ht => (by cases ht), h, fun t ht => (by cases ht), fun o => by rw [succ_none o h]; simp⟩
 ·obtain ⟨A, X, C, hr, hA, hC, hX, _⟩ := ready_split hm hi hR hn
  exact ⟨A, X, C, hr, hA, hC, hX.al, fun o => succ_of o hr hA hC hX⟩
theorem outZ_mem {g : Gr} {x i : Int} (h : i ∈ outZ g x) : ∃ k : Nat, i = k ∧ k < g.es.length ∧ tl g k = x := by
 obtain ⟨⟨h1, h2⟩, h3⟩ := endsZ_mem h
 exact ⟨i.toNat, by omega, by omega, h3⟩
theorem above_mem {g : Gr} {x : Int} {o : List Int} (ho : ∀ i ∈ o, i ∈ outZ g x) {t : It} (h : t ∈ aboveF g x o) : (t.1 = -1 ∧ t.2.2 = -1) ∨ ∃ k : Nat, k < g.es.length ∧ t.1 = k ∧ t.2.1 = x ∧ t.2.2 = hd g k ∧ tl g k = x ∧ t.1 ∈ o := by
 unfold aboveF at h
 split at h
 ·rw [List.mem_singleton] at h
  rw [h]; exact .inl ⟨rfl, rfl⟩
 ·obtain ⟨i, hio, rfl⟩ := List.mem_map.1 h
  obtain ⟨k, rfl, h1, h2⟩ := outZ_mem (ho i hio)
  exact .inr ⟨k, h1, rfl, rfl, by simp [itemF]; rfl, h2, hio⟩
theorem above_noH {g : Gr} (hm : mayB g = true) {f : Fr} (hi : FrI g f) {x y : Int} (hx : x ∉ f.pl) (hR : rReadyF g f y = true) {o : List Int} (ho : ∀ i ∈ o, i ∈ outZ g x) : NoH y (aboveF g x o) := by
 intro t ht he
 rcases above_mem ho ht with ⟨_, h⟩ | ⟨k, h1, h2, h3, h4, h5, _⟩
 ·have := (ready_rng hR).1; omega
 ·obtain ⟨s, hs, e1, e2, e3⟩ := all_in hm hi hR h1 (by rw [← h4]; exact he)
  refine hx ?_
  rw [← h5, ← e2]
  exact hi.tail s hs (by omega)
theorem succ_frI {g : Gr} (hm : mayB g = true) {f : Fr} (hi : FrI g f) {x : Int} (hR : rReadyF g f x = true) {o : List Int} (ho : o.Perm (outZ g x)) : FrI g (succF g f x o).2 := by
 have hom : ∀ i ∈ o, i ∈ outZ g x := fun i h => ho.mem_iff.1 h
 have hx := (ready_rng hR).2.2
 have h0 := succ_inv hi.toFrInv hR hom
 obtain ⟨A, X, C, hr, hA, hC, hX, hs⟩ := succ_cases hm hi.toFrInv hR
 have hpl : (succF g f x o).2.pl = f.pl ++ [x] := rfl
 have hrow : (succF g f x o).2.row = A ++ aboveF g x o ++ C := by rw [hs o]
 have hmA : ∀ t ∈ A, t ∈ f.row := fun t ht => by rw [hr]; simp [ht]
 have hmC : ∀ t ∈ C, t ∈ f.row := fun t ht => by rw [hr]; simp [ht]
 have hself := above_noH hm hi hx hR hom
 refine { toFrInv := h0, tail := ?_, head := ?_, once := ?_, low := ?_, src := .inr ?_ }
 ·intro t ht h1
  rw [hpl]
  rw [hrow, List.mem_append, List.mem_append] at ht
  rcases ht with (ht | ht) | ht
  ·exact List.mem_append_left _ (hi.tail t (hmA t ht) h1)
  ·rcases above_mem hom ht with ⟨h, _⟩ | ⟨k, _, _, h3, _⟩
   ·omega
   ·rw [h3]; simp
  ·exact List.mem_append_left _ (hi.tail t (hmC t ht) h1)
 ·intro t ht h1
  rw [hpl, List.mem_append, List.mem_singleton]
  rw [hrow, List.mem_append, List.mem_append] at ht
  rcases ht with (ht | ht) | ht
  ·rintro (h | h)
   ·exact hi.head t (hmA t ht) h1 h
   ·exact hA t ht h
  ·rintro (h | h)
   ·rcases above_mem hom ht with ⟨h', _⟩ | ⟨k, hk, _, _, h4, h5, _⟩
    ·omega
    ·rw [h4] at h
     have := hi.low k hk h
     rw [h5] at this; exact hx this
   ·exact hself t ht h
  ·rintro (h | h)
   ·exact hi.head t (hmC t ht) h1 h
   ·exact hC t ht h
 ·have hon := hi.once
  rw [hr, List.pairwise_append, List.pairwise_append] at hon
  obtain ⟨⟨hoA, _, _⟩, hoC, hoAC⟩ := hon
  have old : ∀ s ∈ f.row, 0 ≤ s.1 → ∀ t ∈ aboveF g x o, s.1 ≠ t.1 := fun s hs h1 t ht e => by
   rcases above_mem hom ht with ⟨h, _⟩ | ⟨k, hk, h2, h3, h4, h5, _⟩
   ·omega
   ·rcases hi.it s hs with ⟨h, _⟩ | ⟨_, _, h6, _⟩
    ·omega
    ·have := hi.tail s hs h1
     rw [h6, e, h2, Int.toNat_natCast] at this
     exact hx (h5 ▸ this)
  rw [hrow, List.pairwise_append, List.pairwise_append]
  refine ⟨⟨hoA, ?_, fun s hs t ht h1 => old s (hmA s hs) h1 t ht⟩, hoC, ?_⟩
  ·unfold aboveF
   split
   ·simp
   ·refine List.pairwise_map.2 ((ho.nodup_iff.2 endsZ_nodup).imp fun {i j} (h : i ≠ j) _ => ?_)
    exact h
  ·intro s hs t ht h1
   rcases List.mem_append.1 hs with hs | hs
   ·exact hoAC s (List.mem_append_left _ hs) t ht h1
   ·intro e
    exact old t (hmC t ht) (by omega) s hs e.symm
 ·intro i hl h
  rw [hpl, List.mem_append, List.mem_singleton] at h ⊢
  left
  rcases h with h | h
  ·exact hi.low i hl h
  ·obtain ⟨t, ht, e1, e2, _⟩ := all_in hm hi hR hl h
   rw [← e2]
   exact hi.tail t ht (by omega)
 ·rcases hi.src with ⟨h1, h2⟩ | ⟨s, hs, h⟩
  ·refine ⟨x, by rw [hpl]; simp, ?_⟩
   refine Decidable.byContradiction fun hn => ?_
   obtain ⟨A, X, C, hr, _, _, hX, _⟩ := ready_split hm hi.toFrInv hR hn
   obtain ⟨p, X', e, _⟩ := hX.fst
   rw [h2, e] at hr
   simp at hr
  ·exact ⟨s, by rw [hpl]; simp [hs], h⟩
theorem apart {x y : Int} (hx : 0 ≤ x) (hy : 0 ≤ y) (hxy : x ≠ y) {A X C B Y D : List It} (h : A ++ X ++ C = B ++ Y ++ D) (hX : Mid x X) (hY : Mid y Y) :
  (∃ M, B = A ++ X ++ M ∧ C = M ++ Y ++ D) ∨ (∃ M, A = B ++ Y ++ M ∧ D = M ++ X ++ C) := by
 obtain ⟨p, X', hX', hp⟩ := hX.fst
 obtain ⟨q, Y', hY', hq⟩ := hY.fst
 have nX : q ∉ X := fun h => hX.noH hxy hy q h hq
 have nY : p ∉ Y := fun h => hY.noH (Ne.symm hxy) hx p h hp
 rw [show B ++ Y ++ D = B ++ (Y ++ D) by simp, List.append_eq_append_iff] at h
 rcases h with ⟨es, h1, h2⟩ | ⟨cs, h1, h2⟩
 ·exact .inl ⟨es, h1, by rw [h2]; simp⟩
 ·match cs, h1, h2 with
  | [], h1, h2 => exact .inl ⟨[], by simpa using h1.symm, by simpa using h2.symm⟩
  | c :: cs, h1, h2 =>
   have hcq : c = q := by rw [hY'] at h2; simp at h2; exact h2.1.symm
   rw [List.append_eq_append_iff] at h1
   rcases h1 with ⟨es, h3, h4⟩ | ⟨ds, h3, h4⟩
   ·exfalso; refine nX ?_
    rw [h4, ← hcq]; simp
   ·rw [h4, List.append_assoc, List.append_eq_append_iff] at h2
    rcases h2 with ⟨es, h5, h6⟩ | ⟨bs, h5, h6⟩
    ·exact .inr ⟨es, by rw [h3, h5]; simp, by rw [h6]; simp⟩
    ·match bs, h5, h6 with
     | [], h5, h6 => exact .inr ⟨[], by rw [h3, h5]; simp, by simpa using h6.symm⟩
     | b :: bs, h5, h6 =>
      exfalso; refine nY ?_
      have hbp : b = p := by rw [hX'] at h6; simp at h6; exact h6.1.symm
      rw [h5, ← hbp]; simp
theorem swap_ord {g : Gr} (hm : mayB g = true) {f : Fr} (hi : FrI g f) {x y : Int} (hxy : x ≠ y) (hRx : rReadyF g f x = true) (hRy : rReadyF g f y = true)
  {a b : List Int} (ha : a.Perm (outZ g x)) (hb : b.Perm (outZ g y)) {A X M Y D : List It} (hr : f.row = A ++ X ++ M ++ Y ++ D) (hX : Mid x X) (hY : Mid y Y)
  (cX : X.countP (isH x) = needN g x) (cY : Y.countP (isH y) = needN g y)
  (nA : NoH x A) (nC : NoH x (M ++ Y ++ D)) (nB : NoH y (A ++ X ++ M)) (nD : NoH y D) :
  rReadyF g (succF g f x a).2 y = true ∧ rReadyF g (succF g f y b).2 x = true ∧ (succF g (succF g f x a).2 y b).2.row = (succF g (succF g f y b).2 x a).2.row ∧
  (succF g f x a).1 = (succF g (succF g f y b).2 x a).1 ∧ (succF g f y b).1 = (succF g (succF g f x a).2 y b).1 := by
 obtain ⟨x0, x1, x2⟩ := ready_rng hRx
 obtain ⟨y0, y1, y2⟩ := ready_rng hRy
 have i1 := (succ_frI hm hi hRx ha).toFrInv
 have i2 := (succ_frI hm hi hRy hb).toFrInv
 have ux := above_noH hm hi x2 hRy (fun i h => ha.mem_iff.1 h)
 have uy := above_noH hm hi y2 hRx (fun i h => hb.mem_iff.1 h)
 have r1 : f.row = A ++ X ++ (M ++ Y ++ D) := by rw [hr]; simp
 have r2 : f.row = (A ++ X ++ M) ++ Y ++ D := by rw [hr]
 have e1 := succ_of (g := g) a r1 nA nC hX
 have e2 := succ_of (g := g) b r2 nB nD hY
 rw [e1] at i1 ⊢; rw [e2] at i2 ⊢
 have r3 : A ++ aboveF g x a ++ (M ++ Y ++ D) = (A ++ aboveF g x a ++ M) ++ Y ++ D := by simp
 have r4 : A ++ X ++ M ++ aboveF g y b ++ D = A ++ X ++ (M ++ aboveF g y b ++ D) := by simp
 have n3 : NoH y (A ++ aboveF g x a ++ M) := ((nB.left.left).app ux).app nB.right
 have n4 : NoH x (M ++ aboveF g y b ++ D) := (nC.left.left.app uy).app nC.right
 have e3 := succ_of (g := g) (f := ⟨A ++ aboveF g x a ++ (M ++ Y ++ D), f.pl ++ [x]⟩) b r3 n3 nD hY
 have e4 := succ_of (g := g) (f := ⟨A ++ X ++ M ++ aboveF g y b ++ D, f.pl ++ [y]⟩) a r4 nA n4 hX
 refine ⟨ready_join hm i1 y0 y1 ?_ r3 n3 nD hY cY, ready_join hm i2 x0 x1 ?_ r4 nA n4 hX cX, ?_, ?_, ?_⟩
 ·simp [y2, Ne.symm hxy]
 ·simp [x2, hxy]
 ·simp only [e3, e4]; simp
 ·simp only [e4]
 ·simp only [e3]
theorem swap_need {g : Gr} (hm : mayB g = true) {f : Fr} (hi : FrI g f) {x y : Int} (hxy : x ≠ y) (hRx : rReadyF g f x = true) (hRy : rReadyF g f y = true)
  {a b : List Int} (ha : a.Perm (outZ g x)) (hb : b.Perm (outZ g y)) (nx : needN g x ≠ 0) (ny : needN g y ≠ 0) :
  rReadyF g (succF g f x a).2 y = true ∧ rReadyF g (succF g f y b).2 x = true ∧ (succF g (succF g f x a).2 y b).2.row = (succF g (succF g f y b).2 x a).2.row ∧
  (succF g f x a).1 = (succF g (succF g f y b).2 x a).1 ∧ (succF g f y b).1 = (succF g (succF g f x a).2 y b).1 := by
 obtain ⟨A, X, C, hr, hA, hC, hX, cX⟩ := ready_split hm hi.toFrInv hRx nx
 obtain ⟨B, Y, D, hr', hB, hD, hY, cY⟩ := ready_split hm hi.toFrInv hRy ny
 rcases apart (ready_rng hRx).1 (ready_rng hRy).1 hxy (hr.symm.trans hr') hX hY with ⟨M, rfl, rfl⟩ | ⟨M, rfl, rfl⟩
 ·exact swap_ord hm hi hxy hRx hRy ha hb (by rw [hr]; simp) hX hY cX cY hA hC hB hD
 ·obtain ⟨h1, h2, h3, h4, h5⟩ := swap_ord hm hi (Ne.symm hxy) hRy hRx hb ha (by rw [hr']; simp) hY hX cY cX hB hD hA hC
  exact ⟨h2, h1, h3.symm, h5, h4⟩
theorem bare_mem9 {g : Gr} {y : Int} : y ∈ bareG (·.2) g ↔ (0 ≤ y ∧ y < g.n) ∧ needN g y = 0 := by
 simp only [bareG, bareK, List.mem_map, List.mem_filter, List.mem_range, decide_eq_true_eq]
 have he : ∀ x : Nat, x < g.n.toNat → (((endsL (·.2) g).getD x []).length = needN g (x : Int)) := by
  intro x hx
  have e : (endsL (·.2) g).getD x [] = endsZ (·.2) g.es g.es.length (x : Int) := by
   simp [endsL, List.getD_eq_getElem?_getD, List.getElem?_range hx, endsK_eq]
  rw [e]; rfl
 constructor
 ·rintro ⟨x, ⟨hx, h0⟩, rfl⟩
  refine ⟨by simp; omega, by rw [he x hx] at h0; exact h0⟩
 ·rintro ⟨⟨h1, h2⟩, h3⟩
  have e : ((y.toNat : Nat) : Int) = y := by omega
  exact ⟨y.toNat, ⟨by omega, by rw [he _ (by omega), e]; exact h3⟩, e⟩
theorem one_src {g : Gr} (hc : (chkG g).1 = 0) {x y : Int} (hx : 0 ≤ x ∧ x < g.n) (hy : 0 ≤ y ∧ y < g.n) (nx : needN g x = 0) (ny : needN g y = 0) : x = y := by
 have h1 : (bareG (·.2) g).length ≤ 1 := by
  unfold chkG chkOf at hc
  refine Nat.not_lt.1 fun h => ?_
  split at hc
  ·cases hc
  split at hc
  ·cases hc
  split at hc
  ·cases hc
  split at hc
  ·cases hc
  cases hc
 have h2 := bare_mem9.2 ⟨hx, nx⟩
 have h3 := bare_mem9.2 ⟨hy, ny⟩
 match hb : bareG (·.2) g with
 | [] => rw [hb] at h2; cases h2
 | [z] => rw [hb, List.mem_singleton] at h2 h3; rw [h2, h3]
 | _ :: _ :: _ => rw [hb] at h1; simp at h1
theorem good_may {g : Gr} (hc : (chkG g).1 = 0) : mayB g = true := by
 unfold chkG chkOf at hc
 split at hc
 ·cases hc
 ·rename_i h; simpa using h
theorem two_need {g : Gr} (hc : (chkG g).1 = 0) {f : Fr} (hi : FrI g f) {x y : Int} (hxy : x ≠ y) (hRx : rReadyF g f x = true) (hRy : rReadyF g f y = true) : needN g x ≠ 0 := by
 intro nx
 have hm := good_may hc
 obtain ⟨x0, x1, x2⟩ := ready_rng hRx
 obtain ⟨y0, y1, y2⟩ := ready_rng hRy
 rcases hi.src with ⟨h1, h2⟩ | ⟨s, hs, h⟩
 ·have ny : needN g y ≠ 0 := fun ny => hxy (one_src hc ⟨x0, x1⟩ ⟨y0, y1⟩ nx ny)
  obtain ⟨A, X, C, hr, _, _, hX, _⟩ := ready_split hm hi.toFrInv hRy ny
  obtain ⟨p, X', e, _⟩ := hX.fst
  rw [h2, e] at hr
  simp at hr
 ·exact x2 (one_src hc (hi.rng s hs) ⟨x0, x1⟩ h nx ▸ hs)
theorem swap_good {g : Gr} (hc : (chkG g).1 = 0) {f : Fr} (hi : FrI g f) {x y : Int} (hxy : x ≠ y) (hRx : rReadyF g f x = true) (hRy : rReadyF g f y = true)
  {a b : List Int} (ha : a.Perm (outZ g x)) (hb : b.Perm (outZ g y)) :
  rReadyF g (succF g f x a).2 y = true ∧ rReadyF g (succF g f y b).2 x = true ∧ (succF g (succF g f x a).2 y b).2.row = (succF g (succF g f y b).2 x a).2.row ∧
  (succF g f x a).1 = (succF g (succF g f y b).2 x a).1 ∧ (succF g f y b).1 = (succF g (succF g f x a).2 y b).1 :=
 swap_need (good_may hc) hi hxy hRx hRy ha hb (two_need hc hi hxy hRx hRy) (two_need hc hi (Ne.symm hxy) hRy hRx)
end Go.Ab
end
section
namespace Go.Ab
open Go.Proofs
attribute [local congr] ACall.congr
set_option maxRecDepth 10000
set_option maxHeartbeats 4000000
def turnK (row : List It) (a b : Int) : Nat → Int × Int
 | 0 => (-1, 0)
 | k + 1 => if ((row.getD k (0, 0, 0)).2.2 = a ∨ (row.getD k (0, 0, 0)).2.2 = b) ∧ (row.getD k (0, 0, 0)).2.2 ≠ (turnK row a b k).1 then ((row.getD k (0, 0, 0)).2.2, (turnK row a b k).2 + 1) else turnK row a b k
end Go.Ab
end
section
namespace Go.Ab
open Go.Proofs
attribute [local congr] ACall.congr
set_option maxRecDepth 10000
set_option maxHeartbeats 4000000
def hdN (row : List It) (i : Nat) : Int := (row.getD i (0, 0, 0)).2.2
def twoB (row : List It) (i j : Nat) : Bool := decide (hdN row i ≠ -1) && decide (hdN row j ≠ -1) && decide (hdN row i ≠ hdN row j) && decide (4 ≤ (turnK row (hdN row i) (hdN row j) row.length).2)
def tangF (row : List It) : Bool := (List.range row.length).any fun i => (List.range row.length).any (twoB row i)
end Go.Ab
end
section
namespace Go.Ab
open Go.Proofs
attribute [local congr] ACall.congr
set_option maxRecDepth 10000
set_option maxHeartbeats 8000000
def T4 (row : List It) (a b c d : Nat) : Prop := 0 ≤ (row.getD a (0, 0, 0)).2.2 ∧ 0 ≤ (row.getD b (0, 0, 0)).2.2 ∧ (row.getD a (0, 0, 0)).2.2 ≠ (row.getD b (0, 0, 0)).2.2 ∧ (row.getD a (0, 0, 0)).2.2 = (row.getD c (0, 0, 0)).2.2 ∧ (row.getD b (0, 0, 0)).2.2 = (row.getD d (0, 0, 0)).2.2
def TanP (row : List It) : Prop := ∃ a b c d, a < b ∧ b < c ∧ c < d ∧ d < row.length ∧ T4 row a b c d
end Go.Ab
end
section
namespace Go.Ab
open Go.Proofs
set_option maxRecDepth 10000
theorem rReady_perm {g : Gr} {f f' : Fr} (hr : f.row = f'.row) (hp : f.pl.Perm f'.pl) (x : Int) : rReadyF g f x = rReadyF g f' x := by
 unfold rReadyF
 rw [hr]
 by_cases h : x < 0 ∨ g.n ≤ x ∨ x ∈ f.pl
 ·rw [if_pos h, if_pos (by rw [← hp.mem_iff]; exact h)]
 ·have h' : ¬ (x < 0 ∨ g.n ≤ x ∨ x ∈ f'.pl) := by rw [← hp.mem_iff]; exact h
  rw [if_neg h, if_neg h']
theorem nodup_lenX : ∀ {l m : List Int}, l.Nodup → (∀ i ∈ l, i ∈ m) → l.length ≤ m.length
 | [], _, _, _ => by simp
 | a :: l, m, hn, hs => by
  rw [List.nodup_cons] at hn
  have ha := hs a (List.mem_cons_self ..)
  have := nodup_lenX hn.2 (m := m.erase a) fun i hi => (List.mem_erase_of_ne (fun e : i = a => hn.1 (e ▸ hi))).2 (hs i (List.mem_cons_of_mem _ hi))
  rw [List.length_erase_of_mem ha] at this
  have := List.length_pos_of_mem ha
  rw [List.length_cons]; omega
theorem full_none {g : Gr} {f : Fr} (hi : FrInv g f) (hf : (f.pl.length : Int) = g.n) {x : Int} (hx : 0 ≤ x ∧ x < g.n) : x ∈ f.pl := by
 refine Decidable.byContradiction fun h => ?_
 have h1 : (x :: f.pl).Nodup := List.nodup_cons.2 ⟨h, hi.pl⟩
 have h2 : ((List.range g.n.toNat).map Int.ofNat).length = g.n.toNat := by simp
 have h3 := nodup_lenX h1 (m := (List.range g.n.toNat).map Int.ofNat) (fun y hy => by
  rw [List.mem_map]
  have : 0 ≤ y ∧ y < g.n := by
   rcases List.mem_cons.1 hy with h | h
   ·rw [h]; exact hx
   ·exact hi.rng y h
  exact ⟨y.toNat, List.mem_range.2 (by omega), by simp; omega⟩)
 rw [h2, List.length_cons] at h3
 omega
def Tg (a b : Int) (row : List It) : Prop := ∃ l : List It, l.Sublist row ∧ l.map (fun t => t.2.2) = [a, b, a, b]
def isAB (a b : Int) (t : It) : Bool := decide (t.2.2 = a) || decide (t.2.2 = b)
theorem Tg.filt {a b : Int} {row : List It} : Tg a b row ↔ Tg a b (row.filter (isAB a b)) := by
 constructor
 ·rintro ⟨l, h, e⟩
  refine ⟨l, ?_, e⟩
  have h1 := h.filter (isAB a b)
  rw [List.filter_eq_self.2] at h1
  ·exact h1
  ·intro t ht
   have : t.2.2 ∈ l.map (fun t => t.2.2) := List.mem_map.2 ⟨t, ht, rfl⟩
   rw [e] at this
   simp only [isAB, Bool.or_eq_true, decide_eq_true_eq]
   simp only [List.mem_cons, List.not_mem_nil, or_false] at this
   omega
 ·rintro ⟨l, h, e⟩
  exact ⟨l, h.trans List.filter_sublist, e⟩
theorem Tg.keep {a b x : Int} (ha : 0 ≤ a) (hb : 0 ≤ b) (hax : a ≠ x) (hbx : b ≠ x) {A X C u : List It} (hX : ∀ t ∈ X, t.2.2 = x ∨ t.2.2 = -1) (h : Tg a b (A ++ X ++ C)) : Tg a b (A ++ u ++ C) := by
 rw [Tg.filt] at h ⊢
 obtain ⟨l, h, e⟩ := h
 refine ⟨l, h.trans ?_, e⟩
 rw [List.filter_append, List.filter_append, List.filter_append, List.filter_append]
 have : X.filter (isAB a b) = [] := List.filter_eq_nil_iff.2 fun t ht => by
  simp only [isAB, Bool.or_eq_true, decide_eq_true_eq]
  rcases hX t ht with h | h <;> omega
 rw [this, List.append_nil]
 exact List.Sublist.append_right (List.sublist_append_left _ _) _
theorem Tg.not {a b x : Int} (hab : a ≠ b) (hb0 : 0 ≤ b) (ha0 : 0 ≤ a) (hx : x = a ∨ x = b) {A X C : List It} (hA : NoH x A) (hC : NoH x C) (hX : ∀ t ∈ X, t.2.2 = x ∨ t.2.2 = -1) : ¬ Tg a b (A ++ X ++ C) := by
 rintro ⟨l, h, e⟩
 rw [List.append_assoc, List.sublist_append_iff] at h
 obtain ⟨l1, l', rfl, h1, h'⟩ := h
 rw [List.sublist_append_iff] at h'
 obtain ⟨l2, l3, rfl, h2, h3⟩ := h'
 have k1 : ∀ t ∈ l1, t.2.2 ≠ x := fun t ht => hA t (h1.subset ht)
 have k2 : ∀ t ∈ l2, t.2.2 = x ∨ t.2.2 = -1 := fun t ht => hX t (h2.subset ht)
 have k3 : ∀ t ∈ l3, t.2.2 ≠ x := fun t ht => hC t (h3.subset ht)
 clear h1 h2 h3
 match l1, k1, e with
 | t1 :: t2 :: _, k1, e =>
  simp only [List.cons_append, List.map_cons, List.cons.injEq] at e
  rcases hx with h | h
  ·exact k1 t1 (by simp) (by omega)
  ·exact k1 t2 (by simp) (by omega)
 | [t1], k1, e =>
  simp only [List.cons_append, List.nil_append, List.map_cons, List.cons.injEq] at e
  rcases hx with h | h
  ·exact k1 t1 (by simp) (by omega)
  ·match l2, k2, e with
   | [], _, e =>
    match l3, k3, e with
    | [s1, s2, s3], k3, e =>
     simp only [List.nil_append, List.map_cons, List.map_nil, List.cons.injEq, and_true] at e
     exact k3 s1 (by simp) (by omega)
    | [], _, e => simp at e
    | [_], _, e => simp at e
    | [_, _], _, e => simp at e
    | _ :: _ :: _ :: _ :: _, _, e => simp at e
   | s1 :: s2 :: _, k2, e =>
    simp only [List.cons_append, List.map_cons, List.cons.injEq] at e
    rcases k2 s2 (by simp) with h | h <;> omega
   | [s1], k2, e =>
    match l3, k3, e with
    | [u1, u2], k3, e =>
     simp only [List.cons_append, List.nil_append, List.map_cons, List.map_nil, List.cons.injEq, and_true] at e
     exact k3 u2 (by simp) (by omega)
    | [], _, e => simp at e
    | [_], _, e => simp at e
    | _ :: _ :: _ :: _, _, e => simp at e
 | [], _, e =>
  simp only [List.nil_append] at e
  match l2, k2, e with
  | [], _, e =>
   match l3, k3, e with
   | [], _, e => simp at e
   | [_], _, e => simp at e
   | s1 :: s2 :: _, k3, e =>
    simp only [List.nil_append, List.map_cons, List.cons.injEq] at e
    rcases hx with h | h
    ·exact k3 s1 (by simp) (by omega)
    ·exact k3 s2 (by simp) (by omega)
  | s1 :: s2 :: _, k2, e =>
   simp only [List.cons_append, List.map_cons, List.cons.injEq] at e
   have q1 := k2 s1 (by simp)
   have q2 := k2 s2 (by simp)
   omega
  | [s1], k2, e =>
   match l3, k3, e with
   | [], _, e => simp at e
   | [_], _, e => simp at e
   | [_, _], _, e => simp at e
   | u1 :: u2 :: u3 :: _, k3, e =>
    simp only [List.cons_append, List.nil_append, List.map_cons, List.cons.injEq] at e
    have q1 := k2 s1 (by simp)
    exact k3 u2 (by simp) (by omega)
end Go.Ab
end
section
namespace Go.Ab
open Go.Proofs
set_option maxRecDepth 10000
def Altn (a b : Int) : List It → Prop
 | [] => True
 | [t] => t.2.2 = a ∨ t.2.2 = b
 | s :: t :: l => (s.2.2 = a ∨ s.2.2 = b) ∧ s.2.2 ≠ t.2.2 ∧ Altn a b (t :: l)
end Go.Ab
end
section
namespace Go.Ab
open Go.Proofs
attribute [local congr] ACall.congr
set_option maxRecDepth 10000
end Go.Ab
end
section
namespace Go.Ab
open Go.Proofs
attribute [local congr] ACall.congr
set_option maxRecDepth 10000
def tailsB (g : Gr) (out : List Int) (x : Nat) (i : Nat) : Bool := (List.range i).all fun j => !decide (hd g j = (x : Int)) || decide (tl g j ∈ out)
def OrdP (g : Gr) (out : List Int) (k : Nat) (f : Bool) : Prop := k ≤ g.n.toNat ∧ (if f then 0 < k ∧ wt g out (k - 1) = 0 ∧ ∀ j, j < k - 1 → wt g out j ≠ 0 else ∀ j, j < k → wt g out j ≠ 0)
def ordL (out : List Int) (k : Nat) (f : Bool) : List Int := if f then out ++ [((k - 1 : Nat) : Int)] else out
end Go.Ab
end
section
namespace Go.Ab
open Go.Proofs
attribute [local congr] ACall.congr
set_option maxRecDepth 10000
end Go.Ab
end
section
namespace Go.Ab
open Go.Proofs
set_option maxRecDepth 10000
structure Pl where
 ord : List Int
 outs : List (List Int)
def oAt (p : Pl) (k : Nat) : Int := p.ord.getD k 0
def lAt (p : Pl) (x : Int) : List Int := p.outs.getD x.toNat []
def PlanOk (g : Gr) (p : Pl) : Prop := p.outs.length = g.n.toNat ∧ p.ord.Perm (allN g.n.toNat) ∧ ∀ x : Nat, x < g.n.toNat → (p.outs.getD x []).Perm (outZ g x)
def fK (g : Gr) (p : Pl) : Nat → Fr
 | 0 => ⟨[], []⟩
 | k + 1 => (succF g (fK g p k) (oAt p k) (lAt p (oAt p k))).2
def goneK (g : Gr) (p : Pl) (k : Nat) : List It := (succF g (fK g p k) (oAt p k) (lAt p (oAt p k))).1.1
def okK (g : Gr) (p : Pl) (k : Nat) : Bool := rReadyF g (fK g p k) (oAt p k)
def endR (g : Gr) (p : Pl) : Nat → List (List It)
 | 0 => List.replicate g.n.toNat []
 | k + 1 => (endR g p k).set (oAt p k).toNat (goneK g p k)
def stopK (g : Gr) (p : Pl) : Nat → Option Nat
 | 0 => none
 | k + 1 => match stopK g p k with
  | some i => some i
  | none => if okK g p k = true then none else some k
def RunsP (g : Gr) (p : Pl) : Prop := (chkG g).1 = 0 ∧ PlanOk g p ∧ ∀ k, k < g.n.toNat → okK g p k = true
theorem stopK_none {g : Gr} {p : Pl} : ∀ {k : Nat}, stopK g p k = none ↔ ∀ j, j < k → okK g p j = true
 | 0 => by simp [stopK]
 | k + 1 => by
  rw [stopK]
  cases h : stopK g p k with
  | some i =>
   simp only [reduceCtorEq, false_iff]
   intro h2
   rw [stopK_none.2 fun j hj => h2 j (by omega)] at h
   cases h
  | none =>
   have ih := stopK_none.1 h
   simp only
   constructor
   ·intro h2 j hj
    by_cases hjk : j = k
    ·subst hjk
     refine Decidable.byContradiction fun hn => ?_
     rw [if_neg hn] at h2; cases h2
    ·exact ih j (by omega)
   ·intro h2
    rw [if_pos (h2 k (by omega))]
theorem stopK_some {g : Gr} {p : Pl} {i : Nat} : ∀ {k : Nat}, stopK g p k = some i ↔ i < k ∧ okK g p i = false ∧ ∀ j, j < i → okK g p j = true
 | 0 => by simp [stopK]
 | k + 1 => by
  rw [stopK]
  cases h : stopK g p k with
  | some i' =>
   have ih := (stopK_some (g := g) (p := p)).1 h
   simp only [Option.some.injEq]
   constructor
   ·rintro rfl
    exact ⟨by omega, ih.2⟩
   ·rintro ⟨h1, h2, h3⟩
    rcases Nat.lt_trichotomy i' i with h4 | h4 | h4
    ·rw [h3 i' h4] at ih; simp at ih
    ·exact h4
    ·rw [ih.2.2 i h4] at h2; cases h2
  | none =>
   have ih := stopK_none.1 h
   simp only
   constructor
   ·intro h2
    by_cases hk : okK g p k = true
    ·rw [if_pos hk] at h2; cases h2
    ·rw [if_neg hk] at h2
     cases h2
     exact ⟨by omega, by simpa using hk, ih⟩
   ·rintro ⟨h1, h2, h3⟩
    have : i = k := by
     by_cases h4 : i < k
     ·rw [ih i h4] at h2; cases h2
     ·omega
    subst this
    rw [if_neg (by rw [h2]; simp)]
theorem allN_len {n : Nat} : (allN n).length = n := by simp [allN]
theorem plan_len {g : Gr} {p : Pl} (h : PlanOk g p) : p.ord.length = g.n.toNat := by rw [h.2.1.length_eq, allN_len]
theorem plan_nodup {g : Gr} {p : Pl} (h : PlanOk g p) : p.ord.Nodup := h.2.1.nodup_iff.2 allN_nodup
theorem oAt_mem {g : Gr} {p : Pl} (h : PlanOk g p) {k : Nat} (hk : k < g.n.toNat) : 0 ≤ oAt p k ∧ oAt p k < g.n := by
 have h1 : oAt p k ∈ p.ord := getD_memX (by rw [plan_len h]; exact hk)
 have := allN_mem.1 (h.2.1.mem_iff.1 h1)
 omega
theorem oAt_inj {g : Gr} {p : Pl} (h : PlanOk g p) {i j : Nat} (hi : i < g.n.toNat) (hj : j < g.n.toNat) (e : oAt p i = oAt p j) : i = j :=
 nodup_getD (plan_nodup h) (by rw [plan_len h]; exact hi) (by rw [plan_len h]; exact hj) e
theorem lAt_perm {g : Gr} {p : Pl} (h : PlanOk g p) {x : Int} (h0 : 0 ≤ x) (h1 : x < g.n) : (lAt p x).Perm (outZ g x) := by
 have := h.2.2 x.toNat (by omega)
 rwa [show ((x.toNat : Nat) : Int) = x by omega] at this
theorem lAt_len {g : Gr} {p : Pl} (h : PlanOk g p) {x : Int} (h0 : 0 ≤ x) (h1 : x < g.n) : (lAt p x).length ≤ g.es.length := by
 rw [(lAt_perm h h0 h1).length_eq]; exact outZ_len
theorem run_inv {g : Gr} (hm : mayB g = true) {p : Pl} (h : PlanOk g p) : ∀ {k : Nat}, k ≤ g.n.toNat → (∀ j, j < k → okK g p j = true) → FrI g (fK g p k) ∧ (fK g p k).pl = p.ord.take k ∧ (fK g p k).row.length ≤ k * (g.es.length + 1)
 | 0, _, _ => ⟨frI_new g, by simp [fK], by simp [fK]⟩
 | k + 1, hk, hok => by
  obtain ⟨h1, h2, h3⟩ := run_inv hm h (k := k) (by omega) fun j hj => hok j (by omega)
  obtain ⟨x0, x1⟩ := oAt_mem h (k := k) (by omega)
  have hl := succF_len (g := g) (f := fK g p k) (x := oAt p k) (o := lAt p (oAt p k))
  have hl2 := lAt_len h x0 x1
  refine ⟨succ_frI hm h1 (hok k (by omega)) (lAt_perm h x0 x1), ?_, ?_⟩
  ·show (fK g p k).pl ++ [oAt p k] = _
   rw [h2, List.take_add_one, List.getElem?_eq_getElem (by rw [plan_len h]; omega), oAt, List.getD_eq_getElem?_getD, List.getElem?_eq_getElem (by rw [plan_len h]; omega)]
   rfl
  ·show (succF _ _ _ _).2.row.length ≤ _
   rw [Nat.add_mul]; omega
theorem place_ok {g : Gr} {p : Pl} (h : PlanOk g p) {k : Nat} (hk : k < g.n.toNat) (hR : okK g p k = true) : rPlaceF g (fK g p k) (oAt p k) (lAt p (oAt p k)) = succF g (fK g p k) (oAt p k) (lAt p (oAt p k)) := by
 have hp := lAt_perm h (oAt_mem h hk).1 (oAt_mem h hk).2
 unfold rPlaceF
 have hR' : rReadyF g (fK g p k) (oAt p k) = true := hR
 rw [if_neg (by rw [hR']; simp), if_neg]
 rintro (h | ⟨i, h1, h2⟩)
 ·exact h hp.length_eq
 ·exact h2 (hp.mem_iff.2 h1)
theorem place_no {g : Gr} {p : Pl} {k : Nat} (hR : okK g p k = false) : rPlaceF g (fK g p k) (oAt p k) (lAt p (oAt p k)) = (([], 3), fK g p k) := if_pos hR
theorem endR_len {g : Gr} {p : Pl} : ∀ {k : Nat}, (endR g p k).length = g.n.toNat
 | 0 => by simp [endR]
 | k + 1 => by rw [endR, List.length_set, endR_len]
theorem getD_setX {α : Type} {l : List α} {i j : Nat} {a d : α} (hi : i < l.length) : (l.set i a).getD j d = if j = i then a else l.getD j d := by
 rw [List.getD_eq_getElem?_getD, List.getElem?_set, List.getD_eq_getElem?_getD]
 by_cases h : i = j
 ·subst h; simp [hi]
 ·rw [if_neg h, if_neg (Ne.symm h)]
theorem srt_mem_perm {l m : List Int} (h : srt l = m) : l.Perm m := by
 rw [← h]; exact (List.mergeSort_perm l _).symm
theorem allN_sorted {n : Nat} : (allN n).Pairwise (· ≤ ·) := by
 unfold allN
 refine List.Pairwise.map _ (fun a b (h : a < b) => ?_) List.pairwise_lt_range
 show (a : Int) ≤ b
 omega
theorem ofP_iff {g : Gr} (hm : mayB g = true) {p : Pl} : (p.outs.length = g.n.toNat ∧ p.ord.length = g.n.toNat ∧ (∀ i : Nat, i < (srt p.ord).length → (srt p.ord).getD i 0 = i) ∧ ∀ x : Nat, x < p.outs.length → srt (p.outs.getD x []) = thereG (·.1) g x) ↔ PlanOk g p := by
 constructor
 ·rintro ⟨h1, h2, h3, h4⟩
  refine ⟨h1, srt_mem_perm ?_, fun x hx => ?_⟩
  ·refine List.ext_getElem (by rw [srt_length, h2, allN_len]) fun i h5 h6 => ?_
   have := h3 i h5
   rw [List.getD_eq_getElem?_getD, List.getElem?_eq_getElem h5, Option.getD_some] at this
   rw [this]; simp [allN]
  ·have := h4 x (by omega)
   rw [thereG_in (by omega) (by omega)] at this
   exact srt_mem_perm this
 ·intro h
  refine ⟨h.1, plan_len h, ?_, fun x hx => ?_⟩
  ·rw [srt_perm h.2.1 allN_sorted]
   intro i hi
   rw [allN_len] at hi
   simp [allN, List.getD_eq_getElem?_getD, List.getElem?_range hi]
  ·rw [thereG_in (by omega) (by have := h.1; omega)]
   exact srt_perm (h.2.2 x (by rw [← h.1]; exact hx)) outZ_sorted
theorem ofR_iff {g : Gr} (hm : mayB g = true) {p : Pl} : (eachB p.ord g.n = true ∧ p.outs.length = g.n.toNat ∧ (∀ x : Nat, x < p.outs.length → ∀ i ∈ p.outs.getD x [], i ∈ outZ g x) ∧ p.outs.flatten.Nodup ∧ ∀ i : Nat, i < g.es.length → (i : Int) ∈ p.outs.flatten) ↔ PlanOk g p := by
 have hn := mayB_n hm
 constructor
 ·rintro ⟨h1, h2, h3, h4, h5⟩
  refine ⟨h2, ?_, fun x hx => ?_⟩
  ·obtain ⟨e1, e2⟩ := eachB_iff.1 h1
   exact pigeonP allN_nodup e2 (by rw [allN_len]; omega)
  ·have hxl : x < p.outs.length := by omega
   have hmem : p.outs.getD x [] ∈ p.outs := getD_memX hxl
   have hnd : (p.outs.getD x []).Nodup := by
    rw [List.Nodup, List.pairwise_flatten] at h4
    exact h4.1 _ hmem
   refine (List.perm_ext_iff_of_nodup hnd endsZ_nodup).2 fun i => ⟨h3 x hxl i, fun hi => ?_⟩
   obtain ⟨k, rfl, hk, ht⟩ := outZ_mem hi
   obtain ⟨l, hl, hkl⟩ := List.mem_flatten.1 (h5 k hk)
   obtain ⟨y, hy, rfl⟩ := List.mem_iff_getElem.1 hl
   have e : p.outs.getD y [] = p.outs[y] := by rw [List.getD_eq_getElem?_getD, List.getElem?_eq_getElem hy]; rfl
   rw [← e] at hkl
   obtain ⟨k', e1, _, e2⟩ := outZ_mem (h3 y hy _ hkl)
   have : k = k' := by omega
   subst this
   have : x = y := by omega
   subst this
   exact hkl
 ·intro h
  refine ⟨eachB_iff.2 ⟨?_, fun x hx => h.2.1.mem_iff.2 hx⟩, h.1, fun x hx i hi => (h.2.2 x (by rw [← h.1]; exact hx)).mem_iff.1 hi, ?_, fun i hi => ?_⟩
  ·have := plan_len h; omega
  ·rw [List.Nodup, List.pairwise_flatten]
   constructor
   ·intro l hl
    obtain ⟨x, hx, rfl⟩ := List.mem_iff_getElem.1 hl
    have e : p.outs.getD x [] = p.outs[x] := by rw [List.getD_eq_getElem?_getD, List.getElem?_eq_getElem hx]; rfl
    rw [← e]
    exact (h.2.2 x (by rw [← h.1]; exact hx)).nodup_iff.2 endsZ_nodup
   ·refine List.pairwise_iff_getElem.2 fun x y hx hy hxy a ha b hb e => ?_
    subst e
    have ex : p.outs.getD x [] = p.outs[x] := by rw [List.getD_eq_getElem?_getD, List.getElem?_eq_getElem hx]; rfl
    have ey : p.outs.getD y [] = p.outs[y] := by rw [List.getD_eq_getElem?_getD, List.getElem?_eq_getElem hy]; rfl
    rw [← ex] at ha
    rw [← ey] at hb
    obtain ⟨k, e1, _, e2⟩ := outZ_mem ((h.2.2 x (by rw [← h.1]; exact hx)).mem_iff.1 ha)
    obtain ⟨k', e3, _, e4⟩ := outZ_mem ((h.2.2 y (by rw [← h.1]; exact hy)).mem_iff.1 hb)
    have : k = k' := by omega
    subst this
    omega
  ·have ht := (mayB_e hm hi).1
   refine List.mem_flatten.2 ⟨p.outs.getD (tl g i).toNat [], getD_memX (by rw [h.1]; have : 0 ≤ tl g i ∧ tl g i < g.n := ht; omega), ?_⟩
   have : 0 ≤ tl g i ∧ tl g i < g.n := ht
   refine (h.2.2 _ (by omega)).mem_iff.2 ?_
   simp only [outZ, endsZ, List.mem_map, List.mem_filter, List.mem_range, decide_eq_true_eq]
   exact ⟨i, ⟨hi, by show tl g i = _; omega⟩, rfl⟩
end Go.Ab
end
section
namespace Go.Ab
open Go.Proofs
set_option maxRecDepth 10000
def nextF (g : Gr) (p : Pl) (f : Fr) (x : Int) : Fr := (succF g f x (lAt p x)).2
def compN (g : Gr) (p : Pl) : Nat → Fr → Prop
 | 0, f => (f.pl.length : Int) = g.n
 | m + 1, f => ∃ x, rReadyF g f x = true ∧ compN g p m (nextF g p f x)
theorem compN_perm {g : Gr} {p : Pl} : ∀ {m : Nat} {f f' : Fr}, f.row = f'.row → f.pl.Perm f'.pl → compN g p m f → compN g p m f'
 | 0, f, f', _, hp, h => by
  have h : (f.pl.length : Int) = g.n := h
  show (f'.pl.length : Int) = g.n
  rw [← hp.length_eq]; exact h
 | m + 1, f, f', hr, hp, ⟨x, h1, h2⟩ => by
  refine ⟨x, by rw [← rReady_perm hr hp]; exact h1, compN_perm ?_ ?_ h2⟩
  ·simp only [nextF, succF, hr]
  ·exact hp.append_right _
theorem comp_any {g : Gr} (hc : (chkG g).1 = 0) {p : Pl} (hp : PlanOk g p) : ∀ {m : Nat} {f : Fr}, FrI g f → (f.pl.length : Int) + (m + 1 : Nat) = g.n → compN g p (m + 1) f → ∀ {x : Int}, rReadyF g f x = true → compN g p m (nextF g p f x)
 | m, f, hi, hl, ⟨y, hRy, hcan⟩, x, hR => by
  have hm := good_may hc
  by_cases hxy : x = y
  ·subst hxy; exact hcan
  have py := lAt_perm hp (ready_rng hRy).1 (ready_rng hRy).2.1
  have px := lAt_perm hp (ready_rng hR).1 (ready_rng hR).2.1
  have i2 := succ_frI hm hi hRy py
  match m, hl, hcan with
  | 0, hl, hcan =>
   exfalso
   have h1 := full_none i2.toFrInv (by show ((f.pl ++ [y]).length : Int) = g.n; simp; omega) (x := x) ⟨(ready_rng hR).1, (ready_rng hR).2.1⟩
   have h2 : x ∈ f.pl ++ [y] := h1
   simp [(ready_rng hR).2.2, hxy] at h2
  | m + 1, hl, hcan =>
   obtain ⟨h4, h5, h6, _⟩ := swap_good hc hi hxy hR hRy px py
   have h3 := comp_any hc hp i2 (by show (((f.pl ++ [y]).length : Nat) : Int) + _ = _; simp; omega) hcan h5
   refine ⟨y, h4, compN_perm h6.symm ?_ h3⟩
   show (f.pl ++ [y] ++ [x]).Perm (f.pl ++ [x] ++ [y])
   rw [List.append_assoc, List.append_assoc]
   exact List.Perm.append_left _ (List.Perm.swap ..)
theorem comp_run {g : Gr} {p : Pl} (h : RunsP g p) : ∀ {d k : Nat}, k + d = g.n.toNat → compN g p d (fK g p k)
 | 0, k, hk => by
  have hn := mayB_n (good_may h.1)
  obtain ⟨_, hpl, _⟩ := run_inv (good_may h.1) h.2.1 (k := k) (by omega) fun j hj => h.2.2 j (by omega)
  show ((fK g p k).pl.length : Int) = g.n
  rw [hpl, List.length_take, plan_len h.2.1]; omega
 | d + 1, k, hk => ⟨oAt p k, h.2.2 k (by omega), comp_run h (k := k + 1) (by omega)⟩
def lookR (rev : Bool) (l : List It) : List It := if rev = true then l.reverse else l
def pickF (g : Gr) (f : Fr) (rev : Bool) : Int := match (lookR rev f.row).find? (fun t => rReadyF g f t.2.2) with
 | some t => t.2.2
 | none => (readyL g f).headD (-1)
def walkF (g : Gr) (p : Pl) (rev : Bool) : Nat → Fr
 | 0 => ⟨[], []⟩
 | k + 1 => nextF g p (walkF g p rev k) (pickF g (walkF g p rev k) rev)
def rankL (g : Gr) (p : Pl) (rev : Bool) : Nat → List Int
 | 0 => List.replicate g.n.toNat 0
 | k + 1 => (rankL g p rev k).set (pickF g (walkF g p rev k) rev).toNat (k : Int)
theorem rankL_len {g : Gr} {p : Pl} {rev : Bool} : ∀ {k : Nat}, (rankL g p rev k).length = g.n.toNat
 | 0 => by simp [rankL]
 | k + 1 => by rw [rankL, List.length_set, rankL_len]
theorem readyL_memF {g : Gr} (hm : mayB g = true) {f : Fr} (hi : FrInv g f) {x : Int} : x ∈ readyL g f ↔ rReadyF g f x = true := by
 simp only [readyL, readyK, List.mem_map, List.mem_filter, List.mem_range]
 constructor
 ·rintro ⟨k, ⟨h1, h2⟩, rfl⟩
  rw [← ready_eq hm hi]; exact h2
 ·intro h
  obtain ⟨h1, h2, _⟩ := ready_rng h
  have e : ((x.toNat : Nat) : Int) = x := by omega
  refine ⟨x.toNat, ⟨by omega, ?_⟩, e⟩
  rw [e, ready_eq hm hi]; exact h
theorem pick_ready {g : Gr} (hm : mayB g = true) {f : Fr} (hi : FrInv g f) (h : ∃ x, rReadyF g f x = true) (rev : Bool) : rReadyF g f (pickF g f rev) = true := by
 unfold pickF
 cases hf : (lookR rev f.row).find? (fun t => rReadyF g f t.2.2) with
 | some t =>
  have h2 := List.find?_some (p := fun t : It => rReadyF g f t.2.2) hf
  exact h2
 | none =>
  obtain ⟨x, hx⟩ := h
  have hx := (readyL_memF hm hi).2 hx
  match hL : readyL g f with
  | [] => rw [hL] at hx; cases hx
  | y :: l => exact (readyL_memF hm hi).1 (by rw [hL]; simp)
theorem walk_inv {g : Gr} {p : Pl} (h : RunsP g p) (rev : Bool) : ∀ {k : Nat}, k ≤ g.n.toNat → FrI g (walkF g p rev k) ∧ (walkF g p rev k).pl.length = k ∧ compN g p (g.n.toNat - k) (walkF g p rev k) ∧ (walkF g p rev k).row.length ≤ k * (g.es.length + 1)
 | 0, _ => ⟨frI_new g, rfl, comp_run h (k := 0) (by omega), by simp [walkF]⟩
 | k + 1, hk => by
  have hm := good_may h.1
  have hn := mayB_n hm
  obtain ⟨h1, h2, h3, h4⟩ := walk_inv h rev (k := k) (by omega)
  obtain ⟨m, hmm⟩ : ∃ m, g.n.toNat - k = m + 1 := ⟨g.n.toNat - k - 1, by omega⟩
  rw [hmm] at h3
  have hR := pick_ready hm h1.toFrInv (by obtain ⟨x, hx, _⟩ := h3; exact ⟨x, hx⟩) rev
  have hx := ready_rng hR
  have hp := lAt_perm h.2.1 hx.1 hx.2.1
  have hl := succF_len (g := g) (f := walkF g p rev k) (x := pickF g (walkF g p rev k) rev) (o := lAt p (pickF g (walkF g p rev k) rev))
  have hl2 := lAt_len h.2.1 hx.1 hx.2.1
  refine ⟨succ_frI hm h1 hR hp, hl.2.trans (by rw [h2]), ?_, ?_⟩
  ·rw [show g.n.toNat - (k + 1) = m by omega]
   exact comp_any h.1 h.2.1 h1 (by omega) h3 hR
  ·show (succF _ _ _ _).2.row.length ≤ _
   rw [Nat.add_mul]; omega
theorem walk_ready {g : Gr} {p : Pl} (h : RunsP g p) (rev : Bool) {k : Nat} (hk : k < g.n.toNat) : rReadyF g (walkF g p rev k) (pickF g (walkF g p rev k) rev) = true ∧ readyL g (walkF g p rev k) ≠ [] := by
 have hm := good_may h.1
 obtain ⟨h1, h2, h3, _⟩ := walk_inv h rev (k := k) (by omega)
 obtain ⟨m, hmm⟩ : ∃ m, g.n.toNat - k = m + 1 := ⟨g.n.toNat - k - 1, by omega⟩
 rw [hmm] at h3
 have hR := pick_ready hm h1.toFrInv (by obtain ⟨x, hx, _⟩ := h3; exact ⟨x, hx⟩) rev
 exact ⟨hR, fun e => by
  have := (readyL_memF hm h1.toFrInv).2 hR
  rw [e] at this; cases this⟩
def ordW (g : Gr) (p : Pl) (rev : Bool) : List Int := (List.range g.n.toNat).map fun k => pickF g (walkF g p rev k) rev
theorem walk_pl {g : Gr} {p : Pl} (rev : Bool) : ∀ {k : Nat}, (walkF g p rev k).pl = (List.range k).map fun j => pickF g (walkF g p rev j) rev
 | 0 => rfl
 | k + 1 => by
  rw [List.range_succ, List.map_append, ← walk_pl rev (k := k)]
  rfl
theorem walk_runs {g : Gr} {p : Pl} (h : RunsP g p) (rev : Bool) : RunsP g ⟨ordW g p rev, p.outs⟩ := by
 have hm := good_may h.1
 have hn := mayB_n hm
 obtain ⟨h1, h2, _, _⟩ := walk_inv h rev (k := g.n.toNat) (Nat.le_refl _)
 have hpl : (walkF g p rev g.n.toNat).pl = ordW g p rev := walk_pl rev
 have hQ : PlanOk g ⟨ordW g p rev, p.outs⟩ := by
  refine ⟨h.2.1.1, ?_, h.2.1.2.2⟩
  show (ordW g p rev).Perm (allN g.n.toNat)
  rw [← hpl]
  refine (pigeonP (ms := (walkF g p rev g.n.toNat).pl) (os := allN g.n.toNat) h1.pl (fun x hx => allN_mem.2 (by have := h1.rng x hx; omega)) (by rw [allN_len, h2])).symm
 have hat : ∀ k, k < g.n.toNat → oAt ⟨ordW g p rev, p.outs⟩ k = pickF g (walkF g p rev k) rev := fun k hk => by
  simp [oAt, ordW, List.getD_eq_getElem?_getD, List.getElem?_range hk]
 have hfk : ∀ k, k ≤ g.n.toNat → fK g ⟨ordW g p rev, p.outs⟩ k = walkF g p rev k := by
  intro k
  induction k with
  | zero => intro _; rfl
  | succ k ih =>
   intro hk
   show (succF g (fK g ⟨ordW g p rev, p.outs⟩ k) _ _).2 = _
   rw [hat k (by omega), ih (by omega)]
   rfl
 refine ⟨h.1, hQ, fun k hk => ?_⟩
 unfold okK
 rw [hfk k (by omega), hat k hk]
 exact (walk_ready h rev hk).1
end Go.Ab
end
section
namespace Go.Ab
open Go.Proofs
set_option maxRecDepth 10000
def mirF (f : Fr) : Fr := ⟨f.row.reverse, f.pl⟩
def mirP (p : Pl) : Pl := ⟨p.ord, p.outs.map List.reverse⟩
theorem mirF_mirF {f : Fr} : mirF (mirF f) = f := by simp [mirF]
theorem mir_inv {g : Gr} {f : Fr} (h : FrInv g f) : FrInv g (mirF f) := ⟨fun t ht => h.it t (List.mem_reverse.1 ht), h.pl, h.rng⟩
theorem NoH.rev {x : Int} {l : List It} (h : NoH x l) : NoH x l.reverse := fun t ht => h t (List.mem_reverse.1 ht)
theorem Mid.rev {x : Int} {X : List It} (h : Mid x X) : Mid x X.reverse :=
 ⟨by obtain ⟨X', q, h1, h2⟩ := h.lst; exact ⟨q, X'.reverse, by simp [h1], h2⟩, by obtain ⟨p, X', h1, h2⟩ := h.fst; exact ⟨X'.reverse, p, by simp [h1], h2⟩, fun t ht => h.al t (List.mem_reverse.1 ht)⟩
theorem mir_ready1 {g : Gr} (hm : mayB g = true) {f : Fr} (hi : FrInv g f) {x : Int} (hR : rReadyF g f x = true) : rReadyF g (mirF f) x = true := by
 obtain ⟨h0, h1, h2⟩ := ready_rng hR
 by_cases hn : needN g x = 0
 ·unfold rReadyF
  rw [if_neg (by rintro (h | h | h); omega; omega; exact h2 h), if_pos hn]
 ·obtain ⟨A, X, C, hr, hA, hC, hX, hc⟩ := ready_split hm hi hR hn
  exact ready_join hm (mir_inv hi) h0 h1 h2 (A := C.reverse) (X := X.reverse) (C := A.reverse) (by simp [mirF, hr]) hC.rev hA.rev hX.rev (by rw [List.countP_reverse, hc])
theorem mir_ready {g : Gr} (hm : mayB g = true) {f : Fr} (hi : FrInv g f) (x : Int) : rReadyF g (mirF f) x = rReadyF g f x := by
 rw [Bool.eq_iff_iff]
 refine ⟨fun h => ?_, mir_ready1 hm hi⟩
 have := mir_ready1 hm (mir_inv hi) h
 rwa [mirF_mirF] at this
theorem mir_above {g : Gr} {x : Int} {o : List Int} : aboveF g x o.reverse = (aboveF g x o).reverse := by
 unfold aboveF
 by_cases h : o = []
 ·rw [if_pos h, if_pos (by rw [h]; rfl)]; rfl
 ·rw [if_neg h, if_neg (by simpa using h), List.map_reverse]
theorem mir_succ {g : Gr} (hc : (chkG g).1 = 0) {f : Fr} (hi : FrI g f) {x : Int} (hR : rReadyF g f x = true) (o : List Int) :
  succF g (mirF f) x o.reverse = (((succF g f x o).1.1.reverse, 0), mirF (succF g f x o).2) := by
 have hm := good_may hc
 obtain ⟨h0, h1, h2⟩ := ready_rng hR
 by_cases hn : needN g x = 0
 ·have hrow : f.row = [] := by
   rcases hi.src with ⟨_, h⟩ | ⟨s, hs, hz⟩
   ·exact h
   ·have := one_src hc (x := s) (y := x) (hi.rng s hs) ⟨h0, h1⟩ hz hn
    exact absurd (this ▸ hs) h2
  have hno : NoH x f.row := by rw [hrow]; intro t ht; cases ht
  have hno2 : NoH x (mirF f).row := hno.rev
  rw [succ_none _ hno, succ_none _ hno2]
  simp [mirF, hrow, mir_above]
 ·obtain ⟨A, X, C, hr, hA, hC, hX, _⟩ := ready_split hm hi.toFrInv hR hn
  rw [succ_of o hr hA hC hX, succ_of (f := mirF f) (A := C.reverse) (X := X.reverse) (C := A.reverse) o.reverse (by simp [mirF, hr]) hC.rev hA.rev hX.rev]
  simp [mirF, mir_above]
theorem mir_lAt {p : Pl} {x : Int} : lAt (mirP p) x = (lAt p x).reverse := by
 unfold lAt mirP
 simp only [List.getD_eq_getElem?_getD, List.getElem?_map]
 cases p.outs[x.toNat]? <;> simp
theorem mir_planOk {g : Gr} {p : Pl} (h : PlanOk g p) : PlanOk g (mirP p) := by
 refine ⟨by simpa [mirP] using h.1, h.2.1, fun x hx => ?_⟩
 have e : (mirP p).outs.getD x [] = (p.outs.getD x []).reverse := by
  have := mir_lAt (p := p) (x := (x : Int))
  unfold lAt at this
  simpa using this
 rw [e]
 exact (List.reverse_perm _).trans (h.2.2 x hx)
theorem mir_fK {g : Gr} {p : Pl} (h : RunsP g p) : ∀ {k : Nat}, k ≤ g.n.toNat → fK g (mirP p) k = mirF (fK g p k) ∧ ∀ j, j < k → okK g (mirP p) j = true
 | 0, _ => ⟨rfl, fun j hj => by omega⟩
 | k + 1, hk => by
  have hm := good_may h.1
  obtain ⟨h1, h2⟩ := mir_fK h (k := k) (by omega)
  obtain ⟨hi, _, _⟩ := run_inv hm h.2.1 (k := k) (by omega) fun j hj => h.2.2 j (by omega)
  have hR : rReadyF g (fK g p k) (oAt p k) = true := h.2.2 k (by omega)
  have ho : oAt (mirP p) k = oAt p k := rfl
  have hok : okK g (mirP p) k = true := by
   show rReadyF g (fK g (mirP p) k) (oAt (mirP p) k) = true
   rw [h1, ho, mir_ready hm hi.toFrInv, hR]
  refine ⟨?_, fun j hj => ?_⟩
  ·show (succF g (fK g (mirP p) k) (oAt (mirP p) k) (lAt (mirP p) (oAt (mirP p) k))).2 = _
   rw [h1, ho, mir_lAt, mir_succ h.1 hi hR]
   rfl
  ·by_cases e : j = k
   ·subst e; exact hok
   ·exact h2 j (by omega)
theorem mir_runs {g : Gr} {p : Pl} (h : RunsP g p) : RunsP g (mirP p) :=
 ⟨h.1, mir_planOk h.2.1, fun k hk => (mir_fK h (k := k + 1) (by omega)).2 k (by omega)⟩
theorem mir_pick {g : Gr} (hm : mayB g = true) {f : Fr} (hi : FrInv g f) (rev : Bool) : pickF g (mirF f) (!rev) = pickF g f rev := by
 unfold pickF
 have e1 : lookR (!rev) (mirF f).row = lookR rev f.row := by cases rev <;> simp [lookR, mirF]
 have e2 : (fun t : It => rReadyF g (mirF f) t.2.2) = fun t : It => rReadyF g f t.2.2 := by funext t; exact mir_ready hm hi _
 have e3 : readyL g (mirF f) = readyL g f := by
  unfold readyL readyK
  have : (fun x : Nat => readyF g (mirF f) (x : Int)) = fun x : Nat => readyF g f (x : Int) := by
   funext x; rw [ready_eq hm (mir_inv hi), ready_eq hm hi, mir_ready hm hi]
  rw [this]
 rw [e1, e2, e3]
theorem mir_walk {g : Gr} {p : Pl} (h : RunsP g p) (rev : Bool) : ∀ {k : Nat}, k ≤ g.n.toNat → walkF g (mirP p) (!rev) k = mirF (walkF g p rev k)
 | 0, _ => rfl
 | k + 1, hk => by
  have hm := good_may h.1
  obtain ⟨hi, _, _, _⟩ := walk_inv h rev (k := k) (by omega)
  have ih := mir_walk h rev (k := k) (by omega)
  show (succF g (walkF g (mirP p) (!rev) k) (pickF g (walkF g (mirP p) (!rev) k) (!rev)) (lAt (mirP p) _)).2 = _
  rw [ih, mir_pick hm hi.toFrInv, mir_lAt, mir_succ h.1 hi (walk_ready h rev (by omega)).1]
  rfl
theorem mir_rank {g : Gr} {p : Pl} (h : RunsP g p) (rev : Bool) : ∀ {k : Nat}, k ≤ g.n.toNat → rankL g (mirP p) (!rev) k = rankL g p rev k
 | 0, _ => rfl
 | k + 1, hk => by
  have hm := good_may h.1
  obtain ⟨hi, _, _, _⟩ := walk_inv h rev (k := k) (by omega)
  show (rankL g (mirP p) (!rev) k).set (pickF g (walkF g (mirP p) (!rev) k) (!rev)).toNat (k : Int) = _
  rw [mir_rank h rev (by omega), mir_walk h rev (by omega), mir_pick hm hi.toFrInv]
  rfl
theorem ordW_at {g : Gr} {p : Pl} {rev : Bool} {k : Nat} (hk : k < g.n.toNat) : (ordW g p rev).getD k 0 = pickF g (walkF g p rev k) rev := by
 simp [ordW, List.getD_eq_getElem?_getD, List.getElem?_range hk]
theorem ordW_len {g : Gr} {p : Pl} {rev : Bool} : (ordW g p rev).length = g.n.toNat := by simp [ordW]
theorem rank_at {g : Gr} {p : Pl} (h : RunsP g p) (rev : Bool) : ∀ {k : Nat}, k ≤ g.n.toNat → ∀ j, j < k → (rankL g p rev k).getD ((ordW g p rev).getD j 0).toNat 0 = (j : Int)
 | 0, _, j, hj => by omega
 | k + 1, hk, j, hj => by
  have hQ := (walk_runs h rev).2.1
  have hk1 := oAt_mem hQ (k := k) (by omega)
  have hj1 := oAt_mem hQ (k := j) (by omega)
  have ek : oAt ⟨ordW g p rev, p.outs⟩ k = (ordW g p rev).getD k 0 := rfl
  have ej : oAt ⟨ordW g p rev, p.outs⟩ j = (ordW g p rev).getD j 0 := rfl
  rw [rankL, ← ordW_at (by omega), getD_setX (by rw [rankL_len]; omega)]
  by_cases e : j = k
  ·subst e; rw [if_pos rfl]
  ·rw [if_neg, rank_at h rev (by omega) j (by omega)]
   intro e2
   exact e (oAt_inj hQ (by omega) (by omega) (by omega))
theorem rank_perm {g : Gr} {p : Pl} (h : RunsP g p) (rev : Bool) : eachB (rankL g p rev g.n.toNat) g.n = true := by
 have hn := mayB_n (good_may h.1)
 rw [eachB_iff]
 refine ⟨by rw [rankL_len]; omega, fun x hx => ?_⟩
 have hx := allN_mem.1 hx
 have hQ := (walk_runs h rev).2.1
 have hk1 := oAt_mem hQ (k := x.toNat) (by omega)
 have ek : oAt ⟨ordW g p rev, p.outs⟩ x.toNat = (ordW g p rev).getD x.toNat 0 := rfl
 have := rank_at h rev (Nat.le_refl _) x.toNat (by omega)
 have e : ((x.toNat : Nat) : Int) = x := by omega
 rw [e] at this
 have h2 := getD_memX (l := rankL g p rev g.n.toNat) (m := ((ordW g p rev).getD x.toNat 0).toNat) (d := 0) (by rw [rankL_len]; omega)
 rw [this] at h2
 exact h2
theorem atK_rank {g : Gr} {p : Pl} (h : RunsP g p) (rev : Bool) : (atK g.n.toNat (rankL g p rev g.n.toNat) g.n.toNat) = ordW g p rev := by
 have hn := mayB_n (good_may h.1)
 have hQ := (walk_runs h rev).2.1
 have hE := rank_perm h rev
 refine List.ext_getElem? fun k => ?_
 by_cases hk : k < g.n.toNat
 ·have hk1 := oAt_mem hQ (k := k) (by omega)
  have ek : oAt ⟨ordW g p rev, p.outs⟩ k = (ordW g p rev).getD k 0 := rfl
  have h1 := rank_at h rev (Nat.le_refl _) k hk
  have h2 := atK_at hE (p := ((ordW g p rev).getD k 0).toNat) (k := g.n.toNat) (by omega) (Nat.le_of_eq rankL_len.symm)
  rw [h1, Int.toNat_natCast] at h2
  have hl := atK_length (n := g.n.toNat) (l := rankL g p rev g.n.toNat) (k := g.n.toNat)
  rw [List.getD_eq_getElem?_getD, List.getElem?_eq_getElem (by omega)] at h2
  rw [List.getElem?_eq_getElem (by omega), List.getElem?_eq_getElem (by rw [ordW_len]; exact hk)]
  have h3 : (ordW g p rev).getD k 0 = (ordW g p rev)[k]'(by rw [ordW_len]; exact hk) := by
   rw [List.getD_eq_getElem?_getD, List.getElem?_eq_getElem (by rw [ordW_len]; exact hk)]; rfl
  simp only [Option.getD_some] at h2
  rw [h2, ← h3]
  congr 1; omega
 ·have hl := atK_length (n := g.n.toNat) (l := rankL g p rev g.n.toNat) (k := g.n.toNat)
  rw [List.getElem?_eq_none (by omega), List.getElem?_eq_none (by rw [ordW_len]; omega)]
end Go.Ab
end
section
namespace Go.Ab
open Go.Proofs
set_option maxRecDepth 10000
def loose (l : List It) : List Int := (l.filter fun t => decide (t.1 < 0)).map fun t => t.2.1
def newK (g : Gr) (p : Pl) : Nat → List Edge
 | 0 => []
 | k + 1 => newK g p k ++ (loose (goneK g p k)).map fun v => (v, oAt p k)
def lastR (g : Gr) (p : Pl) : List It := (fK g p g.n.toNat).row
def newL (g : Gr) (p : Pl) : List Edge := if 1 < (lastR g p).length then (loose (lastR g p)).map fun v => (v, g.n) else []
def newA (g : Gr) (p : Pl) : List Edge := newK g p g.n.toNat ++ newL g p
def augG (g : Gr) (p : Pl) : Gr := ⟨if 1 < (lastR g p).length then g.n + 1 else g.n, g.es ++ newA g p⟩
def layO : Nat → List Edge → List (List Int) → List (List Int)
 | _, [], O => O
 | m, e :: N, O => layO (m + 1) N (O.set e.1.toNat [(m : Int)])
def augP (g : Gr) (p : Pl) : Pl := ⟨if 1 < (lastR g p).length then p.ord ++ [g.n] else p.ord, layO g.es.length (newA g p) (if 1 < (lastR g p).length then p.outs ++ [[]] else p.outs)⟩
def docO (g : Gr) (p : Pl) (x : Gr) : List (List Int) := (List.range x.n.toNat).map fun v => if 0 < (p.outs.getD v []).length then p.outs.getD v [] else outZ x (v : Int)
end Go.Ab
end
section
namespace Go.Ab
open Go.Proofs
set_option maxRecDepth 10000
abbrev Act := Int × List Int
def rA (a : Act) : List D := [.sc (.int .i64 a.1), sI a.2]
def sA (as' : List Act) : D := .sl 2 (as'.map rA)
attribute [go_sem] sA
def actsK (g : Gr) (acts : List Act) : Nat → Fr
 | 0 => ⟨[], []⟩
 | k + 1 => (rPlaceF g (actsK g acts k) (acts.getD k (0, [])).1 (acts.getD k (0, [])).2).2
theorem pl_le {g : Gr} {f : Fr} (hi : FrInv g f) : (f.pl.length : Int) ≤ g.n ∨ f.pl = [] := by
 by_cases h : f.pl = []
 ·exact .inr h
 ·left
  obtain ⟨y, hy⟩ := List.exists_mem_of_ne_nil _ h
  have := hi.rng y hy
  have h3 := nodup_lenX hi.pl (m := (List.range g.n.toNat).map Int.ofNat) (fun y hy => by
   rw [List.mem_map]
   have := hi.rng y hy
   exact ⟨y.toNat, List.mem_range.2 (by omega), by simp; omega⟩)
  simp at h3
  omega
theorem placeA_spec (g : Gr) (hm : mayB g = true) (f : Fr) (hi : FrI g f) (x : Int) (outs : List Int) (hr : f.row.length ≤ 300000) (hp : f.pl.length ≤ 100000) (ho : outs.length ≤ 17592186043904) :
  Spec Tryz.prog 53 (Args [.ptr 10000 0, eN x, .d (sI outs)]) (frO g f) (.tup [.d (sT (rPlaceF g f x outs).1.1), eN (rPlaceF g f x outs).1.2]) (frN g (rPlaceF g f x outs).2) := by
 rw [← place_eq hm hi.toFrInv]
 exact place_spec g hm f x outs hr hp ho
end Go.Ab
end
section
namespace Go.Ab
open Go.Proofs
attribute [local congr] ACall.congr
set_option maxRecDepth 10000
set_option maxHeartbeats 4000000
def ePl (p : Pl) : AV := .agg [.d (sI p.ord), .d (.sl 1 (vI p.outs))]
attribute [go_sem] ePl
structure PlLen (p : Pl) : Prop where
 ord : p.ord.length ≤ 17592186043904
 outs : p.outs.length ≤ 9223372036854775807
 each : ∀ l ∈ p.outs, l.length ≤ 17592186043904
theorem ofS_spec (g : Gr) (hm : mayB g = true) (p : Pl) (hp : PlLen p) (res : Bool) (hr : res = true ↔ PlanOk g p) : Spec Tryz.prog 52 (Args [.d (vw g), ePl p]) [] (eB res) [] := by
 rw [← ofP_iff hm] at hr
 have hn := mayB_n hm
 have ho := hp.ord
 have ho2 := hp.outs
 by_cases h1 : p.outs.length = g.n.toNat ∧ p.ord.length = g.n.toNat
 rotate_left
 ·have hres : res = false := by
   rw [← Bool.not_eq_true, hr]
   rintro ⟨h2, h3, _⟩
   exact h1 ⟨h2, h3⟩
  subst hres
  by_cases h2 : (p.outs.length : Int) = g.n
  ·have hb1 : decide ((p.outs.length : Int) = g.n) = true := decide_eq_true h2
   have hb2 : decide ((p.ord.length : Int) = g.n) = false := decide_eq_false fun h3 => h1 ⟨by omega, by omega⟩
   (refine Spec.intro (C := T.cfg [] []) (rs := [.t 4]) (T.cfg_ok _ _) Tryz.func52 rfl rfl Tryz.ntmps52 Tryz.results52 (by simp [AObj.isNest]) (by simp [AObj.isNest]) (by kernel_rfl) ?_; intro X hX hP hC hXn hXm vals hA; refine ⟨_, by simp, hA, ?_⟩; have hmix : X.P.follows .mixedOrders = true := (by rw [hP]; exact T.mixed); clear hXn hXm)
   repeat' (first | fail | ((first | ((with_reducible (first | apply oA | apply oB)); exact rfl; intro K hK) | (refine hK _ ?_; clear hK K) | ((with_reducible (first | apply oG | apply oH)); iterate 3 exact rfl) | ((with_reducible apply oI); (iterate 2 exact rfl); intro K hK) | (with_reducible (first | apply wI | apply wJ | apply wK))); try simp only [go_sem, simprocAttr, vw_eq, hb1, hb2]) | fail | (with_reducible (first | apply oC | apply oJ | exact oK | apply wA | apply wB | apply wC hX hC | apply wD hX hC | apply wE hX hC hmix | apply wF hX hC hmix | apply wG | apply wH | apply And.intro)) | ((with_reducible refine oD ?_ ?_); first | fail | kernel_rfl) | ((with_reducible (first | apply oE | apply oF)); (iterate 3 exact rfl); all_goals (intro h; first | (exact absurd h (by decide)) | ((try simp only [go_sem, simprocAttr, vw_eq, hb1, hb2] at h); (try with_reducible intro K hK); simp only [go_sem, simprocAttr, vw_eq, hb1, hb2]))) | ((first | ((with_reducible apply wL); exact rfl) | ((with_reducible apply wM); exact rfl)); all_goals (try ((with_reducible intro h); first | (exact absurd h (by decide)) | (try simp only [go_sem, simprocAttr, vw_eq, hb1, hb2] at h)))) | omega | ((first | fail); try simp only [go_sem, simprocAttr, vw_eq, hb1, hb2]) | (intro h))
  ·have hb1 : decide ((p.outs.length : Int) = g.n) = false := decide_eq_false h2
   (refine Spec.intro (C := T.cfg [] []) (rs := [.t 4]) (T.cfg_ok _ _) Tryz.func52 rfl rfl Tryz.ntmps52 Tryz.results52 (by simp [AObj.isNest]) (by simp [AObj.isNest]) (by kernel_rfl) ?_; intro X hX hP hC hXn hXm vals hA; refine ⟨_, by simp, hA, ?_⟩; have hmix : X.P.follows .mixedOrders = true := (by rw [hP]; exact T.mixed); clear hXn hXm)
   repeat' (first | fail | ((first | ((with_reducible (first | apply oA | apply oB)); exact rfl; intro K hK) | (refine hK _ ?_; clear hK K) | ((with_reducible (first | apply oG | apply oH)); iterate 3 exact rfl) | ((with_reducible apply oI); (iterate 2 exact rfl); intro K hK) | (with_reducible (first | apply wI | apply wJ | apply wK))); try simp only [go_sem, simprocAttr, vw_eq, hb1]) | fail | (with_reducible (first | apply oC | apply oJ | exact oK | apply wA | apply wB | apply wC hX hC | apply wD hX hC | apply wE hX hC hmix | apply wF hX hC hmix | apply wG | apply wH | apply And.intro)) | ((with_reducible refine oD ?_ ?_); first | fail | kernel_rfl) | ((with_reducible (first | apply oE | apply oF)); (iterate 3 exact rfl); all_goals (intro h; first | (exact absurd h (by decide)) | ((try simp only [go_sem, simprocAttr, vw_eq, hb1] at h); (try with_reducible intro K hK); simp only [go_sem, simprocAttr, vw_eq, hb1]))) | ((first | ((with_reducible apply wL); exact rfl) | ((with_reducible apply wM); exact rfl)); all_goals (try ((with_reducible intro h); first | (exact absurd h (by decide)) | (try simp only [go_sem, simprocAttr, vw_eq, hb1] at h)))) | omega | ((first | fail); try simp only [go_sem, simprocAttr, vw_eq, hb1]) | (intro h))
 have hb1 : decide ((p.outs.length : Int) = g.n) = true := decide_eq_true (by omega)
 have hb2 : decide ((p.ord.length : Int) = g.n) = true := decide_eq_true (by omega)
 have hsl := srt_length p.ord
 (refine Spec.intro (C := T.cfg [] []) (rs := [.t 4]) (T.cfg_ok _ _) Tryz.func52 rfl rfl Tryz.ntmps52 Tryz.results52 (by simp [AObj.isNest]) (by simp [AObj.isNest]) (by kernel_rfl) ?_; intro X hX hP hC hXn hXm vals hA; refine ⟨_, by simp, hA, ?_⟩; have hmix : X.P.follows .mixedOrders = true := (by rw [hP]; exact T.mixed); clear hXn hXm)
 repeat' (first | fail | ((first | ((with_reducible (first | apply oA | apply oB)); exact rfl; intro K hK) | (refine hK _ ?_; clear hK K) | ((with_reducible (first | apply oG | apply oH)); iterate 3 exact rfl) | ((with_reducible apply oI); (iterate 2 exact rfl); intro K hK) | (with_reducible (first | apply wI | apply wJ | apply wK))); try simp only [go_sem, simprocAttr, vw_eq, hb1, hb2]) | fail | (with_reducible (first | apply oC | apply oJ | exact oK | apply wA | apply wB | apply wC hX hC | apply wD hX hC | apply wE hX hC hmix | apply wF hX hC hmix | apply wG | apply wH | apply And.intro)) | ((with_reducible refine oD ?_ ?_); first | fail | kernel_rfl) | ((with_reducible (first | apply oE | apply oF)); (iterate 3 exact rfl); all_goals (intro h; first | (exact absurd h (by decide)) | ((try simp only [go_sem, simprocAttr, vw_eq, hb1, hb2] at h); (try with_reducible intro K hK); simp only [go_sem, simprocAttr, vw_eq, hb1, hb2]))) | ((first | ((with_reducible apply wL); exact rfl) | ((with_reducible apply wM); exact rfl)); all_goals (try ((with_reducible intro h); first | (exact absurd h (by decide)) | (try simp only [go_sem, simprocAttr, vw_eq, hb1, hb2] at h)))) | omega | ((first | first | (refine acall_gen hX hC hP [(10000, 31)] (values_spec p.ord) rfl rfl rfl ?_ ?_ ?_ ?_ ?_ ?_ ?_ ?_ ?_ ?_ ?_ ?_ ?_ ?_; (focus (simp only [go_sem, simprocAttr, vw_eq, hb1, hb2]; done)); (iterate 12 (focus (simp [go_sem, simprocAttr, vw_eq, hb1, hb2]; done))); simp only [go_sem, simprocAttr, vw_eq, hb1, hb2, List.map_cons, List.map_nil]) | (refine acall_rob hX hC hP [(10000, 31)] (sortedB_spec p.ord ho) rfl rfl rfl ?_ ?_ ?_ ?_ ?_ ?_ rfl rfl ?_ ?_; (focus (simp only [go_sem, simprocAttr, vw_eq, hb1, hb2]; done)); (iterate 6 (focus (simp [go_sem, simprocAttr, vw_eq, hb1, hb2]; done))); simp only [go_sem, simprocAttr, vw_eq, hb1, hb2, List.map_cons, List.map_nil])); try simp only [go_sem, simprocAttr, vw_eq, hb1, hb2]) | (intro h))
 clear hb1 hb2
 refine awp_loopP (fun k : Nat => k ≤ (srt p.ord).length ∧ ∀ i : Nat, i < k → (srt p.ord).getD i 0 = i) (fun k => ⟨[(0, .d (vw g)), (3, .ptr 3 0), (32, .d (sI (srt p.ord))), (33, eN (srt p.ord).length), (34, eN k)], [(3, .box [.d (sI p.ord), .d (.sl 1 (vI p.outs))])]⟩) (fun k => (srt p.ord).length - k) 0 (by simp) ?_ ?_
 ·(refine Le.of ?_ ?_ <;> simp [go_sem, simprocAttr, vw_eq])
 rintro k ⟨hk, hg⟩
 rcases Nat.lt_or_ge k (srt p.ord).length with hlt | hge
 ·have hb : decide ((k : Int) < ((srt p.ord).length : Int)) = true := decide_eq_true (by omega)
  by_cases he : (srt p.ord).getD k 0 = k
  ·have hb2 : decide ((srt p.ord).getD k 0 = (k : Int)) = true := decide_eq_true he
   repeat' (first | fail | ((first | ((with_reducible (first | apply oA | apply oB)); exact rfl; intro K hK) | (refine hK _ ?_; clear hK K) | ((with_reducible (first | apply oG | apply oH)); iterate 3 exact rfl) | ((with_reducible apply oI); (iterate 2 exact rfl); intro K hK) | (with_reducible (first | apply wI | apply wJ | apply wK))); try simp only [go_sem, simprocAttr, vw_eq, hb, hb2]) | fail | (with_reducible (first | apply oC | apply oJ | exact oK | apply wA | apply wB | apply wC hX hC | apply wD hX hC | apply wE hX hC hmix | apply wF hX hC hmix | apply wG | apply wH | apply And.intro)) | ((with_reducible refine oD ?_ ?_); first | fail | kernel_rfl) | ((with_reducible (first | apply oE | apply oF)); (iterate 3 exact rfl); all_goals (intro h; first | (exact absurd h (by decide)) | ((try simp only [go_sem, simprocAttr, vw_eq, hb, hb2] at h); (try with_reducible intro K hK); simp only [go_sem, simprocAttr, vw_eq, hb, hb2]))) | ((first | ((with_reducible apply wL); exact rfl) | ((with_reducible apply wM); exact rfl)); all_goals (try ((with_reducible intro h); first | (exact absurd h (by decide)) | (try simp only [go_sem, simprocAttr, vw_eq, hb, hb2] at h)))) | omega | ((first | first | (refine acall_gen hX hC hP [(10000, 31)] (values_spec p.ord) rfl rfl rfl ?_ ?_ ?_ ?_ ?_ ?_ ?_ ?_ ?_ ?_ ?_ ?_ ?_ ?_; (focus (simp only [go_sem, simprocAttr, vw_eq, hb, hb2]; done)); (iterate 12 (focus (simp [go_sem, simprocAttr, vw_eq, hb, hb2]; done))); simp only [go_sem, simprocAttr, vw_eq, hb, hb2, List.map_cons, List.map_nil]) | (refine acall_rob hX hC hP [(10000, 31)] (sortedB_spec p.ord ho) rfl rfl rfl ?_ ?_ ?_ ?_ ?_ ?_ rfl rfl ?_ ?_; (focus (simp only [go_sem, simprocAttr, vw_eq, hb, hb2]; done)); (iterate 6 (focus (simp [go_sem, simprocAttr, vw_eq, hb, hb2]; done))); simp only [go_sem, simprocAttr, vw_eq, hb, hb2, List.map_cons, List.map_nil])); try simp only [go_sem, simprocAttr, vw_eq, hb, hb2]) | (intro h))
   refine ⟨k + 1, ⟨by omega, fun i hi => ?_⟩, ?_, by omega⟩
   ·by_cases hik : i = k
    ·subst hik; exact he
    ·exact hg i (by omega)
   ·(refine Le.of ?_ ?_ <;> simp [go_sem, simprocAttr, vw_eq, hb, hb2])
  ·have hb2 : decide ((srt p.ord).getD k 0 = (k : Int)) = false := decide_eq_false he
   have hres : res = false := by
    rw [← Bool.not_eq_true, hr]
    rintro ⟨_, _, h3, _⟩
    exact he (h3 k hlt)
   subst hres
   repeat' (first | fail | ((first | ((with_reducible (first | apply oA | apply oB)); exact rfl; intro K hK) | (refine hK _ ?_; clear hK K) | ((with_reducible (first | apply oG | apply oH)); iterate 3 exact rfl) | ((with_reducible apply oI); (iterate 2 exact rfl); intro K hK) | (with_reducible (first | apply wI | apply wJ | apply wK))); try simp only [go_sem, simprocAttr, vw_eq, hb, hb2]) | fail | (with_reducible (first | apply oC | apply oJ | exact oK | apply wA | apply wB | apply wC hX hC | apply wD hX hC | apply wE hX hC hmix | apply wF hX hC hmix | apply wG | apply wH | apply And.intro)) | ((with_reducible refine oD ?_ ?_); first | fail | kernel_rfl) | ((with_reducible (first | apply oE | apply oF)); (iterate 3 exact rfl); all_goals (intro h; first | (exact absurd h (by decide)) | ((try simp only [go_sem, simprocAttr, vw_eq, hb, hb2] at h); (try with_reducible intro K hK); simp only [go_sem, simprocAttr, vw_eq, hb, hb2]))) | ((first | ((with_reducible apply wL); exact rfl) | ((with_reducible apply wM); exact rfl)); all_goals (try ((with_reducible intro h); first | (exact absurd h (by decide)) | (try simp only [go_sem, simprocAttr, vw_eq, hb, hb2] at h)))) | omega | ((first | first | (refine acall_gen hX hC hP [(10000, 31)] (values_spec p.ord) rfl rfl rfl ?_ ?_ ?_ ?_ ?_ ?_ ?_ ?_ ?_ ?_ ?_ ?_ ?_ ?_; (focus (simp only [go_sem, simprocAttr, vw_eq, hb, hb2]; done)); (iterate 12 (focus (simp [go_sem, simprocAttr, vw_eq, hb, hb2]; done))); simp only [go_sem, simprocAttr, vw_eq, hb, hb2, List.map_cons, List.map_nil]) | (refine acall_rob hX hC hP [(10000, 31)] (sortedB_spec p.ord ho) rfl rfl rfl ?_ ?_ ?_ ?_ ?_ ?_ rfl rfl ?_ ?_; (focus (simp only [go_sem, simprocAttr, vw_eq, hb, hb2]; done)); (iterate 6 (focus (simp [go_sem, simprocAttr, vw_eq, hb, hb2]; done))); simp only [go_sem, simprocAttr, vw_eq, hb, hb2, List.map_cons, List.map_nil])); try simp only [go_sem, simprocAttr, vw_eq, hb, hb2]) | (intro h))
 have hb : decide ((k : Int) < ((srt p.ord).length : Int)) = false := decide_eq_false (by omega)
 repeat' (first | fail | ((first | ((with_reducible (first | apply oA | apply oB)); exact rfl; intro K hK) | (refine hK _ ?_; clear hK K) | ((with_reducible (first | apply oG | apply oH)); iterate 3 exact rfl) | ((with_reducible apply oI); (iterate 2 exact rfl); intro K hK) | (with_reducible (first | apply wI | apply wJ | apply wK))); try simp only [go_sem, simprocAttr, vw_eq, hb]) | fail | (with_reducible (first | apply oC | apply oJ | exact oK | apply wA | apply wB | apply wC hX hC | apply wD hX hC | apply wE hX hC hmix | apply wF hX hC hmix | apply wG | apply wH | apply And.intro)) | ((with_reducible refine oD ?_ ?_); first | fail | kernel_rfl) | ((with_reducible (first | apply oE | apply oF)); (iterate 3 exact rfl); all_goals (intro h; first | (exact absurd h (by decide)) | ((try simp only [go_sem, simprocAttr, vw_eq, hb] at h); (try with_reducible intro K hK); simp only [go_sem, simprocAttr, vw_eq, hb]))) | ((first | ((with_reducible apply wL); exact rfl) | ((with_reducible apply wM); exact rfl)); all_goals (try ((with_reducible intro h); first | (exact absurd h (by decide)) | (try simp only [go_sem, simprocAttr, vw_eq, hb] at h)))) | omega | ((first | first | (refine acall_gen hX hC hP [(10000, 31)] (values_spec p.ord) rfl rfl rfl ?_ ?_ ?_ ?_ ?_ ?_ ?_ ?_ ?_ ?_ ?_ ?_ ?_ ?_; (focus (simp only [go_sem, simprocAttr, vw_eq, hb]; done)); (iterate 12 (focus (simp [go_sem, simprocAttr, vw_eq, hb]; done))); simp only [go_sem, simprocAttr, vw_eq, hb, List.map_cons, List.map_nil]) | (refine acall_rob hX hC hP [(10000, 31)] (sortedB_spec p.ord ho) rfl rfl rfl ?_ ?_ ?_ ?_ ?_ ?_ rfl rfl ?_ ?_; (focus (simp only [go_sem, simprocAttr, vw_eq, hb]; done)); (iterate 6 (focus (simp [go_sem, simprocAttr, vw_eq, hb]; done))); simp only [go_sem, simprocAttr, vw_eq, hb, List.map_cons, List.map_nil])); try simp only [go_sem, simprocAttr, vw_eq, hb]) | (intro h))
 obtain rfl : k = (srt p.ord).length := by omega
 clear hb hk
 refine awp_loopP (fun x : Nat => x ≤ p.outs.length ∧ ∀ i : Nat, i < x → srt (p.outs.getD i []) = thereG (·.1) g i) (fun x => ⟨[(0, .d (vw g)), (44, .d (.sl 1 (vI p.outs))), (45, eN p.outs.length), (46, eN x)], []⟩) (fun x => p.outs.length - x) 0 (by simp) ?_ ?_
 ·refine Le.of ?_ ?_ <;> simp [go_sem, simprocAttr, vw_eq]
 rintro x ⟨hx, hgx⟩
 rcases Nat.lt_or_ge x p.outs.length with hxl | hxg
 ·have hb : decide ((x : Int) < (p.outs.length : Int)) = true := decide_eq_true (by omega)
  have hv := vI_getD hxl
  have hl := hp.each _ (getD_memX (d := []) hxl)
  have hn2 : ∀ h : srt (p.outs.getD x []) = thereG (·.1) g x, ∀ i : Nat, i < x + 1 → srt (p.outs.getD i []) = thereG (·.1) g i := fun h i hi => by
   by_cases hix : i = x
   ·subst hix; exact h
   ·exact hgx i (by omega)
  have hr2 : ¬ srt (p.outs.getD x []) = thereG (·.1) g x → res = false := fun h => by
   rw [← Bool.not_eq_true, hr]
   rintro ⟨_, _, _, h4⟩
   exact h (h4 x hxl)
  generalize p.outs.getD x [] = l at hv hl hn2 hr2
  have hsl2 := srt_length l
  by_cases he : srt l = thereG (·.1) g x
  ·have hb2 : decide (srt l = thereG (·.1) g (x : Int)) = true := decide_eq_true he
   repeat' (first | fail | ((first | ((with_reducible (first | apply oA | apply oB)); exact rfl; intro K hK) | (refine hK _ ?_; clear hK K) | ((with_reducible (first | apply oG | apply oH)); iterate 3 exact rfl) | ((with_reducible apply oI); (iterate 2 exact rfl); intro K hK) | (with_reducible (first | apply wI | apply wJ | apply wK))); try simp only [go_sem, simprocAttr, hb, hv, hb2]) | fail | (with_reducible (first | apply oC | apply oJ | exact oK | apply wA | apply wB | apply wC hX hC | apply wD hX hC | apply wE hX hC hmix | apply wF hX hC hmix | apply wG | apply wH | apply And.intro)) | ((with_reducible refine oD ?_ ?_); first | fail | kernel_rfl) | ((with_reducible (first | apply oE | apply oF)); (iterate 3 exact rfl); all_goals (intro h; first | (exact absurd h (by decide)) | ((try simp only [go_sem, simprocAttr, hb, hv, hb2] at h); (try with_reducible intro K hK); simp only [go_sem, simprocAttr, hb, hv, hb2]))) | ((first | ((with_reducible apply wL); exact rfl) | ((with_reducible apply wM); exact rfl)); all_goals (try ((with_reducible intro h); first | (exact absurd h (by decide)) | (try simp only [go_sem, simprocAttr, hb, hv, hb2] at h)))) | omega | ((first | first | (refine acall_gen hX hC hP [(10000, 52)] (values_spec l) rfl rfl rfl ?_ ?_ ?_ ?_ ?_ ?_ ?_ ?_ ?_ ?_ ?_ ?_ ?_ ?_; (focus (simp only [go_sem, simprocAttr, hb, hv, hb2]; done)); (iterate 12 (focus (simp [go_sem, simprocAttr, hb, hv, hb2]; done))); simp only [go_sem, simprocAttr, hb, hv, hb2, List.map_cons, List.map_nil]) | (refine acall_rob hX hC hP [(10000, 52)] (sortedB_spec l hl) rfl rfl rfl ?_ ?_ ?_ ?_ ?_ ?_ rfl rfl ?_ ?_; (focus (simp only [go_sem, simprocAttr, hb, hv, hb2]; done)); (iterate 6 (focus (simp [go_sem, simprocAttr, hb, hv, hb2]; done))); simp only [go_sem, simprocAttr, hb, hv, hb2, List.map_cons, List.map_nil]) | refine acall_simple hX hC hP (outs_spec g hm (x : Int)) rfl rfl rfl (by simp only [go_sem, simprocAttr, hb, hv, hb2]) rfl ?_ | refine acall_simple hX hC hP (equalI_spec (srt l) (thereG (·.1) g x) (by omega)) rfl rfl rfl (by simp only [go_sem, simprocAttr, hb, hv, hb2]) rfl ?_); try simp only [go_sem, simprocAttr, hb, hv, hb2]) | (intro h))
   refine ⟨x + 1, ⟨by omega, hn2 he⟩, ?_, by omega⟩
   (refine Le.of ?_ ?_ <;> simp [go_sem, simprocAttr, hb, hv, hb2])
  ·have hb2 : decide (srt l = thereG (·.1) g (x : Int)) = false := decide_eq_false he
   have hres := hr2 he
   subst hres
   repeat' (first | fail | ((first | ((with_reducible (first | apply oA | apply oB)); exact rfl; intro K hK) | (refine hK _ ?_; clear hK K) | ((with_reducible (first | apply oG | apply oH)); iterate 3 exact rfl) | ((with_reducible apply oI); (iterate 2 exact rfl); intro K hK) | (with_reducible (first | apply wI | apply wJ | apply wK))); try simp only [go_sem, simprocAttr, hb, hv, hb2]) | fail | (with_reducible (first | apply oC | apply oJ | exact oK | apply wA | apply wB | apply wC hX hC | apply wD hX hC | apply wE hX hC hmix | apply wF hX hC hmix | apply wG | apply wH | apply And.intro)) | ((with_reducible refine oD ?_ ?_); first | fail | kernel_rfl) | ((with_reducible (first | apply oE | apply oF)); (iterate 3 exact rfl); all_goals (intro h; first | (exact absurd h (by decide)) | ((try simp only [go_sem, simprocAttr, hb, hv, hb2] at h); (try with_reducible intro K hK); simp only [go_sem, simprocAttr, hb, hv, hb2]))) | ((first | ((with_reducible apply wL); exact rfl) | ((with_reducible apply wM); exact rfl)); all_goals (try ((with_reducible intro h); first | (exact absurd h (by decide)) | (try simp only [go_sem, simprocAttr, hb, hv, hb2] at h)))) | omega | ((first | first | (refine acall_gen hX hC hP [(10000, 52)] (values_spec l) rfl rfl rfl ?_ ?_ ?_ ?_ ?_ ?_ ?_ ?_ ?_ ?_ ?_ ?_ ?_ ?_; (focus (simp only [go_sem, simprocAttr, hb, hv, hb2]; done)); (iterate 12 (focus (simp [go_sem, simprocAttr, hb, hv, hb2]; done))); simp only [go_sem, simprocAttr, hb, hv, hb2, List.map_cons, List.map_nil]) | (refine acall_rob hX hC hP [(10000, 52)] (sortedB_spec l hl) rfl rfl rfl ?_ ?_ ?_ ?_ ?_ ?_ rfl rfl ?_ ?_; (focus (simp only [go_sem, simprocAttr, hb, hv, hb2]; done)); (iterate 6 (focus (simp [go_sem, simprocAttr, hb, hv, hb2]; done))); simp only [go_sem, simprocAttr, hb, hv, hb2, List.map_cons, List.map_nil]) | refine acall_simple hX hC hP (outs_spec g hm (x : Int)) rfl rfl rfl (by simp only [go_sem, simprocAttr, hb, hv, hb2]) rfl ?_ | refine acall_simple hX hC hP (equalI_spec (srt l) (thereG (·.1) g x) (by omega)) rfl rfl rfl (by simp only [go_sem, simprocAttr, hb, hv, hb2]) rfl ?_); try simp only [go_sem, simprocAttr, hb, hv, hb2]) | (intro h))
 ·have hb : decide ((x : Int) < (p.outs.length : Int)) = false := decide_eq_false (by omega)
  obtain rfl : x = p.outs.length := by omega
  have hres : res = true := hr.2 ⟨h1.1, h1.2, fun i hi => hg i (by omega), hgx⟩
  subst hres
  repeat' (first | fail | ((first | ((with_reducible (first | apply oA | apply oB)); exact rfl; intro K hK) | (refine hK _ ?_; clear hK K) | ((with_reducible (first | apply oG | apply oH)); iterate 3 exact rfl) | ((with_reducible apply oI); (iterate 2 exact rfl); intro K hK) | (with_reducible (first | apply wI | apply wJ | apply wK))); try simp only [go_sem, simprocAttr, hb]) | fail | (with_reducible (first | apply oC | apply oJ | exact oK | apply wA | apply wB | apply wC hX hC | apply wD hX hC | apply wE hX hC hmix | apply wF hX hC hmix | apply wG | apply wH | apply And.intro)) | ((with_reducible refine oD ?_ ?_); first | fail | kernel_rfl) | ((with_reducible (first | apply oE | apply oF)); (iterate 3 exact rfl); all_goals (intro h; first | (exact absurd h (by decide)) | ((try simp only [go_sem, simprocAttr, hb] at h); (try with_reducible intro K hK); simp only [go_sem, simprocAttr, hb]))) | ((first | ((with_reducible apply wL); exact rfl) | ((with_reducible apply wM); exact rfl)); all_goals (try ((with_reducible intro h); first | (exact absurd h (by decide)) | (try simp only [go_sem, simprocAttr, hb] at h)))) | omega | ((first | first | (refine acall_gen hX hC hP [(10000, 52)] (values_spec l) rfl rfl rfl ?_ ?_ ?_ ?_ ?_ ?_ ?_ ?_ ?_ ?_ ?_ ?_ ?_ ?_; (focus (simp only [go_sem, simprocAttr, hb]; done)); (iterate 12 (focus (simp [go_sem, simprocAttr, hb]; done))); simp only [go_sem, simprocAttr, hb, List.map_cons, List.map_nil]) | (refine acall_rob hX hC hP [(10000, 52)] (sortedB_spec l hl) rfl rfl rfl ?_ ?_ ?_ ?_ ?_ ?_ rfl rfl ?_ ?_; (focus (simp only [go_sem, simprocAttr, hb]; done)); (iterate 6 (focus (simp [go_sem, simprocAttr, hb]; done))); simp only [go_sem, simprocAttr, hb, List.map_cons, List.map_nil]) | refine acall_simple hX hC hP (outs_spec g hm (x : Int)) rfl rfl rfl (by simp only [go_sem, simprocAttr, hb]) rfl ?_ | refine acall_simple hX hC hP (equalI_spec (srt l) (thereG (·.1) g x) (by omega)) rfl rfl rfl (by simp only [go_sem, simprocAttr, hb]) rfl ?_); try simp only [go_sem, simprocAttr, hb]) | (intro h))
end Go.Ab
end
