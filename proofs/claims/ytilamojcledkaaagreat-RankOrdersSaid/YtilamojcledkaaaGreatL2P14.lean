/- A part of the proof. -/
import Derived.Test.YtilamojcledkaaaGreatL2P13
set_option linter.unusedSimpArgs false
set_option linter.unusedVariables false
section
namespace Go.Ab
open Go.Proofs
attribute [local congr] ACall.congr
set_option maxRecDepth 10000
set_option maxHeartbeats 8000000
def cntL (m : Nat) (fl : List Int) : List Int := (List.range m).map fun i : Nat => if (i : Int) ∈ fl then (1 : Int) else 0
theorem cntL_len {m : Nat} {fl : List Int} : (cntL m fl).length = m := by simp [cntL]
theorem cntL_zero {m : Nat} : cntL m [] = List.replicate m 0 := by
 refine List.ext_getElem (by simp [cntL]) fun i h1 h2 => ?_
 simp [cntL]
theorem cntL_at {m : Nat} {fl : List Int} {i : Nat} (h : i < m) : (cntL m fl).getD i 0 = if (i : Int) ∈ fl then 1 else 0 := by
 simp [cntL, List.getD_eq_getElem?_getD, List.getElem?_range h]
theorem cntL_set {m : Nat} {fl : List Int} {i : Nat} (h : i < m) : (cntL m fl).set i 1 = cntL m (fl ++ [(i : Int)]) := by
 refine List.ext_getElem (by simp [cntL]) fun j h1 h2 => ?_
 rw [List.getElem_set]
 simp only [cntL, List.getElem_map, List.getElem_range, List.mem_append, List.mem_singleton]
 by_cases e : i = j
 ·subst e; simp
 ·rw [if_neg e]
  have : ¬ (j : Int) = (i : Int) := by omega
  simp [this]
theorem flat_pre {outs : List (List Int)} {x k : Nat} (hx : x < outs.length) : ((outs.take x).flatten ++ (outs.getD x []).take k).Sublist outs.flatten := by
 have e : outs = outs.take x ++ outs.getD x [] :: outs.drop (x + 1) := by
  conv => lhs; rw [← List.take_append_drop x outs]
  congr 1
  rw [List.drop_eq_getElem_cons hx, List.getD_eq_getElem?_getD, List.getElem?_eq_getElem hx]
  rfl
 conv => rhs; rw [e]
 rw [List.flatten_append, List.flatten_cons]
 exact List.Sublist.append (List.Sublist.refl _) ((List.take_sublist _ _).trans (List.sublist_append_left _ _))
theorem take_snocI {l : List Int} {k : Nat} (h : k < l.length) : l.take (k + 1) = l.take k ++ [l.getD k 0] := by
 rw [List.take_add_one, List.getD_eq_getElem?_getD, List.getElem?_eq_getElem h]; rfl
theorem outZ_iff {g : Gr} {x i : Int} : i ∈ outZ g x ↔ (0 ≤ i ∧ i < g.es.length) ∧ (g.es.getD i.toNat (0, 0)).1 = x := by
 constructor
 ·exact endsZ_mem
 ·rintro ⟨⟨h1, h2⟩, h3⟩
  simp only [outZ, endsZ, List.mem_map, List.mem_filter, List.mem_range, decide_eq_true_eq]
  exact ⟨i.toNat, ⟨by omega, h3⟩, by simp; omega⟩
theorem ofR_spec (g : Gr) (hl : g.es.length ≤ 9223372036854775807) (p : Pl) (hp : PlLen p) (res : Bool) (hr : res = true ↔ (chkG g).1 = 0 ∧ PlanOk g p) : Spec Tryz.prog 60 (Args [eG g, ePl p]) [] (eB res) [] := by
 have ho : p.ord.length ≤ 9223372036854775807 := by have := hp.ord; omega
 have ho2 := hp.outs
 by_cases hc : (chkG g).1 = 0
 rotate_left
 ·have hres : res = false := by
   rw [← Bool.not_eq_true, hr]
   rintro ⟨h, _⟩
   exact hc h
  subst hres
  have hb1 : decide ((chkG g).1 = 0) = false := decide_eq_false hc
  (refine Spec.intro (C := T.cfg [] []) (rs := [.t 4]) (T.cfg_ok _ _) Tryz.func60 rfl rfl Tryz.ntmps60 Tryz.results60 (by simp [AObj.isNest]) (by simp [AObj.isNest]) (by kernel_rfl) ?_; intro X hX hP hC hXn hXm vals hA; refine ⟨_, by simp, hA, ?_⟩; have hmix : X.P.follows .mixedOrders = true := (by rw [hP]; exact T.mixed); clear hXn hXm)
  repeat' (first | fail | ((first | ((with_reducible (first | apply oA | apply oB)); exact rfl; intro K hK) | (refine hK _ ?_; clear hK K) | ((with_reducible (first | apply oG | apply oH)); iterate 3 exact rfl) | ((with_reducible apply oI); (iterate 2 exact rfl); intro K hK) | (with_reducible (first | apply wI | apply wJ | apply wK))); try simp only [go_sem, simprocAttr, hb1]) | fail | (with_reducible (first | apply oC | apply oJ | exact oK | apply wA | apply wB | apply wC hX hC | apply wD hX hC | apply wE hX hC hmix | apply wF hX hC hmix | apply wG | apply wH | apply And.intro)) | ((with_reducible refine oD ?_ ?_); first | fail | kernel_rfl) | ((with_reducible (first | apply oE | apply oF)); (iterate 3 exact rfl); all_goals (intro h; first | (exact absurd h (by decide)) | ((try simp only [go_sem, simprocAttr, hb1] at h); (try with_reducible intro K hK); simp only [go_sem, simprocAttr, hb1]))) | ((first | ((with_reducible apply wL); exact rfl) | ((with_reducible apply wM); exact rfl)); all_goals (try ((with_reducible intro h); first | (exact absurd h (by decide)) | (try simp only [go_sem, simprocAttr, hb1] at h)))) | omega | ((first | first | refine acall_simple hX hC hP (refGoodA_spec g hl) rfl rfl rfl (by simp only [go_sem, simprocAttr, hb1]) rfl ?_); try simp only [go_sem, simprocAttr, hb1]) | (intro h))
 have hb1 : decide ((chkG g).1 = 0) = true := decide_eq_true hc
 have hm := good_may hc
 have hn := mayB_n hm
 have hr : res = true ↔ PlanOk g p := by rw [hr]; exact ⟨fun h => h.2, fun h => ⟨hc, h⟩⟩
 rw [← ofR_iff hm] at hr
 by_cases he : eachB p.ord g.n = true ∧ p.outs.length = g.n.toNat
 rotate_left
 ·have hres : res = false := by
   rw [← Bool.not_eq_true, hr]
   rintro ⟨h2, h3, _⟩
   exact he ⟨h2, h3⟩
  subst hres
  cases h2 : eachB p.ord g.n with
  | false =>
   (refine Spec.intro (C := T.cfg [] []) (rs := [.t 4]) (T.cfg_ok _ _) Tryz.func60 rfl rfl Tryz.ntmps60 Tryz.results60 (by simp [AObj.isNest]) (by simp [AObj.isNest]) (by kernel_rfl) ?_; intro X hX hP hC hXn hXm vals hA; refine ⟨_, by simp, hA, ?_⟩; have hmix : X.P.follows .mixedOrders = true := (by rw [hP]; exact T.mixed); clear hXn hXm)
   repeat' (first | fail | ((first | ((with_reducible (first | apply oA | apply oB)); exact rfl; intro K hK) | (refine hK _ ?_; clear hK K) | ((with_reducible (first | apply oG | apply oH)); iterate 3 exact rfl) | ((with_reducible apply oI); (iterate 2 exact rfl); intro K hK) | (with_reducible (first | apply wI | apply wJ | apply wK))); try simp only [go_sem, simprocAttr, hb1, h2]) | fail | (with_reducible (first | apply oC | apply oJ | exact oK | apply wA | apply wB | apply wC hX hC | apply wD hX hC | apply wE hX hC hmix | apply wF hX hC hmix | apply wG | apply wH | apply And.intro)) | ((with_reducible refine oD ?_ ?_); first | fail | kernel_rfl) | ((with_reducible (first | apply oE | apply oF)); (iterate 3 exact rfl); all_goals (intro h; first | (exact absurd h (by decide)) | ((try simp only [go_sem, simprocAttr, hb1, h2] at h); (try with_reducible intro K hK); simp only [go_sem, simprocAttr, hb1, h2]))) | ((first | ((with_reducible apply wL); exact rfl) | ((with_reducible apply wM); exact rfl)); all_goals (try ((with_reducible intro h); first | (exact absurd h (by decide)) | (try simp only [go_sem, simprocAttr, hb1, h2] at h)))) | omega | ((first | first | refine acall_simple hX hC hP (refGoodA_spec g hl) rfl rfl rfl (by simp only [go_sem, simprocAttr, hb1, h2]) rfl ?_ | refine acall_simple hX hC hP (each_spec p.ord g.n ho) rfl rfl rfl (by simp only [go_sem, simprocAttr, hb1, h2]) rfl ?_); try simp only [go_sem, simprocAttr, hb1, h2]) | (intro h))
  | true =>
   have hb2 : decide ((p.outs.length : Int) = g.n) = false := decide_eq_false fun h3 => he ⟨h2, by omega⟩
   (refine Spec.intro (C := T.cfg [] []) (rs := [.t 4]) (T.cfg_ok _ _) Tryz.func60 rfl rfl Tryz.ntmps60 Tryz.results60 (by simp [AObj.isNest]) (by simp [AObj.isNest]) (by kernel_rfl) ?_; intro X hX hP hC hXn hXm vals hA; refine ⟨_, by simp, hA, ?_⟩; have hmix : X.P.follows .mixedOrders = true := (by rw [hP]; exact T.mixed); clear hXn hXm)
   repeat' (first | fail | ((first | ((with_reducible (first | apply oA | apply oB)); exact rfl; intro K hK) | (refine hK _ ?_; clear hK K) | ((with_reducible (first | apply oG | apply oH)); iterate 3 exact rfl) | ((with_reducible apply oI); (iterate 2 exact rfl); intro K hK) | (with_reducible (first | apply wI | apply wJ | apply wK))); try simp only [go_sem, simprocAttr, hb1, h2, hb2]) | fail | (with_reducible (first | apply oC | apply oJ | exact oK | apply wA | apply wB | apply wC hX hC | apply wD hX hC | apply wE hX hC hmix | apply wF hX hC hmix | apply wG | apply wH | apply And.intro)) | ((with_reducible refine oD ?_ ?_); first | fail | kernel_rfl) | ((with_reducible (first | apply oE | apply oF)); (iterate 3 exact rfl); all_goals (intro h; first | (exact absurd h (by decide)) | ((try simp only [go_sem, simprocAttr, hb1, h2, hb2] at h); (try with_reducible intro K hK); simp only [go_sem, simprocAttr, hb1, h2, hb2]))) | ((first | ((with_reducible apply wL); exact rfl) | ((with_reducible apply wM); exact rfl)); all_goals (try ((with_reducible intro h); first | (exact absurd h (by decide)) | (try simp only [go_sem, simprocAttr, hb1, h2, hb2] at h)))) | omega | ((first | first | refine acall_simple hX hC hP (refGoodA_spec g hl) rfl rfl rfl (by simp only [go_sem, simprocAttr, hb1, h2, hb2]) rfl ?_ | refine acall_simple hX hC hP (each_spec p.ord g.n ho) rfl rfl rfl (by simp only [go_sem, simprocAttr, hb1, h2, hb2]) rfl ?_); try simp only [go_sem, simprocAttr, hb1, h2, hb2]) | (intro h))
 obtain ⟨he1, he2⟩ := he
 have hb2 : decide ((p.outs.length : Int) = g.n) = true := decide_eq_true (by omega)
 (refine Spec.intro (C := T.cfg [] []) (rs := [.t 4]) (T.cfg_ok _ _) Tryz.func60 rfl rfl Tryz.ntmps60 Tryz.results60 (by simp [AObj.isNest]) (by simp [AObj.isNest]) (by kernel_rfl) ?_; intro X hX hP hC hXn hXm vals hA; refine ⟨_, by simp, hA, ?_⟩; have hmix : X.P.follows .mixedOrders = true := (by rw [hP]; exact T.mixed); clear hXn hXm)
 repeat' (first | fail | ((first | ((with_reducible (first | apply oA | apply oB)); exact rfl; intro K hK) | (refine hK _ ?_; clear hK K) | ((with_reducible (first | apply oG | apply oH)); iterate 3 exact rfl) | ((with_reducible apply oI); (iterate 2 exact rfl); intro K hK) | (with_reducible (first | apply wI | apply wJ | apply wK))); try simp only [go_sem, simprocAttr, hb1, he1, hb2]) | fail | (with_reducible (first | apply oC | apply oJ | exact oK | apply wA | apply wB | apply wC hX hC | apply wD hX hC | apply wE hX hC hmix | apply wF hX hC hmix | apply wG | apply wH | apply And.intro)) | ((with_reducible refine oD ?_ ?_); first | fail | kernel_rfl) | ((with_reducible (first | apply oE | apply oF)); (iterate 3 exact rfl); all_goals (intro h; first | (exact absurd h (by decide)) | ((try simp only [go_sem, simprocAttr, hb1, he1, hb2] at h); (try with_reducible intro K hK); simp only [go_sem, simprocAttr, hb1, he1, hb2]))) | ((first | ((with_reducible apply wL); exact rfl) | ((with_reducible apply wM); exact rfl)); all_goals (try ((with_reducible intro h); first | (exact absurd h (by decide)) | (try simp only [go_sem, simprocAttr, hb1, he1, hb2] at h)))) | omega | ((first | first | refine acall_simple hX hC hP (refGoodA_spec g hl) rfl rfl rfl (by simp only [go_sem, simprocAttr, hb1, he1, hb2]) rfl ?_ | refine acall_simple hX hC hP (each_spec p.ord g.n ho) rfl rfl rfl (by simp only [go_sem, simprocAttr, hb1, he1, hb2]) rfl ?_); try simp only [go_sem, simprocAttr, hb1, he1, hb2]) | (intro h))
 clear hb1 hb2
 have hrep : List.replicate g.es.length [D.sc (.int .i64 0)] = (cntL g.es.length []).map rI := by rw [cntL_zero, List.map_replicate]; rfl
 rw [hrep]
 clear hrep
 refine awp_loopP (fun x : Nat => x ≤ p.outs.length ∧ (p.outs.take x).flatten.Nodup ∧ ∀ y : Nat, y < x → ∀ i ∈ p.outs.getD y [], i ∈ outZ g y) (fun x => ⟨[(2, .ptr 2 0), (3, .ptr 3 0), (5, .ref 32), (6, eN x)], [(32, .own 3 1 ((cntL g.es.length (p.outs.take x).flatten).map rI)), (3, .box [.d (sI p.ord), .d (.sl 1 (vI p.outs))]), (2, .box [eN g.n, .d (sE g.es)])]⟩) (fun x => p.outs.length - x) 0 (by simp) ?_ ?_
 ·refine Le.of ?_ ?_ <;> simp [go_sem, simprocAttr]
 rintro x ⟨hx, hnd, hgx⟩
 rcases Nat.lt_or_ge x p.outs.length with hxl | hxg
 ·have hb : decide ((x : Int) < (p.outs.length : Int)) = true := decide_eq_true (by omega)
  have hv := vI_getD hxl
  have hle := hp.each _ (getD_memX (d := []) hxl)
  have hpre := fun k => flat_pre (k := k) hxl
  have hnext : (p.outs.take (x + 1)).flatten = (p.outs.take x).flatten ++ p.outs.getD x [] := by
   rw [List.take_add_one, List.flatten_append, List.getD_eq_getElem?_getD, List.getElem?_eq_getElem hxl]; simp
  have hr1 : ∀ i ∈ p.outs.getD x [], i ∉ outZ g x → res = false := fun i hi hn => by
   rw [← Bool.not_eq_true, hr]
   rintro ⟨_, _, h3, _⟩
   exact hn (h3 x hxl i hi)
  have hr2 : ∀ k, ¬ ((p.outs.take x).flatten ++ (p.outs.getD x []).take k).Nodup → res = false := fun k hn => by
   rw [← Bool.not_eq_true, hr]
   rintro ⟨_, _, _, h4, _⟩
   exact hn (List.Nodup.sublist (hpre k) h4)
  have hgn : (∀ i ∈ p.outs.getD x [], i ∈ outZ g x) → ∀ y : Nat, y < x + 1 → ∀ i ∈ p.outs.getD y [], i ∈ outZ g y := fun h y hy => by
   by_cases e : y = x
   ·subst e; exact h
   ·exact hgx y (by omega)
  generalize p.outs.getD x [] = l at hv hle hpre hnext hr1 hr2 hgn
  generalize (p.outs.take x).flatten = fl at hnd hpre hnext hr2
  clear hpre
  repeat' (first | fail | ((first | ((with_reducible (first | apply oA | apply oB)); exact rfl; intro K hK) | (refine hK _ ?_; clear hK K) | ((with_reducible (first | apply oG | apply oH)); iterate 3 exact rfl) | ((with_reducible apply oI); (iterate 2 exact rfl); intro K hK) | (with_reducible (first | apply wI | apply wJ | apply wK))); try simp only [go_sem, simprocAttr, hb, hv]) | fail | (with_reducible (first | apply oC | apply oJ | exact oK | apply wA | apply wB | apply wC hX hC | apply wD hX hC | apply wE hX hC hmix | apply wF hX hC hmix | apply wG | apply wH | apply And.intro)) | ((with_reducible refine oD ?_ ?_); first | fail | kernel_rfl) | ((with_reducible (first | apply oE | apply oF)); (iterate 3 exact rfl); all_goals (intro h; first | (exact absurd h (by decide)) | ((try simp only [go_sem, simprocAttr, hb, hv] at h); (try with_reducible intro K hK); simp only [go_sem, simprocAttr, hb, hv]))) | ((first | ((with_reducible apply wL); exact rfl) | ((with_reducible apply wM); exact rfl)); all_goals (try ((with_reducible intro h); first | (exact absurd h (by decide)) | (try simp only [go_sem, simprocAttr, hb, hv] at h)))) | omega | ((first | first | refine acall_simple hX hC hP (refGoodA_spec g hl) rfl rfl rfl (by simp only [go_sem, simprocAttr, hb, hv]) rfl ?_ | refine acall_simple hX hC hP (each_spec p.ord g.n ho) rfl rfl rfl (by simp only [go_sem, simprocAttr, hb, hv]) rfl ?_); try simp only [go_sem, simprocAttr, hb, hv]) | (intro h))
  clear hb
  refine awp_loopP (fun k : Nat => k ≤ l.length ∧ (fl ++ l.take k).Nodup ∧ ∀ i ∈ l.take k, i ∈ outZ g x) (fun k => ⟨[(2, .ptr 2 0), (3, .ptr 3 0), (5, .ref 32), (6, eN x), (7, eN k)], [(32, .own 3 1 ((cntL g.es.length (fl ++ l.take k)).map rI)), (3, .box [.d (sI p.ord), .d (.sl 1 (vI p.outs))]), (2, .box [eN g.n, .d (sE g.es)])]⟩) (fun k => l.length - k) 0 (by simpa using hnd) ?_ ?_
  ·refine Le.of ?_ ?_ <;> simp [go_sem, simprocAttr]
  rintro k ⟨hk, hndk, hgk⟩
  rcases Nat.lt_or_ge k l.length with hkl | hkg
  ·have hbk : decide ((k : Int) < (l.length : Int)) = true := decide_eq_true (by omega)
   have htk := take_snocI hkl
   have him := getD_memX (d := 0) hkl
   have hcl := cntL_len (m := g.es.length) (fl := fl ++ l.take k)
   generalize hi : l.getD k 0 = i at htk him
   by_cases h0 : i < 0
   ·have hres := hr1 i him (fun h => by have := (outZ_iff.1 h).1; omega)
    subst hres
    have hb1 : decide (i < 0) = true := decide_eq_true h0
    repeat' (first | fail | ((first | ((with_reducible (first | apply oA | apply oB)); exact rfl; intro K hK) | (refine hK _ ?_; clear hK K) | ((with_reducible (first | apply oG | apply oH)); iterate 3 exact rfl) | ((with_reducible apply oI); (iterate 2 exact rfl); intro K hK) | (with_reducible (first | apply wI | apply wJ | apply wK))); try simp only [go_sem, simprocAttr, hbk, hv, hi, hb1]) | fail | (with_reducible (first | apply oC | apply oJ | exact oK | apply wA | apply wB | apply wC hX hC | apply wD hX hC | apply wE hX hC hmix | apply wF hX hC hmix | apply wG | apply wH | apply And.intro)) | ((with_reducible refine oD ?_ ?_); first | fail | kernel_rfl) | ((with_reducible (first | apply oE | apply oF)); (iterate 3 exact rfl); all_goals (intro h; first | (exact absurd h (by decide)) | ((try simp only [go_sem, simprocAttr, hbk, hv, hi, hb1] at h); (try with_reducible intro K hK); simp only [go_sem, simprocAttr, hbk, hv, hi, hb1]))) | ((first | ((with_reducible apply wL); exact rfl) | ((with_reducible apply wM); exact rfl)); all_goals (try ((with_reducible intro h); first | (exact absurd h (by decide)) | (try simp only [go_sem, simprocAttr, hbk, hv, hi, hb1] at h)))) | omega | ((first | first | refine acall_simple hX hC hP (refGoodA_spec g hl) rfl rfl rfl (by simp only [go_sem, simprocAttr, hbk, hv, hi, hb1]) rfl ?_ | refine acall_simple hX hC hP (each_spec p.ord g.n ho) rfl rfl rfl (by simp only [go_sem, simprocAttr, hbk, hv, hi, hb1]) rfl ?_); try simp only [go_sem, simprocAttr, hbk, hv, hi, hb1]) | (intro h))
   have hb1 : decide (i < 0) = false := decide_eq_false h0
   by_cases h1 : (g.es.length : Int) ≤ i
   ·have hres := hr1 i him (fun h => by have := (outZ_iff.1 h).1; omega)
    subst hres
    have hb2 : decide ((g.es.length : Int) ≤ i) = true := decide_eq_true h1
    repeat' (first | fail | ((first | ((with_reducible (first | apply oA | apply oB)); exact rfl; intro K hK) | (refine hK _ ?_; clear hK K) | ((with_reducible (first | apply oG | apply oH)); iterate 3 exact rfl) | ((with_reducible apply oI); (iterate 2 exact rfl); intro K hK) | (with_reducible (first | apply wI | apply wJ | apply wK))); try simp only [go_sem, simprocAttr, hbk, hv, hi, hb1, hb2, hcl]) | fail | (with_reducible (first | apply oC | apply oJ | exact oK | apply wA | apply wB | apply wC hX hC | apply wD hX hC | apply wE hX hC hmix | apply wF hX hC hmix | apply wG | apply wH | apply And.intro)) | ((with_reducible refine oD ?_ ?_); first | fail | kernel_rfl) | ((with_reducible (first | apply oE | apply oF)); (iterate 3 exact rfl); all_goals (intro h; first | (exact absurd h (by decide)) | ((try simp only [go_sem, simprocAttr, hbk, hv, hi, hb1, hb2, hcl] at h); (try with_reducible intro K hK); simp only [go_sem, simprocAttr, hbk, hv, hi, hb1, hb2, hcl]))) | ((first | ((with_reducible apply wL); exact rfl) | ((with_reducible apply wM); exact rfl)); all_goals (try ((with_reducible intro h); first | (exact absurd h (by decide)) | (try simp only [go_sem, simprocAttr, hbk, hv, hi, hb1, hb2, hcl] at h)))) | omega | ((first | first | refine acall_simple hX hC hP (refGoodA_spec g hl) rfl rfl rfl (by simp only [go_sem, simprocAttr, hbk, hv, hi, hb1, hb2, hcl]) rfl ?_ | refine acall_simple hX hC hP (each_spec p.ord g.n ho) rfl rfl rfl (by simp only [go_sem, simprocAttr, hbk, hv, hi, hb1, hb2, hcl]) rfl ?_); try simp only [go_sem, simprocAttr, hbk, hv, hi, hb1, hb2, hcl]) | (intro h))
   have hb2 : decide ((g.es.length : Int) ≤ i) = false := decide_eq_false h1
   obtain ⟨e, rfl⟩ : ∃ e : Nat, i = e := ⟨i.toNat, by omega⟩
   have hel : e < g.es.length := by omega
   by_cases h2 : (g.es.getD e (0, 0)).1 = x
   rotate_left
   ·have hres := hr1 _ him (fun h => h2 (by have := (outZ_iff.1 h).2; rwa [Int.toNat_natCast] at this))
    subst hres
    have hb3 : decide ((g.es.getD e (0, 0)).1 = (x : Int)) = false := decide_eq_false h2
    repeat' (first | fail | ((first | ((with_reducible (first | apply oA | apply oB)); exact rfl; intro K hK) | (refine hK _ ?_; clear hK K) | ((with_reducible (first | apply oG | apply oH)); iterate 3 exact rfl) | ((with_reducible apply oI); (iterate 2 exact rfl); intro K hK) | (with_reducible (first | apply wI | apply wJ | apply wK))); try simp only [go_sem, simprocAttr, hbk, hv, hi, hb1, hb2, hb3, hcl]) | fail | (with_reducible (first | apply oC | apply oJ | exact oK | apply wA | apply wB | apply wC hX hC | apply wD hX hC | apply wE hX hC hmix | apply wF hX hC hmix | apply wG | apply wH | apply And.intro)) | ((with_reducible refine oD ?_ ?_); first | fail | kernel_rfl) | ((with_reducible (first | apply oE | apply oF)); (iterate 3 exact rfl); all_goals (intro h; first | (exact absurd h (by decide)) | ((try simp only [go_sem, simprocAttr, hbk, hv, hi, hb1, hb2, hb3, hcl] at h); (try with_reducible intro K hK); simp only [go_sem, simprocAttr, hbk, hv, hi, hb1, hb2, hb3, hcl]))) | ((first | ((with_reducible apply wL); exact rfl) | ((with_reducible apply wM); exact rfl)); all_goals (try ((with_reducible intro h); first | (exact absurd h (by decide)) | (try simp only [go_sem, simprocAttr, hbk, hv, hi, hb1, hb2, hb3, hcl] at h)))) | omega | ((first | first | refine acall_simple hX hC hP (refGoodA_spec g hl) rfl rfl rfl (by simp only [go_sem, simprocAttr, hbk, hv, hi, hb1, hb2, hb3, hcl]) rfl ?_ | refine acall_simple hX hC hP (each_spec p.ord g.n ho) rfl rfl rfl (by simp only [go_sem, simprocAttr, hbk, hv, hi, hb1, hb2, hb3, hcl]) rfl ?_); try simp only [go_sem, simprocAttr, hbk, hv, hi, hb1, hb2, hb3, hcl]) | (intro h))
   have hb3 : decide ((g.es.getD e (0, 0)).1 = (x : Int)) = true := decide_eq_true h2
   have hct := cntL_at (fl := fl ++ l.take k) hel
   by_cases h3 : (e : Int) ∈ fl ++ l.take k
   ·have hres := hr2 (k + 1) (fun h => by
     rw [htk, ← List.append_assoc, List.nodup_append] at h
     exact h.2.2 _ h3 _ (List.mem_singleton.2 rfl) rfl)
    subst hres
    rw [if_pos h3] at hct
    repeat' (first | fail | ((first | ((with_reducible (first | apply oA | apply oB)); exact rfl; intro K hK) | (refine hK _ ?_; clear hK K) | ((with_reducible (first | apply oG | apply oH)); iterate 3 exact rfl) | ((with_reducible apply oI); (iterate 2 exact rfl); intro K hK) | (with_reducible (first | apply wI | apply wJ | apply wK))); try simp only [go_sem, simprocAttr, hbk, hv, hi, hb1, hb2, hb3, hcl, hct]) | fail | (with_reducible (first | apply oC | apply oJ | exact oK | apply wA | apply wB | apply wC hX hC | apply wD hX hC | apply wE hX hC hmix | apply wF hX hC hmix | apply wG | apply wH | apply And.intro)) | ((with_reducible refine oD ?_ ?_); first | fail | kernel_rfl) | ((with_reducible (first | apply oE | apply oF)); (iterate 3 exact rfl); all_goals (intro h; first | (exact absurd h (by decide)) | ((try simp only [go_sem, simprocAttr, hbk, hv, hi, hb1, hb2, hb3, hcl, hct] at h); (try with_reducible intro K hK); simp only [go_sem, simprocAttr, hbk, hv, hi, hb1, hb2, hb3, hcl, hct]))) | ((first | ((with_reducible apply wL); exact rfl) | ((with_reducible apply wM); exact rfl)); all_goals (try ((with_reducible intro h); first | (exact absurd h (by decide)) | (try simp only [go_sem, simprocAttr, hbk, hv, hi, hb1, hb2, hb3, hcl, hct] at h)))) | omega | ((first | first | refine acall_simple hX hC hP (refGoodA_spec g hl) rfl rfl rfl (by simp only [go_sem, simprocAttr, hbk, hv, hi, hb1, hb2, hb3, hcl, hct]) rfl ?_ | refine acall_simple hX hC hP (each_spec p.ord g.n ho) rfl rfl rfl (by simp only [go_sem, simprocAttr, hbk, hv, hi, hb1, hb2, hb3, hcl, hct]) rfl ?_); try simp only [go_sem, simprocAttr, hbk, hv, hi, hb1, hb2, hb3, hcl, hct]) | (intro h))
   ·rw [if_neg h3] at hct
    have hset := cntL_set (fl := fl ++ l.take k) hel
    rw [List.append_assoc, ← htk] at hset
    repeat' (first | fail | ((first | ((with_reducible (first | apply oA | apply oB)); exact rfl; intro K hK) | (refine hK _ ?_; clear hK K) | ((with_reducible (first | apply oG | apply oH)); iterate 3 exact rfl) | ((with_reducible apply oI); (iterate 2 exact rfl); intro K hK) | (with_reducible (first | apply wI | apply wJ | apply wK))); try simp only [go_sem, simprocAttr, hbk, hv, hi, hb1, hb2, hb3, hcl, hct]) | fail | (with_reducible (first | apply oC | apply oJ | exact oK | apply wA | apply wB | apply wC hX hC | apply wD hX hC | apply wE hX hC hmix | apply wF hX hC hmix | apply wG | apply wH | apply And.intro)) | ((with_reducible refine oD ?_ ?_); first | fail | kernel_rfl) | ((with_reducible (first | apply oE | apply oF)); (iterate 3 exact rfl); all_goals (intro h; first | (exact absurd h (by decide)) | ((try simp only [go_sem, simprocAttr, hbk, hv, hi, hb1, hb2, hb3, hcl, hct] at h); (try with_reducible intro K hK); simp only [go_sem, simprocAttr, hbk, hv, hi, hb1, hb2, hb3, hcl, hct]))) | ((first | ((with_reducible apply wL); exact rfl) | ((with_reducible apply wM); exact rfl)); all_goals (try ((with_reducible intro h); first | (exact absurd h (by decide)) | (try simp only [go_sem, simprocAttr, hbk, hv, hi, hb1, hb2, hb3, hcl, hct] at h)))) | omega | ((first | first | refine acall_simple hX hC hP (refGoodA_spec g hl) rfl rfl rfl (by simp only [go_sem, simprocAttr, hbk, hv, hi, hb1, hb2, hb3, hcl, hct]) rfl ?_ | refine acall_simple hX hC hP (each_spec p.ord g.n ho) rfl rfl rfl (by simp only [go_sem, simprocAttr, hbk, hv, hi, hb1, hb2, hb3, hcl, hct]) rfl ?_); try simp only [go_sem, simprocAttr, hbk, hv, hi, hb1, hb2, hb3, hcl, hct]) | (intro h))
    refine ⟨k + 1, ⟨by omega, ?_, ?_⟩, ?_, by omega⟩
    ·rw [htk, ← List.append_assoc, List.nodup_append]
     exact ⟨hndk, by simp, fun a ha b hb h => h3 (by rw [List.mem_singleton] at hb; rw [← hb, ← h]; exact ha)⟩
    ·intro j hj
     rw [htk, List.mem_append, List.mem_singleton] at hj
     rcases hj with hj | rfl
     ·exact hgk j hj
     ·exact outZ_iff.2 ⟨⟨by omega, by omega⟩, by rw [Int.toNat_natCast]; exact h2⟩
    ·rw [← hset]
     refine Le.of ?_ ?_ <;> simp [go_sem, simprocAttr, hbk, hv, hi, hb1, hb2, hb3, hcl, hct, rI]
  ·have hbk : decide ((k : Int) < (l.length : Int)) = false := decide_eq_false (by omega)
   obtain rfl : k = l.length := by omega
   rw [List.take_length] at hndk hgk
   repeat' (first | fail | ((first | ((with_reducible (first | apply oA | apply oB)); exact rfl; intro K hK) | (refine hK _ ?_; clear hK K) | ((with_reducible (first | apply oG | apply oH)); iterate 3 exact rfl) | ((with_reducible apply oI); (iterate 2 exact rfl); intro K hK) | (with_reducible (first | apply wI | apply wJ | apply wK))); try simp only [go_sem, simprocAttr, hbk, hv]) | fail | (with_reducible (first | apply oC | apply oJ | exact oK | apply wA | apply wB | apply wC hX hC | apply wD hX hC | apply wE hX hC hmix | apply wF hX hC hmix | apply wG | apply wH | apply And.intro)) | ((with_reducible refine oD ?_ ?_); first | fail | kernel_rfl) | ((with_reducible (first | apply oE | apply oF)); (iterate 3 exact rfl); all_goals (intro h; first | (exact absurd h (by decide)) | ((try simp only [go_sem, simprocAttr, hbk, hv] at h); (try with_reducible intro K hK); simp only [go_sem, simprocAttr, hbk, hv]))) | ((first | ((with_reducible apply wL); exact rfl) | ((with_reducible apply wM); exact rfl)); all_goals (try ((with_reducible intro h); first | (exact absurd h (by decide)) | (try simp only [go_sem, simprocAttr, hbk, hv] at h)))) | omega | ((first | first | refine acall_simple hX hC hP (refGoodA_spec g hl) rfl rfl rfl (by simp only [go_sem, simprocAttr, hbk, hv]) rfl ?_ | refine acall_simple hX hC hP (each_spec p.ord g.n ho) rfl rfl rfl (by simp only [go_sem, simprocAttr, hbk, hv]) rfl ?_); try simp only [go_sem, simprocAttr, hbk, hv]) | (intro h))
   refine ⟨x + 1, ⟨by omega, by rw [hnext]; exact hndk, hgn hgk⟩, ?_, by omega⟩
   rw [hnext]
   refine Le.of ?_ ?_ <;> simp [go_sem, simprocAttr, hbk, hv]
 have hb : decide ((x : Int) < (p.outs.length : Int)) = false := decide_eq_false (by omega)
 obtain rfl : x = p.outs.length := by omega
 rw [List.take_length] at hnd
 rw [List.take_length]
 have hcl := cntL_len (m := g.es.length) (fl := p.outs.flatten)
 repeat' (first | fail | ((first | ((with_reducible (first | apply oA | apply oB)); exact rfl; intro K hK) | (refine hK _ ?_; clear hK K) | ((with_reducible (first | apply oG | apply oH)); iterate 3 exact rfl) | ((with_reducible apply oI); (iterate 2 exact rfl); intro K hK) | (with_reducible (first | apply wI | apply wJ | apply wK))); try simp only [go_sem, simprocAttr, hb]) | fail | (with_reducible (first | apply oC | apply oJ | exact oK | apply wA | apply wB | apply wC hX hC | apply wD hX hC | apply wE hX hC hmix | apply wF hX hC hmix | apply wG | apply wH | apply And.intro)) | ((with_reducible refine oD ?_ ?_); first | fail | kernel_rfl) | ((with_reducible (first | apply oE | apply oF)); (iterate 3 exact rfl); all_goals (intro h; first | (exact absurd h (by decide)) | ((try simp only [go_sem, simprocAttr, hb] at h); (try with_reducible intro K hK); simp only [go_sem, simprocAttr, hb]))) | ((first | ((with_reducible apply wL); exact rfl) | ((with_reducible apply wM); exact rfl)); all_goals (try ((with_reducible intro h); first | (exact absurd h (by decide)) | (try simp only [go_sem, simprocAttr, hb] at h)))) | omega | ((first | first | refine acall_simple hX hC hP (refGoodA_spec g hl) rfl rfl rfl (by simp only [go_sem, simprocAttr, hb]) rfl ?_ | refine acall_simple hX hC hP (each_spec p.ord g.n ho) rfl rfl rfl (by simp only [go_sem, simprocAttr, hb]) rfl ?_); try simp only [go_sem, simprocAttr, hb]) | (intro h))
 clear hb
 refine awp_loopP (fun k : Nat => k ≤ g.es.length ∧ ∀ i : Nat, i < k → (i : Int) ∈ p.outs.flatten) (fun k => ⟨[(5, .ref 32), (9, eN k)], [(32, .own 3 1 ((cntL g.es.length p.outs.flatten).map rI))]⟩) (fun k => g.es.length - k) 0 (by simp) ?_ ?_
 ·refine Le.of ?_ ?_ <;> simp [go_sem, simprocAttr]
 rintro k ⟨hk, hgk⟩
 rcases Nat.lt_or_ge k g.es.length with hkl | hkg
 ·have hbk : decide ((k : Int) < (g.es.length : Int)) = true := decide_eq_true (by omega)
  have hct := cntL_at (fl := p.outs.flatten) hkl
  by_cases h3 : (k : Int) ∈ p.outs.flatten
  ·rw [if_pos h3] at hct
   repeat' (first | fail | ((first | ((with_reducible (first | apply oA | apply oB)); exact rfl; intro K hK) | (refine hK _ ?_; clear hK K) | ((with_reducible (first | apply oG | apply oH)); iterate 3 exact rfl) | ((with_reducible apply oI); (iterate 2 exact rfl); intro K hK) | (with_reducible (first | apply wI | apply wJ | apply wK))); try simp only [go_sem, simprocAttr, hbk, hcl, hct]) | fail | (with_reducible (first | apply oC | apply oJ | exact oK | apply wA | apply wB | apply wC hX hC | apply wD hX hC | apply wE hX hC hmix | apply wF hX hC hmix | apply wG | apply wH | apply And.intro)) | ((with_reducible refine oD ?_ ?_); first | fail | kernel_rfl) | ((with_reducible (first | apply oE | apply oF)); (iterate 3 exact rfl); all_goals (intro h; first | (exact absurd h (by decide)) | ((try simp only [go_sem, simprocAttr, hbk, hcl, hct] at h); (try with_reducible intro K hK); simp only [go_sem, simprocAttr, hbk, hcl, hct]))) | ((first | ((with_reducible apply wL); exact rfl) | ((with_reducible apply wM); exact rfl)); all_goals (try ((with_reducible intro h); first | (exact absurd h (by decide)) | (try simp only [go_sem, simprocAttr, hbk, hcl, hct] at h)))) | omega | ((first | first | refine acall_simple hX hC hP (refGoodA_spec g hl) rfl rfl rfl (by simp only [go_sem, simprocAttr, hbk, hcl, hct]) rfl ?_ | refine acall_simple hX hC hP (each_spec p.ord g.n ho) rfl rfl rfl (by simp only [go_sem, simprocAttr, hbk, hcl, hct]) rfl ?_); try simp only [go_sem, simprocAttr, hbk, hcl, hct]) | (intro h))
   refine ⟨k + 1, ⟨by omega, fun i hi => ?_⟩, ?_, by omega⟩
   ·by_cases e : i = k
    ·subst e; exact h3
    ·exact hgk i (by omega)
   ·(refine Le.of ?_ ?_ <;> simp [go_sem, simprocAttr, hbk, hcl, hct])
  ·rw [if_neg h3] at hct
   have hres : res = false := by
    rw [← Bool.not_eq_true, hr]
    rintro ⟨_, _, _, _, h5⟩
    exact h3 (h5 k hkl)
   subst hres
   repeat' (first | fail | ((first | ((with_reducible (first | apply oA | apply oB)); exact rfl; intro K hK) | (refine hK _ ?_; clear hK K) | ((with_reducible (first | apply oG | apply oH)); iterate 3 exact rfl) | ((with_reducible apply oI); (iterate 2 exact rfl); intro K hK) | (with_reducible (first | apply wI | apply wJ | apply wK))); try simp only [go_sem, simprocAttr, hbk, hcl, hct]) | fail | (with_reducible (first | apply oC | apply oJ | exact oK | apply wA | apply wB | apply wC hX hC | apply wD hX hC | apply wE hX hC hmix | apply wF hX hC hmix | apply wG | apply wH | apply And.intro)) | ((with_reducible refine oD ?_ ?_); first | fail | kernel_rfl) | ((with_reducible (first | apply oE | apply oF)); (iterate 3 exact rfl); all_goals (intro h; first | (exact absurd h (by decide)) | ((try simp only [go_sem, simprocAttr, hbk, hcl, hct] at h); (try with_reducible intro K hK); simp only [go_sem, simprocAttr, hbk, hcl, hct]))) | ((first | ((with_reducible apply wL); exact rfl) | ((with_reducible apply wM); exact rfl)); all_goals (try ((with_reducible intro h); first | (exact absurd h (by decide)) | (try simp only [go_sem, simprocAttr, hbk, hcl, hct] at h)))) | omega | ((first | first | refine acall_simple hX hC hP (refGoodA_spec g hl) rfl rfl rfl (by simp only [go_sem, simprocAttr, hbk, hcl, hct]) rfl ?_ | refine acall_simple hX hC hP (each_spec p.ord g.n ho) rfl rfl rfl (by simp only [go_sem, simprocAttr, hbk, hcl, hct]) rfl ?_); try simp only [go_sem, simprocAttr, hbk, hcl, hct]) | (intro h))
 ·have hbk : decide ((k : Int) < (g.es.length : Int)) = false := decide_eq_false (by omega)
  obtain rfl : k = g.es.length := by omega
  have hres : res = true := hr.2 ⟨he1, he2, hgx, hnd, hgk⟩
  subst hres
  repeat' (first | fail | ((first | ((with_reducible (first | apply oA | apply oB)); exact rfl; intro K hK) | (refine hK _ ?_; clear hK K) | ((with_reducible (first | apply oG | apply oH)); iterate 3 exact rfl) | ((with_reducible apply oI); (iterate 2 exact rfl); intro K hK) | (with_reducible (first | apply wI | apply wJ | apply wK))); try simp only [go_sem, simprocAttr, hbk, hcl]) | fail | (with_reducible (first | apply oC | apply oJ | exact oK | apply wA | apply wB | apply wC hX hC | apply wD hX hC | apply wE hX hC hmix | apply wF hX hC hmix | apply wG | apply wH | apply And.intro)) | ((with_reducible refine oD ?_ ?_); first | fail | kernel_rfl) | ((with_reducible (first | apply oE | apply oF)); (iterate 3 exact rfl); all_goals (intro h; first | (exact absurd h (by decide)) | ((try simp only [go_sem, simprocAttr, hbk, hcl] at h); (try with_reducible intro K hK); simp only [go_sem, simprocAttr, hbk, hcl]))) | ((first | ((with_reducible apply wL); exact rfl) | ((with_reducible apply wM); exact rfl)); all_goals (try ((with_reducible intro h); first | (exact absurd h (by decide)) | (try simp only [go_sem, simprocAttr, hbk, hcl] at h)))) | omega | ((first | first | refine acall_simple hX hC hP (refGoodA_spec g hl) rfl rfl rfl (by simp only [go_sem, simprocAttr, hbk, hcl]) rfl ?_ | refine acall_simple hX hC hP (each_spec p.ord g.n ho) rfl rfl rfl (by simp only [go_sem, simprocAttr, hbk, hcl]) rfl ?_); try simp only [go_sem, simprocAttr, hbk, hcl]) | (intro h))
end Go.Ab
end
section
namespace Go.Ab
open Go.Proofs
attribute [local congr] ACall.congr
set_option maxRecDepth 10000
set_option maxHeartbeats 8000000
def runRes (b : Bool) (g : Gr) (p : Pl) : (List (List It) × List It) × Int × Int :=
 if b = false then (([], []), (1, 0)) else
 match stopK g p g.n.toNat with
 | some i => (([], []), (3, (i : Int)))
 | none => ((endR g p g.n.toNat, (fK g p g.n.toNat).row), (0, 0))
theorem rep_vT {n : Nat} : List.replicate n [D.sl 3 []] = vT (List.replicate n []) := by simp [vT, sT]
theorem vT_set {ls : List (List It)} {k : Nat} {l : List It} : (vT ls).set k [sT l] = vT (ls.set k l) := by simp [vT, List.map_set]
theorem endR_next {g : Gr} {p : Pl} {k : Nat} : endR g p (k + 1) = (endR g p k).set (oAt p k).toNat (goneK g p k) := rfl
theorem refRun_spec (g : Gr) (hl : g.es.length ≤ 9223372036854775807) (p : Pl) (hp : PlLen p) (b : Bool) (hr : b = true ↔ (chkG g).1 = 0 ∧ PlanOk g p) :
  Spec Tryz.prog 30 (Args [eG g, ePl p]) [] (.tup [.d (.sl 1 (vT (runRes b g p).1.1)), .d (sT (runRes b g p).1.2), eN (runRes b g p).2.1, eN (runRes b g p).2.2]) [] := by
 have hO := ofR_spec g hl p hp b hr
 cases b with
 | false =>
  have hR : runRes false g p = (([], []), (1, 0)) := rfl
  rw [hR]
  (refine Spec.intro (C := T.cfg [] []) (rs := [.t 4, .t 5, .t 6, .t 7]) (T.cfg_ok _ _) Tryz.func30 rfl rfl Tryz.ntmps30 Tryz.results30 (by simp [AObj.isNest]) (by simp [AObj.isNest]) (by kernel_rfl) ?_; intro X hX hP hC hXn hXm vals hA; refine ⟨_, by simp, hA, ?_⟩; have hmix : X.P.follows .mixedOrders = true := (by rw [hP]; exact T.mixed); clear hXn hXm)
  repeat' (first | fail | ((first | ((with_reducible (first | apply oA | apply oB)); exact rfl; intro K hK) | (refine hK _ ?_; clear hK K) | ((with_reducible (first | apply oG | apply oH)); iterate 3 exact rfl) | ((with_reducible apply oI); (iterate 2 exact rfl); intro K hK) | (with_reducible (first | apply wI | apply wJ | apply wK))); try simp only [go_sem, simprocAttr, vT, List.map_nil]) | fail | (with_reducible (first | apply oC | apply oJ | exact oK | apply wA | apply wB | apply wC hX hC | apply wD hX hC | apply wE hX hC hmix | apply wF hX hC hmix | apply wG | apply wH | apply And.intro)) | ((with_reducible refine oD ?_ ?_); first | fail | kernel_rfl) | ((with_reducible (first | apply oE | apply oF)); (iterate 3 exact rfl); all_goals (intro h; first | (exact absurd h (by decide)) | ((try simp only [go_sem, simprocAttr, vT, List.map_nil] at h); (try with_reducible intro K hK); simp only [go_sem, simprocAttr, vT, List.map_nil]))) | ((first | ((with_reducible apply wL); exact rfl) | ((with_reducible apply wM); exact rfl)); all_goals (try ((with_reducible intro h); first | (exact absurd h (by decide)) | (try simp only [go_sem, simprocAttr, vT, List.map_nil] at h)))) | omega | ((first | first | refine acall_simple hX hC hP (hO) rfl rfl rfl (by simp only [go_sem, simprocAttr, vT, List.map_nil]) rfl ?_); try simp only [go_sem, simprocAttr, vT, List.map_nil]) | (intro h))
 | true =>
 obtain ⟨hc, hpo⟩ := hr.1 rfl
 have hm := good_may hc
 have hn := mayB_n hm
 have hle := plan_len hpo
 have hR : runRes true g p = match stopK g p g.n.toNat with
  | some i => (([], []), (3, (i : Int)))
  | none => ((endR g p g.n.toNat, (fK g p g.n.toNat).row), (0, 0)) := rfl
 generalize runRes true g p = R at hR
 (refine Spec.intro (C := T.cfg [] []) (rs := [.t 4, .t 5, .t 6, .t 7]) (T.cfg_ok _ _) Tryz.func30 rfl rfl Tryz.ntmps30 Tryz.results30 (by simp [AObj.isNest]) (by simp [AObj.isNest]) (by kernel_rfl) ?_; intro X hX hP hC hXn hXm vals hA; refine ⟨_, by simp, hA, ?_⟩; have hmix : X.P.follows .mixedOrders = true := (by rw [hP]; exact T.mixed); clear hXn hXm)
 repeat' (first | fail | ((first | ((with_reducible (first | apply oA | apply oB)); exact rfl; intro K hK) | (refine hK _ ?_; clear hK K) | ((with_reducible (first | apply oG | apply oH)); iterate 3 exact rfl) | ((with_reducible apply oI); (iterate 2 exact rfl); intro K hK) | (with_reducible (first | apply wI | apply wJ | apply wK))); try simp only [go_sem, simprocAttr]) | (show awp _ (.seq (.region 4 _ _) _) _ _; (refine awp_nilD 20 2 3 rfl rfl rfl ?_; simp only [LA.app, ASt.put, ASt.kill, putM, rml, List.set_cons_zero, List.set_cons_succ, go_sem, simprocAttr]); (refine awp_nilD 20 3 1 rfl rfl rfl ?_; simp only [LA.app, ASt.put, ASt.kill, putM, rml, List.set_cons_zero, List.set_cons_succ, go_sem, simprocAttr])) | (with_reducible (first | apply oC | apply oJ | exact oK | apply wA | apply wB | apply wC hX hC | apply wD hX hC | apply wE hX hC hmix | apply wF hX hC hmix | apply wG | apply wH | apply And.intro)) | ((with_reducible refine oD ?_ ?_); first | fail | kernel_rfl) | ((with_reducible (first | apply oE | apply oF)); (iterate 3 exact rfl); all_goals (intro h; first | (exact absurd h (by decide)) | ((try simp only [go_sem, simprocAttr] at h); (try with_reducible intro K hK); simp only [go_sem, simprocAttr]))) | ((first | ((with_reducible apply wL); exact rfl) | ((with_reducible apply wM); exact rfl)); all_goals (try ((with_reducible intro h); first | (exact absurd h (by decide)) | (try simp only [go_sem, simprocAttr] at h)))) | omega | ((first | first | refine acall_simple hX hC hP (hO) rfl rfl rfl (by simp only [go_sem, simprocAttr]) rfl ?_); try simp only [go_sem, simprocAttr]) | (intro h))
 rw [rep_vT]
 refine awp_loopP (fun k : Nat => k ≤ g.n.toNat ∧ ∀ j, j < k → okK g p j = true) (fun k => ⟨[(2, .ptr 2 0), (3, .ptr 3 0), (8, .ptr 20 0), (9, .ref 23), (10, eN k)], [(23, .own 54 1 (vT (endR g p k))), (20, .box (rfC g (fK g p k))), (3, .box [.d (sI p.ord), .d (.sl 1 (vI p.outs))]), (2, .box [eN g.n, .d (sE g.es)])]⟩) (fun k => g.n.toNat - k) 0 (by simp) ?_ ?_
 ·refine Le.of ?_ ?_ <;> simp [go_sem, simprocAttr, rfC, fK, endR]
 rintro k ⟨hk, hok⟩
 obtain ⟨hi, _, hrl⟩ := run_inv hm hpo hk hok
 have hel := endR_len (g := g) (p := p) (k := k)
 rcases Nat.lt_or_ge k g.n.toNat with hlt | hge
 ·have hb : decide ((k : Int) < (p.ord.length : Int)) = true := decide_eq_true (by omega)
  have hxm := oAt_mem hpo hlt
  have hnx := endR_next (g := g) (p := p) (k := k)
  have hfx : fK g p (k + 1) = (succF g (fK g p k) (oAt p k) (lAt p (oAt p k))).2 := rfl
  have hgx : goneK g p k = (succF g (fK g p k) (oAt p k) (lAt p (oAt p k))).1.1 := rfl
  have hpk := place_ok hpo hlt
  have hpn := place_no (g := g) (p := p) (k := k)
  have hsk : okK g p k = false → R = (([], []), (3, (k : Int))) := fun h => by
   rw [hR, stopK_some.2 ⟨hlt, h, hok⟩]
  have hmul : k * (g.es.length + 1) ≤ 64 * 129 := Nat.mul_le_mul (by omega) (by omega)
  have hll := lAt_len hpo hxm.1 hxm.2
  have hxo : p.ord.getD k 0 = oAt p k := rfl
  have hplen : (fK g p k).pl.length ≤ 64 := by
   rcases pl_le hi.toFrInv with h | h
   ·omega
   ·rw [h]; simp
  obtain ⟨x, hx⟩ : ∃ x : Nat, oAt p k = x := ⟨(oAt p k).toNat, by omega⟩
  rw [hx] at hxo hfx hgx hpk hpn hxm hll hnx
  have hxl : x < p.outs.length := by have := hpo.1; omega
  have hv := vI_getD hxl
  have hla : lAt p (x : Int) = p.outs.getD x [] := by unfold lAt; rw [Int.toNat_natCast]
  rw [hla] at hfx hgx hpk hpn hll
  rw [Int.toNat_natCast] at hnx
  have hPl := rPlace_spec g (by omega) (fK g p k) (x : Int) (p.outs.getD x []) (by omega) (by omega) (by omega)
  have hset := vT_set (ls := endR g p k) (k := x) (l := goneK g p k)
  generalize p.outs.getD x [] = o at hv hfx hgx hpk hpn hPl
  rw [← hnx] at hset
  generalize fK g p k = f at hfx hgx hpk hpn hPl hi hrl hplen
  cases hok1 : okK g p k with
  | false =>
   rw [hpn hok1] at hPl
   have hRk := hsk hok1
   subst hRk
   repeat' (first | fail | ((first | ((with_reducible (first | apply oA | apply oB)); exact rfl; intro K hK) | (refine hK _ ?_; clear hK K) | ((with_reducible (first | apply oG | apply oH)); iterate 3 exact rfl) | ((with_reducible apply oI); (iterate 2 exact rfl); intro K hK) | (with_reducible (first | apply wI | apply wJ | apply wK))); try simp only [go_sem, simprocAttr, hb, hxo, hv, rfC, vT, List.map_nil]) | fail | (with_reducible (first | apply oC | apply oJ | exact oK | apply wA | apply wB | apply wC hX hC | apply wD hX hC | apply wE hX hC hmix | apply wF hX hC hmix | apply wG | apply wH | apply And.intro)) | ((with_reducible refine oD ?_ ?_); first | fail | kernel_rfl) | ((with_reducible (first | apply oE | apply oF)); (iterate 3 exact rfl); all_goals (intro h; first | (exact absurd h (by decide)) | ((try simp only [go_sem, simprocAttr, hb, hxo, hv, rfC, vT, List.map_nil] at h); (try with_reducible intro K hK); simp only [go_sem, simprocAttr, hb, hxo, hv, rfC, vT, List.map_nil]))) | ((first | ((with_reducible apply wL); exact rfl) | ((with_reducible apply wM); exact rfl)); all_goals (try ((with_reducible intro h); first | (exact absurd h (by decide)) | (try simp only [go_sem, simprocAttr, hb, hxo, hv, rfC, vT, List.map_nil] at h)))) | omega | ((first | first | (refine acall_gen hX hC hP [(10000, 20)] (hPl) rfl rfl rfl ?_ ?_ ?_ ?_ ?_ ?_ ?_ ?_ ?_ ?_ ?_ ?_ ?_ ?_; (focus (simp only [go_sem, simprocAttr, hb, hxo, hv, rfC, vT, List.map_nil]; done)); (iterate 12 (focus (simp [go_sem, simprocAttr, hb, hxo, hv, rfC, vT, List.map_nil]; done))); simp only [go_sem, simprocAttr, hb, hxo, hv, rfC, vT, List.map_nil, List.map_cons, List.map_nil])); try simp only [go_sem, simprocAttr, hb, hxo, hv, rfC, vT, List.map_nil]) | (intro h))
  | true =>
   rw [hpk hok1] at hPl
   have hcode : (succF g f (x : Int) o).1.2 = 0 := rfl
   rw [hgx] at hset
   generalize succF g f (x : Int) o = su at hfx hgx hPl hcode hset
   have hxe : x < (endR g p k).length := by omega
   generalize hEk : endR g p k = E at hset hxe hel
   have hvl : (vT E).length = E.length := vT_length
   have hvd := fun d => vT_getD hxe d
   repeat' (first | fail | ((first | ((with_reducible (first | apply oA | apply oB)); exact rfl; intro K hK) | (refine hK _ ?_; clear hK K) | ((with_reducible (first | apply oG | apply oH)); iterate 3 exact rfl) | ((with_reducible apply oI); (iterate 2 exact rfl); intro K hK) | (with_reducible (first | apply wI | apply wJ | apply wK))); try simp only [go_sem, simprocAttr, hb, hxo, hv, rfC, hcode, hset, hvd, List.drop_succ_cons, List.drop_zero]) | fail | (with_reducible (first | apply oC | apply oJ | exact oK | apply wA | apply wB | apply wC hX hC | apply wD hX hC | apply wE hX hC hmix | apply wF hX hC hmix | apply wG | apply wH | apply And.intro)) | ((with_reducible refine oD ?_ ?_); first | fail | kernel_rfl) | ((with_reducible (first | apply oE | apply oF)); (iterate 3 exact rfl); all_goals (intro h; first | (exact absurd h (by decide)) | ((try simp only [go_sem, simprocAttr, hb, hxo, hv, rfC, hcode, hset, hvd, List.drop_succ_cons, List.drop_zero] at h); (try with_reducible intro K hK); simp only [go_sem, simprocAttr, hb, hxo, hv, rfC, hcode, hset, hvd, List.drop_succ_cons, List.drop_zero]))) | ((first | ((with_reducible apply wL); exact rfl) | ((with_reducible apply wM); exact rfl)); all_goals (try ((with_reducible intro h); first | (exact absurd h (by decide)) | (try simp only [go_sem, simprocAttr, hb, hxo, hv, rfC, hcode, hset, hvd, List.drop_succ_cons, List.drop_zero] at h)))) | omega | ((first | first | (refine acall_gen hX hC hP [(10000, 20)] (hPl) rfl rfl rfl ?_ ?_ ?_ ?_ ?_ ?_ ?_ ?_ ?_ ?_ ?_ ?_ ?_ ?_; (focus (simp only [go_sem, simprocAttr, hb, hxo, hv, rfC, hcode, hset, hvd, List.drop_succ_cons, List.drop_zero]; done)); (iterate 12 (focus (simp [go_sem, simprocAttr, hb, hxo, hv, rfC, hcode, hset, hvd, List.drop_succ_cons, List.drop_zero]; done))); simp only [go_sem, simprocAttr, hb, hxo, hv, rfC, hcode, hset, hvd, List.drop_succ_cons, List.drop_zero, List.map_cons, List.map_nil])); try simp only [go_sem, simprocAttr, hb, hxo, hv, rfC, hcode, hset, hvd, List.drop_succ_cons, List.drop_zero]) | (intro h))
   refine ⟨k + 1, ⟨by omega, fun j hj => ?_⟩, ?_, by omega⟩
   ·by_cases e : j = k
    ·subst e; exact hok1
    ·exact hok j (by omega)
   ·rw [hfx]
    have hset2 : (vT E).set x [D.sl 3 (List.map rT su.1.1)] = vT (endR g p (k + 1)) := hset
    refine Le.of ?_ ?_ <;> simp [go_sem, simprocAttr, hb, hxo, hv, rfC, hcode, hset, hvd, List.drop_succ_cons, List.drop_zero, hset2]
 have hb : decide ((k : Int) < (p.ord.length : Int)) = false := decide_eq_false (by omega)
 obtain rfl : k = g.n.toNat := by omega
 rw [stopK_none.2 hok] at hR
 subst hR
 repeat' (first | fail | ((first | ((with_reducible (first | apply oA | apply oB)); exact rfl; intro K hK) | (refine hK _ ?_; clear hK K) | ((with_reducible (first | apply oG | apply oH)); iterate 3 exact rfl) | ((with_reducible apply oI); (iterate 2 exact rfl); intro K hK) | (with_reducible (first | apply wI | apply wJ | apply wK))); try simp only [go_sem, simprocAttr, hb, rfC]) | fail | (with_reducible (first | apply oC | apply oJ | exact oK | apply wA | apply wB | apply wC hX hC | apply wD hX hC | apply wE hX hC hmix | apply wF hX hC hmix | apply wG | apply wH | apply And.intro)) | ((with_reducible refine oD ?_ ?_); first | fail | kernel_rfl) | ((with_reducible (first | apply oE | apply oF)); (iterate 3 exact rfl); all_goals (intro h; first | (exact absurd h (by decide)) | ((try simp only [go_sem, simprocAttr, hb, rfC] at h); (try with_reducible intro K hK); simp only [go_sem, simprocAttr, hb, rfC]))) | ((first | ((with_reducible apply wL); exact rfl) | ((with_reducible apply wM); exact rfl)); all_goals (try ((with_reducible intro h); first | (exact absurd h (by decide)) | (try simp only [go_sem, simprocAttr, hb, rfC] at h)))) | omega | ((first | fail); try simp only [go_sem, simprocAttr, hb, rfC]) | (intro h))
end Go.Ab
end
section
namespace Go.Ab
open Go.Proofs
attribute [local congr] ACall.congr
set_option maxRecDepth 10000
set_option maxHeartbeats 8000000
theorem sweepRun_spec (g : Gr) (hl : g.es.length ≤ 1000) (p : Pl) (hp : PlLen p) (b : Bool) (hr : b = true ↔ (chkG g).1 = 0 ∧ PlanOk g p) :
  Spec Tryz.prog 23 (Args [eG g, ePl p]) [] (.tup [.d (.sl 1 (vT (runRes b g p).1.1)), .d (sT (runRes b g p).1.2), eF ((runRes b g p).2.1, (runRes b g p).2.2, [])]) [] := by
 by_cases hc : (chkG g).1 = 0
 rotate_left
 ·obtain rfl : b = false := by
   rw [← Bool.not_eq_true, hr]
   exact fun h => hc h.1
  have hR : runRes false g p = (([], []), (1, 0)) := rfl
  rw [hR]
  (refine Spec.intro (C := T.cfg [] []) (rs := [.t 4, .t 5, .c 6 56]) (T.cfg_ok _ _) Tryz.func23 rfl rfl Tryz.ntmps23 Tryz.results23 (by simp [AObj.isNest]) (by simp [AObj.isNest]) (by kernel_rfl) ?_; intro X hX hP hC hXn hXm vals hA; refine ⟨_, by simp, hA, ?_⟩; have hmix : X.P.follows .mixedOrders = true := (by rw [hP]; exact T.mixed); clear hXn hXm)
  repeat' (first | fail | ((first | ((with_reducible (first | apply oA | apply oB)); exact rfl; intro K hK) | (refine hK _ ?_; clear hK K) | ((with_reducible (first | apply oG | apply oH)); iterate 3 exact rfl) | ((with_reducible apply oI); (iterate 2 exact rfl); intro K hK) | (with_reducible (first | apply wI | apply wJ | apply wK))); try simp only [go_sem, simprocAttr, vT, List.map_nil]) | fail | (with_reducible (first | apply oC | apply oJ | exact oK | apply wA | apply wB | apply wC hX hC | apply wD hX hC | apply wE hX hC hmix | apply wF hX hC hmix | apply wG | apply wH | apply And.intro)) | ((with_reducible refine oD ?_ ?_); first | fail | kernel_rfl) | ((with_reducible (first | apply oE | apply oF)); (iterate 3 exact rfl); all_goals (intro h; first | (exact absurd h (by decide)) | ((try simp only [go_sem, simprocAttr, vT, List.map_nil] at h); (try with_reducible intro K hK); simp only [go_sem, simprocAttr, vT, List.map_nil]))) | ((first | ((with_reducible apply wL); exact rfl) | ((with_reducible apply wM); exact rfl)); all_goals (try ((with_reducible intro h); first | (exact absurd h (by decide)) | (try simp only [go_sem, simprocAttr, vT, List.map_nil] at h)))) | omega | ((first | first | refine acall_simple hX hC hP (newN_spec g hl hc) rfl rfl rfl (by simp only [go_sem, simprocAttr, vT, List.map_nil]) rfl ?_); try simp only [go_sem, simprocAttr, vT, List.map_nil]) | (intro h))
 have hm := good_may hc
 have hn := mayB_n hm
 have hr : b = true ↔ PlanOk g p := by rw [hr]; exact ⟨fun h => h.2, fun h => ⟨hc, h⟩⟩
 have hO := ofS_spec g hm p hp b hr
 cases b with
 | false =>
  have hR : runRes false g p = (([], []), (1, 0)) := rfl
  rw [hR]
  (refine Spec.intro (C := T.cfg [] []) (rs := [.t 4, .t 5, .c 6 56]) (T.cfg_ok _ _) Tryz.func23 rfl rfl Tryz.ntmps23 Tryz.results23 (by simp [AObj.isNest]) (by simp [AObj.isNest]) (by kernel_rfl) ?_; intro X hX hP hC hXn hXm vals hA; refine ⟨_, by simp, hA, ?_⟩; have hmix : X.P.follows .mixedOrders = true := (by rw [hP]; exact T.mixed); clear hXn hXm)
  repeat' (first | fail | ((first | ((with_reducible (first | apply oA | apply oB)); exact rfl; intro K hK) | (refine hK _ ?_; clear hK K) | ((with_reducible (first | apply oG | apply oH)); iterate 3 exact rfl) | ((with_reducible apply oI); (iterate 2 exact rfl); intro K hK) | (with_reducible (first | apply wI | apply wJ | apply wK))); try simp only [go_sem, simprocAttr, vT, List.map_nil]) | fail | (with_reducible (first | apply oC | apply oJ | exact oK | apply wA | apply wB | apply wC hX hC | apply wD hX hC | apply wE hX hC hmix | apply wF hX hC hmix | apply wG | apply wH | apply And.intro)) | ((with_reducible refine oD ?_ ?_); first | fail | kernel_rfl) | ((with_reducible (first | apply oE | apply oF)); (iterate 3 exact rfl); all_goals (intro h; first | (exact absurd h (by decide)) | ((try simp only [go_sem, simprocAttr, vT, List.map_nil] at h); (try with_reducible intro K hK); simp only [go_sem, simprocAttr, vT, List.map_nil]))) | ((first | ((with_reducible apply wL); exact rfl) | ((with_reducible apply wM); exact rfl)); all_goals (try ((with_reducible intro h); first | (exact absurd h (by decide)) | (try simp only [go_sem, simprocAttr, vT, List.map_nil] at h)))) | omega | ((first | first | (refine acall_genC hX hC hP [(10000, 13)] (newF_spec g hl hc hm) rfl rfl rfl ?_ ?_ ?_ ?_ ?_ ?_ ?_ ?_ ?_ ?_ ?_ ?_ ?_ ?_; (focus (simp only [go_sem, simprocAttr, vT, List.map_nil]; done)); (iterate 12 (focus (simp [go_sem, simprocAttr, vT, List.map_nil]; done))); simp only [go_sem, simprocAttr, vT, List.map_nil, List.map_cons, List.map_nil]) | refine acall_simple hX hC hP (of_spec g hm) rfl rfl rfl (by simp only [go_sem, simprocAttr, vT, List.map_nil]) rfl ?_ | refine acall_simple hX hC hP (hO) rfl rfl rfl (by simp only [go_sem, simprocAttr, vT, List.map_nil]) rfl ?_); try simp only [go_sem, simprocAttr, vT, List.map_nil]) | (intro h))
 | true =>
 have hpo := hr.1 rfl
 have hle := plan_len hpo
 have hR : runRes true g p = match stopK g p g.n.toNat with
  | some i => (([], []), (3, (i : Int)))
  | none => ((endR g p g.n.toNat, (fK g p g.n.toNat).row), (0, 0)) := rfl
 generalize runRes true g p = R at hR
 (refine Spec.intro (C := T.cfg [] []) (rs := [.t 4, .t 5, .c 6 56]) (T.cfg_ok _ _) Tryz.func23 rfl rfl Tryz.ntmps23 Tryz.results23 (by simp [AObj.isNest]) (by simp [AObj.isNest]) (by kernel_rfl) ?_; intro X hX hP hC hXn hXm vals hA; refine ⟨_, by simp, hA, ?_⟩; have hmix : X.P.follows .mixedOrders = true := (by rw [hP]; exact T.mixed); clear hXn hXm)
 repeat' (first | fail | ((first | ((with_reducible (first | apply oA | apply oB)); exact rfl; intro K hK) | (refine hK _ ?_; clear hK K) | ((with_reducible (first | apply oG | apply oH)); iterate 3 exact rfl) | ((with_reducible apply oI); (iterate 2 exact rfl); intro K hK) | (with_reducible (first | apply wI | apply wJ | apply wK))); try simp only [go_sem, simprocAttr]) | (show awp _ (.seq (.region 5 _ _) _) _ _; (refine awp_nilD 13 0 3 rfl rfl rfl ?_; simp only [LA.app, ASt.put, ASt.kill, putM, rml, List.set_cons_zero, List.set_cons_succ, go_sem, simprocAttr]); (refine awp_newB hX 13 2 100 (.tip 3 1 []) rfl rfl rfl (by simp only [go_sem, simprocAttr]) (by decide) (by simp [go_sem, simprocAttr]) ⟨3, 1, by decide, .inr rfl⟩ ?_; simp only [LA.app, ASt.put, ASt.kill, subT, rmk, putM, rml, kl, AV.sub, AV.subs, AObj.sub, List.set_cons_zero, List.set_cons_succ, go_sem, simprocAttr])) | (with_reducible (first | apply oC | apply oJ | exact oK | apply wA | apply wB | apply wC hX hC | apply wD hX hC | apply wE hX hC hmix | apply wF hX hC hmix | apply wG | apply wH | apply And.intro)) | ((with_reducible refine oD ?_ ?_); first | fail | kernel_rfl) | ((with_reducible (first | apply oE | apply oF)); (iterate 3 exact rfl); all_goals (intro h; first | (exact absurd h (by decide)) | ((try simp only [go_sem, simprocAttr] at h); (try with_reducible intro K hK); simp only [go_sem, simprocAttr]))) | ((first | ((with_reducible apply wL); exact rfl) | ((with_reducible apply wM); exact rfl)); all_goals (try ((with_reducible intro h); first | (exact absurd h (by decide)) | (try simp only [go_sem, simprocAttr] at h)))) | omega | ((first | first | (refine acall_genC hX hC hP [(10000, 13)] (newF_spec g hl hc hm) rfl rfl rfl ?_ ?_ ?_ ?_ ?_ ?_ ?_ ?_ ?_ ?_ ?_ ?_ ?_ ?_; (focus (simp only [go_sem, simprocAttr]; done)); (iterate 12 (focus (simp [go_sem, simprocAttr]; done))); simp only [go_sem, simprocAttr, List.map_cons, List.map_nil]) | refine acall_simple hX hC hP (of_spec g hm) rfl rfl rfl (by simp only [go_sem, simprocAttr]) rfl ?_ | refine acall_simple hX hC hP (hO) rfl rfl rfl (by simp only [go_sem, simprocAttr]) rfl ?_); try simp only [go_sem, simprocAttr]) | (intro h))
 rw [rep_vT]
 refine awp_loopP (fun k : Nat => k ≤ g.n.toNat ∧ ∀ j, j < k → okK g p j = true) (fun k => ⟨[(3, .ptr 3 0), (4, .ref 28), (6, .ptr 6 0), (7, .ptr 13 0), (30, .d (sI p.ord)), (31, eN p.ord.length), (32, eN k)], [(28, .own 54 1 (vT (endR g p k))), (13, .box [.d (sT (fK g p k).row), .d (vw g), .ref 100]), (100, .tip 3 1 ((fK g p k).pl.map rI)), (6, .box [eN 0, eN 0, .nil 3]), (3, .box [.d (sI p.ord), .d (.sl 1 (vI p.outs))])]⟩) (fun k => g.n.toNat - k) 0 (by simp) ?_ ?_
 ·refine Le.of ?_ ?_ <;> simp [go_sem, simprocAttr, rfC, fK, endR]
 rintro k ⟨hk, hok⟩
 obtain ⟨hi, _, hrl⟩ := run_inv hm hpo hk hok
 have hel := endR_len (g := g) (p := p) (k := k)
 have hmul : k * (g.es.length + 1) ≤ 64 * 129 := Nat.mul_le_mul (by omega) (by omega)
 rcases Nat.lt_or_ge k g.n.toNat with hlt | hge
 ·have hb : decide ((k : Int) < (p.ord.length : Int)) = true := decide_eq_true (by omega)
  have hxm := oAt_mem hpo hlt
  have hnx := endR_next (g := g) (p := p) (k := k)
  have hfx : fK g p (k + 1) = (succF g (fK g p k) (oAt p k) (lAt p (oAt p k))).2 := rfl
  have hgx : goneK g p k = (succF g (fK g p k) (oAt p k) (lAt p (oAt p k))).1.1 := rfl
  have hpk := place_ok hpo hlt
  have hpn := place_no (g := g) (p := p) (k := k)
  have hsk : okK g p k = false → R = (([], []), (3, (k : Int))) := fun h => by
   rw [hR, stopK_some.2 ⟨hlt, h, hok⟩]
  have hll := lAt_len hpo hxm.1 hxm.2
  have hxo : p.ord.getD k 0 = oAt p k := rfl
  have hplen : (fK g p k).pl.length ≤ 64 := by
   rcases pl_le hi.toFrInv with h | h
   ·omega
   ·rw [h]; simp
  obtain ⟨x, hx⟩ : ∃ x : Nat, oAt p k = x := ⟨(oAt p k).toNat, by omega⟩
  rw [hx] at hxo hfx hgx hpk hpn hxm hll hnx
  have hxl : x < p.outs.length := by have := hpo.1; omega
  have hv := vI_getD hxl
  have hla : lAt p (x : Int) = p.outs.getD x [] := by unfold lAt; rw [Int.toNat_natCast]
  rw [hla] at hfx hgx hpk hpn hll
  rw [Int.toNat_natCast] at hnx
  have hPl := placeA_spec g hm (fK g p k) hi (x : Int) (p.outs.getD x []) (by omega) (by omega) (by omega)
  have hset := vT_set (ls := endR g p k) (k := x) (l := goneK g p k)
  generalize p.outs.getD x [] = o at hv hfx hgx hpk hpn hPl
  rw [← hnx] at hset
  generalize fK g p k = f at hfx hgx hpk hpn hPl hi hrl hplen
  have hxe : x < (endR g p k).length := by omega
  have hvl : (vT (endR g p k)).length = (endR g p k).length := vT_length
  cases hok1 : okK g p k with
  | false =>
   rw [hpn hok1] at hPl
   simp only at hPl
   have hRk := hsk hok1
   subst hRk
   repeat' (first | fail | ((first | ((with_reducible (first | apply oA | apply oB)); exact rfl; intro K hK) | (refine hK _ ?_; clear hK K) | ((with_reducible (first | apply oG | apply oH)); iterate 3 exact rfl) | ((with_reducible apply oI); (iterate 2 exact rfl); intro K hK) | (with_reducible (first | apply wI | apply wJ | apply wK))); try simp only [go_sem, simprocAttr, hb, hxo, hv, frO, frN, List.map_nil]) | fail | (with_reducible (first | apply oC | apply oJ | exact oK | apply wA | apply wB | apply wC hX hC | apply wD hX hC | apply wE hX hC hmix | apply wF hX hC hmix | apply wG | apply wH | apply And.intro)) | ((with_reducible refine oD ?_ ?_); first | fail | kernel_rfl) | ((with_reducible (first | apply oE | apply oF)); (iterate 3 exact rfl); all_goals (intro h; first | (exact absurd h (by decide)) | ((try simp only [go_sem, simprocAttr, hb, hxo, hv, frO, frN, List.map_nil] at h); (try with_reducible intro K hK); simp only [go_sem, simprocAttr, hb, hxo, hv, frO, frN, List.map_nil]))) | ((first | ((with_reducible apply wL); exact rfl) | ((with_reducible apply wM); exact rfl)); all_goals (try ((with_reducible intro h); first | (exact absurd h (by decide)) | (try simp only [go_sem, simprocAttr, hb, hxo, hv, frO, frN, List.map_nil] at h)))) | omega | ((first | first | (refine acall_gen hX hC hP [(10000, 13), (10001, 100), (10002, 101)] (hPl) rfl rfl rfl ?_ ?_ ?_ ?_ ?_ ?_ ?_ ?_ ?_ ?_ ?_ ?_ ?_ ?_; (focus (simp only [go_sem, simprocAttr, hb, hxo, hv, frO, frN, List.map_nil]; done)); (iterate 12 (focus (simp [go_sem, simprocAttr, hb, hxo, hv, frO, frN, List.map_nil]; done))); simp only [go_sem, simprocAttr, hb, hxo, hv, frO, frN, List.map_nil, List.map_cons, List.map_nil])); try simp only [go_sem, simprocAttr, hb, hxo, hv, frO, frN, List.map_nil]) | (intro h))
   all_goals rfl
  | true =>
   rw [hpk hok1] at hPl
   have hcode : (succF g f (x : Int) o).1.2 = 0 := rfl
   rw [hgx] at hset
   generalize succF g f (x : Int) o = su at hfx hgx hPl hcode hset
   generalize hEk : endR g p k = E at hset hxe hel hvl
   have hvd := fun d => vT_getD hxe d
   repeat' (first | fail | ((first | ((with_reducible (first | apply oA | apply oB)); exact rfl; intro K hK) | (refine hK _ ?_; clear hK K) | ((with_reducible (first | apply oG | apply oH)); iterate 3 exact rfl) | ((with_reducible apply oI); (iterate 2 exact rfl); intro K hK) | (with_reducible (first | apply wI | apply wJ | apply wK))); try simp only [go_sem, simprocAttr, hb, hxo, hv, frO, frN, hcode, hset, hvd, List.drop_succ_cons, List.drop_zero]) | (show awp _ (.region 11 _ _) _ _; (refine awp_mvB hX 13 2 101 100 rfl rfl rfl (by first | exact .inl rfl | exact .inr rfl) (by decide) (by decide) ?_; simp only [LA.app, ASt.put, ASt.kill, subT, rmk, putM, rml, kl, AV.sub, AV.subs, AObj.sub, List.set_cons_zero, List.set_cons_succ, go_sem, simprocAttr, hb, hxo, hv, frO, frN, hcode, hset, hvd, List.drop_succ_cons, List.drop_zero])) | (with_reducible (first | apply oC | apply oJ | exact oK | apply wA | apply wB | apply wC hX hC | apply wD hX hC | apply wE hX hC hmix | apply wF hX hC hmix | apply wG | apply wH | apply And.intro)) | ((with_reducible refine oD ?_ ?_); first | fail | kernel_rfl) | ((with_reducible (first | apply oE | apply oF)); (iterate 3 exact rfl); all_goals (intro h; first | (exact absurd h (by decide)) | ((try simp only [go_sem, simprocAttr, hb, hxo, hv, frO, frN, hcode, hset, hvd, List.drop_succ_cons, List.drop_zero] at h); (try with_reducible intro K hK); simp only [go_sem, simprocAttr, hb, hxo, hv, frO, frN, hcode, hset, hvd, List.drop_succ_cons, List.drop_zero]))) | ((first | ((with_reducible apply wL); exact rfl) | ((with_reducible apply wM); exact rfl)); all_goals (try ((with_reducible intro h); first | (exact absurd h (by decide)) | (try simp only [go_sem, simprocAttr, hb, hxo, hv, frO, frN, hcode, hset, hvd, List.drop_succ_cons, List.drop_zero] at h)))) | omega | ((first | first | (refine acall_gen hX hC hP [(10000, 13), (10001, 100), (10002, 101)] (hPl) rfl rfl rfl ?_ ?_ ?_ ?_ ?_ ?_ ?_ ?_ ?_ ?_ ?_ ?_ ?_ ?_; (focus (simp only [go_sem, simprocAttr, hb, hxo, hv, frO, frN, hcode, hset, hvd, List.drop_succ_cons, List.drop_zero]; done)); (iterate 12 (focus (simp [go_sem, simprocAttr, hb, hxo, hv, frO, frN, hcode, hset, hvd, List.drop_succ_cons, List.drop_zero]; done))); simp only [go_sem, simprocAttr, hb, hxo, hv, frO, frN, hcode, hset, hvd, List.drop_succ_cons, List.drop_zero, List.map_cons, List.map_nil])); try simp only [go_sem, simprocAttr, hb, hxo, hv, frO, frN, hcode, hset, hvd, List.drop_succ_cons, List.drop_zero]) | (intro h))
   refine ⟨k + 1, ⟨by omega, fun j hj => ?_⟩, ?_, by omega⟩
   ·by_cases e : j = k
    ·subst e; exact hok1
    ·exact hok j (by omega)
   ·rw [hfx]
    have hset2 : (vT E).set x [D.sl 3 (List.map rT su.1.1)] = vT (endR g p (k + 1)) := hset
    refine Le.of ?_ ?_ <;> simp [go_sem, simprocAttr, hb, hxo, hv, frO, frN, hcode, hset, hvd, List.drop_succ_cons, List.drop_zero, hset2]
 have hb : decide ((k : Int) < (p.ord.length : Int)) = false := decide_eq_false (by omega)
 obtain rfl : k = g.n.toNat := by omega
 rw [stopK_none.2 hok] at hR
 subst hR
 repeat' (first | fail | ((first | ((with_reducible (first | apply oA | apply oB)); exact rfl; intro K hK) | (refine hK _ ?_; clear hK K) | ((with_reducible (first | apply oG | apply oH)); iterate 3 exact rfl) | ((with_reducible apply oI); (iterate 2 exact rfl); intro K hK) | (with_reducible (first | apply wI | apply wJ | apply wK))); try simp only [go_sem, simprocAttr, hb]) | fail | (with_reducible (first | apply oC | apply oJ | exact oK | apply wA | apply wB | apply wC hX hC | apply wD hX hC | apply wE hX hC hmix | apply wF hX hC hmix | apply wG | apply wH | apply And.intro)) | ((with_reducible refine oD ?_ ?_); first | fail | kernel_rfl) | ((with_reducible (first | apply oE | apply oF)); (iterate 3 exact rfl); all_goals (intro h; first | (exact absurd h (by decide)) | ((try simp only [go_sem, simprocAttr, hb] at h); (try with_reducible intro K hK); simp only [go_sem, simprocAttr, hb]))) | ((first | ((with_reducible apply wL); exact rfl) | ((with_reducible apply wM); exact rfl)); all_goals (try ((with_reducible intro h); first | (exact absurd h (by decide)) | (try simp only [go_sem, simprocAttr, hb] at h)))) | omega | ((first | first | (refine acall_lend1 hX hC hP 60 (rowT_spec [vw g, sI (fK g p g.n.toNat).pl] (fK g p g.n.toNat).row (by omega)) rfl rfl rfl ?_ ?_ (by first | exact ⟨_, _, _, rfl, flatI⟩ | exact ⟨_, _, _, rfl, flatT⟩) rfl (by decide) ?_; (iterate 2 (focus (simp only [go_sem, simprocAttr, hb]; done))); simp only [go_sem, simprocAttr, hb])); try simp only [go_sem, simprocAttr, hb]) | (intro h))
end Go.Ab
end
section
namespace Go.Ab
theorem acall_lend1o {X : Ctx} {o : Oper} {s : ASt} {K : LA → Prop} (hX : X.Ok) {C : Cfg} (hC : X.C = C) {P : Program} (hP : X.P = P) {c : Call} {fo : Operand} {f : Nat} {first caps aas aas' : List AV} {ob : AObj} (d : Nat)
  (hs : Spec P f (Args aas') [] (.ref 10000) [(10000, ob)]) (ho : o.op = .call c) (hc : c.callee = .value fo) (hf : aev C 0 s fo = .fn f first caps) (has : evA C s c.args.toList c.argTypes.toList = aas)
  (hcv : cvts (fun a x => rdX C (fun _ => false) true (reach s 3 (AV.idss (first ++ aas ++ caps))) 4 a = some x) (first ++ aas ++ caps) aas')
  (hob : ∃ e sz rows, ob = .own e sz rows ∧ ∀ r ∈ rows, ∀ x ∈ r, ∃ v, x = D.sc v) (hd : o.dst = some d) (hdl : d < 10000)
  (hK : K ⟨rsOf s (fo :: c.args.toList), reach s 3 (AV.idss (first ++ aas ++ caps)), [(d, none)], [(d, ob)], some d, .ref d⟩) : ACall X o (.fn f first caps) aas s K := by
 subst hC; subst hP
 refine ⟨_, ⟨hd.symm, ?_⟩, ⟨sat_rs s _, reach_look s _ _⟩, hK⟩
 rintro s' a w hdn hsat ⟨E, hE⟩
 have hfo := hE.evs hsat.1 X.C 0 (x := fo) (by simp)
 rw [hf] at hfo
 obtain ⟨us, vs, hfo, hr1, hr2⟩ := hfo
 have hargs := evA_rel (s := s) hE c.args.toList c.argTypes.toList (fun p hp => hsat.1 p (by cases fo <;> simp [rsOf, hp]))
 rw [has] at hargs
 have hvals : AVrs w E (first ++ aas ++ caps) (us ++ c.args.toList.map a.eval ++ vs) := (hr1.append hargs).append hr2
 obtain ⟨fn, cd, hfn, hname, hbody⟩ := hs.can
 have hrun : (execOp a.eval o).run X.P w = .ok (.enter f (us ++ c.args.toList.map a.eval ++ vs).toArray) w := by
  have h1 : us.toArray ++ c.args.map a.eval ++ vs.toArray = (us ++ c.args.toList.map a.eval ++ vs).toArray := by
   apply Array.toList_inj.1; simp
  have h2 := run_callFunc_enter' (P := X.P) hfn hname hbody (us.toArray ++ c.args.map a.eval ++ vs.toArray) w
  rw [h1] at h2
  simp only [execOp, ho, resolve, hc, hfo, Deferred.ofValue, Sem.run_bind, Sem.run_pure, Result.andThen_ok, invoke]
  rw [h1]; exact h2
 have hsee : ∀ l, see [] l = none := fun l => by unfold see; split <;> rfl
 have hst0 : Stable w E.z w (fun b => max (E.z b) (fullZ w b)) := fun b => ⟨Nat.le_max_left _ _, fun _ _ => rfl⟩
 have hgood : Good [] ⟨E.ρ, E.σ, fun b => max (E.z b) (fullZ w b)⟩ w := by
  refine ⟨fun l h => by simp [look] at h, fun l l' b h => by simp [hsee] at h, fun l o h => by simp [hsee] at h, fun b hb => ?_⟩
  simp [hE.good.fresh b hb, fullZ, Array.getElem?_eq_none hb]
 have hA : AVrs w ⟨E.ρ, E.σ, fun b => max (E.z b) (fullZ w b)⟩ aas' (us ++ c.args.toList.map a.eval ++ vs) :=
  cvts_rel (E' := ⟨E.ρ, E.σ, fun b => max (E.z b) (fullZ w b)⟩) ⟨hst0, fun _ _ => rfl, fun _ _ => rfl⟩ (fun a x v hax hr => rdX_rel hE.good hst0 (fun l o b _ _ _ _ => Nat.le_max_right _ _) (rdX_mono (fun l o hl => hsat.2 _ (look_mem hl)) hax) hr) hcv hvals
 unfold Oper.wp
 rw [hrun]
 refine (hs.calls _ w _ hgood hA).mono ?_
 rintro e w' ⟨v, E', rfl, hst, hg', hmine, hres⟩
 have hheap : ∀ b, b < w.heap.size → w'.heap[b]? = w.heap[b]? := fun b hb => (hst.frame b hb (by rintro ⟨l, o, hl, _⟩; simp [hsee] at hl)).1
 obtain ⟨e0, sz, rows, rfl, hfl⟩ := hob
 have hsob : see [(10000, AObj.own e0 sz rows)] 10000 = some (.own e0 sz rows) := by rw [see_low (by omega)]; simp [look]
 have hor := hg'.sobj 10000 _ hsob
 have hnewb : ∀ b, E'.ρ 10000 = some b → w.heap.size ≤ b := fun b hb => by
  rcases hmine 10000 _ b hsob rfl hb with h | ⟨l, q, hl, _⟩
  ·exact h
  ·simp [hsee] at hl
 obtain ⟨E2, hρ, hσ, hρd, hσd, hz1, hz2⟩ : ∃ E2 : Env, (∀ l, l ≠ d → E2.ρ l = E.ρ l) ∧ (∀ l, l ≠ d → E2.σ l = E.σ l) ∧ E2.ρ d = E'.ρ 10000 ∧ E2.σ d = E'.σ 10000 ∧ (∀ b, b < w.heap.size → E2.z b = E.z b) ∧ (∀ b, w.heap.size ≤ b → E2.z b = E'.z b) :=
  ⟨⟨fun l => if l = d then E'.ρ 10000 else E.ρ l, fun l => if l = d then E'.σ 10000 else E.σ l, fun b => if b < w.heap.size then E.z b else E'.z b⟩, fun l h => by simp [h], fun l h => by simp [h], by simp, by simp, fun b h => by simp [h], fun b h => by simp [show ¬ b < w.heap.size by omega]⟩
 have hkl : ∀ l, kl [(d, (none : Option D))] l = if d = l then some none else none := fun l => by simp only [kl]
 have hlk : ∀ l, look [(d, AObj.own e0 sz rows)] l = if d = l then some (.own e0 sz rows) else none := fun l => by simp only [look]
 refine ⟨E2, hd ▸ hE.app' ⟨rsOf s (fo :: c.args.toList), reach s 3 (AV.idss (first ++ aas ++ caps)), [(d, none)], [(d, .own e0 sz rows)], some d, .ref d⟩ E2 w' v (fun b => ?_) hst.os hst.tape hst.output hst.size (fun l hl => ?_) (fun l x hl => ?_) (fun l hl => ?_) (fun l hl => ?_) (fun l q hl => ?_) (fun b hb => .inl ⟨hheap b hb, hz1 b hb⟩) (fun l q hl => ?_) (fun l l' b hl hl' _ _ => ?_) (fun l b hl hb => ?_) (fun b hb => ?_) ?_ (fun k hk => hdn k (hd ▸ hk))⟩
 ·by_cases hb : b < w.heap.size
  ·exact ⟨by rw [hz1 b hb]; exact Nat.le_refl _, fun o _ => cell?_of_heap (hheap b hb) o⟩
  ·have := hE.good.fresh b (by omega)
   exact ⟨by omega, fun o ho => by omega⟩
 ·have : l ≠ d := fun e => by subst e; simp [kl] at hl
  exact ⟨hρ l this, hσ l this⟩
 ·simp only [hkl] at hl; split at hl <;> simp at hl
 ·have : l ≠ d := fun e => by
   subst e
   have := hX.low l hl
   omega
  exact ⟨hρ l this, hσ l this⟩
 ·simp only [hkl] at hl
  split at hl
  ·omega
  ·exact absurd rfl hl
 ·simp only [hlk] at hl
  split at hl
  ·cases hl; exact ⟨by omega, rfl⟩
  ·cases hl
 ·simp only [hlk] at hl
  split at hl
  ·rename_i he; subst he
   cases hl
   obtain ⟨g1, g2, g3⟩ := hor
   refine ⟨g1, g2, ?_⟩
   rcases g3 with ⟨h1, h2, h3⟩ | ⟨b, cur, cap, h1, h2, h3, h4, h5, h6, h7, h8⟩
   ·exact .inl ⟨by rw [hρd]; exact h1, h2, by rw [hσd]; exact h3⟩
   ·refine .inr ⟨b, cur, cap, by rw [hρd]; exact h1, h2, by rw [hσd]; exact h3, h4, h5, h6, by rw [hz2 b (hnewb b h1)]; exact h7, fun i j r x hi hj => ?_⟩
    obtain ⟨v, hv, hx⟩ := h8 i j r x hi hj
    obtain ⟨u, rfl⟩ := hfl r (List.mem_of_getElem? hi) x (List.mem_of_getElem? hj)
    cases hx with
    | sc _ h => exact ⟨_, hv, .sc _ h⟩
  ·cases hl
 ·simp only [hlk] at hl hl'
  split at hl
  ·rename_i he; split at hl'
   ·rename_i he'; rw [← he, ← he']
   ·exact absurd rfl hl'
  ·exact absurd rfl hl
 ·simp only [hlk] at hl
  split at hl
  ·rename_i he; subst he
   rw [hρd] at hb; exact .inl (hnewb b hb)
  ·exact absurd rfl hl
 ·rw [hz2 b (Nat.le_trans hst.size hb)]; exact hg'.fresh b hb
 ·exact ⟨by rw [hσd]; exact hres.1, hres.2⟩
end Go.Ab
end
section
namespace Go.Ab
open Go.Proofs
attribute [local congr] ACall.congr
set_option maxRecDepth 10000
set_option maxHeartbeats 8000000
def swapI (l : List Int) (k : Nat) : List Int := (List.range l.length).map fun p => if p < k ∨ l.length - 1 < p + k then l.getD (l.length - 1 - p) 0 else l.getD p 0
theorem swapI_length {l : List Int} {k : Nat} : (swapI l k).length = l.length := by simp [swapI]
theorem swapI_get {l : List Int} {k p : Nat} (h : p < l.length) : (swapI l k)[p]? = some (if p < k ∨ l.length - 1 < p + k then l.getD (l.length - 1 - p) 0 else l.getD p 0) := by
 simp [swapI, List.getElem?_range h]
theorem swapI_getD {l : List Int} {k p : Nat} (h : p < l.length) (d : Int) : (swapI l k).getD p d = if p < k ∨ l.length - 1 < p + k then l.getD (l.length - 1 - p) 0 else l.getD p 0 := by
 rw [List.getD_eq_getElem?_getD, swapI_get h]; rfl
theorem swapI_zero {l : List Int} : swapI l 0 = l := by
 refine List.ext_getElem? fun i => ?_
 by_cases hi : i < l.length
 ·rw [swapI_get hi, if_neg (by omega), List.getD_eq_getElem?_getD, List.getElem?_eq_getElem hi]; rfl
 ·rw [List.getElem?_eq_none (by rw [swapI_length]; omega), List.getElem?_eq_none (by omega)]
theorem swapI_end {l : List Int} {k : Nat} (h : l.length ≤ 2 * k + 1) : swapI l k = l.reverse := by
 refine List.ext_getElem? fun i => ?_
 by_cases hi : i < l.length
 ·rw [swapI_get hi, List.getElem?_reverse hi]
  split
  ·rw [List.getD_eq_getElem?_getD, List.getElem?_eq_getElem (by omega)]; rfl
  ·have : i = l.length - 1 - i := by omega
   rw [← this, List.getD_eq_getElem?_getD, List.getElem?_eq_getElem hi]; rfl
 ·rw [List.getElem?_eq_none (by rw [swapI_length]; omega), List.getElem?_eq_none (by rw [List.length_reverse]; omega)]
theorem swapI_next {l : List Int} {k : Nat} (h : k < l.length - 1 - k) : ((swapI l k).set k ((swapI l k).getD (l.length - 1 - k) 0)).set (l.length - 1 - k) ((swapI l k).getD k 0) = swapI l (k + 1) := by
 refine List.ext_getElem? fun i => ?_
 rw [List.getElem?_set, List.length_set, swapI_length, List.getElem?_set, swapI_length]
 by_cases hi : i < l.length
 ·rw [swapI_get hi, swapI_get hi, swapI_getD (by omega), swapI_getD (by omega)]
  by_cases h1 : l.length - 1 - k = i
  ·rw [if_pos h1, if_pos (by omega), if_neg (by omega), if_pos (by omega)]
   congr 2; omega
  ·rw [if_neg h1]
   by_cases h2 : k = i
   ·rw [if_pos h2, if_pos (by omega), if_neg (by omega), if_pos (by omega)]
    congr 2; omega
   ·rw [if_neg h2]
    congr 1
    by_cases h3 : i < k ∨ l.length - 1 < i + k
    ·rw [if_pos h3, if_pos (by omega)]
    ·rw [if_neg h3, if_neg (by omega)]
 ·rw [List.getElem?_eq_none (by rw [swapI_length]; omega), List.getElem?_eq_none (by rw [swapI_length]; omega), if_neg (by omega), if_neg (by omega)]
theorem reverseI_spec (l : List Int) (hl : l.length ≤ 1000000) : Spec Tryz.prog 48 (Args [.ref 10000]) [(10000, .own 3 1 (l.map rI))] (.tup []) [(10000, .own 3 1 (l.reverse.map rI))] := by
 (refine Spec.intro (C := T.cfg [] []) (rs := []) (T.cfg_ok _ _) Tryz.func48 rfl rfl Tryz.ntmps48 Tryz.results48 (by simp [AObj.isNest]) (by simp [AObj.isNest]) (by kernel_rfl) ?_; intro X hX hP hC hXn hXm vals hA; refine ⟨_, by simp, hA, ?_⟩; have hmix : X.P.follows .mixedOrders = true := (by rw [hP]; exact T.mixed); clear hXn hXm)
 repeat' (first | fail | ((first | ((with_reducible (first | apply oA | apply oB)); exact rfl; intro K hK) | (refine hK _ ?_; clear hK K) | ((with_reducible (first | apply oG | apply oH)); iterate 3 exact rfl) | ((with_reducible apply oI); (iterate 2 exact rfl); intro K hK) | (with_reducible (first | apply wI | apply wJ | apply wK))); try simp only [go_sem, simprocAttr]) | fail | (with_reducible (first | apply oC | apply oJ | exact oK | apply wA | apply wB | apply wC hX hC | apply wD hX hC | apply wE hX hC hmix | apply wF hX hC hmix | apply wG | apply wH | apply And.intro)) | ((with_reducible refine oD ?_ ?_); first | fail | kernel_rfl) | ((with_reducible (first | apply oE | apply oF)); (iterate 3 exact rfl); all_goals (intro h; first | (exact absurd h (by decide)) | ((try simp only [go_sem, simprocAttr] at h); (try with_reducible intro K hK); simp only [go_sem, simprocAttr]))) | ((first | ((with_reducible apply wL); exact rfl) | ((with_reducible apply wM); exact rfl)); all_goals (try ((with_reducible intro h); first | (exact absurd h (by decide)) | (try simp only [go_sem, simprocAttr] at h)))) | omega | ((first | fail); try simp only [go_sem, simprocAttr]) | (intro h))
 refine awp_loopP (fun k : Nat => 2 * k ≤ l.length + 1) (fun k => ⟨[(0, .ref 10000), (2, eN k), (3, eN ((l.length : Int) - 1 - k))], [(10000, .own 3 1 ((swapI l k).map rI))]⟩) (fun k => l.length + 1 - k) 0 (by omega) ?_ ?_
 ·refine Le.of ?_ ?_ <;> simp [go_sem, simprocAttr, swapI_zero]
 rintro k hk
 rcases Nat.lt_or_ge (2 * k + 1) l.length with hlt | hge
 ·have hb : decide ((k : Int) < (l.length : Int) - 1 - (k : Int)) = true := decide_eq_true (by omega)
  have ht : ((l.length : Int) - 1 - (k : Int)).toNat = l.length - 1 - k := by omega
  repeat' (first | fail | ((first | ((with_reducible (first | apply oA | apply oB)); exact rfl; intro K hK) | (refine hK _ ?_; clear hK K) | ((with_reducible (first | apply oG | apply oH)); iterate 3 exact rfl) | ((with_reducible apply oI); (iterate 2 exact rfl); intro K hK) | (with_reducible (first | apply wI | apply wJ | apply wK))); try simp only [go_sem, simprocAttr, hb, ht, swapI_length, set_rI, List.length_cons, List.length_nil, List.drop_succ_cons, List.drop_zero, List.drop_nil]) | fail | (with_reducible (first | apply oC | apply oJ | exact oK | apply wA | apply wB | apply wC hX hC | apply wD hX hC | apply wE hX hC hmix | apply wF hX hC hmix | apply wG | apply wH | apply And.intro)) | ((with_reducible refine oD ?_ ?_); first | fail | kernel_rfl) | ((with_reducible (first | apply oE | apply oF)); (iterate 3 exact rfl); all_goals (intro h; first | (exact absurd h (by decide)) | ((try simp only [go_sem, simprocAttr, hb, ht, swapI_length, set_rI, List.length_cons, List.length_nil, List.drop_succ_cons, List.drop_zero, List.drop_nil] at h); (try with_reducible intro K hK); simp only [go_sem, simprocAttr, hb, ht, swapI_length, set_rI, List.length_cons, List.length_nil, List.drop_succ_cons, List.drop_zero, List.drop_nil]))) | ((first | ((with_reducible apply wL); exact rfl) | ((with_reducible apply wM); exact rfl)); all_goals (try ((with_reducible intro h); first | (exact absurd h (by decide)) | (try simp only [go_sem, simprocAttr, hb, ht, swapI_length, set_rI, List.length_cons, List.length_nil, List.drop_succ_cons, List.drop_zero, List.drop_nil] at h)))) | omega | ((first | fail); try simp only [go_sem, simprocAttr, hb, ht, swapI_length, set_rI, List.length_cons, List.length_nil, List.drop_succ_cons, List.drop_zero, List.drop_nil]) | (intro h))
  refine ⟨k + 1, by omega, ?_, by omega⟩
  refine Le.of ?_ ?_ <;> simp [go_sem, simprocAttr]
  all_goals (first | omega | skip)
  all_goals (rw [← swapI_next (by omega), List.map_set, List.map_set]; simp only [List.getD_eq_getElem?_getD]; try rfl)
 ·have hb : decide ((k : Int) < (l.length : Int) - 1 - (k : Int)) = false := decide_eq_false (by omega)
  repeat' (first | fail | ((first | ((with_reducible (first | apply oA | apply oB)); exact rfl; intro K hK) | (refine hK _ ?_; clear hK K) | ((with_reducible (first | apply oG | apply oH)); iterate 3 exact rfl) | ((with_reducible apply oI); (iterate 2 exact rfl); intro K hK) | (with_reducible (first | apply wI | apply wJ | apply wK))); try simp only [go_sem, simprocAttr, hb]) | fail | (with_reducible (first | apply oC | apply oJ | exact oK | apply wA | apply wB | apply wC hX hC | apply wD hX hC | apply wE hX hC hmix | apply wF hX hC hmix | apply wG | apply wH | apply And.intro)) | ((with_reducible refine oD ?_ ?_); first | fail | kernel_rfl) | ((with_reducible (first | apply oE | apply oF)); (iterate 3 exact rfl); all_goals (intro h; first | (exact absurd h (by decide)) | ((try simp only [go_sem, simprocAttr, hb] at h); (try with_reducible intro K hK); simp only [go_sem, simprocAttr, hb]))) | ((first | ((with_reducible apply wL); exact rfl) | ((with_reducible apply wM); exact rfl)); all_goals (try ((with_reducible intro h); first | (exact absurd h (by decide)) | (try simp only [go_sem, simprocAttr, hb] at h)))) | omega | ((first | fail); try simp only [go_sem, simprocAttr, hb]) | (intro h))
  simp only [go_sem, simprocAttr, hb, swapI_end hge]
theorem cloneIO_spec (ps : List Int) (hl : ps.length ≤ 1000000) :
  Spec Tryz.prog 47 (Args [.d (sI ps)]) [] (.ref 10000) [(10000, .own 3 1 (ps.map rI))] := by
 (refine Spec.introR (C := T.cfg [5, 7] []) (rs := [.t 2]) [(10000, 7)] (T.cfg_ok _ _) Tryz.func47 rfl rfl Tryz.ntmps47 Tryz.results47 (by simp [AObj.isNest]) (by simp [AObj.isNest]) (by first | (simp [look]; done) | (simp [asN]; done) | (intro l hl; simp only [asN]; repeat (rw [if_neg (fun e => by subst e; simp [look] at hl)]))) (by first | (simp [look]; done) | (simp [asN]; done) | (intro l hl; simp only [asN]; repeat (rw [if_neg (fun e => by subst e; simp [look] at hl)]))) (by kernel_rfl) ?_; intro X hX hP hC hXn hXm vals hA; refine ⟨_, by simp, hA, ?_⟩; have hmix : X.P.follows .mixedOrders = true := (by rw [hP]; exact T.mixed); clear hXn hXm)
 repeat' (first | (show awp _ .ret _ _; (try simp only [go_sem, simprocAttr]); refine awp_new hX 2 7 (.own 3 1 []) ?_ ?_ (by decide) ⟨3, 1, by decide, .inl rfl⟩ ?_; (iterate 2 (focus (simp only [go_sem, simprocAttr]; done))); simp only [go_sem, simprocAttr]) | ((first | ((with_reducible (first | apply oA | apply oB)); exact rfl; intro K hK) | (refine hK _ ?_; clear hK K) | ((with_reducible (first | apply oG | apply oH)); iterate 3 exact rfl) | ((with_reducible apply oI); (iterate 2 exact rfl); intro K hK) | (with_reducible (first | apply wI | apply wJ | apply wK))); try simp only [go_sem, simprocAttr]) | fail | (with_reducible (first | apply oC | apply oJ | exact oK | apply wA | apply wB | apply wC hX hC | apply wD hX hC | apply wE hX hC hmix | apply wF hX hC hmix | apply wG | apply wH | apply And.intro)) | ((with_reducible refine oD ?_ ?_); first | fail | kernel_rfl) | ((with_reducible (first | apply oE | apply oF)); (iterate 3 exact rfl); all_goals (intro h; first | (exact absurd h (by decide)) | ((try simp only [go_sem, simprocAttr] at h); (try with_reducible intro K hK); simp only [go_sem, simprocAttr]))) | ((first | ((with_reducible apply wL); exact rfl) | ((with_reducible apply wM); exact rfl)); all_goals (try ((with_reducible intro h); first | (exact absurd h (by decide)) | (try simp only [go_sem, simprocAttr] at h)))) | omega | ((first | fail); try simp only [go_sem, simprocAttr]) | (intro h))
 exact h.symm
theorem mirror_spec (p : Pl) (h1 : p.ord.length ≤ 1000) (h2 : p.outs.length ≤ 1000) (h3 : ∀ l ∈ p.outs, l.length ≤ 1000) : Spec Tryz.prog 20 (Args [ePl p]) [] (ePl (mirP p)) [] := by
 have hCi := cloneI_spec p.ord (by omega)
 (refine Spec.intro (C := T.cfg [] []) (rs := [.c 2 28]) (T.cfg_ok _ _) Tryz.func20 rfl rfl Tryz.ntmps20 Tryz.results20 (by simp [AObj.isNest]) (by simp [AObj.isNest]) (by kernel_rfl) ?_; intro X hX hP hC hXn hXm vals hA; refine ⟨_, by simp, hA, ?_⟩; have hmix : X.P.follows .mixedOrders = true := (by rw [hP]; exact T.mixed); clear hXn hXm)
 repeat' (first | fail | ((first | ((with_reducible (first | apply oA | apply oB)); exact rfl; intro K hK) | (refine hK _ ?_; clear hK K) | ((with_reducible (first | apply oG | apply oH)); iterate 3 exact rfl) | ((with_reducible apply oI); (iterate 2 exact rfl); intro K hK) | (with_reducible (first | apply wI | apply wJ | apply wK))); try simp only [go_sem, simprocAttr]) | (show awp _ (.seq (.region 2 _ _) _) _ _; (refine awp_newB hX 3 1 200 (.tip 25 1 []) rfl rfl rfl (by simp only [go_sem, simprocAttr]) (by decide) (by simp [go_sem, simprocAttr]) ⟨25, 1, by decide, .inr rfl⟩ ?_; simp only [LA.app, ASt.put, ASt.kill, subT, rmk, putM, rml, kl, AV.sub, AV.subs, AObj.sub, List.set_cons_zero, List.set_cons_succ, go_sem, simprocAttr])) | (with_reducible (first | apply oC | apply oJ | exact oK | apply wA | apply wB | apply wC hX hC | apply wD hX hC | apply wE hX hC hmix | apply wF hX hC hmix | apply wG | apply wH | apply And.intro)) | ((with_reducible refine oD ?_ ?_); first | fail | kernel_rfl) | ((with_reducible (first | apply oE | apply oF)); (iterate 3 exact rfl); all_goals (intro h; first | (exact absurd h (by decide)) | ((try simp only [go_sem, simprocAttr] at h); (try with_reducible intro K hK); simp only [go_sem, simprocAttr]))) | ((first | ((with_reducible apply wL); exact rfl) | ((with_reducible apply wM); exact rfl)); all_goals (try ((with_reducible intro h); first | (exact absurd h (by decide)) | (try simp only [go_sem, simprocAttr] at h)))) | omega | ((first | first | refine acall_simple hX hC hP (hCi) rfl rfl rfl (by simp only [go_sem, simprocAttr]) rfl ?_); try simp only [go_sem, simprocAttr]) | (intro h))
 refine awp_loopP (fun x : Nat => x ≤ p.outs.length) (fun x => ⟨[(2, .ptr 2 0), (3, .ptr 3 0), (11, .d (.sl 1 (vI p.outs))), (12, eN p.outs.length), (13, eN x)], [(2, .box [.nil 3, .nil 25]), (3, .box [.d (sI p.ord), .ref 200]), (200, .tip 25 1 (vI ((p.outs.take x).map List.reverse)))]⟩) (fun x => p.outs.length - x) 0 (by omega) ?_ ?_
 ·refine Le.of ?_ ?_ <;> simp [go_sem, simprocAttr, vI]
 rintro x hx
 rcases Nat.lt_or_ge x p.outs.length with hxl | hxg
 ·have hb : decide ((x : Int) < (p.outs.length : Int)) = true := decide_eq_true (by omega)
  have hv := vI_getD hxl
  have hll := h3 _ (getD_memX (d := []) hxl)
  have hnx : vI ((p.outs.take (x + 1)).map List.reverse) = vI ((p.outs.take x).map List.reverse) ++ [[sI (p.outs.getD x []).reverse]] := by
   rw [take_nextX (d := []) hxl]; simp [vI]
  have htl : ((p.outs.take x).map List.reverse).length = x := by rw [List.length_map, List.length_take]; omega
  generalize p.outs.getD x [] = l at hv hll hnx
  have hCl := cloneIO_spec l (by omega)
  have hRv := reverseI_spec l (by omega)
  repeat' (first | fail | ((first | ((with_reducible (first | apply oA | apply oB)); exact rfl; intro K hK) | (refine hK _ ?_; clear hK K) | ((with_reducible (first | apply oG | apply oH)); iterate 3 exact rfl) | ((with_reducible apply oI); (iterate 2 exact rfl); intro K hK) | (with_reducible (first | apply wI | apply wJ | apply wK))); try simp only [go_sem, simprocAttr, hb, hv, htl]) | (show awp _ (.seq (.region 7 _ _) _) _ _; (refine awp_frz hX 18 rfl (.inl rfl) ?_; simp only [go_sem, simprocAttr, hb, hv, htl])) | (show awp _ (.region 7 _ _) _ _; (refine awp_frz hX 18 rfl (.inl rfl) ?_; simp only [go_sem, simprocAttr, hb, hv, htl])) | (show awp _ (.region 8 _ _) _ _; (refine awp_mvB hX 3 1 25 200 rfl rfl rfl (by first | exact .inl rfl | exact .inr rfl) (by decide) (by decide) ?_; simp only [LA.app, ASt.put, ASt.kill, subT, rmk, putM, rml, kl, AV.sub, AV.subs, AObj.sub, List.set_cons_zero, List.set_cons_succ, go_sem, simprocAttr, hb, hv, htl])) | (with_reducible (first | apply oC | apply oJ | exact oK | apply wA | apply wB | apply wC hX hC | apply wD hX hC | apply wE hX hC hmix | apply wF hX hC hmix | apply wG | apply wH | apply And.intro)) | ((with_reducible refine oD ?_ ?_); first | fail | kernel_rfl) | ((with_reducible (first | apply oE | apply oF)); (iterate 3 exact rfl); all_goals (intro h; first | (exact absurd h (by decide)) | ((try simp only [go_sem, simprocAttr, hb, hv, htl] at h); (try with_reducible intro K hK); simp only [go_sem, simprocAttr, hb, hv, htl]))) | ((first | ((with_reducible apply wL); exact rfl) | ((with_reducible apply wM); exact rfl)); all_goals (try ((with_reducible intro h); first | (exact absurd h (by decide)) | (try simp only [go_sem, simprocAttr, hb, hv, htl] at h)))) | omega | ((first | first | (refine acall_lend1o hX hC hP 18 (hCl) rfl rfl rfl ?_ ?_ (by first | exact ⟨_, _, _, rfl, flatI⟩ | exact ⟨_, _, _, rfl, flatT⟩) rfl (by decide) ?_; (iterate 2 (focus (simp only [go_sem, simprocAttr, hb, hv, htl]; done))); simp only [go_sem, simprocAttr, hb, hv, htl]) | (refine acall_gen hX hC hP [(10000, 18)] (hRv) rfl rfl rfl ?_ ?_ ?_ ?_ ?_ ?_ ?_ ?_ ?_ ?_ ?_ ?_ ?_ ?_; (focus (simp only [go_sem, simprocAttr, hb, hv, htl]; done)); (iterate 12 (focus (simp [go_sem, simprocAttr, hb, hv, htl]; done))); simp only [go_sem, simprocAttr, hb, hv, htl, List.map_cons, List.map_nil])); try simp only [go_sem, simprocAttr, hb, hv, htl]) | (intro h))
  refine ⟨x + 1, by omega, ?_, by omega⟩
  rw [hnx]
  refine Le.of ?_ ?_ <;> simp [go_sem, simprocAttr, hb, hv, htl]
 have hb : decide ((x : Int) < (p.outs.length : Int)) = false := decide_eq_false (by omega)
 obtain rfl : x = p.outs.length := by omega
 rw [List.take_length]
 repeat' (first | fail | ((first | ((with_reducible (first | apply oA | apply oB)); exact rfl; intro K hK) | (refine hK _ ?_; clear hK K) | ((with_reducible (first | apply oG | apply oH)); iterate 3 exact rfl) | ((with_reducible apply oI); (iterate 2 exact rfl); intro K hK) | (with_reducible (first | apply wI | apply wJ | apply wK))); try simp only [go_sem, simprocAttr, hb, mirP]) | fail | (with_reducible (first | apply oC | apply oJ | exact oK | apply wA | apply wB | apply wC hX hC | apply wD hX hC | apply wE hX hC hmix | apply wF hX hC hmix | apply wG | apply wH | apply And.intro)) | ((with_reducible refine oD ?_ ?_); first | fail | kernel_rfl) | ((with_reducible (first | apply oE | apply oF)); (iterate 3 exact rfl); all_goals (intro h; first | (exact absurd h (by decide)) | ((try simp only [go_sem, simprocAttr, hb, mirP] at h); (try with_reducible intro K hK); simp only [go_sem, simprocAttr, hb, mirP]))) | ((first | ((with_reducible apply wL); exact rfl) | ((with_reducible apply wM); exact rfl)); all_goals (try ((with_reducible intro h); first | (exact absurd h (by decide)) | (try simp only [go_sem, simprocAttr, hb, mirP] at h)))) | omega | ((first | fail); try simp only [go_sem, simprocAttr, hb, mirP]) | (intro h))
end Go.Ab
end
section
namespace Go.Ab
open Go.Proofs
attribute [local congr] ACall.congr
set_option maxRecDepth 10000
set_option maxHeartbeats 8000000
def swapT (l : List It) (k : Nat) : List It := (List.range l.length).map fun p => if p < k ∨ l.length - 1 < p + k then l.getD (l.length - 1 - p) (0, 0, 0) else l.getD p (0, 0, 0)
theorem swapT_length {l : List It} {k : Nat} : (swapT l k).length = l.length := by simp [swapT]
theorem swapT_get {l : List It} {k p : Nat} (h : p < l.length) : (swapT l k)[p]? = some (if p < k ∨ l.length - 1 < p + k then l.getD (l.length - 1 - p) (0, 0, 0) else l.getD p (0, 0, 0)) := by
 simp [swapT, List.getElem?_range h]
theorem swapT_getD {l : List It} {k p : Nat} (h : p < l.length) (d : It) : (swapT l k).getD p d = if p < k ∨ l.length - 1 < p + k then l.getD (l.length - 1 - p) (0, 0, 0) else l.getD p (0, 0, 0) := by
 rw [List.getD_eq_getElem?_getD, swapT_get h]; rfl
theorem swapT_zero {l : List It} : swapT l 0 = l := by
 refine List.ext_getElem? fun i => ?_
 by_cases hi : i < l.length
 ·rw [swapT_get hi, if_neg (by omega), List.getD_eq_getElem?_getD, List.getElem?_eq_getElem hi]; rfl
 ·rw [List.getElem?_eq_none (by rw [swapT_length]; omega), List.getElem?_eq_none (by omega)]
theorem swapT_end {l : List It} {k : Nat} (h : l.length ≤ 2 * k + 1) : swapT l k = l.reverse := by
 refine List.ext_getElem? fun i => ?_
 by_cases hi : i < l.length
 ·rw [swapT_get hi, List.getElem?_reverse hi]
  split
  ·rw [List.getD_eq_getElem?_getD, List.getElem?_eq_getElem (by omega)]; rfl
  ·have : i = l.length - 1 - i := by omega
   rw [← this, List.getD_eq_getElem?_getD, List.getElem?_eq_getElem hi]; rfl
 ·rw [List.getElem?_eq_none (by rw [swapT_length]; omega), List.getElem?_eq_none (by rw [List.length_reverse]; omega)]
theorem swapT_next {l : List It} {k : Nat} (h : k < l.length - 1 - k) : ((swapT l k).set k ((swapT l k).getD (l.length - 1 - k) (0, 0, 0))).set (l.length - 1 - k) ((swapT l k).getD k (0, 0, 0)) = swapT l (k + 1) := by
 refine List.ext_getElem? fun i => ?_
 rw [List.getElem?_set, List.length_set, swapT_length, List.getElem?_set, swapT_length]
 by_cases hi : i < l.length
 ·rw [swapT_get hi, swapT_get hi, swapT_getD (by omega), swapT_getD (by omega)]
  by_cases h1 : l.length - 1 - k = i
  ·rw [if_pos h1, if_pos (by omega), if_neg (by omega), if_pos (by omega)]
   congr 2; omega
  ·rw [if_neg h1]
   by_cases h2 : k = i
   ·rw [if_pos h2, if_pos (by omega), if_neg (by omega), if_pos (by omega)]
    congr 2; omega
   ·rw [if_neg h2]
    congr 1
    by_cases h3 : i < k ∨ l.length - 1 < i + k
    ·rw [if_pos h3, if_pos (by omega)]
    ·rw [if_neg h3, if_neg (by omega)]
 ·rw [List.getElem?_eq_none (by rw [swapT_length]; omega), List.getElem?_eq_none (by rw [swapT_length]; omega), if_neg (by omega), if_neg (by omega)]
theorem set_rT (l : List It) (k : Nat) (t : It) : (l.map rT).set k [.sc (.int .i64 t.1), .sc (.int .i64 t.2.1), .sc (.int .i64 t.2.2)] = (l.set k t).map rT := by
 rw [List.map_set]; rfl
theorem reverseT_spec (l : List It) (hl : l.length ≤ 1000000) : Spec Tryz.prog 27 (Args [.ref 10000]) [(10000, .own 62 3 (l.map rT))] (.tup []) [(10000, .own 62 3 (l.reverse.map rT))] := by
 (refine Spec.intro (C := T.cfg [] []) (rs := []) (T.cfg_ok _ _) Tryz.func27 rfl rfl Tryz.ntmps27 Tryz.results27 (by simp [AObj.isNest]) (by simp [AObj.isNest]) (by kernel_rfl) ?_; intro X hX hP hC hXn hXm vals hA; refine ⟨_, by simp, hA, ?_⟩; have hmix : X.P.follows .mixedOrders = true := (by rw [hP]; exact T.mixed); clear hXn hXm)
 repeat' (first | fail | ((first | ((with_reducible (first | apply oA | apply oB)); exact rfl; intro K hK) | (refine hK _ ?_; clear hK K) | ((with_reducible (first | apply oG | apply oH)); iterate 3 exact rfl) | ((with_reducible apply oI); (iterate 2 exact rfl); intro K hK) | (with_reducible (first | apply wI | apply wJ | apply wK))); try simp only [go_sem, simprocAttr]) | fail | (with_reducible (first | apply oC | apply oJ | exact oK | apply wA | apply wB | apply wC hX hC | apply wD hX hC | apply wE hX hC hmix | apply wF hX hC hmix | apply wG | apply wH | apply And.intro)) | ((with_reducible refine oD ?_ ?_); first | fail | kernel_rfl) | ((with_reducible (first | apply oE | apply oF)); (iterate 3 exact rfl); all_goals (intro h; first | (exact absurd h (by decide)) | ((try simp only [go_sem, simprocAttr] at h); (try with_reducible intro K hK); simp only [go_sem, simprocAttr]))) | ((first | ((with_reducible apply wL); exact rfl) | ((with_reducible apply wM); exact rfl)); all_goals (try ((with_reducible intro h); first | (exact absurd h (by decide)) | (try simp only [go_sem, simprocAttr] at h)))) | omega | ((first | fail); try simp only [go_sem, simprocAttr]) | (intro h))
 refine awp_loopP (fun k : Nat => 2 * k ≤ l.length + 1) (fun k => ⟨[(0, .ref 10000), (2, eN k), (3, eN ((l.length : Int) - 1 - k))], [(10000, .own 62 3 ((swapT l k).map rT))]⟩) (fun k => l.length + 1 - k) 0 (by omega) ?_ ?_
 ·refine Le.of ?_ ?_ <;> simp [go_sem, simprocAttr, swapT_zero]
 rintro k hk
 rcases Nat.lt_or_ge (2 * k + 1) l.length with hlt | hge
 ·have hb : decide ((k : Int) < (l.length : Int) - 1 - (k : Int)) = true := decide_eq_true (by omega)
  have ht : ((l.length : Int) - 1 - (k : Int)).toNat = l.length - 1 - k := by omega
  repeat' (first | fail | ((first | ((with_reducible (first | apply oA | apply oB)); exact rfl; intro K hK) | (refine hK _ ?_; clear hK K) | ((with_reducible (first | apply oG | apply oH)); iterate 3 exact rfl) | ((with_reducible apply oI); (iterate 2 exact rfl); intro K hK) | (with_reducible (first | apply wI | apply wJ | apply wK))); try simp only [go_sem, simprocAttr, hb, ht, swapT_length, set_rT, List.length_cons, List.length_nil, List.drop_succ_cons, List.drop_zero, List.drop_nil]) | fail | (with_reducible (first | apply oC | apply oJ | exact oK | apply wA | apply wB | apply wC hX hC | apply wD hX hC | apply wE hX hC hmix | apply wF hX hC hmix | apply wG | apply wH | apply And.intro)) | ((with_reducible refine oD ?_ ?_); first | fail | kernel_rfl) | ((with_reducible (first | apply oE | apply oF)); (iterate 3 exact rfl); all_goals (intro h; first | (exact absurd h (by decide)) | ((try simp only [go_sem, simprocAttr, hb, ht, swapT_length, set_rT, List.length_cons, List.length_nil, List.drop_succ_cons, List.drop_zero, List.drop_nil] at h); (try with_reducible intro K hK); simp only [go_sem, simprocAttr, hb, ht, swapT_length, set_rT, List.length_cons, List.length_nil, List.drop_succ_cons, List.drop_zero, List.drop_nil]))) | ((first | ((with_reducible apply wL); exact rfl) | ((with_reducible apply wM); exact rfl)); all_goals (try ((with_reducible intro h); first | (exact absurd h (by decide)) | (try simp only [go_sem, simprocAttr, hb, ht, swapT_length, set_rT, List.length_cons, List.length_nil, List.drop_succ_cons, List.drop_zero, List.drop_nil] at h)))) | omega | ((first | fail); try simp only [go_sem, simprocAttr, hb, ht, swapT_length, set_rT, List.length_cons, List.length_nil, List.drop_succ_cons, List.drop_zero, List.drop_nil]) | (intro h))
  refine ⟨k + 1, by omega, ?_, by omega⟩
  refine Le.of ?_ ?_ <;> simp [go_sem, simprocAttr]
  ·omega
  ·rw [← swapT_next (by omega), List.map_set, List.map_set]
   simp only [List.getD_eq_getElem?_getD]
   rfl
 ·have hb : decide ((k : Int) < (l.length : Int) - 1 - (k : Int)) = false := decide_eq_false (by omega)
  repeat' (first | fail | ((first | ((with_reducible (first | apply oA | apply oB)); exact rfl; intro K hK) | (refine hK _ ?_; clear hK K) | ((with_reducible (first | apply oG | apply oH)); iterate 3 exact rfl) | ((with_reducible apply oI); (iterate 2 exact rfl); intro K hK) | (with_reducible (first | apply wI | apply wJ | apply wK))); try simp only [go_sem, simprocAttr, hb]) | fail | (with_reducible (first | apply oC | apply oJ | exact oK | apply wA | apply wB | apply wC hX hC | apply wD hX hC | apply wE hX hC hmix | apply wF hX hC hmix | apply wG | apply wH | apply And.intro)) | ((with_reducible refine oD ?_ ?_); first | fail | kernel_rfl) | ((with_reducible (first | apply oE | apply oF)); (iterate 3 exact rfl); all_goals (intro h; first | (exact absurd h (by decide)) | ((try simp only [go_sem, simprocAttr, hb] at h); (try with_reducible intro K hK); simp only [go_sem, simprocAttr, hb]))) | ((first | ((with_reducible apply wL); exact rfl) | ((with_reducible apply wM); exact rfl)); all_goals (try ((with_reducible intro h); first | (exact absurd h (by decide)) | (try simp only [go_sem, simprocAttr, hb] at h)))) | omega | ((first | fail); try simp only [go_sem, simprocAttr, hb]) | (intro h))
  simp only [go_sem, simprocAttr, hb, swapT_end hge]
theorem cloneO_spec (ps : List It) (hl : ps.length ≤ 1000000) :
  Spec Tryz.prog 90 (Args [.d (sT ps)]) [] (.ref 10000) [(10000, .own 62 3 (ps.map rT))] := by
 (refine Spec.introR (C := T.cfg [5, 7] []) (rs := [.t 2]) [(10000, 7)] (T.cfg_ok _ _) Tryz.func90 rfl rfl Tryz.ntmps90 Tryz.results90 (by simp [AObj.isNest]) (by simp [AObj.isNest]) (by first | (simp [look]; done) | (simp [asN]; done) | (intro l hl; simp only [asN]; repeat (rw [if_neg (fun e => by subst e; simp [look] at hl)]))) (by first | (simp [look]; done) | (simp [asN]; done) | (intro l hl; simp only [asN]; repeat (rw [if_neg (fun e => by subst e; simp [look] at hl)]))) (by kernel_rfl) ?_; intro X hX hP hC hXn hXm vals hA; refine ⟨_, by simp, hA, ?_⟩; have hmix : X.P.follows .mixedOrders = true := (by rw [hP]; exact T.mixed); clear hXn hXm)
 repeat' (first | (show awp _ .ret _ _; (try simp only [go_sem, simprocAttr]); refine awp_new hX 2 7 (.own 62 3 []) ?_ ?_ (by decide) ⟨62, 3, by decide, .inl rfl⟩ ?_; (iterate 2 (focus (simp only [go_sem, simprocAttr]; done))); simp only [go_sem, simprocAttr]) | ((first | ((with_reducible (first | apply oA | apply oB)); exact rfl; intro K hK) | (refine hK _ ?_; clear hK K) | ((with_reducible (first | apply oG | apply oH)); iterate 3 exact rfl) | ((with_reducible apply oI); (iterate 2 exact rfl); intro K hK) | (with_reducible (first | apply wI | apply wJ | apply wK))); try simp only [go_sem, simprocAttr]) | fail | (with_reducible (first | apply oC | apply oJ | exact oK | apply wA | apply wB | apply wC hX hC | apply wD hX hC | apply wE hX hC hmix | apply wF hX hC hmix | apply wG | apply wH | apply And.intro)) | ((with_reducible refine oD ?_ ?_); first | fail | kernel_rfl) | ((with_reducible (first | apply oE | apply oF)); (iterate 3 exact rfl); all_goals (intro h; first | (exact absurd h (by decide)) | ((try simp only [go_sem, simprocAttr] at h); (try with_reducible intro K hK); simp only [go_sem, simprocAttr]))) | ((first | ((with_reducible apply wL); exact rfl) | ((with_reducible apply wM); exact rfl)); all_goals (try ((with_reducible intro h); first | (exact absurd h (by decide)) | (try simp only [go_sem, simprocAttr] at h)))) | omega | ((first | fail); try simp only [go_sem, simprocAttr]) | (intro h))
 exact h.symm
theorem rowO_spec (ds : List D) (row : List It) (hr : row.length ≤ 1000000) : Spec Tryz.prog 54 (Args [.d (.pt (sT row :: ds))]) [] (.ref 10000) [(10000, .own 62 3 (row.map rT))] := by
 (refine Spec.introR (C := T.cfg [] []) (rs := [.t 2]) [(10000, 7)] (T.cfg_ok _ _) Tryz.func54 rfl rfl Tryz.ntmps54 Tryz.results54 (by simp [AObj.isNest]) (by simp [AObj.isNest]) (by first | (simp [look]; done) | (simp [asN]; done) | (intro l hl; simp only [asN]; repeat (rw [if_neg (fun e => by subst e; simp [look] at hl)]))) (by first | (simp [look]; done) | (simp [asN]; done) | (intro l hl; simp only [asN]; repeat (rw [if_neg (fun e => by subst e; simp [look] at hl)]))) (by kernel_rfl) ?_; intro X hX hP hC hXn hXm vals hA; refine ⟨_, by simp, hA, ?_⟩; have hmix : X.P.follows .mixedOrders = true := (by rw [hP]; exact T.mixed); clear hXn hXm)
 repeat' (first | fail | ((first | ((with_reducible (first | apply oA | apply oB)); exact rfl; intro K hK) | (refine hK _ ?_; clear hK K) | ((with_reducible (first | apply oG | apply oH)); iterate 3 exact rfl) | ((with_reducible apply oI); (iterate 2 exact rfl); intro K hK) | (with_reducible (first | apply wI | apply wJ | apply wK))); try simp only [go_sem, simprocAttr]) | fail | (with_reducible (first | apply oC | apply oJ | exact oK | apply wA | apply wB | apply wC hX hC | apply wD hX hC | apply wE hX hC hmix | apply wF hX hC hmix | apply wG | apply wH | apply And.intro)) | ((with_reducible refine oD ?_ ?_); first | fail | kernel_rfl) | ((with_reducible (first | apply oE | apply oF)); (iterate 3 exact rfl); all_goals (intro h; first | (exact absurd h (by decide)) | ((try simp only [go_sem, simprocAttr] at h); (try with_reducible intro K hK); simp only [go_sem, simprocAttr]))) | ((first | ((with_reducible apply wL); exact rfl) | ((with_reducible apply wM); exact rfl)); all_goals (try ((with_reducible intro h); first | (exact absurd h (by decide)) | (try simp only [go_sem, simprocAttr] at h)))) | omega | ((first | (refine acall_gen hX hC hP [(10000, 7)] (cloneO_spec row hr) rfl rfl rfl ?_ ?_ ?_ ?_ ?_ ?_ ?_ ?_ ?_ ?_ ?_ ?_ ?_ ?_; (focus (simp only [go_sem, simprocAttr]; done)); (iterate 12 (focus (simp [go_sem, simprocAttr]; done))); simp only [go_sem, simprocAttr, List.map_cons, List.map_nil])); try simp only [go_sem, simprocAttr]) | (intro h))
def headI (rs : List Int) (l : List It) : Int := match l.find? (fun t => decide (t.2.2 ∈ rs)) with
 | some t => t.2.2
 | none => rs.headD (-1)
theorem pick_spec (rs : List Int) (l : List It) (hr : rs ≠ []) (hrl : rs.length ≤ 1000000) (hl : l.length ≤ 1000000) : Spec Tryz.prog 57 (Args [.d (sI rs), .d (sT l)]) [] (eN (headI rs l)) [] := by
 generalize hH : headI rs l = H
 (refine Spec.intro (C := T.cfg [] []) (rs := [.t 4]) (T.cfg_ok _ _) Tryz.func57 rfl rfl Tryz.ntmps57 Tryz.results57 (by simp [AObj.isNest]) (by simp [AObj.isNest]) (by kernel_rfl) ?_; intro X hX hP hC hXn hXm vals hA; refine ⟨_, by simp, hA, ?_⟩; have hmix : X.P.follows .mixedOrders = true := (by rw [hP]; exact T.mixed); clear hXn hXm)
 repeat' (first | fail | ((first | ((with_reducible (first | apply oA | apply oB)); exact rfl; intro K hK) | (refine hK _ ?_; clear hK K) | ((with_reducible (first | apply oG | apply oH)); iterate 3 exact rfl) | ((with_reducible apply oI); (iterate 2 exact rfl); intro K hK) | (with_reducible (first | apply wI | apply wJ | apply wK))); try simp only [go_sem, simprocAttr]) | fail | (with_reducible (first | apply oC | apply oJ | exact oK | apply wA | apply wB | apply wC hX hC | apply wD hX hC | apply wE hX hC hmix | apply wF hX hC hmix | apply wG | apply wH | apply And.intro)) | ((with_reducible refine oD ?_ ?_); first | fail | kernel_rfl) | ((with_reducible (first | apply oE | apply oF)); (iterate 3 exact rfl); all_goals (intro h; first | (exact absurd h (by decide)) | ((try simp only [go_sem, simprocAttr] at h); (try with_reducible intro K hK); simp only [go_sem, simprocAttr]))) | ((first | ((with_reducible apply wL); exact rfl) | ((with_reducible apply wM); exact rfl)); all_goals (try ((with_reducible intro h); first | (exact absurd h (by decide)) | (try simp only [go_sem, simprocAttr] at h)))) | omega | ((first | fail); try simp only [go_sem, simprocAttr]) | (intro h))
 refine awp_loopP (fun k : Nat => k ≤ l.length ∧ ∀ j, j < k → (l.getD j (0, 0, 0)).2.2 ∉ rs) (fun k => ⟨[(0, .d (sI rs)), (7, .d (sT l)), (8, eN l.length), (9, eN k)], []⟩) (fun k => l.length - k) 0 (by simp) ?_ ?_
 ·(refine Le.of ?_ ?_ <;> simp [go_sem, simprocAttr])
 rintro k ⟨hk, hg⟩
 rcases Nat.lt_or_ge k l.length with hkl | hkg
 ·have hb : decide ((k : Int) < (l.length : Int)) = true := decide_eq_true (by omega)
  by_cases h1 : (l.getD k (0, 0, 0)).2.2 ∈ rs
  ·have hb1 : decide ((l.getD k (0, 0, 0)).2.2 ∈ rs) = true := decide_eq_true h1
   have : (l.getD k (0, 0, 0)).2.2 = H := by
    rw [← hH]; unfold headI
    have : l.find? (fun t => decide (t.2.2 ∈ rs)) = some (l.getD k (0, 0, 0)) := by
     rw [List.find?_eq_some_iff_getElem]
     refine ⟨hb1, k, hkl, by rw [List.getD_eq_getElem?_getD, List.getElem?_eq_getElem hkl]; rfl, fun j hj => ?_⟩
     have := hg j hj
     rw [List.getD_eq_getElem?_getD, List.getElem?_eq_getElem (by omega)] at this
     simpa using this
    rw [this]
   have hb2 : decide (H ∈ rs) = true := by rw [← this]; exact hb1
   repeat' (first | fail | ((first | ((with_reducible (first | apply oA | apply oB)); exact rfl; intro K hK) | (refine hK _ ?_; clear hK K) | ((with_reducible (first | apply oG | apply oH)); iterate 3 exact rfl) | ((with_reducible apply oI); (iterate 2 exact rfl); intro K hK) | (with_reducible (first | apply wI | apply wJ | apply wK))); try simp only [go_sem, simprocAttr, hb, hb2, this]) | fail | (with_reducible (first | apply oC | apply oJ | exact oK | apply wA | apply wB | apply wC hX hC | apply wD hX hC | apply wE hX hC hmix | apply wF hX hC hmix | apply wG | apply wH | apply And.intro)) | ((with_reducible refine oD ?_ ?_); first | fail | kernel_rfl) | ((with_reducible (first | apply oE | apply oF)); (iterate 3 exact rfl); all_goals (intro h; first | (exact absurd h (by decide)) | ((try simp only [go_sem, simprocAttr, hb, hb2, this] at h); (try with_reducible intro K hK); simp only [go_sem, simprocAttr, hb, hb2, this]))) | ((first | ((with_reducible apply wL); exact rfl) | ((with_reducible apply wM); exact rfl)); all_goals (try ((with_reducible intro h); first | (exact absurd h (by decide)) | (try simp only [go_sem, simprocAttr, hb, hb2, this] at h)))) | omega | ((first | first | refine acall_simple hX hC hP (containsI_spec rs H (by omega)) rfl rfl rfl (by simp only [go_sem, simprocAttr, hb, hb2, this]) rfl ?_); try simp only [go_sem, simprocAttr, hb, hb2, this]) | (intro h))
  ·have hb1 : decide ((l.getD k (0, 0, 0)).2.2 ∈ rs) = false := decide_eq_false h1
   repeat' (first | fail | ((first | ((with_reducible (first | apply oA | apply oB)); exact rfl; intro K hK) | (refine hK _ ?_; clear hK K) | ((with_reducible (first | apply oG | apply oH)); iterate 3 exact rfl) | ((with_reducible apply oI); (iterate 2 exact rfl); intro K hK) | (with_reducible (first | apply wI | apply wJ | apply wK))); try simp only [go_sem, simprocAttr, hb, hb1]) | fail | (with_reducible (first | apply oC | apply oJ | exact oK | apply wA | apply wB | apply wC hX hC | apply wD hX hC | apply wE hX hC hmix | apply wF hX hC hmix | apply wG | apply wH | apply And.intro)) | ((with_reducible refine oD ?_ ?_); first | fail | kernel_rfl) | ((with_reducible (first | apply oE | apply oF)); (iterate 3 exact rfl); all_goals (intro h; first | (exact absurd h (by decide)) | ((try simp only [go_sem, simprocAttr, hb, hb1] at h); (try with_reducible intro K hK); simp only [go_sem, simprocAttr, hb, hb1]))) | ((first | ((with_reducible apply wL); exact rfl) | ((with_reducible apply wM); exact rfl)); all_goals (try ((with_reducible intro h); first | (exact absurd h (by decide)) | (try simp only [go_sem, simprocAttr, hb, hb1] at h)))) | omega | ((first | first | refine acall_simple hX hC hP (containsI_spec rs (l.getD k (0, 0, 0)).2.2 (by omega)) rfl rfl rfl (by simp only [go_sem, simprocAttr, hb, hb1]) rfl ?_); try simp only [go_sem, simprocAttr, hb, hb1]) | (intro h))
   refine ⟨k + 1, ⟨by omega, fun j hj => ?_⟩, ?_, by omega⟩
   ·by_cases e : j = k
    ·subst e; exact h1
    ·exact hg j (by omega)
   ·(refine Le.of ?_ ?_ <;> simp [go_sem, simprocAttr, hb, hb1])
 ·have hb : decide ((k : Int) < (l.length : Int)) = false := decide_eq_false (by omega)
  have hpos := List.length_pos_iff.2 hr
  have : rs.getD 0 0 = H := by
   rw [← hH]; unfold headI
   have : l.find? (fun t => decide (t.2.2 ∈ rs)) = none := by
    rw [List.find?_eq_none]
    intro t ht
    obtain ⟨j, hj, rfl⟩ := List.mem_iff_getElem.1 ht
    have := hg j (by omega)
    rw [List.getD_eq_getElem?_getD, List.getElem?_eq_getElem hj] at this
    simpa using this
   rw [this]
   match rs, hr with
   | a :: _, _ => rfl
  repeat' (first | fail | ((first | ((with_reducible (first | apply oA | apply oB)); exact rfl; intro K hK) | (refine hK _ ?_; clear hK K) | ((with_reducible (first | apply oG | apply oH)); iterate 3 exact rfl) | ((with_reducible apply oI); (iterate 2 exact rfl); intro K hK) | (with_reducible (first | apply wI | apply wJ | apply wK))); try simp only [go_sem, simprocAttr, hb, this]) | fail | (with_reducible (first | apply oC | apply oJ | exact oK | apply wA | apply wB | apply wC hX hC | apply wD hX hC | apply wE hX hC hmix | apply wF hX hC hmix | apply wG | apply wH | apply And.intro)) | ((with_reducible refine oD ?_ ?_); first | fail | kernel_rfl) | ((with_reducible (first | apply oE | apply oF)); (iterate 3 exact rfl); all_goals (intro h; first | (exact absurd h (by decide)) | ((try simp only [go_sem, simprocAttr, hb, this] at h); (try with_reducible intro K hK); simp only [go_sem, simprocAttr, hb, this]))) | ((first | ((with_reducible apply wL); exact rfl) | ((with_reducible apply wM); exact rfl)); all_goals (try ((with_reducible intro h); first | (exact absurd h (by decide)) | (try simp only [go_sem, simprocAttr, hb, this] at h)))) | omega | ((first | fail); try simp only [go_sem, simprocAttr, hb, this]) | (intro h))
end Go.Ab
end
section
namespace Go.Ab
open Go.Proofs
attribute [local congr] ACall.congr
set_option maxRecDepth 10000
set_option maxHeartbeats 8000000
def buO (n : Int) (es : List Edge) (ord : List Int) (O : List (List Int)) : List (Nat × AObj) := [(10000, .box [eN n, .ref 10001, .ref 10002, .ref 10003]), (10001, .tip 51 2 (es.map rE)), (10002, .tip 3 1 (ord.map rI)), (10003, .own 25 1 (vI O))]
def buN (n : Int) (es : List Edge) (ord : List Int) (O : List (List Int)) : List (Nat × AObj) := [(10000, .box [eN n, .ref 10004, .ref 10002, .ref 10003]), (10004, .tip 51 2 (es.map rE)), (10002, .tip 3 1 (ord.map rI)), (10003, .own 25 1 (vI O))]
def layE (x : Int) (items : List It) : List Edge := (loose items).map fun v => (v, x)
end Go.Ab
end
section
namespace Go.Ab
open Go.Proofs
attribute [local congr] ACall.congr
set_option maxRecDepth 10000
set_option maxHeartbeats 16000000
def pz : Pl := ⟨[], []⟩
def augR (b : Bool) (g : Gr) (p : Pl) : Gr × Pl × Int :=
 if (runRes b g p).2.1 ≠ 0 then (gz, pz, 1) else if 64 < (augG g p).n ∨ 128 < (augG g p).es.length then (gz, pz, 10) else (augG g p, augP g p, 0)
theorem runRes_ok {b : Bool} {g : Gr} {p : Pl} (hr : b = true ↔ (chkG g).1 = 0 ∧ PlanOk g p) (h : (runRes b g p).2.1 = 0) : RunsP g p ∧ runRes b g p = ((endR g p g.n.toNat, lastR g p), (0, 0)) := by
 cases b with
 | false => simp [runRes] at h
 | true =>
  have hR : runRes true g p = match stopK g p g.n.toNat with
   | some i => (([], []), (3, (i : Int)))
   | none => ((endR g p g.n.toNat, (fK g p g.n.toNat).row), (0, 0)) := rfl
  cases hs : stopK g p g.n.toNat with
  | some i => rw [hR, hs] at h; simp at h
  | none =>
   obtain ⟨h1, h2⟩ := hr.1 rfl
   exact ⟨⟨h1, h2, stopK_none.1 hs⟩, by rw [hR, hs]; rfl⟩
end Go.Ab
end
section
namespace Go.Ab
open Go.Proofs
attribute [local congr] ACall.congr
set_option maxRecDepth 10000
set_option maxHeartbeats 16000000
def docK (p : Pl) (x : Gr) (k : Nat) : List (List Int) := (List.range k).map fun v => if 0 < (p.outs.getD v []).length then p.outs.getD v [] else outZ x (v : Int)
end Go.Ab
end
section
namespace Go.Ab
open Go.Proofs
attribute [local congr] ACall.congr
set_option maxRecDepth 10000
set_option maxHeartbeats 8000000
def bigB (g : Gr) (p : Pl) : Bool := decide (200 < g.es.length) || decide (100 < p.ord.length) || decide (100 < p.outs.length) || p.outs.any fun l => decide (200 < l.length)
theorem big_not {g : Gr} {p : Pl} (h : bigB g p = false) : g.es.length ≤ 200 ∧ p.ord.length ≤ 100 ∧ p.outs.length ≤ 100 ∧ ∀ l ∈ p.outs, l.length ≤ 200 := by
 simp only [bigB, Bool.or_eq_false_iff, decide_eq_false_iff_not, List.any_eq_false, decide_eq_true_eq] at h
 obtain ⟨⟨⟨h1, h2⟩, h3⟩, h4⟩ := h
 exact ⟨by omega, by omega, by omega, fun l hl => by have := h4 l hl; omega⟩
theorem plLen_of {g : Gr} {p : Pl} (h : bigB g p = false) : PlLen p := by
 obtain ⟨_, h1, h2, h3⟩ := big_not h
 exact ⟨by omega, by omega, fun l hl => by have := h3 l hl; omega⟩
structure PlMax (p : Pl) : Prop where
 ord : p.ord.length ≤ 9223372036854775807
 outs : p.outs.length ≤ 9223372036854775807
 each : ∀ l ∈ p.outs, l.length ≤ 9223372036854775807
theorem great10_spec (g : Gr) (p : Pl) (hl : g.es.length ≤ 9223372036854775807) (hp : PlMax p) : Spec Tryz.prog 8 (Args [eG g, ePl p]) [] (eB (bigB g p)) [] := by
 have ho := hp.ord
 have hu := hp.outs
 (refine Spec.intro (C := T.cfg [] []) (rs := [.t 4]) (T.cfg_ok _ _) Tryz.func8 rfl rfl Tryz.ntmps8 Tryz.results8 (by simp [AObj.isNest]) (by simp [AObj.isNest]) (by kernel_rfl) ?_; intro X hX hP hC hXn hXm vals hA; refine ⟨_, by simp, hA, ?_⟩; have hmix : X.P.follows .mixedOrders = true := (by rw [hP]; exact T.mixed); clear hXn hXm)
 generalize hB : bigB g p = B
 by_cases h1 : 200 < g.es.length
 ·have hb1 : decide (200 < (g.es.length : Int)) = true := decide_eq_true (by omega)
  have : B = true := by rw [← hB, bigB, decide_eq_true h1]; rfl
  subst this
  repeat' (first | fail | ((first | ((with_reducible (first | apply oA | apply oB)); exact rfl; intro K hK) | (refine hK _ ?_; clear hK K) | ((with_reducible (first | apply oG | apply oH)); iterate 3 exact rfl) | ((with_reducible apply oI); (iterate 2 exact rfl); intro K hK) | (with_reducible (first | apply wI | apply wJ | apply wK))); try simp only [go_sem, simprocAttr, hb1]) | fail | (with_reducible (first | apply oC | apply oJ | exact oK | apply wA | apply wB | apply wC hX hC | apply wD hX hC | apply wE hX hC hmix | apply wF hX hC hmix | apply wG | apply wH | apply And.intro)) | ((with_reducible refine oD ?_ ?_); first | fail | kernel_rfl) | ((with_reducible (first | apply oE | apply oF)); (iterate 3 exact rfl); all_goals (intro h; first | (exact absurd h (by decide)) | ((try simp only [go_sem, simprocAttr, hb1] at h); (try with_reducible intro K hK); simp only [go_sem, simprocAttr, hb1]))) | ((first | ((with_reducible apply wL); exact rfl) | ((with_reducible apply wM); exact rfl)); all_goals (try ((with_reducible intro h); first | (exact absurd h (by decide)) | (try simp only [go_sem, simprocAttr, hb1] at h)))) | omega | ((first | fail); try simp only [go_sem, simprocAttr, hb1]) | (intro h))
 have hb1 : decide (200 < (g.es.length : Int)) = false := decide_eq_false (by omega)
 by_cases h2 : 100 < p.ord.length
 ·have hb2 : decide (100 < (p.ord.length : Int)) = true := decide_eq_true (by omega)
  have : B = true := by rw [← hB, bigB, decide_eq_true h2]; simp
  subst this
  repeat' (first | fail | ((first | ((with_reducible (first | apply oA | apply oB)); exact rfl; intro K hK) | (refine hK _ ?_; clear hK K) | ((with_reducible (first | apply oG | apply oH)); iterate 3 exact rfl) | ((with_reducible apply oI); (iterate 2 exact rfl); intro K hK) | (with_reducible (first | apply wI | apply wJ | apply wK))); try simp only [go_sem, simprocAttr, hb1, hb2]) | fail | (with_reducible (first | apply oC | apply oJ | exact oK | apply wA | apply wB | apply wC hX hC | apply wD hX hC | apply wE hX hC hmix | apply wF hX hC hmix | apply wG | apply wH | apply And.intro)) | ((with_reducible refine oD ?_ ?_); first | fail | kernel_rfl) | ((with_reducible (first | apply oE | apply oF)); (iterate 3 exact rfl); all_goals (intro h; first | (exact absurd h (by decide)) | ((try simp only [go_sem, simprocAttr, hb1, hb2] at h); (try with_reducible intro K hK); simp only [go_sem, simprocAttr, hb1, hb2]))) | ((first | ((with_reducible apply wL); exact rfl) | ((with_reducible apply wM); exact rfl)); all_goals (try ((with_reducible intro h); first | (exact absurd h (by decide)) | (try simp only [go_sem, simprocAttr, hb1, hb2] at h)))) | omega | ((first | fail); try simp only [go_sem, simprocAttr, hb1, hb2]) | (intro h))
 have hb2 : decide (100 < (p.ord.length : Int)) = false := decide_eq_false (by omega)
 by_cases h3 : 100 < p.outs.length
 ·have hb3 : decide (100 < (p.outs.length : Int)) = true := decide_eq_true (by omega)
  have : B = true := by rw [← hB, bigB, decide_eq_true h3]; simp
  subst this
  repeat' (first | fail | ((first | ((with_reducible (first | apply oA | apply oB)); exact rfl; intro K hK) | (refine hK _ ?_; clear hK K) | ((with_reducible (first | apply oG | apply oH)); iterate 3 exact rfl) | ((with_reducible apply oI); (iterate 2 exact rfl); intro K hK) | (with_reducible (first | apply wI | apply wJ | apply wK))); try simp only [go_sem, simprocAttr, hb1, hb2, hb3]) | fail | (with_reducible (first | apply oC | apply oJ | exact oK | apply wA | apply wB | apply wC hX hC | apply wD hX hC | apply wE hX hC hmix | apply wF hX hC hmix | apply wG | apply wH | apply And.intro)) | ((with_reducible refine oD ?_ ?_); first | fail | kernel_rfl) | ((with_reducible (first | apply oE | apply oF)); (iterate 3 exact rfl); all_goals (intro h; first | (exact absurd h (by decide)) | ((try simp only [go_sem, simprocAttr, hb1, hb2, hb3] at h); (try with_reducible intro K hK); simp only [go_sem, simprocAttr, hb1, hb2, hb3]))) | ((first | ((with_reducible apply wL); exact rfl) | ((with_reducible apply wM); exact rfl)); all_goals (try ((with_reducible intro h); first | (exact absurd h (by decide)) | (try simp only [go_sem, simprocAttr, hb1, hb2, hb3] at h)))) | omega | ((first | fail); try simp only [go_sem, simprocAttr, hb1, hb2, hb3]) | (intro h))
 have hb3 : decide (100 < (p.outs.length : Int)) = false := decide_eq_false (by omega)
 have hB2 : B = p.outs.any fun l => decide (200 < l.length) := by rw [← hB, bigB, decide_eq_false h1, decide_eq_false h2, decide_eq_false h3]; simp
 clear hB
 repeat' (first | fail | ((first | ((with_reducible (first | apply oA | apply oB)); exact rfl; intro K hK) | (refine hK _ ?_; clear hK K) | ((with_reducible (first | apply oG | apply oH)); iterate 3 exact rfl) | ((with_reducible apply oI); (iterate 2 exact rfl); intro K hK) | (with_reducible (first | apply wI | apply wJ | apply wK))); try simp only [go_sem, simprocAttr, hb1, hb2, hb3]) | fail | (with_reducible (first | apply oC | apply oJ | exact oK | apply wA | apply wB | apply wC hX hC | apply wD hX hC | apply wE hX hC hmix | apply wF hX hC hmix | apply wG | apply wH | apply And.intro)) | ((with_reducible refine oD ?_ ?_); first | fail | kernel_rfl) | ((with_reducible (first | apply oE | apply oF)); (iterate 3 exact rfl); all_goals (intro h; first | (exact absurd h (by decide)) | ((try simp only [go_sem, simprocAttr, hb1, hb2, hb3] at h); (try with_reducible intro K hK); simp only [go_sem, simprocAttr, hb1, hb2, hb3]))) | ((first | ((with_reducible apply wL); exact rfl) | ((with_reducible apply wM); exact rfl)); all_goals (try ((with_reducible intro h); first | (exact absurd h (by decide)) | (try simp only [go_sem, simprocAttr, hb1, hb2, hb3] at h)))) | omega | ((first | fail); try simp only [go_sem, simprocAttr, hb1, hb2, hb3]) | (intro h))
 refine awp_loopP (fun k : Nat => k ≤ p.outs.length ∧ ∀ j, j < k → (p.outs.getD j []).length ≤ 200) (fun k => ⟨[(24, .d (.sl 1 (vI p.outs))), (25, eN p.outs.length), (26, eN k)], []⟩) (fun k => p.outs.length - k) 0 (by simp) ?_ ?_
 ·(refine Le.of ?_ ?_ <;> simp [go_sem, simprocAttr])
 rintro k ⟨hk, hg⟩
 rcases Nat.lt_or_ge k p.outs.length with hkl | hkg
 ·have hb : decide ((k : Int) < (p.outs.length : Int)) = true := decide_eq_true (by omega)
  have hv := vI_getD hkl
  have hm := getD_memX (d := []) hkl
  have hll := hp.each _ hm
  by_cases h4 : 200 < (p.outs.getD k []).length
  ·have hb4 : decide (200 < ((p.outs.getD k []).length : Int)) = true := decide_eq_true (by omega)
   have : B = true := by rw [hB2, List.any_eq_true]; exact ⟨_, hm, decide_eq_true h4⟩
   subst this
   repeat' (first | fail | ((first | ((with_reducible (first | apply oA | apply oB)); exact rfl; intro K hK) | (refine hK _ ?_; clear hK K) | ((with_reducible (first | apply oG | apply oH)); iterate 3 exact rfl) | ((with_reducible apply oI); (iterate 2 exact rfl); intro K hK) | (with_reducible (first | apply wI | apply wJ | apply wK))); try simp only [go_sem, simprocAttr, hb, hv, hb4]) | fail | (with_reducible (first | apply oC | apply oJ | exact oK | apply wA | apply wB | apply wC hX hC | apply wD hX hC | apply wE hX hC hmix | apply wF hX hC hmix | apply wG | apply wH | apply And.intro)) | ((with_reducible refine oD ?_ ?_); first | fail | kernel_rfl) | ((with_reducible (first | apply oE | apply oF)); (iterate 3 exact rfl); all_goals (intro h; first | (exact absurd h (by decide)) | ((try simp only [go_sem, simprocAttr, hb, hv, hb4] at h); (try with_reducible intro K hK); simp only [go_sem, simprocAttr, hb, hv, hb4]))) | ((first | ((with_reducible apply wL); exact rfl) | ((with_reducible apply wM); exact rfl)); all_goals (try ((with_reducible intro h); first | (exact absurd h (by decide)) | (try simp only [go_sem, simprocAttr, hb, hv, hb4] at h)))) | omega | ((first | fail); try simp only [go_sem, simprocAttr, hb, hv, hb4]) | (intro h))
  ·have hb4 : decide (200 < ((p.outs.getD k []).length : Int)) = false := decide_eq_false (by omega)
   repeat' (first | fail | ((first | ((with_reducible (first | apply oA | apply oB)); exact rfl; intro K hK) | (refine hK _ ?_; clear hK K) | ((with_reducible (first | apply oG | apply oH)); iterate 3 exact rfl) | ((with_reducible apply oI); (iterate 2 exact rfl); intro K hK) | (with_reducible (first | apply wI | apply wJ | apply wK))); try simp only [go_sem, simprocAttr, hb, hv, hb4]) | fail | (with_reducible (first | apply oC | apply oJ | exact oK | apply wA | apply wB | apply wC hX hC | apply wD hX hC | apply wE hX hC hmix | apply wF hX hC hmix | apply wG | apply wH | apply And.intro)) | ((with_reducible refine oD ?_ ?_); first | fail | kernel_rfl) | ((with_reducible (first | apply oE | apply oF)); (iterate 3 exact rfl); all_goals (intro h; first | (exact absurd h (by decide)) | ((try simp only [go_sem, simprocAttr, hb, hv, hb4] at h); (try with_reducible intro K hK); simp only [go_sem, simprocAttr, hb, hv, hb4]))) | ((first | ((with_reducible apply wL); exact rfl) | ((with_reducible apply wM); exact rfl)); all_goals (try ((with_reducible intro h); first | (exact absurd h (by decide)) | (try simp only [go_sem, simprocAttr, hb, hv, hb4] at h)))) | omega | ((first | fail); try simp only [go_sem, simprocAttr, hb, hv, hb4]) | (intro h))
   refine ⟨k + 1, ⟨by omega, fun j hj => ?_⟩, ?_, by omega⟩
   ·by_cases e : j = k
    ·subst e; omega
    ·exact hg j (by omega)
   ·(refine Le.of ?_ ?_ <;> simp [go_sem, simprocAttr, hb, hv, hb4])
 ·have hb : decide ((k : Int) < (p.outs.length : Int)) = false := decide_eq_false (by omega)
  have : B = false := by
   rw [hB2, List.any_eq_false]
   intro l hl
   obtain ⟨j, hj, rfl⟩ := List.mem_iff_getElem.1 hl
   have := hg j (by omega)
   rw [List.getD_eq_getElem?_getD, List.getElem?_eq_getElem hj, Option.getD_some] at this
   simp; omega
  subst this
  repeat' (first | fail | ((first | ((with_reducible (first | apply oA | apply oB)); exact rfl; intro K hK) | (refine hK _ ?_; clear hK K) | ((with_reducible (first | apply oG | apply oH)); iterate 3 exact rfl) | ((with_reducible apply oI); (iterate 2 exact rfl); intro K hK) | (with_reducible (first | apply wI | apply wJ | apply wK))); try simp only [go_sem, simprocAttr, hb]) | fail | (with_reducible (first | apply oC | apply oJ | exact oK | apply wA | apply wB | apply wC hX hC | apply wD hX hC | apply wE hX hC hmix | apply wF hX hC hmix | apply wG | apply wH | apply And.intro)) | ((with_reducible refine oD ?_ ?_); first | fail | kernel_rfl) | ((with_reducible (first | apply oE | apply oF)); (iterate 3 exact rfl); all_goals (intro h; first | (exact absurd h (by decide)) | ((try simp only [go_sem, simprocAttr, hb] at h); (try with_reducible intro K hK); simp only [go_sem, simprocAttr, hb]))) | ((first | ((with_reducible apply wL); exact rfl) | ((with_reducible apply wM); exact rfl)); all_goals (try ((with_reducible intro h); first | (exact absurd h (by decide)) | (try simp only [go_sem, simprocAttr, hb] at h)))) | omega | ((first | fail); try simp only [go_sem, simprocAttr, hb]) | (intro h))
def isB (g : Gr) : Bool := decide ((chkG g).1 = 0) && decide ((bareG (·.1) g).length = 1)
theorem augIs_spec (g : Gr) (hl : g.es.length ≤ 1000) : Spec Tryz.prog 24 (Args [eG g]) [] (eB (isB g)) [] := by
 by_cases hc : (chkG g).1 = 0
 ·have hm := good_may hc
  have hb1 : decide ((chkG g).1 = 0) = true := decide_eq_true hc
  have hI : isB g = decide (((bareG (·.1) g).length : Int) = 1) := by
   unfold isB; rw [hb1, Bool.true_and, decide_eq_decide]; omega
  rw [hI]
  generalize hbl : bareG (·.1) g = bl
  have hS := sinks_spec g hm
  rw [hbl] at hS
  (refine Spec.intro (C := T.cfg [] []) (rs := [.t 2]) (T.cfg_ok _ _) Tryz.func24 rfl rfl Tryz.ntmps24 Tryz.results24 (by simp [AObj.isNest]) (by simp [AObj.isNest]) (by kernel_rfl) ?_; intro X hX hP hC hXn hXm vals hA; refine ⟨_, by simp, hA, ?_⟩; have hmix : X.P.follows .mixedOrders = true := (by rw [hP]; exact T.mixed); clear hXn hXm)
  repeat' (first | fail | ((first | ((with_reducible (first | apply oA | apply oB)); exact rfl; intro K hK) | (refine hK _ ?_; clear hK K) | ((with_reducible (first | apply oG | apply oH)); iterate 3 exact rfl) | ((with_reducible apply oI); (iterate 2 exact rfl); intro K hK) | (with_reducible (first | apply wI | apply wJ | apply wK))); try simp only [go_sem, simprocAttr, hb1]) | fail | (with_reducible (first | apply oC | apply oJ | exact oK | apply wA | apply wB | apply wC hX hC | apply wD hX hC | apply wE hX hC hmix | apply wF hX hC hmix | apply wG | apply wH | apply And.intro)) | ((with_reducible refine oD ?_ ?_); first | fail | kernel_rfl) | ((with_reducible (first | apply oE | apply oF)); (iterate 3 exact rfl); all_goals (intro h; first | (exact absurd h (by decide)) | ((try simp only [go_sem, simprocAttr, hb1] at h); (try with_reducible intro K hK); simp only [go_sem, simprocAttr, hb1]))) | ((first | ((with_reducible apply wL); exact rfl) | ((with_reducible apply wM); exact rfl)); all_goals (try ((with_reducible intro h); first | (exact absurd h (by decide)) | (try simp only [go_sem, simprocAttr, hb1] at h)))) | omega | ((first | first | refine acall_simple hX hC hP (check_spec g hl) rfl rfl rfl (by simp only [go_sem, simprocAttr, hb1]) rfl ?_ | refine acall_simple hX hC hP (of_spec g hm) rfl rfl rfl (by simp only [go_sem, simprocAttr, hb1]) rfl ?_ | refine acall_simple hX hC hP (hS) rfl rfl rfl (by simp only [go_sem, simprocAttr, hb1]) rfl ?_); try simp only [go_sem, simprocAttr, hb1]) | (intro h))
 ·have hb1 : decide ((chkG g).1 = 0) = false := decide_eq_false hc
  have hI : isB g = false := by unfold isB; rw [hb1]; rfl
  rw [hI]
  (refine Spec.intro (C := T.cfg [] []) (rs := [.t 2]) (T.cfg_ok _ _) Tryz.func24 rfl rfl Tryz.ntmps24 Tryz.results24 (by simp [AObj.isNest]) (by simp [AObj.isNest]) (by kernel_rfl) ?_; intro X hX hP hC hXn hXm vals hA; refine ⟨_, by simp, hA, ?_⟩; have hmix : X.P.follows .mixedOrders = true := (by rw [hP]; exact T.mixed); clear hXn hXm)
  repeat' (first | fail | ((first | ((with_reducible (first | apply oA | apply oB)); exact rfl; intro K hK) | (refine hK _ ?_; clear hK K) | ((with_reducible (first | apply oG | apply oH)); iterate 3 exact rfl) | ((with_reducible apply oI); (iterate 2 exact rfl); intro K hK) | (with_reducible (first | apply wI | apply wJ | apply wK))); try simp only [go_sem, simprocAttr, hb1]) | fail | (with_reducible (first | apply oC | apply oJ | exact oK | apply wA | apply wB | apply wC hX hC | apply wD hX hC | apply wE hX hC hmix | apply wF hX hC hmix | apply wG | apply wH | apply And.intro)) | ((with_reducible refine oD ?_ ?_); first | fail | kernel_rfl) | ((with_reducible (first | apply oE | apply oF)); (iterate 3 exact rfl); all_goals (intro h; first | (exact absurd h (by decide)) | ((try simp only [go_sem, simprocAttr, hb1] at h); (try with_reducible intro K hK); simp only [go_sem, simprocAttr, hb1]))) | ((first | ((with_reducible apply wL); exact rfl) | ((with_reducible apply wM); exact rfl)); all_goals (try ((with_reducible intro h); first | (exact absurd h (by decide)) | (try simp only [go_sem, simprocAttr, hb1] at h)))) | omega | ((first | first | refine acall_simple hX hC hP (check_spec g hl) rfl rfl rfl (by simp only [go_sem, simprocAttr, hb1]) rfl ?_); try simp only [go_sem, simprocAttr, hb1]) | (intro h))
theorem refIs_spec (g : Gr) (hl : g.es.length ≤ 1000) : Spec Tryz.prog 10 (Args [eG g]) [] (eB (isB g)) [] := by
 by_cases hc : (chkG g).1 = 0
 ·have hm := good_may hc
  have hn := mayB_n hm
  have hb1 : decide ((chkG g).1 = 0) = true := decide_eq_true hc
  have hI : isB g = decide (((bareG (·.1) g).length : Int) = 1) := by
   unfold isB; rw [hb1, Bool.true_and, decide_eq_decide]; omega
  rw [hI]
  have hS := refBare_spec g false hl (by omega)
  rw [show endF (!false) = (·.1) from rfl] at hS
  generalize bareG (·.1) g = bl at hS
  (refine Spec.intro (C := T.cfg [] []) (rs := [.t 2]) (T.cfg_ok _ _) Tryz.func10 rfl rfl Tryz.ntmps10 Tryz.results10 (by simp [AObj.isNest]) (by simp [AObj.isNest]) (by kernel_rfl) ?_; intro X hX hP hC hXn hXm vals hA; refine ⟨_, by simp, hA, ?_⟩; have hmix : X.P.follows .mixedOrders = true := (by rw [hP]; exact T.mixed); clear hXn hXm)
  repeat' (first | fail | ((first | ((with_reducible (first | apply oA | apply oB)); exact rfl; intro K hK) | (refine hK _ ?_; clear hK K) | ((with_reducible (first | apply oG | apply oH)); iterate 3 exact rfl) | ((with_reducible apply oI); (iterate 2 exact rfl); intro K hK) | (with_reducible (first | apply wI | apply wJ | apply wK))); try simp only [go_sem, simprocAttr, hb1]) | fail | (with_reducible (first | apply oC | apply oJ | exact oK | apply wA | apply wB | apply wC hX hC | apply wD hX hC | apply wE hX hC hmix | apply wF hX hC hmix | apply wG | apply wH | apply And.intro)) | ((with_reducible refine oD ?_ ?_); first | fail | kernel_rfl) | ((with_reducible (first | apply oE | apply oF)); (iterate 3 exact rfl); all_goals (intro h; first | (exact absurd h (by decide)) | ((try simp only [go_sem, simprocAttr, hb1] at h); (try with_reducible intro K hK); simp only [go_sem, simprocAttr, hb1]))) | ((first | ((with_reducible apply wL); exact rfl) | ((with_reducible apply wM); exact rfl)); all_goals (try ((with_reducible intro h); first | (exact absurd h (by decide)) | (try simp only [go_sem, simprocAttr, hb1] at h)))) | omega | ((first | first | refine acall_simple hX hC hP (refGoodA_spec g (by omega)) rfl rfl rfl (by simp only [go_sem, simprocAttr, hb1]) rfl ?_ | refine acall_simple hX hC hP (hS) rfl rfl rfl (by simp only [go_sem, simprocAttr, hb1]) rfl ?_); try simp only [go_sem, simprocAttr, hb1]) | (intro h))
 ·have hb1 : decide ((chkG g).1 = 0) = false := decide_eq_false hc
  have hI : isB g = false := by unfold isB; rw [hb1]; rfl
  rw [hI]
  (refine Spec.intro (C := T.cfg [] []) (rs := [.t 2]) (T.cfg_ok _ _) Tryz.func10 rfl rfl Tryz.ntmps10 Tryz.results10 (by simp [AObj.isNest]) (by simp [AObj.isNest]) (by kernel_rfl) ?_; intro X hX hP hC hXn hXm vals hA; refine ⟨_, by simp, hA, ?_⟩; have hmix : X.P.follows .mixedOrders = true := (by rw [hP]; exact T.mixed); clear hXn hXm)
  repeat' (first | fail | ((first | ((with_reducible (first | apply oA | apply oB)); exact rfl; intro K hK) | (refine hK _ ?_; clear hK K) | ((with_reducible (first | apply oG | apply oH)); iterate 3 exact rfl) | ((with_reducible apply oI); (iterate 2 exact rfl); intro K hK) | (with_reducible (first | apply wI | apply wJ | apply wK))); try simp only [go_sem, simprocAttr, hb1]) | fail | (with_reducible (first | apply oC | apply oJ | exact oK | apply wA | apply wB | apply wC hX hC | apply wD hX hC | apply wE hX hC hmix | apply wF hX hC hmix | apply wG | apply wH | apply And.intro)) | ((with_reducible refine oD ?_ ?_); first | fail | kernel_rfl) | ((with_reducible (first | apply oE | apply oF)); (iterate 3 exact rfl); all_goals (intro h; first | (exact absurd h (by decide)) | ((try simp only [go_sem, simprocAttr, hb1] at h); (try with_reducible intro K hK); simp only [go_sem, simprocAttr, hb1]))) | ((first | ((with_reducible apply wL); exact rfl) | ((with_reducible apply wM); exact rfl)); all_goals (try ((with_reducible intro h); first | (exact absurd h (by decide)) | (try simp only [go_sem, simprocAttr, hb1] at h)))) | omega | ((first | first | refine acall_simple hX hC hP (refGoodA_spec g (by omega)) rfl rfl rfl (by simp only [go_sem, simprocAttr, hb1]) rfl ?_); try simp only [go_sem, simprocAttr, hb1]) | (intro h))
end Go.Ab
end
section
namespace Go.Ab
open Go.Proofs
attribute [local congr] ACall.congr
set_option maxRecDepth 10000
set_option maxHeartbeats 8000000
theorem pick_eq {g : Gr} (hm : mayB g = true) {f : Fr} (hi : FrInv g f) (rev : Bool) : headI (readyL g f) (lookR rev f.row) = pickF g f rev := by
 unfold headI pickF
 have : (fun t : It => decide (t.2.2 ∈ readyL g f)) = fun t : It => rReadyF g f t.2.2 := by
  funext t
  cases h : rReadyF g f t.2.2 with
  | true => exact decide_eq_true ((readyL_memF hm hi).2 h)
  | false => exact decide_eq_false fun h2 => by rw [(readyL_memF hm hi).1 h2] at h; cases h
 rw [this]
 rfl
theorem look0_spec (row : List It) : Spec Tryz.prog 26 (Args [.ref 10000]) [(10000, .own 62 3 (row.map rT))] (.tup []) [(10000, .own 62 3 ((lookR false row).map rT))] := by
 (refine Spec.intro (C := T.cfg [] []) (rs := []) (T.cfg_ok _ _) Tryz.func26 rfl rfl Tryz.ntmps26 Tryz.results26 (by simp [AObj.isNest]) (by simp [AObj.isNest]) (by kernel_rfl) ?_; intro X hX hP hC hXn hXm vals hA; refine ⟨_, by simp, hA, ?_⟩; have hmix : X.P.follows .mixedOrders = true := (by rw [hP]; exact T.mixed); clear hXn hXm)
 repeat' (first | fail | ((first | ((with_reducible (first | apply oA | apply oB)); exact rfl; intro K hK) | (refine hK _ ?_; clear hK K) | ((with_reducible (first | apply oG | apply oH)); iterate 3 exact rfl) | ((with_reducible apply oI); (iterate 2 exact rfl); intro K hK) | (with_reducible (first | apply wI | apply wJ | apply wK))); try simp only [go_sem, simprocAttr, lookR]) | fail | (with_reducible (first | apply oC | apply oJ | exact oK | apply wA | apply wB | apply wC hX hC | apply wD hX hC | apply wE hX hC hmix | apply wF hX hC hmix | apply wG | apply wH | apply And.intro)) | ((with_reducible refine oD ?_ ?_); first | fail | kernel_rfl) | ((with_reducible (first | apply oE | apply oF)); (iterate 3 exact rfl); all_goals (intro h; first | (exact absurd h (by decide)) | ((try simp only [go_sem, simprocAttr, lookR] at h); (try with_reducible intro K hK); simp only [go_sem, simprocAttr, lookR]))) | ((first | ((with_reducible apply wL); exact rfl) | ((with_reducible apply wM); exact rfl)); all_goals (try ((with_reducible intro h); first | (exact absurd h (by decide)) | (try simp only [go_sem, simprocAttr, lookR] at h)))) | omega | ((first | fail); try simp only [go_sem, simprocAttr, lookR]) | (intro h))
theorem look1_spec (row : List It) (hl : row.length ≤ 1000000) : Spec Tryz.prog 27 (Args [.ref 10000]) [(10000, .own 62 3 (row.map rT))] (.tup []) [(10000, .own 62 3 ((lookR true row).map rT))] := reverseT_spec row hl
theorem walk_spec (g : Gr) (p : Pl) (h : RunsP g p) (rev : Bool) (F : Nat) (hLook : ∀ row : List It, row.length ≤ 1000000 → Spec Tryz.prog F (Args [.ref 10000]) [(10000, .own 62 3 (row.map rT))] (.tup []) [(10000, .own 62 3 ((lookR rev row).map rT))]) :
  Spec Tryz.prog 25 (Args [eG g, .d (.sl 1 (vI p.outs)), .fn F [] []]) [] (.d (sI (rankL g p rev g.n.toNat))) [] := by
 have hm := good_may h.1
 have hn := mayB_n hm
 (refine Spec.intro (C := T.cfg [] []) (rs := [.t 6]) (T.cfg_ok _ _) Tryz.func25 rfl rfl Tryz.ntmps25 Tryz.results25 (by simp [AObj.isNest]) (by simp [AObj.isNest]) (by kernel_rfl) ?_; intro X hX hP hC hXn hXm vals hA; refine ⟨_, by simp, hA, ?_⟩; have hmix : X.P.follows .mixedOrders = true := (by rw [hP]; exact T.mixed); clear hXn hXm)
 repeat' (first | fail | ((first | ((with_reducible (first | apply oA | apply oB)); exact rfl; intro K hK) | (refine hK _ ?_; clear hK K) | ((with_reducible (first | apply oG | apply oH)); iterate 3 exact rfl) | ((with_reducible apply oI); (iterate 2 exact rfl); intro K hK) | (with_reducible (first | apply wI | apply wJ | apply wK))); try simp only [go_sem, simprocAttr]) | (show awp _ (.seq (.region 3 _ _) _) _ _; (refine awp_nilD 15 0 3 rfl rfl rfl ?_; simp only [LA.app, ASt.put, ASt.kill, putM, rml, List.set_cons_zero, List.set_cons_succ, go_sem, simprocAttr]); (refine awp_newB hX 15 2 200 (.tip 3 1 []) rfl rfl rfl (by simp only [go_sem, simprocAttr]) (by decide) (by simp [go_sem, simprocAttr]) ⟨3, 1, by decide, .inr rfl⟩ ?_; simp only [LA.app, ASt.put, ASt.kill, subT, rmk, putM, rml, kl, AV.sub, AV.subs, AObj.sub, List.set_cons_zero, List.set_cons_succ, go_sem, simprocAttr])) | (with_reducible (first | apply oC | apply oJ | exact oK | apply wA | apply wB | apply wC hX hC | apply wD hX hC | apply wE hX hC hmix | apply wF hX hC hmix | apply wG | apply wH | apply And.intro)) | ((with_reducible refine oD ?_ ?_); first | fail | kernel_rfl) | ((with_reducible (first | apply oE | apply oF)); (iterate 3 exact rfl); all_goals (intro h; first | (exact absurd h (by decide)) | ((try simp only [go_sem, simprocAttr] at h); (try with_reducible intro K hK); simp only [go_sem, simprocAttr]))) | ((first | ((with_reducible apply wL); exact rfl) | ((with_reducible apply wM); exact rfl)); all_goals (try ((with_reducible intro h); first | (exact absurd h (by decide)) | (try simp only [go_sem, simprocAttr] at h)))) | omega | ((first | first | (refine acall_genC hX hC hP [(10000, 15)] (newF_spec g (by omega) h.1 hm) rfl rfl rfl ?_ ?_ ?_ ?_ ?_ ?_ ?_ ?_ ?_ ?_ ?_ ?_ ?_ ?_; (focus (simp only [go_sem, simprocAttr]; done)); (iterate 12 (focus (simp [go_sem, simprocAttr]; done))); simp only [go_sem, simprocAttr, List.map_cons, List.map_nil])); try simp only [go_sem, simprocAttr]) | (intro h))
 have hrep : List.replicate g.n.toNat [D.sc (.int .i64 0)] = (rankL g p rev 0).map rI := by rw [rankL, List.map_replicate]; rfl
 rw [hrep]
 refine awp_loopP (fun k : Nat => k ≤ g.n.toNat) (fun k => ⟨[(1, .d (.sl 1 (vI p.outs))), (2, .fn F [] []), (7, .ptr 15 0), (9, .ref 20), (22, eN g.n), (23, eN k)], [(15, .box [.d (sT (walkF g p rev k).row), .d (vw g), .ref 200]), (200, .tip 3 1 ((walkF g p rev k).pl.map rI)), (20, .own 3 1 ((rankL g p rev k).map rI))]⟩) (fun k => g.n.toNat - k) 0 (by omega) ?_ ?_
 ·refine Le.of ?_ ?_ <;> simp [go_sem, simprocAttr, walkF]
 rintro k hk
 obtain ⟨hi, hpl, _, hrl⟩ := walk_inv h rev hk
 have hmul : k * (g.es.length + 1) ≤ 64 * 129 := Nat.mul_le_mul (by omega) (by omega)
 rcases Nat.lt_or_ge k g.n.toNat with hkl | hkg
 rotate_left
 ·have hb : decide ((k : Int) < g.n) = false := decide_eq_false (by omega)
  obtain rfl : k = g.n.toNat := by omega
  repeat' (first | fail | ((first | ((with_reducible (first | apply oA | apply oB)); exact rfl; intro K hK) | (refine hK _ ?_; clear hK K) | ((with_reducible (first | apply oG | apply oH)); iterate 3 exact rfl) | ((with_reducible apply oI); (iterate 2 exact rfl); intro K hK) | (with_reducible (first | apply wI | apply wJ | apply wK))); try simp only [go_sem, simprocAttr, hb]) | fail | (with_reducible (first | apply oC | apply oJ | exact oK | apply wA | apply wB | apply wC hX hC | apply wD hX hC | apply wE hX hC hmix | apply wF hX hC hmix | apply wG | apply wH | apply And.intro)) | ((with_reducible refine oD ?_ ?_); first | fail | kernel_rfl) | ((with_reducible (first | apply oE | apply oF)); (iterate 3 exact rfl); all_goals (intro h; first | (exact absurd h (by decide)) | ((try simp only [go_sem, simprocAttr, hb] at h); (try with_reducible intro K hK); simp only [go_sem, simprocAttr, hb]))) | ((first | ((with_reducible apply wL); exact rfl) | ((with_reducible apply wM); exact rfl)); all_goals (try ((with_reducible intro h); first | (exact absurd h (by decide)) | (try simp only [go_sem, simprocAttr, hb] at h)))) | omega | ((first | fail); try simp only [go_sem, simprocAttr, hb]) | (intro h))
 have hb : decide ((k : Int) < g.n) = true := decide_eq_true (by omega)
 obtain ⟨hR, hne⟩ := walk_ready h rev hkl
 have hrn := ready_rng hR
 have hll : (readyL g (walkF g p rev k)).length ≤ 64 := by have := readyK_len (g := g) (f := walkF g p rev k) (k := g.n.toNat); unfold readyL; omega
 have hpe := pick_eq hm hi.toFrInv rev
 have hlo : (lookR rev (walkF g p rev k).row).length = (walkF g p rev k).row.length := by unfold lookR; split <;> simp
 have hPi := pick_spec (readyL g (walkF g p rev k)) (lookR rev (walkF g p rev k).row) hne (by omega) (by omega)
 rw [hpe] at hPi
 clear hpe
 have hRo := rowO_spec [vw g, sI (walkF g p rev k).pl] (walkF g p rev k).row (by omega)
 have hLk := hLook (walkF g p rev k).row (by omega)
 have hRd := readyL_spec g hm (walkF g p rev k) (by omega) (by omega)
 have hper := lAt_perm h.2.1 hrn.1 hrn.2.1
 have hol := lAt_len h.2.1 hrn.1 hrn.2.1
 have hnx : walkF g p rev (k + 1) = (succF g (walkF g p rev k) (pickF g (walkF g p rev k) rev) (lAt p (pickF g (walkF g p rev k) rev))).2 := rfl
 have hrx : rankL g p rev (k + 1) = (rankL g p rev k).set (pickF g (walkF g p rev k) rev).toNat (k : Int) := rfl
 have hrk := rankL_len (g := g) (p := p) (rev := rev) (k := k)
 generalize pickF g (walkF g p rev k) rev = x0 at *
 obtain ⟨x, rfl⟩ : ∃ x : Nat, x0 = x := ⟨x0.toNat, by omega⟩
 have hxl : x < p.outs.length := by have := h.2.1.1; omega
 have hv := vI_getD hxl
 have hla : lAt p (x : Int) = p.outs.getD x [] := by unfold lAt; rw [Int.toNat_natCast]
 rw [hla] at hper hol hnx
 rw [Int.toNat_natCast] at hrx
 have hPl := placeA_spec g hm (walkF g p rev k) hi (x : Int) (p.outs.getD x []) (by omega) (by omega) (by omega)
 have hpk : rPlaceF g (walkF g p rev k) (x : Int) (p.outs.getD x []) = succF g (walkF g p rev k) (x : Int) (p.outs.getD x []) := by
  unfold rPlaceF
  rw [if_neg (by rw [hR]; simp), if_neg]
  rintro (h | ⟨i, h1, h2⟩)
  ·exact h hper.length_eq
  ·exact h2 (hper.mem_iff.2 h1)
 rw [hpk] at hPl
 generalize p.outs.getD x [] = o at hv hPl hnx
 generalize readyL g (walkF g p rev k) = L at hPi hRd hll
 generalize lookR rev (walkF g p rev k).row = LR at hPi hLk hlo
 generalize hff : walkF g p rev (k + 1) = f' at hnx
 generalize walkF g p rev k = f at *
 generalize succF g f (x : Int) o = su at hPl hnx
 repeat' (first | fail | ((first | ((with_reducible (first | apply oA | apply oB)); exact rfl; intro K hK) | (refine hK _ ?_; clear hK K) | ((with_reducible (first | apply oG | apply oH)); iterate 3 exact rfl) | ((with_reducible apply oI); (iterate 2 exact rfl); intro K hK) | (with_reducible (first | apply wI | apply wJ | apply wK))); try simp only [go_sem, simprocAttr, hb, hv, hrk, frO, frN, frD]) | (show awp _ (.region 11 _ _) _ _; (refine awp_mvB hX 15 2 201 200 rfl rfl rfl (by first | exact .inl rfl | exact .inr rfl) (by decide) (by decide) ?_; simp only [LA.app, ASt.put, ASt.kill, subT, rmk, putM, rml, kl, AV.sub, AV.subs, AObj.sub, List.set_cons_zero, List.set_cons_succ, go_sem, simprocAttr, hb, hv, hrk, frO, frN, frD])) | (with_reducible (first | apply oC | apply oJ | exact oK | apply wA | apply wB | apply wC hX hC | apply wD hX hC | apply wE hX hC hmix | apply wF hX hC hmix | apply wG | apply wH | apply And.intro)) | ((with_reducible refine oD ?_ ?_); first | fail | kernel_rfl) | ((with_reducible (first | apply oE | apply oF)); (iterate 3 exact rfl); all_goals (intro h; first | (exact absurd h (by decide)) | ((try simp only [go_sem, simprocAttr, hb, hv, hrk, frO, frN, frD] at h); (try with_reducible intro K hK); simp only [go_sem, simprocAttr, hb, hv, hrk, frO, frN, frD]))) | ((first | ((with_reducible apply wL); exact rfl) | ((with_reducible apply wM); exact rfl)); all_goals (try ((with_reducible intro h); first | (exact absurd h (by decide)) | (try simp only [go_sem, simprocAttr, hb, hv, hrk, frO, frN, frD] at h)))) | omega | ((first | first | (refine acall_lend1o hX hC hP 29 (hRo) rfl rfl rfl ?_ ?_ (by first | exact ⟨_, _, _, rfl, flatI⟩ | exact ⟨_, _, _, rfl, flatT⟩) rfl (by decide) ?_; (iterate 2 (focus (simp only [go_sem, simprocAttr, hb, hv, hrk, frO, frN, frD]; done))); simp only [go_sem, simprocAttr, hb, hv, hrk, frO, frN, frD]) | (refine acall_gen hX hC hP [(10000, 29)] (hLk) rfl rfl rfl ?_ ?_ ?_ ?_ ?_ ?_ ?_ ?_ ?_ ?_ ?_ ?_ ?_ ?_; (focus (simp only [go_sem, simprocAttr, hb, hv, hrk, frO, frN, frD]; done)); (iterate 12 (focus (simp [go_sem, simprocAttr, hb, hv, hrk, frO, frN, frD]; done))); simp only [go_sem, simprocAttr, hb, hv, hrk, frO, frN, frD, List.map_cons, List.map_nil]) | (refine acall_lend1 hX hC hP 34 (hRd) rfl rfl rfl ?_ ?_ (by first | exact ⟨_, _, _, rfl, flatI⟩ | exact ⟨_, _, _, rfl, flatT⟩) rfl (by decide) ?_; (iterate 2 (focus (simp only [go_sem, simprocAttr, hb, hv, hrk, frO, frN, frD]; done))); simp only [go_sem, simprocAttr, hb, hv, hrk, frO, frN, frD]) | (refine acall_lend hX hC hP (hPi) rfl rfl rfl ?_ ?_ ?_ ?_; iterate 3 (focus (simp only [go_sem, simprocAttr, hb, hv, hrk, frO, frN, frD]; done))) | (refine acall_gen hX hC hP [(10000, 15), (10001, 200), (10002, 201)] (hPl) rfl rfl rfl ?_ ?_ ?_ ?_ ?_ ?_ ?_ ?_ ?_ ?_ ?_ ?_ ?_ ?_; (focus (simp only [go_sem, simprocAttr, hb, hv, hrk, frO, frN, frD]; done)); (iterate 12 (focus (simp [go_sem, simprocAttr, hb, hv, hrk, frO, frN, frD]; done))); simp only [go_sem, simprocAttr, hb, hv, hrk, frO, frN, frD, List.map_cons, List.map_nil])); try simp only [go_sem, simprocAttr, hb, hv, hrk, frO, frN, frD]) | (intro h))
 refine ⟨k + 1, by omega, ?_, by omega⟩
 rw [hrx, hff, hnx]
 refine Le.of ?_ ?_ <;> simp [go_sem, simprocAttr, hb, hv, hrk, frO, frN, frD, rI]
def rkR (b : Bool) (g : Gr) (p : Pl) : List Int × List Int × Int :=
 if (runRes b g p).2.1 = 0 ∧ isB g = true then (rankL g p false g.n.toNat, rankL g p true g.n.toNat, 0) else ([], [], 1)
theorem ranks_spec (g : Gr) (hl : g.es.length ≤ 1000) (p : Pl) (hp : PlLen p) (b : Bool) (hr : b = true ↔ (chkG g).1 = 0 ∧ PlanOk g p) :
  Spec Tryz.prog 9 (Args [eG g, ePl p]) [] (.tup [.d (sI (rkR b g p).1), .d (sI (rkR b g p).2.1), eN (rkR b g p).2.2]) [] := by
 have hO := sweepRun_spec g hl p hp b hr
 have hI := augIs_spec g hl
 by_cases h0 : (runRes b g p).2.1 = 0
 rotate_left
 ·have hK : rkR b g p = ([], [], 1) := if_neg fun h => h0 h.1
  have hb0 : decide ((runRes b g p).2.1 = 0) = false := decide_eq_false h0
  rw [hK]
  (refine Spec.intro (C := T.cfg [] []) (rs := [.t 4, .t 5, .t 6]) (T.cfg_ok _ _) Tryz.func9 rfl rfl Tryz.ntmps9 Tryz.results9 (by simp [AObj.isNest]) (by simp [AObj.isNest]) (by kernel_rfl) ?_; intro X hX hP hC hXn hXm vals hA; refine ⟨_, by simp, hA, ?_⟩; have hmix : X.P.follows .mixedOrders = true := (by rw [hP]; exact T.mixed); clear hXn hXm)
  repeat' (first | fail | ((first | ((with_reducible (first | apply oA | apply oB)); exact rfl; intro K hK) | (refine hK _ ?_; clear hK K) | ((with_reducible (first | apply oG | apply oH)); iterate 3 exact rfl) | ((with_reducible apply oI); (iterate 2 exact rfl); intro K hK) | (with_reducible (first | apply wI | apply wJ | apply wK))); try simp only [go_sem, simprocAttr, hb0]) | fail | (with_reducible (first | apply oC | apply oJ | exact oK | apply wA | apply wB | apply wC hX hC | apply wD hX hC | apply wE hX hC hmix | apply wF hX hC hmix | apply wG | apply wH | apply And.intro)) | ((with_reducible refine oD ?_ ?_); first | fail | kernel_rfl) | ((with_reducible (first | apply oE | apply oF)); (iterate 3 exact rfl); all_goals (intro h; first | (exact absurd h (by decide)) | ((try simp only [go_sem, simprocAttr, hb0] at h); (try with_reducible intro K hK); simp only [go_sem, simprocAttr, hb0]))) | ((first | ((with_reducible apply wL); exact rfl) | ((with_reducible apply wM); exact rfl)); all_goals (try ((with_reducible intro h); first | (exact absurd h (by decide)) | (try simp only [go_sem, simprocAttr, hb0] at h)))) | omega | ((first | first | refine acall_simple hX hC hP (hO) rfl rfl rfl (by simp only [go_sem, simprocAttr, hb0]) rfl ?_); try simp only [go_sem, simprocAttr, hb0]) | (intro h))
 obtain ⟨hrun, hR⟩ := runRes_ok hr h0
 rw [hR] at hO
 simp only at hO
 cases hIs : isB g with
 | false =>
  have hK : rkR b g p = ([], [], 1) := if_neg fun h => by rw [hIs] at h; cases h.2
  rw [hK]
  rw [hIs] at hI
  (refine Spec.intro (C := T.cfg [] []) (rs := [.t 4, .t 5, .t 6]) (T.cfg_ok _ _) Tryz.func9 rfl rfl Tryz.ntmps9 Tryz.results9 (by simp [AObj.isNest]) (by simp [AObj.isNest]) (by kernel_rfl) ?_; intro X hX hP hC hXn hXm vals hA; refine ⟨_, by simp, hA, ?_⟩; have hmix : X.P.follows .mixedOrders = true := (by rw [hP]; exact T.mixed); clear hXn hXm)
  repeat' (first | fail | ((first | ((with_reducible (first | apply oA | apply oB)); exact rfl; intro K hK) | (refine hK _ ?_; clear hK K) | ((with_reducible (first | apply oG | apply oH)); iterate 3 exact rfl) | ((with_reducible apply oI); (iterate 2 exact rfl); intro K hK) | (with_reducible (first | apply wI | apply wJ | apply wK))); try simp only [go_sem, simprocAttr]) | fail | (with_reducible (first | apply oC | apply oJ | exact oK | apply wA | apply wB | apply wC hX hC | apply wD hX hC | apply wE hX hC hmix | apply wF hX hC hmix | apply wG | apply wH | apply And.intro)) | ((with_reducible refine oD ?_ ?_); first | fail | kernel_rfl) | ((with_reducible (first | apply oE | apply oF)); (iterate 3 exact rfl); all_goals (intro h; first | (exact absurd h (by decide)) | ((try simp only [go_sem, simprocAttr] at h); (try with_reducible intro K hK); simp only [go_sem, simprocAttr]))) | ((first | ((with_reducible apply wL); exact rfl) | ((with_reducible apply wM); exact rfl)); all_goals (try ((with_reducible intro h); first | (exact absurd h (by decide)) | (try simp only [go_sem, simprocAttr] at h)))) | omega | ((first | first | refine acall_simple hX hC hP (hO) rfl rfl rfl (by simp only [go_sem, simprocAttr]) rfl ?_ | refine acall_simple hX hC hP (hI) rfl rfl rfl (by simp only [go_sem, simprocAttr]) rfl ?_); try simp only [go_sem, simprocAttr]) | (intro h))
 | true =>
  have hK : rkR b g p = (rankL g p false g.n.toNat, rankL g p true g.n.toNat, 0) := if_pos ⟨h0, hIs⟩
  rw [hK]
  rw [hIs] at hI
  have hW0 := walk_spec g p hrun false 26 fun row _ => look0_spec row
  have hW1 := walk_spec g p hrun true 27 fun row hl => look1_spec row hl
  generalize rankL g p false g.n.toNat = R0 at hW0
  generalize rankL g p true g.n.toNat = R1 at hW1
  (refine Spec.intro (C := T.cfg [] []) (rs := [.t 4, .t 5, .t 6]) (T.cfg_ok _ _) Tryz.func9 rfl rfl Tryz.ntmps9 Tryz.results9 (by simp [AObj.isNest]) (by simp [AObj.isNest]) (by kernel_rfl) ?_; intro X hX hP hC hXn hXm vals hA; refine ⟨_, by simp, hA, ?_⟩; have hmix : X.P.follows .mixedOrders = true := (by rw [hP]; exact T.mixed); clear hXn hXm)
  repeat' (first | fail | ((first | ((with_reducible (first | apply oA | apply oB)); exact rfl; intro K hK) | (refine hK _ ?_; clear hK K) | ((with_reducible (first | apply oG | apply oH)); iterate 3 exact rfl) | ((with_reducible apply oI); (iterate 2 exact rfl); intro K hK) | (with_reducible (first | apply wI | apply wJ | apply wK))); try simp only [go_sem, simprocAttr]) | fail | (with_reducible (first | apply oC | apply oJ | exact oK | apply wA | apply wB | apply wC hX hC | apply wD hX hC | apply wE hX hC hmix | apply wF hX hC hmix | apply wG | apply wH | apply And.intro)) | ((with_reducible refine oD ?_ ?_); first | fail | kernel_rfl) | ((with_reducible (first | apply oE | apply oF)); (iterate 3 exact rfl); all_goals (intro h; first | (exact absurd h (by decide)) | ((try simp only [go_sem, simprocAttr] at h); (try with_reducible intro K hK); simp only [go_sem, simprocAttr]))) | ((first | ((with_reducible apply wL); exact rfl) | ((with_reducible apply wM); exact rfl)); all_goals (try ((with_reducible intro h); first | (exact absurd h (by decide)) | (try simp only [go_sem, simprocAttr] at h)))) | omega | ((first | first | refine acall_simple hX hC hP (hO) rfl rfl rfl (by simp only [go_sem, simprocAttr]) rfl ?_ | refine acall_simple hX hC hP (hI) rfl rfl rfl (by simp only [go_sem, simprocAttr]) rfl ?_ | refine acall_simple hX hC hP (hW0) rfl rfl rfl (by simp only [go_sem, simprocAttr]) rfl ?_ | refine acall_simple hX hC hP (hW1) rfl rfl rfl (by simp only [go_sem, simprocAttr]) rfl ?_); try simp only [go_sem, simprocAttr]) | (intro h))
end Go.Ab
end
section
namespace Go.Ab
open Go.Proofs
attribute [local congr] ACall.congr
set_option maxRecDepth 10000
set_option maxHeartbeats 8000000
def thB (x y : List Int) (i : Int) : Bool := decide (0 ≤ i) && decide (i < min (x.length : Int) (y.length : Int))
def belB (x y : List Int) (a b : Int) : Bool := thB x y a && thB x y b && decide (x.getD a.toNat 0 ≤ x.getD b.toNat 0) && decide (y.getD a.toNat 0 ≤ y.getD b.toNat 0)
theorem rob2 (x y : List Int) : Robs [(10000, .rob [.d (sI x)]), (10001, .rob [.d (sI y)])] := ⟨by simp [AObj.ro], by simp [nodupM, look], by simp, by simp [AObj.ids, AV.ids, AV.idss]⟩
theorem below1_spec (x y : List Int) (hx : x.length ≤ 1000) (hy : y.length ≤ 1000) (i : Int) : Spec Tryz.prog 50 (Args [eN i, .ptr 10000 0, .ptr 10001 0]) [(10000, .rob [.d (sI x)]), (10001, .rob [.d (sI y)])] (eB (thB x y i)) [(10000, .rob [.d (sI x)]), (10001, .rob [.d (sI y)])] := by
 (refine Spec.intro (C := T.cfg [] []) (rs := [.t 4]) (T.cfg_ok _ _) Tryz.func50 rfl rfl Tryz.ntmps50 Tryz.results50 (fun p hp => ⟨(Robs.low (rob2 x y) p hp).1, Robs.nest (rob2 x y) p hp⟩) (fun p hp => ⟨(Robs.low (rob2 x y) p hp).2, Robs.nest (rob2 x y) p hp⟩) (by kernel_rfl) ?_; intro X hX hP hC hXn hXm vals hA; refine ⟨_, by simp, hA, ?_⟩; have hmix : X.P.follows .mixedOrders = true := (by rw [hP]; exact T.mixed); clear hXn hXm)
 repeat' (first | fail | ((first | ((with_reducible (first | apply oA | apply oB)); exact rfl; intro K hK) | (refine hK _ ?_; clear hK K) | ((with_reducible (first | apply oG | apply oH)); iterate 3 exact rfl) | ((with_reducible apply oI); (iterate 2 exact rfl); intro K hK) | (with_reducible (first | apply wI | apply wJ | apply wK))); try simp only [go_sem, simprocAttr]) | fail | (with_reducible (first | apply oC | apply oJ | exact oK | apply wA | apply wB | apply wC hX hC | apply wD hX hC | apply wE hX hC hmix | apply wF hX hC hmix | apply wG | apply wH | apply And.intro)) | ((with_reducible refine oD ?_ ?_); first | fail | kernel_rfl) | ((with_reducible (first | apply oE | apply oF)); (iterate 3 exact rfl); all_goals (intro h; first | (exact absurd h (by decide)) | ((try simp only [go_sem, simprocAttr] at h); (try with_reducible intro K hK); simp only [go_sem, simprocAttr]))) | ((first | ((with_reducible apply wL); exact rfl) | ((with_reducible apply wM); exact rfl)); all_goals (try ((with_reducible intro h); first | (exact absurd h (by decide)) | (try simp only [go_sem, simprocAttr] at h)))) | omega | ((first | fail); try simp only [go_sem, simprocAttr]) | (intro h))
 all_goals (first | exact leR_robs (rob2 x y) | (simp only [thB]; simp [*]; done) | trace_state)
theorem thB_iff {x y : List Int} {i : Int} : thB x y i = true ↔ 0 ≤ i ∧ i < x.length ∧ i < y.length := by
 simp only [thB, Bool.and_eq_true, decide_eq_true_eq]; omega
theorem below_spec (x y : List Int) (hx : x.length ≤ 1000) (hy : y.length ≤ 1000) (a b : Int) : Spec Tryz.prog 22 (Args [.d (sI x), .d (sI y), eN a, eN b]) [] (eB (belB x y a b)) [] := by
 have hA1 := below1_spec x y hx hy a
 have hB1 := below1_spec x y hx hy b
 cases ha : thB x y a with
 | false =>
  have hr : belB x y a b = false := by unfold belB; rw [ha]; rfl
  rw [hr]
  rw [ha] at hA1
  (refine Spec.intro (C := T.cfg [] []) (rs := [.t 8]) (T.cfg_ok _ _) Tryz.func22 rfl rfl Tryz.ntmps22 Tryz.results22 (by simp [AObj.isNest]) (by simp [AObj.isNest]) (by kernel_rfl) ?_; intro X hX hP hC hXn hXm vals hA; refine ⟨_, by simp, hA, ?_⟩; have hmix : X.P.follows .mixedOrders = true := (by rw [hP]; exact T.mixed); clear hXn hXm)
  repeat' (first | fail | ((first | ((with_reducible (first | apply oA | apply oB)); exact rfl; intro K hK) | (refine hK _ ?_; clear hK K) | ((with_reducible (first | apply oG | apply oH)); iterate 3 exact rfl) | ((with_reducible apply oI); (iterate 2 exact rfl); intro K hK) | (with_reducible (first | apply wI | apply wJ | apply wK))); try simp only [go_sem, simprocAttr]) | fail | (with_reducible (first | apply oC | apply oJ | exact oK | apply wA | apply wB | apply wC hX hC | apply wD hX hC | apply wE hX hC hmix | apply wF hX hC hmix | apply wG | apply wH | apply And.intro)) | ((with_reducible refine oD ?_ ?_); first | fail | kernel_rfl) | ((with_reducible (first | apply oE | apply oF)); (iterate 3 exact rfl); all_goals (intro h; first | (exact absurd h (by decide)) | ((try simp only [go_sem, simprocAttr] at h); (try with_reducible intro K hK); simp only [go_sem, simprocAttr]))) | ((first | ((with_reducible apply wL); exact rfl) | ((with_reducible apply wM); exact rfl)); all_goals (try ((with_reducible intro h); first | (exact absurd h (by decide)) | (try simp only [go_sem, simprocAttr] at h)))) | omega | ((first | first | (refine acall_rob hX hC hP [(10000, 4), (10001, 5)] (hA1) rfl rfl rfl ?_ ?_ ?_ ?_ ?_ ?_ rfl rfl ?_ ?_; (focus (simp only [go_sem, simprocAttr]; done)); (iterate 6 (focus (simp [go_sem, simprocAttr]; done))); simp only [go_sem, simprocAttr, List.map_cons, List.map_nil]) | (refine acall_rob hX hC hP [(10000, 4), (10001, 5)] (hB1) rfl rfl rfl ?_ ?_ ?_ ?_ ?_ ?_ rfl rfl ?_ ?_; (focus (simp only [go_sem, simprocAttr]; done)); (iterate 6 (focus (simp [go_sem, simprocAttr]; done))); simp only [go_sem, simprocAttr, List.map_cons, List.map_nil])); try simp only [go_sem, simprocAttr]) | (intro h))
 | true =>
  rw [ha] at hA1
  cases hb : thB x y b with
  | false =>
   have hr : belB x y a b = false := by unfold belB; rw [ha, hb]; rfl
   rw [hr]
   rw [hb] at hB1
   (refine Spec.intro (C := T.cfg [] []) (rs := [.t 8]) (T.cfg_ok _ _) Tryz.func22 rfl rfl Tryz.ntmps22 Tryz.results22 (by simp [AObj.isNest]) (by simp [AObj.isNest]) (by kernel_rfl) ?_; intro X hX hP hC hXn hXm vals hA; refine ⟨_, by simp, hA, ?_⟩; have hmix : X.P.follows .mixedOrders = true := (by rw [hP]; exact T.mixed); clear hXn hXm)
   repeat' (first | fail | ((first | ((with_reducible (first | apply oA | apply oB)); exact rfl; intro K hK) | (refine hK _ ?_; clear hK K) | ((with_reducible (first | apply oG | apply oH)); iterate 3 exact rfl) | ((with_reducible apply oI); (iterate 2 exact rfl); intro K hK) | (with_reducible (first | apply wI | apply wJ | apply wK))); try simp only [go_sem, simprocAttr]) | fail | (with_reducible (first | apply oC | apply oJ | exact oK | apply wA | apply wB | apply wC hX hC | apply wD hX hC | apply wE hX hC hmix | apply wF hX hC hmix | apply wG | apply wH | apply And.intro)) | ((with_reducible refine oD ?_ ?_); first | fail | kernel_rfl) | ((with_reducible (first | apply oE | apply oF)); (iterate 3 exact rfl); all_goals (intro h; first | (exact absurd h (by decide)) | ((try simp only [go_sem, simprocAttr] at h); (try with_reducible intro K hK); simp only [go_sem, simprocAttr]))) | ((first | ((with_reducible apply wL); exact rfl) | ((with_reducible apply wM); exact rfl)); all_goals (try ((with_reducible intro h); first | (exact absurd h (by decide)) | (try simp only [go_sem, simprocAttr] at h)))) | omega | ((first | first | (refine acall_rob hX hC hP [(10000, 4), (10001, 5)] (hA1) rfl rfl rfl ?_ ?_ ?_ ?_ ?_ ?_ rfl rfl ?_ ?_; (focus (simp only [go_sem, simprocAttr]; done)); (iterate 6 (focus (simp [go_sem, simprocAttr]; done))); simp only [go_sem, simprocAttr, List.map_cons, List.map_nil]) | (refine acall_rob hX hC hP [(10000, 4), (10001, 5)] (hB1) rfl rfl rfl ?_ ?_ ?_ ?_ ?_ ?_ rfl rfl ?_ ?_; (focus (simp only [go_sem, simprocAttr]; done)); (iterate 6 (focus (simp [go_sem, simprocAttr]; done))); simp only [go_sem, simprocAttr, List.map_cons, List.map_nil])); try simp only [go_sem, simprocAttr]) | (intro h))
  | true =>
   rw [hb] at hB1
   have h1 := thB_iff.1 ha
   have h2 := thB_iff.1 hb
   have hr : belB x y a b = (decide (x.getD a.toNat 0 ≤ x.getD b.toNat 0) && decide (y.getD a.toNat 0 ≤ y.getD b.toNat 0)) := by unfold belB; rw [ha, hb]; rfl
   rw [hr]
   obtain ⟨i, rfl⟩ : ∃ i : Nat, a = i := ⟨a.toNat, by omega⟩
   obtain ⟨j, rfl⟩ : ∃ j : Nat, b = j := ⟨b.toNat, by omega⟩
   simp only [Int.toNat_natCast]
   cases c1 : decide (x.getD i 0 ≤ x.getD j 0) with
   | false =>
    (refine Spec.intro (C := T.cfg [] []) (rs := [.t 8]) (T.cfg_ok _ _) Tryz.func22 rfl rfl Tryz.ntmps22 Tryz.results22 (by simp [AObj.isNest]) (by simp [AObj.isNest]) (by kernel_rfl) ?_; intro X hX hP hC hXn hXm vals hA; refine ⟨_, by simp, hA, ?_⟩; have hmix : X.P.follows .mixedOrders = true := (by rw [hP]; exact T.mixed); clear hXn hXm)
    repeat' (first | fail | ((first | ((with_reducible (first | apply oA | apply oB)); exact rfl; intro K hK) | (refine hK _ ?_; clear hK K) | ((with_reducible (first | apply oG | apply oH)); iterate 3 exact rfl) | ((with_reducible apply oI); (iterate 2 exact rfl); intro K hK) | (with_reducible (first | apply wI | apply wJ | apply wK))); try simp only [go_sem, simprocAttr, c1, Bool.false_and]) | fail | (with_reducible (first | apply oC | apply oJ | exact oK | apply wA | apply wB | apply wC hX hC | apply wD hX hC | apply wE hX hC hmix | apply wF hX hC hmix | apply wG | apply wH | apply And.intro)) | ((with_reducible refine oD ?_ ?_); first | fail | kernel_rfl) | ((with_reducible (first | apply oE | apply oF)); (iterate 3 exact rfl); all_goals (intro h; first | (exact absurd h (by decide)) | ((try simp only [go_sem, simprocAttr, c1, Bool.false_and] at h); (try with_reducible intro K hK); simp only [go_sem, simprocAttr, c1, Bool.false_and]))) | ((first | ((with_reducible apply wL); exact rfl) | ((with_reducible apply wM); exact rfl)); all_goals (try ((with_reducible intro h); first | (exact absurd h (by decide)) | (try simp only [go_sem, simprocAttr, c1, Bool.false_and] at h)))) | omega | ((first | first | (refine acall_rob hX hC hP [(10000, 4), (10001, 5)] (hA1) rfl rfl rfl ?_ ?_ ?_ ?_ ?_ ?_ rfl rfl ?_ ?_; (focus (simp only [go_sem, simprocAttr, c1, Bool.false_and]; done)); (iterate 6 (focus (simp [go_sem, simprocAttr, c1, Bool.false_and]; done))); simp only [go_sem, simprocAttr, c1, Bool.false_and, List.map_cons, List.map_nil]) | (refine acall_rob hX hC hP [(10000, 4), (10001, 5)] (hB1) rfl rfl rfl ?_ ?_ ?_ ?_ ?_ ?_ rfl rfl ?_ ?_; (focus (simp only [go_sem, simprocAttr, c1, Bool.false_and]; done)); (iterate 6 (focus (simp [go_sem, simprocAttr, c1, Bool.false_and]; done))); simp only [go_sem, simprocAttr, c1, Bool.false_and, List.map_cons, List.map_nil])); try simp only [go_sem, simprocAttr, c1, Bool.false_and]) | (intro h))
   | true =>
    (refine Spec.intro (C := T.cfg [] []) (rs := [.t 8]) (T.cfg_ok _ _) Tryz.func22 rfl rfl Tryz.ntmps22 Tryz.results22 (by simp [AObj.isNest]) (by simp [AObj.isNest]) (by kernel_rfl) ?_; intro X hX hP hC hXn hXm vals hA; refine ⟨_, by simp, hA, ?_⟩; have hmix : X.P.follows .mixedOrders = true := (by rw [hP]; exact T.mixed); clear hXn hXm)
    repeat' (first | fail | ((first | ((with_reducible (first | apply oA | apply oB)); exact rfl; intro K hK) | (refine hK _ ?_; clear hK K) | ((with_reducible (first | apply oG | apply oH)); iterate 3 exact rfl) | ((with_reducible apply oI); (iterate 2 exact rfl); intro K hK) | (with_reducible (first | apply wI | apply wJ | apply wK))); try simp only [go_sem, simprocAttr, c1, Bool.true_and]) | fail | (with_reducible (first | apply oC | apply oJ | exact oK | apply wA | apply wB | apply wC hX hC | apply wD hX hC | apply wE hX hC hmix | apply wF hX hC hmix | apply wG | apply wH | apply And.intro)) | ((with_reducible refine oD ?_ ?_); first | fail | kernel_rfl) | ((with_reducible (first | apply oE | apply oF)); (iterate 3 exact rfl); all_goals (intro h; first | (exact absurd h (by decide)) | ((try simp only [go_sem, simprocAttr, c1, Bool.true_and] at h); (try with_reducible intro K hK); simp only [go_sem, simprocAttr, c1, Bool.true_and]))) | ((first | ((with_reducible apply wL); exact rfl) | ((with_reducible apply wM); exact rfl)); all_goals (try ((with_reducible intro h); first | (exact absurd h (by decide)) | (try simp only [go_sem, simprocAttr, c1, Bool.true_and] at h)))) | omega | ((first | first | (refine acall_rob hX hC hP [(10000, 4), (10001, 5)] (hA1) rfl rfl rfl ?_ ?_ ?_ ?_ ?_ ?_ rfl rfl ?_ ?_; (focus (simp only [go_sem, simprocAttr, c1, Bool.true_and]; done)); (iterate 6 (focus (simp [go_sem, simprocAttr, c1, Bool.true_and]; done))); simp only [go_sem, simprocAttr, c1, Bool.true_and, List.map_cons, List.map_nil]) | (refine acall_rob hX hC hP [(10000, 4), (10001, 5)] (hB1) rfl rfl rfl ?_ ?_ ?_ ?_ ?_ ?_ rfl rfl ?_ ?_; (focus (simp only [go_sem, simprocAttr, c1, Bool.true_and]; done)); (iterate 6 (focus (simp [go_sem, simprocAttr, c1, Bool.true_and]; done))); simp only [go_sem, simprocAttr, c1, Bool.true_and, List.map_cons, List.map_nil])); try simp only [go_sem, simprocAttr, c1, Bool.true_and]) | (intro h))
def g20 : Gr := ⟨4, [(0, 1), (1, 3), (0, 2), (2, 3)]⟩
def p20 : Pl := ⟨[0, 1, 2, 3], [[0, 2], [1], [3], []]⟩
theorem ok20 : (true = true) ↔ (chkG g20).1 = 0 ∧ PlanOk g20 p20 := ⟨fun _ => ⟨by decide, ⟨rfl, by decide, by decide⟩⟩, fun _ => rfl⟩
theorem rk20 : rkR true g20 p20 = ([0, 1, 2, 3], [0, 2, 1, 3], 0) := by
 unfold rkR
 rw [if_pos ⟨rfl, by decide⟩]
 rfl
theorem speaks20_spec : Spec Tryz.prog 7 (Args []) [] (eB true) [] := by
 have hRk := ranks_spec g20 (by decide) p20 ⟨by decide, by decide, by decide⟩ true ok20
 rw [rk20] at hRk
 simp only at hRk
 have e1 : g20.es.map rE = [[.sc (.int .i64 0), .sc (.int .i64 1)], [.sc (.int .i64 1), .sc (.int .i64 3)], [.sc (.int .i64 0), .sc (.int .i64 2)], [.sc (.int .i64 2), .sc (.int .i64 3)]] := rfl
 have e2 : p20.ord.map rI = [[.sc (.int .i64 0)], [.sc (.int .i64 1)], [.sc (.int .i64 2)], [.sc (.int .i64 3)]] := rfl
 have e3 : vI p20.outs = [[.sl 1 [[.sc (.int .i64 0)], [.sc (.int .i64 2)]]], [.sl 1 [[.sc (.int .i64 1)]]], [.sl 1 [[.sc (.int .i64 3)]]], [.sl 1 []]] := rfl
 have e4 : g20.n = 4 := rfl
 have e5 : belB [0, 1, 2, 3] [0, 2, 1, 3] 1 3 = true := by decide
 have e6 : belB [0, 1, 2, 3] [0, 2, 1, 3] 1 2 = false := by decide
 (refine Spec.intro (C := T.cfg [] []) (rs := [.t 0]) (T.cfg_ok _ _) Tryz.func7 rfl rfl Tryz.ntmps7 Tryz.results7 (by simp [AObj.isNest]) (by simp [AObj.isNest]) (by kernel_rfl) ?_; intro X hX hP hC hXn hXm vals hA; refine ⟨_, by simp, hA, ?_⟩; have hmix : X.P.follows .mixedOrders = true := (by rw [hP]; exact T.mixed); clear hXn hXm)
 repeat' (first | fail | ((first | ((with_reducible (first | apply oA | apply oB)); exact rfl; intro K hK) | (refine hK _ ?_; clear hK K) | ((with_reducible (first | apply oG | apply oH)); iterate 3 exact rfl) | ((with_reducible apply oI); (iterate 2 exact rfl); intro K hK) | (with_reducible (first | apply wI | apply wJ | apply wK))); try simp only [go_sem, simprocAttr, e1, e2, e3, e4, e5, e6, List.map_cons, List.map_nil, rI, decide_true]) | fail | (with_reducible (first | apply oC | apply oJ | exact oK | apply wA | apply wB | apply wC hX hC | apply wD hX hC | apply wE hX hC hmix | apply wF hX hC hmix | apply wG | apply wH | apply And.intro)) | ((with_reducible refine oD ?_ ?_); first | fail | kernel_rfl) | ((with_reducible (first | apply oE | apply oF)); (iterate 3 exact rfl); all_goals (intro h; first | (exact absurd h (by decide)) | ((try simp only [go_sem, simprocAttr, e1, e2, e3, e4, e5, e6, List.map_cons, List.map_nil, rI, decide_true] at h); (try with_reducible intro K hK); simp only [go_sem, simprocAttr, e1, e2, e3, e4, e5, e6, List.map_cons, List.map_nil, rI, decide_true]))) | ((first | ((with_reducible apply wL); exact rfl) | ((with_reducible apply wM); exact rfl)); all_goals (try ((with_reducible intro h); first | (exact absurd h (by decide)) | (try simp only [go_sem, simprocAttr, e1, e2, e3, e4, e5, e6, List.map_cons, List.map_nil, rI, decide_true] at h)))) | omega | ((first | first | (refine acall_look hX hC hP (hRk) rfl rfl rfl ?_ ?_ rfl ?_; iterate 2 (focus (simp only [go_sem, simprocAttr, e1, e2, e3, e4, e5, e6, List.map_cons, List.map_nil, rI, decide_true]; done))) | (refine acall_look hX hC hP (sameInts_spec [0, 1, 2, 3] [0, 1, 2, 3] (by decide)) rfl rfl rfl ?_ ?_ rfl ?_; iterate 2 (focus (simp only [go_sem, simprocAttr, e1, e2, e3, e4, e5, e6, List.map_cons, List.map_nil, rI, decide_true]; done))) | (refine acall_look hX hC hP (sameInts_spec [0, 2, 1, 3] [0, 2, 1, 3] (by decide)) rfl rfl rfl ?_ ?_ rfl ?_; iterate 2 (focus (simp only [go_sem, simprocAttr, e1, e2, e3, e4, e5, e6, List.map_cons, List.map_nil, rI, decide_true]; done))) | (refine acall_look hX hC hP (below_spec [0, 1, 2, 3] [0, 2, 1, 3] (by decide) (by decide) 1 3) rfl rfl rfl ?_ ?_ rfl ?_; iterate 2 (focus (simp only [go_sem, simprocAttr, e1, e2, e3, e4, e5, e6, List.map_cons, List.map_nil, rI, decide_true]; done))) | (refine acall_look hX hC hP (below_spec [0, 1, 2, 3] [0, 2, 1, 3] (by decide) (by decide) 1 2) rfl rfl rfl ?_ ?_ rfl ?_; iterate 2 (focus (simp only [go_sem, simprocAttr, e1, e2, e3, e4, e5, e6, List.map_cons, List.map_nil, rI, decide_true]; done)))); try simp only [go_sem, simprocAttr, e1, e2, e3, e4, e5, e6, List.map_cons, List.map_nil, rI, decide_true]) | (intro h))
end Go.Ab
end
section
namespace Go.Ab
open Go.Proofs
attribute [local congr] ACall.congr
set_option maxRecDepth 10000
set_option maxHeartbeats 8000000
def g16 : Gr := ⟨3, [(0, 1), (0, 2)]⟩
def p16 : Pl := ⟨[0, 1, 2], [[0, 1], [], []]⟩
def x16 : Gr := ⟨4, [(0, 1), (0, 2), (1, 3), (2, 3)]⟩
def q16 : Pl := ⟨[0, 1, 2, 3], [[0, 1], [2], [3], []]⟩
end Go.Ab
end
section
namespace Go.Ab
open Go.Proofs
attribute [local congr] ACall.congr
set_option maxRecDepth 10000
def upB (l : List Int) (k : Nat) : Bool := (List.range k).all fun i => decide (l.getD i 0 = (i : Int))
def renK (g : Gr) (names order : List Int) (k : Nat) : List Edge := (List.range k).map fun i => (names.getD (g.es.getD (order.getD i 0).toNat (0, 0)).1.toNat 0, names.getD (g.es.getD (order.getD i 0).toNat (0, 0)).2.toNat 0)
def renG (g : Gr) (names order : List Int) : Gr := ⟨g.n, renK g names order order.length⟩
theorem renK_length {g : Gr} {names order : List Int} {k : Nat} : (renK g names order k).length = k := by simp [renK]
def renOk (g : Gr) (names order : List Int) : Bool := mayB g && eachB names g.n && eachB order g.es.length
def renR (g : Gr) (names order : List Int) : Gr := if renOk g names order then renG g names order else ⟨0, []⟩
end Go.Ab
end
section
namespace Go.Ab
def Ed (g : Gr) (a b : Int) : Prop := ∃ i, i < g.es.length ∧ tl g i = a ∧ hd g i = b
def Cyc (g : Gr) (l : List Int) : Prop := ∀ i, i < l.length → Ed g (l.getD i 0) (l.getD ((i + 1) % l.length) 0)
def Chain' (g : Gr) (way : List Int) (at_ : Int) : Prop := ∀ p, p < way.length → Ed g ((way ++ [at_]).getD (p + 1) 0) (way.getD p 0)
theorem getD_last {l : List Int} {a : Int} : (l ++ [a]).getD l.length 0 = a := by
 rw [List.getD_eq_getElem?_getD, List.getElem?_append_right (Nat.le_refl _)]; simp
theorem wayF_chain {g : Gr} (hm : mayB g = true) : ∀ (f : Nat) (way : List Int) (a : Nat), a < g.n.toNat → (a : Int) ∉ runG g → Chain' g way a → left g way ≤ f →
  Chain' g (wayF g (wts g (runG g)) f way a).1 (wayF g (wts g (runG g)) f way a).2 ∧ 0 ≤ (wayF g (wts g (runG g)) f way a).2 ∧ (wayF g (wts g (runG g)) f way a).2 ∈ (wayF g (wts g (runG g)) f way a).1
 | f, way, a, ha, hn, hc, hl => by
  by_cases hmem : (a : Int) ∈ way
  ·rw [wayF_end (.inr hmem)]
   exact ⟨hc, by simp only; omega, hmem⟩
  ·have hla := left_app ha hmem
   cases f with
   | zero => omega
   | succ f =>
    obtain ⟨⟨i, hi, hhd, htl, hnr⟩, _⟩ := backG_spec hm (Q_of hm ha hn)
    have htr := tl_range hm hi
    rw [htl] at htr
    obtain ⟨b, hbe⟩ : ∃ b : Nat, backG g (wts g (runG g)) a = b := ⟨(backG g (wts g (runG g)) a).toNat, by omega⟩
    rw [hbe] at hnr htr htl
    have e1 : wayF g (wts g (runG g)) (f + 1) way a = wayF g (wts g (runG g)) f (way ++ [(a : Int)]) b := by
     simp only [wayF]; rw [if_neg (by intro h; rcases h with h | h; omega; exact hmem h), hbe]
    rw [e1]
    refine wayF_chain hm f (way ++ [(a : Int)]) b (by omega) hnr ?_ (by omega)
    intro p hp
    rw [List.length_append, List.length_singleton] at hp
    by_cases hpl : p < way.length
    ·have := hc p hpl
     rw [getD_app (by simp; omega), getD_app hpl]
     exact this
    ·have : p = way.length := by omega
     subst this
     have e2 := getD_last (l := way ++ [(a : Int)]) (a := (b : Int))
     rw [List.length_append, List.length_singleton] at e2
     rw [e2, getD_last]
     exact ⟨i, hi, htl, hhd⟩
theorem getD_drop {l : List Int} {k p : Nat} : (l.drop k).getD p 0 = l.getD (k + p) 0 := by
 rw [List.getD_eq_getElem?_getD, List.getElem?_drop, ← List.getD_eq_getElem?_getD]
theorem Cyc.turn {g : Gr} {l : List Int} (h : ∀ p, p < l.length → Ed g (l.getD ((p + 1) % l.length) 0) (l.getD p 0)) (h0 : 0 < l.length) : Cyc g (turnL l.reverse) := by
 have h0r : 0 < l.reverse.length := by simpa using h0
 obtain ⟨k, hk1, hk2, _⟩ := idxI_mem (minL_mem h0r)
 rw [List.length_reverse] at hk2
 have e1 : turnL l.reverse = l.reverse.drop k ++ l.reverse.take k := by simp only [turnL, hk1, Int.toNat_natCast]
 have hlen : (turnL l.reverse).length = l.length := by rw [e1]; simp; omega
 have hg : ∀ i, i < l.length → (turnL l.reverse).getD i 0 = l.getD (l.length - 1 - (i + k) % l.length) 0 := by
  intro i hi
  rw [e1, List.getD_eq_getElem?_getD]
  by_cases hik : i < l.length - k
  ·rw [List.getElem?_append_left (by simp; omega), List.getElem?_drop, List.getElem?_reverse (by omega), Nat.mod_eq_of_lt (by omega), ← List.getD_eq_getElem?_getD]
   congr 1; omega
  ·rw [List.getElem?_append_right (by simp; omega), List.length_drop, List.length_reverse, List.getElem?_take, if_pos (by omega), List.getElem?_reverse (by omega), ← List.getD_eq_getElem?_getD]
   have : (i + k) % l.length = i + k - l.length := by rw [Nat.mod_eq_sub_mod (by omega), Nat.mod_eq_of_lt (by omega)]
   rw [this]; congr 1; omega
 intro i hi
 rw [hlen] at hi ⊢
 rw [hg i hi, hg _ (Nat.mod_lt _ h0)]
 have hmm : ((i + 1) % l.length + k) % l.length = ((i + k) % l.length + 1) % l.length := by
  rw [Nat.mod_add_mod, Nat.mod_add_mod]; congr 1; omega
 rw [hmm]
 have hj := Nat.mod_lt (i + k) h0
 generalize (i + k) % l.length = j at hj ⊢
 by_cases hlast : j + 1 < l.length
 ·rw [Nat.mod_eq_of_lt hlast]
  have := h (l.length - 1 - (j + 1)) (by omega)
  rw [Nat.mod_eq_of_lt (by omega), show l.length - 1 - (j + 1) + 1 = l.length - 1 - j from by omega] at this
  exact this
 ·have : j + 1 = l.length := by omega
  rw [this, Nat.mod_self]
  have := h (l.length - 1) (by omega)
  rw [show l.length - 1 + 1 = l.length from by omega, Nat.mod_self] at this
  rw [show l.length - 1 - j = 0 from by omega]
  exact this
def Acyc (g : Gr) : Prop := ∃ r : Int → Nat, ∀ i, i < g.es.length → r (tl g i) < r (hd g i)
theorem okG_iff {g : Gr} (hm : mayB g = true) : okG g = true ↔ Acyc g := by
 constructor
 ·intro h
  refine ⟨fun v => ((atK g.n.toNat (runG g) (runG g).length).getD v.toNat 0).toNat, fun i hi => ?_⟩
  have h1 := rises_at (ord_right hm h) hi
  have h2 := atK_nonneg (n := g.n.toNat) (l := runG g) (k := (runG g).length) (y := (tl g i).toNat)
  simp only; omega
 ·rintro ⟨r, hr⟩
  cases h : okG g with
  | true => rfl
  | false =>
   exfalso
   obtain ⟨y, hy, hn⟩ := okG_not hm h
   have key : ∀ (p : Nat) (y : Nat), y < g.n.toNat → (y : Int) ∉ runG g → r y = p → False := by
    intro p
    induction p using Nat.strongRecOn with
    | _ p ih =>
     intro y hy hn hp
     obtain ⟨t, i, hi, h1, rfl, h2⟩ := Q_of hm hy hn
     have htr := tl_range hm hi
     have hlt := hr i hi
     rw [h1, hp] at hlt
     have e : ((tl g i).toNat : Int) = tl g i := by omega
     exact ih (r (tl g i)) hlt (tl g i).toNat (by omega) (by rw [e]; exact h2) (by rw [e])
   exact key _ y hy hn rfl
theorem cycG_ok {g : Gr} (hm : mayB g = true) (h : okG g = true) : cycG g = [] := by
 have hall := (eachB_iff.1 (okG_all hm h)).2
 have hn := mayB_n hm
 rcases start_eq hm with ⟨h1, h2⟩ | ⟨a, ha, h1, h2, h3⟩
 ·have : wayG g = ([], -1) := by
   unfold wayG; rw [h1]; exact wayF_end (.inl (by omega)) _
  simp only [cycG, this]
  rw [if_pos (by omega)]
 ·exact absurd (hall a (allN_mem.2 (by omega))) h3
theorem cycG_not {g : Gr} (hm : mayB g = true) (h : okG g = false) : 0 < (cycG g).length ∧ Cyc g (cycG g) := by
 obtain ⟨y, hy, hny⟩ := okG_not hm h
 have hn := mayB_n hm
 rcases start_eq hm with ⟨h1, h2⟩ | ⟨a, ha, h1, h2, h3⟩
 ·exfalso
  rcases findI_spec (f := fun n : Int => decide (0 < n)) (l := wts g (runG g)) 0 with ⟨_, h4⟩ | ⟨k, h4, _⟩
  ·have h5 := (wt_pos hm hy).2 hny
   have h6 := h4 ((wts g (runG g)).getD y 0) (by rw [List.getD_eq_getElem?_getD, wts_get hy]; exact List.mem_of_getElem? (wts_get hy))
   rw [wts_getD hy] at h6
   exact absurd h5 (of_decide_eq_false h6)
  ·omega
 ·obtain ⟨h4, h5, h6⟩ := wayF_chain hm g.n.toNat [] a ha h3 (fun p hp => by simp at hp) left_gx
  have hw : wayG g = wayF g (wts g (runG g)) g.n.toNat [] a := by unfold wayG; rw [h1]
  rw [← hw] at h4 h5 h6
  obtain ⟨k, hk1, hk2, hk3⟩ := idxI_mem h6
  have hc : cycG g = turnL ((wayG g).1.drop k).reverse := by
   simp only [cycG]
   rw [if_neg (by omega), hk1, Int.toNat_natCast]
  have hlen : ((wayG g).1.drop k).length = (wayG g).1.length - k := by simp
  have h0 : 0 < ((wayG g).1.drop k).length := by omega
  refine ⟨?_, ?_⟩
  ·rw [hc]
   simp only [turnL, List.length_append, List.length_drop, List.length_take, List.length_reverse]
   omega
  ·rw [hc]
   refine Cyc.turn (fun p hp => ?_) h0
   rw [hlen] at hp ⊢
   have h7 := h4 (k + p) (by omega)
   rw [getD_drop (p := p)]
   by_cases hlast : p + 1 < (wayG g).1.length - k
   ·rw [Nat.mod_eq_of_lt hlast, getD_drop]
    rw [getD_app (by omega)] at h7
    exact h7
   ·have : p + 1 = (wayG g).1.length - k := by omega
    rw [this, Nat.mod_self, getD_drop, Nat.add_zero, hk3]
    rw [show k + p + 1 = (wayG g).1.length from by omega, getD_last] at h7
    exact h7
end Go.Ab
end
section
namespace Go.Ab
def nm (names : List Int) (v : Int) : Int := names.getD v.toNat 0
structure RenOk (g : Gr) (names order : List Int) : Prop where
 may : mayB g = true
 nms : eachB names g.n = true
 ord : eachB order (g.es.length : Int) = true
section
variable {g : Gr} {names order : List Int} (h : RenOk g names order)
include h
theorem RenOk.len : (renG g names order).es.length = g.es.length := by
 have := (eachB_iff.1 h.ord).1
 simp only [renG, renK_length]; omega
theorem RenOk.edge {i : Nat} (hi : i < g.es.length) : ∃ j, j < g.es.length ∧ order.getD i 0 = (j : Int) ∧ (renG g names order).es.getD i (0, 0) = (nm names (tl g j), nm names (hd g j)) := by
 have hol := (eachB_iff.1 h.ord).1
 have := eachB_lo h.ord _ (getD_mem (l := order) (m := i) (by omega))
 refine ⟨(order.getD i 0).toNat, by omega, by omega, ?_⟩
 simp only [renG, renK, nm, tl, hd]
 rw [List.getD_eq_getElem?_getD, List.getElem?_map, List.getElem?_range (by omega)]
 rfl
theorem RenOk.back {j : Nat} (hj : j < g.es.length) : ∃ i, i < g.es.length ∧ order.getD i 0 = (j : Int) ∧ (renG g names order).es.getD i (0, 0) = (nm names (tl g j), nm names (hd g j)) := by
 obtain ⟨hol, hall⟩ := eachB_iff.1 h.ord
 obtain ⟨i, hi, hil, he⟩ := idxI_mem (hall (j : Int) (allN_mem.2 (by omega)))
 obtain ⟨j', _, h2, h3⟩ := h.edge (i := i) (by omega)
 have : j' = j := by omega
 subst this
 exact ⟨i, by omega, he, h3⟩
theorem RenOk.inj {a b : Int} (ha : 0 ≤ a ∧ a < g.n) (hb : 0 ≤ b ∧ b < g.n) (e : nm names a = nm names b) : a = b := by
 have hnl := (eachB_iff.1 h.nms).1
 have := eachB_once h.nms (i := a.toNat) (j := b.toNat) (by omega) (by omega) e
 omega
theorem RenOk.range {a : Int} (ha : 0 ≤ a ∧ a < g.n) : 0 ≤ nm names a ∧ nm names a < g.n := by
 have hnl := (eachB_iff.1 h.nms).1
 exact eachB_lo h.nms _ (getD_mem (by omega))
theorem RenOk.inv {a : Int} (ha : 0 ≤ a ∧ a < g.n) : idxI names (nm names a) = a := by
 have hnl := (eachB_iff.1 h.nms).1
 obtain ⟨k, hk, hkl, he⟩ := idxI_mem (getD_mem (l := names) (m := a.toNat) (by omega))
 have h2 := eachB_once h.nms hkl (j := a.toNat) (by omega) he
 have h3 : idxI names (nm names a) = k := hk
 omega
theorem RenOk.of {v : Int} (hv : 0 ≤ v ∧ v < g.n) : ∃ a, (0 ≤ a ∧ a < g.n) ∧ nm names a = v := by
 obtain ⟨hnl, hall⟩ := eachB_iff.1 h.nms
 obtain ⟨k, hk, hkl, he⟩ := idxI_mem (hall v (allN_mem.2 (by omega)))
 exact ⟨k, by omega, he⟩
theorem RenOk.may' : mayB (renG g names order) = true := by
 have hn := mayB_n h.may
 have hlen := h.len
 have hall : (renG g names order).es.any (outE (renG g names order)) = false := by
  rw [List.any_eq_false]
  intro e he
  obtain ⟨i, hi, rfl⟩ := List.getElem_of_mem he
  obtain ⟨j, hj, _, h3⟩ := h.edge (i := i) (by omega)
  rw [List.getD_eq_getElem?_getD, List.getElem?_eq_getElem hi, Option.getD_some] at h3
  rw [h3]
  have h4 := h.range (tl_range h.may hj)
  have h5 := h.range (hd_range h.may hj)
  have e1 : (renG g names order).n = g.n := rfl
  simp only [outE, outB, e1, Bool.or_eq_true, decide_eq_true_eq]
  omega
 have e1 : (renG g names order).n = g.n := rfl
 simp only [mayB, hall, e1, Bool.not_false, Bool.and_true, Bool.and_eq_true, decide_eq_true_eq]
 omega
omit h in
theorem ren_tl {i j : Nat} (e : (renG g names order).es.getD i (0, 0) = (nm names (tl g j), nm names (hd g j))) : tl (renG g names order) i = nm names (tl g j) ∧ hd (renG g names order) i = nm names (hd g j) := ⟨congrArg Prod.fst e, congrArg Prod.snd e⟩
theorem RenOk.loop : (0 ≤ loopI (renG g names order)) ↔ 0 ≤ loopI g := by
 have key : ∀ g : Gr, (0 ≤ loopI g) ↔ ∃ i, i < g.es.length ∧ tl g i = hd g i := by
  intro g
  have := findI_any (fun e : Edge => decide (e.1 = e.2)) g.es
  rw [show (0 ≤ loopI g) ↔ g.es.any (fun e : Edge => decide (e.1 = e.2)) = true from by rw [← this]; simp [loopI], List.any_eq_true]
  constructor
  ·rintro ⟨e, he, h2⟩
   obtain ⟨i, hi, rfl⟩ := List.getElem_of_mem he
   refine ⟨i, hi, ?_⟩
   simpa [tl, hd, List.getD_eq_getElem?_getD, List.getElem?_eq_getElem hi] using h2
  ·rintro ⟨i, hi, h2⟩
   refine ⟨_, List.getElem_mem hi, ?_⟩
   simpa [tl, hd, List.getD_eq_getElem?_getD, List.getElem?_eq_getElem hi] using h2
 rw [key, key, h.len]
 constructor
 ·rintro ⟨i, hi, e⟩
  obtain ⟨j, hj, _, h3⟩ := h.edge hi
  obtain ⟨e1, e2⟩ := ren_tl h3
  exact ⟨j, hj, h.inj (tl_range h.may hj) (hd_range h.may hj) (by rw [← e1, ← e2, e])⟩
 ·rintro ⟨j, hj, e⟩
  obtain ⟨i, hi, _, h3⟩ := h.back hj
  obtain ⟨e1, e2⟩ := ren_tl h3
  exact ⟨i, hi, by rw [e1, e2, e]⟩
omit h in
theorem twice_iff (g : Gr) : (0 ≤ twiceI g) ↔ ∃ i k, i < g.es.length ∧ k < g.es.length ∧ i ≠ k ∧ g.es.getD i (0, 0) = g.es.getD k (0, 0) := by
 have := findI_any (twiceB g) (List.range g.es.length)
 rw [show (0 ≤ twiceI g) ↔ (List.range g.es.length).any (twiceB g) = true from by rw [← this]; simp [twiceI], List.any_eq_true]
 constructor
 ·rintro ⟨i, hi, h2⟩
  have hil := List.mem_range.1 hi
  have h3 := of_decide_eq_true h2
  rw [List.mem_iff_getElem?] at h3
  obtain ⟨k, hk⟩ := h3
  rw [List.getElem?_take] at hk
  split at hk
  ·rename_i hki
   exact ⟨i, k, hil, by omega, by omega, by rw [List.getD_eq_getElem?_getD (i := k), hk]; rfl⟩
  ·cases hk
 ·rintro ⟨i, k, hi, hk, hne, e⟩
  have main : ∀ i k, k < i → i < g.es.length → g.es.getD i (0, 0) = g.es.getD k (0, 0) → twiceB g i = true := by
   intro i k hki hi e
   refine decide_eq_true ?_
   rw [e, List.mem_iff_getElem?]
   refine ⟨k, ?_⟩
   rw [List.getElem?_take, if_pos hki, List.getD_eq_getElem?_getD, List.getElem?_eq_getElem (by omega)]; rfl
  rcases Nat.lt_or_gt_of_ne hne with hlt | hgt
  ·exact ⟨k, List.mem_range.2 hk, main k i hlt hk e.symm⟩
  ·exact ⟨i, List.mem_range.2 hi, main i k hgt hi e⟩
theorem RenOk.twice : (0 ≤ twiceI (renG g names order)) ↔ 0 ≤ twiceI g := by
 have hol := (eachB_iff.1 h.ord).1
 rw [twice_iff, twice_iff, h.len]
 constructor
 ·rintro ⟨i, k, hi, hk, hne, e⟩
  obtain ⟨j, hj, ho, h3⟩ := h.edge hi
  obtain ⟨j', hj', ho', h3'⟩ := h.edge hk
  refine ⟨j, j', hj, hj', fun e' => ?_, ?_⟩
  ·subst e'
   exact hne (eachB_once h.ord (by omega) (by omega) (by rw [ho, ho']))
  ·rw [h3, h3', Prod.mk.injEq] at e
   have e1 := h.inj (tl_range h.may hj) (tl_range h.may hj') e.1
   have e2 := h.inj (hd_range h.may hj) (hd_range h.may hj') e.2
   exact Prod.ext e1 e2
 ·rintro ⟨j, j', hj, hj', hne, e⟩
  obtain ⟨i, hi, ho, h3⟩ := h.back hj
  obtain ⟨k, hk, ho', h3'⟩ := h.back hj'
  refine ⟨i, k, hi, hk, fun e' => ?_, ?_⟩
  ·subst e'; omega
  ·have e1 : tl g j = tl g j' := congrArg Prod.fst e
   have e2 : hd g j = hd g j' := congrArg Prod.snd e
   rw [h3, h3', e1, e2]
theorem RenOk.acyc : okG (renG g names order) = okG g := by
 rw [Bool.eq_iff_iff, okG_iff h.may', okG_iff h.may]
 constructor
 ·rintro ⟨r, hr⟩
  refine ⟨fun v => r (nm names v), fun j hj => ?_⟩
  obtain ⟨i, hi, _, h3⟩ := h.back hj
  obtain ⟨e1, e2⟩ := ren_tl h3
  have := hr i (by rw [h.len]; exact hi)
  rwa [e1, e2] at this
 ·rintro ⟨r, hr⟩
  refine ⟨fun v => r (idxI names v), fun i hi => ?_⟩
  rw [h.len] at hi
  obtain ⟨j, hj, _, h3⟩ := h.edge hi
  obtain ⟨e1, e2⟩ := ren_tl h3
  have := hr j hj
  rw [e1, e2]; simp only; rw [h.inv (tl_range h.may hj), h.inv (hd_range h.may hj)]
  exact this
omit h in
theorem bare_mem {g : Gr} {y : Int} : y ∈ bareG (·.2) g ↔ (0 ≤ y ∧ y < g.n) ∧ ∀ i, i < g.es.length → hd g i ≠ y := by
 simp only [bareG, bareK, List.mem_map, List.mem_filter, List.mem_range, decide_eq_true_eq]
 have he : ∀ x : Nat, x < g.n.toNat → (((endsL (·.2) g).getD x []).length = 0 ↔ ∀ i, i < g.es.length → hd g i ≠ (x : Int)) := by
  intro x hx
  have e : (endsL (·.2) g).getD x [] = endsZ (·.2) g.es g.es.length (x : Int) := by
   simp [endsL, List.getD_eq_getElem?_getD, List.getElem?_range hx, endsK_eq]
  rw [e, List.length_eq_zero_iff]
  simp only [endsZ, List.map_eq_nil_iff, List.filter_eq_nil_iff, List.mem_range, decide_eq_true_eq]
  rfl
 constructor
 ·rintro ⟨x, ⟨hx, h0⟩, rfl⟩
  refine ⟨by simp; omega, (he x hx).1 h0⟩
 ·rintro ⟨⟨h1, h2⟩, h3⟩
  have e : ((y.toNat : Nat) : Int) = y := by omega
  exact ⟨y.toNat, ⟨by omega, (he _ (by omega)).2 (by rw [e]; exact h3)⟩, e⟩
omit h in
theorem bare_nodup {f : Edge → Int} {g : Gr} : (bareG f g).Nodup := by
 unfold bareG bareK
 refine List.Pairwise.map _ (fun a b h e => h (Int.ofNat.inj e)) (List.Pairwise.filter _ List.nodup_range)
theorem RenOk.bare : (bareG (·.2) (renG g names order)).length = (bareG (·.2) g).length := by
 have e1 : (renG g names order).n = g.n := rfl
 have h1 : ((bareG (·.2) g).map (nm names)).length ≤ (bareG (·.2) (renG g names order)).length := by
  refine Nat.le_trans (count_le _ (bareG (·.2) (renG g names order)) ?_ ?_) List.countP_le_length
  ·rw [List.nodup_iff_pairwise_ne]
   refine List.Pairwise.map _ (fun a b h => h) ?_
   refine List.Pairwise.imp_of_mem ?_ bare_nodup
   intro a b ha hb hab e
   exact hab (h.inj (bare_mem.1 ha).1 (bare_mem.1 hb).1 e)
  ·intro v hv
   obtain ⟨y, hy, rfl⟩ := List.mem_map.1 hv
   obtain ⟨hy1, hy2⟩ := bare_mem.1 hy
   refine bare_mem.2 ⟨h.range hy1, fun i hi e => ?_⟩
   rw [h.len] at hi
   obtain ⟨j, hj, _, h3⟩ := h.edge hi
   rw [(ren_tl h3).2] at e
   exact hy2 j hj (h.inj (hd_range h.may hj) hy1 e)
 have h2 : ((bareG (·.2) (renG g names order)).map (idxI names)).length ≤ (bareG (·.2) g).length := by
  have hsplit : ∀ v ∈ bareG (·.2) (renG g names order), ∃ a, (0 ≤ a ∧ a < g.n) ∧ nm names a = v := fun v hv => h.of (bare_mem.1 hv).1
  refine Nat.le_trans (count_le _ (bareG (·.2) g) ?_ ?_) List.countP_le_length
  ·rw [List.nodup_iff_pairwise_ne]
   refine List.Pairwise.map _ (fun a b h => h) ?_
   refine List.Pairwise.imp_of_mem ?_ bare_nodup
   intro a b ha hb hab e
   obtain ⟨a', ha', rfl⟩ := hsplit a ha
   obtain ⟨b', hb', rfl⟩ := hsplit b hb
   rw [h.inv ha', h.inv hb'] at e
   exact hab (by rw [e])
  ·intro v hv
   obtain ⟨y, hy, rfl⟩ := List.mem_map.1 hv
   obtain ⟨a, ha, rfl⟩ := hsplit y hy
   rw [h.inv ha]
   refine bare_mem.2 ⟨ha, fun j hj e => ?_⟩
   obtain ⟨i, hi, _, h3⟩ := h.back hj
   refine (bare_mem.1 hy).2 i (by rw [h.len]; exact hi) ?_
   rw [(ren_tl h3).2, e]
 simp only [List.length_map] at h1 h2
 omega
theorem RenOk.kind : (chkG (renG g names order)).1 = (chkG g).1 := by
 have hm := h.may'
 have hc : (0 < (cycG (renG g names order)).length) ↔ 0 < (cycG g).length := by
  have key : ∀ g : Gr, mayB g = true → ((0 < (cycG g).length) ↔ okG g = false) := by
   intro g hm
   cases ho : okG g with
   | true => rw [cycG_ok hm ho]; simp
   | false => simp [(cycG_not hm ho).1]
  rw [key _ hm, key _ h.may, h.acyc]
 have h1 := h.loop
 have h2 := h.twice
 have h3 := h.bare
 simp only [chkG, chkOf, hm, h.may]
 simp only [Bool.true_eq_false, if_false, h1, h2, hc, h3]
 split
 ·rfl
 split
 ·rfl
 split
 ·rfl
 split <;> rfl
end
end Go.Ab
end
section
namespace Go.Ab
open Go.Proofs
set_option maxRecDepth 10000
def nxt : Nat → List Edge → Int → Option (Int × Int)
 | _, [], _ => none
 | m, e :: N, v => if e.1 = v then some ((m : Int), e.2) else nxt (m + 1) N v
def phi (m : Nat) (N : List Edge) (t : It) : It := if 0 ≤ t.1 then t else match nxt m N t.2.1 with
 | some (i, h) => (i, t.2.1, h)
 | none => t
structure AugOk (g : Gr) (p : Pl) : Prop where
 run : RunsP g p
 n : (augG g p).n ≤ 64
 es : (augG g p).es.length ≤ 128
variable {g : Gr} {p : Pl}
end Go.Ab
end
section
namespace Go.Ab
open Go.Proofs
set_option maxRecDepth 10000
variable {g : Gr} {p : Pl}
end Go.Ab
end
section
namespace Go.Ab
open Go.Proofs
set_option maxRecDepth 10000
variable {g : Gr} {p : Pl}
end Go.Ab
end
section
namespace Go.Ab
open Go.Proofs
attribute [local congr] ACall.congr
set_option maxRecDepth 10000
set_option maxHeartbeats 8000000
theorem runRes_run {b : Bool} {g : Gr} {p : Pl} (hr : b = true ↔ (chkG g).1 = 0 ∧ PlanOk g p) (h : RunsP g p) : runRes b g p = ((endR g p g.n.toNat, lastR g p), (0, 0)) := by
 obtain rfl : b = true := hr.2 ⟨h.1, h.2.1⟩
 unfold runRes
 rw [if_neg (by simp), stopK_none.2 h.2.2]
 rfl
theorem exB (g : Gr) (p : Pl) : ∃ b : Bool, (b = true ↔ (chkG g).1 = 0 ∧ PlanOk g p) := by
 by_cases h : (chkG g).1 = 0 ∧ PlanOk g p
 ·exact ⟨true, by simp [h]⟩
 ·exact ⟨false, by simp [h]⟩
end Go.Ab
end
section
namespace Go.Ab
open Go.Proofs
attribute [local congr] ACall.congr
set_option maxRecDepth 10000
set_option maxHeartbeats 16000000
theorem runs_spec (g : Gr) (hl : g.es.length ≤ 9223372036854775807) (p : Pl) (hp : PlLen p) (b : Bool) (hr : b = true ↔ (chkG g).1 = 0 ∧ PlanOk g p) : Spec Tryz.prog 11 (Args [eG g, ePl p]) [] (eB (decide ((runRes b g p).2.1 = 0))) [] := by
 have hO := refRun_spec g hl p hp b hr
 generalize runRes b g p = R at hO
 (refine Spec.intro (C := T.cfg [] []) (rs := [.t 4]) (T.cfg_ok _ _) Tryz.func11 rfl rfl Tryz.ntmps11 Tryz.results11 (by simp [AObj.isNest]) (by simp [AObj.isNest]) (by kernel_rfl) ?_; intro X hX hP hC hXn hXm vals hA; refine ⟨_, by simp, hA, ?_⟩; have hmix : X.P.follows .mixedOrders = true := (by rw [hP]; exact T.mixed); clear hXn hXm)
 repeat' (first | fail | ((first | ((with_reducible (first | apply oA | apply oB)); exact rfl; intro K hK) | (refine hK _ ?_; clear hK K) | ((with_reducible (first | apply oG | apply oH)); iterate 3 exact rfl) | ((with_reducible apply oI); (iterate 2 exact rfl); intro K hK) | (with_reducible (first | apply wI | apply wJ | apply wK))); try simp only [go_sem, simprocAttr]) | fail | (with_reducible (first | apply oC | apply oJ | exact oK | apply wA | apply wB | apply wC hX hC | apply wD hX hC | apply wE hX hC hmix | apply wF hX hC hmix | apply wG | apply wH | apply And.intro)) | ((with_reducible refine oD ?_ ?_); first | fail | kernel_rfl) | ((with_reducible (first | apply oE | apply oF)); (iterate 3 exact rfl); all_goals (intro h; first | (exact absurd h (by decide)) | ((try simp only [go_sem, simprocAttr] at h); (try with_reducible intro K hK); simp only [go_sem, simprocAttr]))) | ((first | ((with_reducible apply wL); exact rfl) | ((with_reducible apply wM); exact rfl)); all_goals (try ((with_reducible intro h); first | (exact absurd h (by decide)) | (try simp only [go_sem, simprocAttr] at h)))) | omega | ((first | first | refine acall_simple hX hC hP (hO) rfl rfl rfl (by simp only [go_sem, simprocAttr]) rfl ?_); try simp only [go_sem, simprocAttr]) | (intro h))
end Go.Ab
end
