/- A part of the proof. -/
import Derived.Test.YtilamojcledkaaaL5P13
set_option linter.unusedSimpArgs false
set_option linter.unusedVariables false
section
namespace Go.Ab
open Go.Proofs
attribute [local congr] ACall.congr
set_option maxRecDepth 10000
set_option maxHeartbeats 8000000

/-- How often edges were met: once, or not. -/
def cntL (m : Nat) (fl : List Int) : List Int := (List.range m).map fun i : Nat => if (i : Int) ∈ fl then (1 : Int) else 0
theorem cntL_len {m : Nat} {fl : List Int} : (cntL m fl).length = m := by simp [cntL]
theorem cntL_zero {m : Nat} : cntL m [] = List.replicate m 0 := by
  refine List.ext_getElem (by simp [cntL]) fun i h1 h2 => ?_
  simp [cntL]
theorem cntL_at {m : Nat} {fl : List Int} {i : Nat} (h : i < m) : (cntL m fl).getD i 0 = if (i : Int) ∈ fl then 1 else 0 := by
  simp [cntL, List.getD_eq_getElem?_getD, List.getElem?_range h]
theorem cntL_set {m : Nat} {fl : List Int} {i : Nat} (h : i < m) : (cntL m fl).set i 1 = cntL m (fl ++ [(i : Int)]) := by
  refine List.ext_getElem (by simp [cntL]) fun j h1 h2 => ?_
  rw [List.getElem_set]
  simp only [cntL, List.getElem_map, List.getElem_range, List.mem_append, List.mem_singleton]
  by_cases e : i = j
  · subst e; simp
  · rw [if_neg e]
    have : ¬ (j : Int) = (i : Int) := by omega
    simp [this]
theorem flat_pre {outs : List (List Int)} {x k : Nat} (hx : x < outs.length) : ((outs.take x).flatten ++ (outs.getD x []).take k).Sublist outs.flatten := by
  have e : outs = outs.take x ++ outs.getD x [] :: outs.drop (x + 1) := by
    conv => lhs; rw [← List.take_append_drop x outs]
    congr 1
    rw [List.drop_eq_getElem_cons hx, List.getD_eq_getElem?_getD, List.getElem?_eq_getElem hx]
    rfl
  conv => rhs; rw [e]
  rw [List.flatten_append, List.flatten_cons]
  exact List.Sublist.append (List.Sublist.refl _) ((List.take_sublist _ _).trans (List.sublist_append_left _ _))
theorem take_snocI {l : List Int} {k : Nat} (h : k < l.length) : l.take (k + 1) = l.take k ++ [l.getD k 0] := by
  rw [List.take_add_one, List.getD_eq_getElem?_getD, List.getElem?_eq_getElem h]; rfl
theorem outZ_iff {g : Gr} {x i : Int} : i ∈ outZ g x ↔ (0 ≤ i ∧ i < g.es.length) ∧ (g.es.getD i.toNat (0, 0)).1 = x := by
  constructor
  · exact endsZ_mem
  · rintro ⟨⟨h1, h2⟩, h3⟩
    simp only [outZ, endsZ, List.mem_map, List.mem_filter, List.mem_range, decide_eq_true_eq]
    exact ⟨i.toNat, ⟨by omega, h3⟩, by simp; omega⟩
theorem ofR_spec (g : Gr) (hl : g.es.length ≤ 9223372036854775807) (p : Pl) (hp : PlLen p) (res : Bool) (hr : res = true ↔ (chkG g).1 = 0 ∧ PlanOk g p) : Spec Try.prog 92 (Args [eG g, ePl p]) [] (eB res) [] := by
  have ho : p.ord.length ≤ 9223372036854775807 := by have := hp.ord; omega
  have ho2 := hp.outs
  by_cases hc : (chkG g).1 = 0
  rotate_left
  · have hres : res = false := by
      rw [← Bool.not_eq_true, hr]
      rintro ⟨h, _⟩
      exact hc h
    subst hres
    have hb1 : decide ((chkG g).1 = 0) = false := decide_eq_false hc
    (refine Spec.intro (C := T.cfg [] []) (rs := [.t 4]) (T.cfg_ok _ _) Try.func92 rfl rfl Try.ntmps92 Try.results92 (by simp [AObj.isNest]) (by simp [AObj.isNest]) (by kernel_rfl) ?_; intro X hX hP hC hXn hXm vals hA; refine ⟨_, by simp, hA, ?_⟩; have hmix : X.P.follows .mixedOrders = true := (by rw [hP]; exact T.mixed); clear hXn hXm)
    repeat' (first | fail | ((first | ((with_reducible (first | apply oA | apply oB)); exact rfl; intro K hK) | (refine hK _ ?_; clear hK K) | ((with_reducible (first | apply oG | apply oH)); iterate 3 exact rfl) | ((with_reducible apply oI); (iterate 2 exact rfl); intro K hK) | (with_reducible (first | apply wI | apply wJ | apply wK))); try simp only [go_sem, simprocAttr, hb1]) | fail | (with_reducible (first | apply oC | apply oJ | exact oK | apply wA | apply wB | apply wC hX hC | apply wD hX hC | apply wE hX hC hmix | apply wF hX hC hmix | apply wG | apply wH | apply And.intro)) | ((with_reducible refine oD ?_ ?_); first | fail | kernel_rfl) | ((with_reducible (first | apply oE | apply oF)); (iterate 3 exact rfl); all_goals (intro h; first | (exact absurd h (by decide)) | ((try simp only [go_sem, simprocAttr, hb1] at h); (try with_reducible intro K hK); simp only [go_sem, simprocAttr, hb1]))) | ((first | ((with_reducible apply wL); exact rfl) | ((with_reducible apply wM); exact rfl)); all_goals (try ((with_reducible intro h); first | (exact absurd h (by decide)) | (try simp only [go_sem, simprocAttr, hb1] at h)))) | omega | ((first | first | refine acall_simple hX hC hP (refGoodA_spec g hl) rfl rfl rfl (by simp only [go_sem, simprocAttr, hb1]) rfl ?_); try simp only [go_sem, simprocAttr, hb1]) | (intro h))
  have hb1 : decide ((chkG g).1 = 0) = true := decide_eq_true hc
  have hm := good_may hc
  have hn := mayB_n hm
  have hr : res = true ↔ PlanOk g p := by rw [hr]; exact ⟨fun h => h.2, fun h => ⟨hc, h⟩⟩
  rw [← ofR_iff hm] at hr
  by_cases he : eachB p.ord g.n = true ∧ p.outs.length = g.n.toNat
  rotate_left
  · have hres : res = false := by
      rw [← Bool.not_eq_true, hr]
      rintro ⟨h2, h3, _⟩
      exact he ⟨h2, h3⟩
    subst hres
    cases h2 : eachB p.ord g.n with
    | false =>
      (refine Spec.intro (C := T.cfg [] []) (rs := [.t 4]) (T.cfg_ok _ _) Try.func92 rfl rfl Try.ntmps92 Try.results92 (by simp [AObj.isNest]) (by simp [AObj.isNest]) (by kernel_rfl) ?_; intro X hX hP hC hXn hXm vals hA; refine ⟨_, by simp, hA, ?_⟩; have hmix : X.P.follows .mixedOrders = true := (by rw [hP]; exact T.mixed); clear hXn hXm)
      repeat' (first | fail | ((first | ((with_reducible (first | apply oA | apply oB)); exact rfl; intro K hK) | (refine hK _ ?_; clear hK K) | ((with_reducible (first | apply oG | apply oH)); iterate 3 exact rfl) | ((with_reducible apply oI); (iterate 2 exact rfl); intro K hK) | (with_reducible (first | apply wI | apply wJ | apply wK))); try simp only [go_sem, simprocAttr, hb1, h2]) | fail | (with_reducible (first | apply oC | apply oJ | exact oK | apply wA | apply wB | apply wC hX hC | apply wD hX hC | apply wE hX hC hmix | apply wF hX hC hmix | apply wG | apply wH | apply And.intro)) | ((with_reducible refine oD ?_ ?_); first | fail | kernel_rfl) | ((with_reducible (first | apply oE | apply oF)); (iterate 3 exact rfl); all_goals (intro h; first | (exact absurd h (by decide)) | ((try simp only [go_sem, simprocAttr, hb1, h2] at h); (try with_reducible intro K hK); simp only [go_sem, simprocAttr, hb1, h2]))) | ((first | ((with_reducible apply wL); exact rfl) | ((with_reducible apply wM); exact rfl)); all_goals (try ((with_reducible intro h); first | (exact absurd h (by decide)) | (try simp only [go_sem, simprocAttr, hb1, h2] at h)))) | omega | ((first | first | refine acall_simple hX hC hP (refGoodA_spec g hl) rfl rfl rfl (by simp only [go_sem, simprocAttr, hb1, h2]) rfl ?_ | refine acall_simple hX hC hP (each_spec p.ord g.n ho) rfl rfl rfl (by simp only [go_sem, simprocAttr, hb1, h2]) rfl ?_); try simp only [go_sem, simprocAttr, hb1, h2]) | (intro h))
    | true =>
      have hb2 : decide ((p.outs.length : Int) = g.n) = false := decide_eq_false fun h3 => he ⟨h2, by omega⟩
      (refine Spec.intro (C := T.cfg [] []) (rs := [.t 4]) (T.cfg_ok _ _) Try.func92 rfl rfl Try.ntmps92 Try.results92 (by simp [AObj.isNest]) (by simp [AObj.isNest]) (by kernel_rfl) ?_; intro X hX hP hC hXn hXm vals hA; refine ⟨_, by simp, hA, ?_⟩; have hmix : X.P.follows .mixedOrders = true := (by rw [hP]; exact T.mixed); clear hXn hXm)
      repeat' (first | fail | ((first | ((with_reducible (first | apply oA | apply oB)); exact rfl; intro K hK) | (refine hK _ ?_; clear hK K) | ((with_reducible (first | apply oG | apply oH)); iterate 3 exact rfl) | ((with_reducible apply oI); (iterate 2 exact rfl); intro K hK) | (with_reducible (first | apply wI | apply wJ | apply wK))); try simp only [go_sem, simprocAttr, hb1, h2, hb2]) | fail | (with_reducible (first | apply oC | apply oJ | exact oK | apply wA | apply wB | apply wC hX hC | apply wD hX hC | apply wE hX hC hmix | apply wF hX hC hmix | apply wG | apply wH | apply And.intro)) | ((with_reducible refine oD ?_ ?_); first | fail | kernel_rfl) | ((with_reducible (first | apply oE | apply oF)); (iterate 3 exact rfl); all_goals (intro h; first | (exact absurd h (by decide)) | ((try simp only [go_sem, simprocAttr, hb1, h2, hb2] at h); (try with_reducible intro K hK); simp only [go_sem, simprocAttr, hb1, h2, hb2]))) | ((first | ((with_reducible apply wL); exact rfl) | ((with_reducible apply wM); exact rfl)); all_goals (try ((with_reducible intro h); first | (exact absurd h (by decide)) | (try simp only [go_sem, simprocAttr, hb1, h2, hb2] at h)))) | omega | ((first | first | refine acall_simple hX hC hP (refGoodA_spec g hl) rfl rfl rfl (by simp only [go_sem, simprocAttr, hb1, h2, hb2]) rfl ?_ | refine acall_simple hX hC hP (each_spec p.ord g.n ho) rfl rfl rfl (by simp only [go_sem, simprocAttr, hb1, h2, hb2]) rfl ?_); try simp only [go_sem, simprocAttr, hb1, h2, hb2]) | (intro h))
  obtain ⟨he1, he2⟩ := he
  have hb2 : decide ((p.outs.length : Int) = g.n) = true := decide_eq_true (by omega)
  (refine Spec.intro (C := T.cfg [] []) (rs := [.t 4]) (T.cfg_ok _ _) Try.func92 rfl rfl Try.ntmps92 Try.results92 (by simp [AObj.isNest]) (by simp [AObj.isNest]) (by kernel_rfl) ?_; intro X hX hP hC hXn hXm vals hA; refine ⟨_, by simp, hA, ?_⟩; have hmix : X.P.follows .mixedOrders = true := (by rw [hP]; exact T.mixed); clear hXn hXm)
  repeat' (first | fail | ((first | ((with_reducible (first | apply oA | apply oB)); exact rfl; intro K hK) | (refine hK _ ?_; clear hK K) | ((with_reducible (first | apply oG | apply oH)); iterate 3 exact rfl) | ((with_reducible apply oI); (iterate 2 exact rfl); intro K hK) | (with_reducible (first | apply wI | apply wJ | apply wK))); try simp only [go_sem, simprocAttr, hb1, he1, hb2]) | fail | (with_reducible (first | apply oC | apply oJ | exact oK | apply wA | apply wB | apply wC hX hC | apply wD hX hC | apply wE hX hC hmix | apply wF hX hC hmix | apply wG | apply wH | apply And.intro)) | ((with_reducible refine oD ?_ ?_); first | fail | kernel_rfl) | ((with_reducible (first | apply oE | apply oF)); (iterate 3 exact rfl); all_goals (intro h; first | (exact absurd h (by decide)) | ((try simp only [go_sem, simprocAttr, hb1, he1, hb2] at h); (try with_reducible intro K hK); simp only [go_sem, simprocAttr, hb1, he1, hb2]))) | ((first | ((with_reducible apply wL); exact rfl) | ((with_reducible apply wM); exact rfl)); all_goals (try ((with_reducible intro h); first | (exact absurd h (by decide)) | (try simp only [go_sem, simprocAttr, hb1, he1, hb2] at h)))) | omega | ((first | first | refine acall_simple hX hC hP (refGoodA_spec g hl) rfl rfl rfl (by simp only [go_sem, simprocAttr, hb1, he1, hb2]) rfl ?_ | refine acall_simple hX hC hP (each_spec p.ord g.n ho) rfl rfl rfl (by simp only [go_sem, simprocAttr, hb1, he1, hb2]) rfl ?_); try simp only [go_sem, simprocAttr, hb1, he1, hb2]) | (intro h))
  clear hb1 hb2
  have hrep : List.replicate g.es.length [D.sc (.int .i64 0)] = (cntL g.es.length []).map rI := by rw [cntL_zero, List.map_replicate]; rfl
  rw [hrep]
  clear hrep
  refine awp_loopP (fun x : Nat => x ≤ p.outs.length ∧ (p.outs.take x).flatten.Nodup ∧ ∀ y : Nat, y < x → ∀ i ∈ p.outs.getD y [], i ∈ outZ g y) (fun x => ⟨[(2, .ptr 2 0), (3, .ptr 3 0), (5, .ref 32), (6, eN x)], [(32, .own 3 1 ((cntL g.es.length (p.outs.take x).flatten).map rI)), (3, .box [.d (sI p.ord), .d (.sl 1 (vI p.outs))]), (2, .box [eN g.n, .d (sE g.es)])]⟩) (fun x => p.outs.length - x) 0 (by simp) ?_ ?_
  · refine Le.of ?_ ?_ <;> simp [go_sem, simprocAttr]
  rintro x ⟨hx, hnd, hgx⟩
  rcases Nat.lt_or_ge x p.outs.length with hxl | hxg
  · have hb : decide ((x : Int) < (p.outs.length : Int)) = true := decide_eq_true (by omega)
    have hv := vI_getD hxl
    have hle := hp.each _ (getD_memX (d := []) hxl)
    have hpre := fun k => flat_pre (k := k) hxl
    have hnext : (p.outs.take (x + 1)).flatten = (p.outs.take x).flatten ++ p.outs.getD x [] := by
      rw [List.take_add_one, List.flatten_append, List.getD_eq_getElem?_getD, List.getElem?_eq_getElem hxl]; simp
    have hr1 : ∀ i ∈ p.outs.getD x [], i ∉ outZ g x → res = false := fun i hi hn => by
      rw [← Bool.not_eq_true, hr]
      rintro ⟨_, _, h3, _⟩
      exact hn (h3 x hxl i hi)
    have hr2 : ∀ k, ¬ ((p.outs.take x).flatten ++ (p.outs.getD x []).take k).Nodup → res = false := fun k hn => by
      rw [← Bool.not_eq_true, hr]
      rintro ⟨_, _, _, h4, _⟩
      exact hn (List.Nodup.sublist (hpre k) h4)
    have hgn : (∀ i ∈ p.outs.getD x [], i ∈ outZ g x) → ∀ y : Nat, y < x + 1 → ∀ i ∈ p.outs.getD y [], i ∈ outZ g y := fun h y hy => by
      by_cases e : y = x
      · subst e; exact h
      · exact hgx y (by omega)
    generalize p.outs.getD x [] = l at hv hle hpre hnext hr1 hr2 hgn
    generalize (p.outs.take x).flatten = fl at hnd hpre hnext hr2
    clear hpre
    repeat' (first | fail | ((first | ((with_reducible (first | apply oA | apply oB)); exact rfl; intro K hK) | (refine hK _ ?_; clear hK K) | ((with_reducible (first | apply oG | apply oH)); iterate 3 exact rfl) | ((with_reducible apply oI); (iterate 2 exact rfl); intro K hK) | (with_reducible (first | apply wI | apply wJ | apply wK))); try simp only [go_sem, simprocAttr, hb, hv]) | fail | (with_reducible (first | apply oC | apply oJ | exact oK | apply wA | apply wB | apply wC hX hC | apply wD hX hC | apply wE hX hC hmix | apply wF hX hC hmix | apply wG | apply wH | apply And.intro)) | ((with_reducible refine oD ?_ ?_); first | fail | kernel_rfl) | ((with_reducible (first | apply oE | apply oF)); (iterate 3 exact rfl); all_goals (intro h; first | (exact absurd h (by decide)) | ((try simp only [go_sem, simprocAttr, hb, hv] at h); (try with_reducible intro K hK); simp only [go_sem, simprocAttr, hb, hv]))) | ((first | ((with_reducible apply wL); exact rfl) | ((with_reducible apply wM); exact rfl)); all_goals (try ((with_reducible intro h); first | (exact absurd h (by decide)) | (try simp only [go_sem, simprocAttr, hb, hv] at h)))) | omega | ((first | first | refine acall_simple hX hC hP (refGoodA_spec g hl) rfl rfl rfl (by simp only [go_sem, simprocAttr, hb, hv]) rfl ?_ | refine acall_simple hX hC hP (each_spec p.ord g.n ho) rfl rfl rfl (by simp only [go_sem, simprocAttr, hb, hv]) rfl ?_); try simp only [go_sem, simprocAttr, hb, hv]) | (intro h))
    clear hb
    refine awp_loopP (fun k : Nat => k ≤ l.length ∧ (fl ++ l.take k).Nodup ∧ ∀ i ∈ l.take k, i ∈ outZ g x) (fun k => ⟨[(2, .ptr 2 0), (3, .ptr 3 0), (5, .ref 32), (6, eN x), (7, eN k)], [(32, .own 3 1 ((cntL g.es.length (fl ++ l.take k)).map rI)), (3, .box [.d (sI p.ord), .d (.sl 1 (vI p.outs))]), (2, .box [eN g.n, .d (sE g.es)])]⟩) (fun k => l.length - k) 0 (by simpa using hnd) ?_ ?_
    · refine Le.of ?_ ?_ <;> simp [go_sem, simprocAttr]
    rintro k ⟨hk, hndk, hgk⟩
    rcases Nat.lt_or_ge k l.length with hkl | hkg
    · have hbk : decide ((k : Int) < (l.length : Int)) = true := decide_eq_true (by omega)
      have htk := take_snocI hkl
      have him := getD_memX (d := 0) hkl
      have hcl := cntL_len (m := g.es.length) (fl := fl ++ l.take k)
      generalize hi : l.getD k 0 = i at htk him
      by_cases h0 : i < 0
      · have hres := hr1 i him (fun h => by have := (outZ_iff.1 h).1; omega)
        subst hres
        have hb1 : decide (i < 0) = true := decide_eq_true h0
        repeat' (first | fail | ((first | ((with_reducible (first | apply oA | apply oB)); exact rfl; intro K hK) | (refine hK _ ?_; clear hK K) | ((with_reducible (first | apply oG | apply oH)); iterate 3 exact rfl) | ((with_reducible apply oI); (iterate 2 exact rfl); intro K hK) | (with_reducible (first | apply wI | apply wJ | apply wK))); try simp only [go_sem, simprocAttr, hbk, hv, hi, hb1]) | fail | (with_reducible (first | apply oC | apply oJ | exact oK | apply wA | apply wB | apply wC hX hC | apply wD hX hC | apply wE hX hC hmix | apply wF hX hC hmix | apply wG | apply wH | apply And.intro)) | ((with_reducible refine oD ?_ ?_); first | fail | kernel_rfl) | ((with_reducible (first | apply oE | apply oF)); (iterate 3 exact rfl); all_goals (intro h; first | (exact absurd h (by decide)) | ((try simp only [go_sem, simprocAttr, hbk, hv, hi, hb1] at h); (try with_reducible intro K hK); simp only [go_sem, simprocAttr, hbk, hv, hi, hb1]))) | ((first | ((with_reducible apply wL); exact rfl) | ((with_reducible apply wM); exact rfl)); all_goals (try ((with_reducible intro h); first | (exact absurd h (by decide)) | (try simp only [go_sem, simprocAttr, hbk, hv, hi, hb1] at h)))) | omega | ((first | first | refine acall_simple hX hC hP (refGoodA_spec g hl) rfl rfl rfl (by simp only [go_sem, simprocAttr, hbk, hv, hi, hb1]) rfl ?_ | refine acall_simple hX hC hP (each_spec p.ord g.n ho) rfl rfl rfl (by simp only [go_sem, simprocAttr, hbk, hv, hi, hb1]) rfl ?_); try simp only [go_sem, simprocAttr, hbk, hv, hi, hb1]) | (intro h))
      have hb1 : decide (i < 0) = false := decide_eq_false h0
      by_cases h1 : (g.es.length : Int) ≤ i
      · have hres := hr1 i him (fun h => by have := (outZ_iff.1 h).1; omega)
        subst hres
        have hb2 : decide ((g.es.length : Int) ≤ i) = true := decide_eq_true h1
        repeat' (first | fail | ((first | ((with_reducible (first | apply oA | apply oB)); exact rfl; intro K hK) | (refine hK _ ?_; clear hK K) | ((with_reducible (first | apply oG | apply oH)); iterate 3 exact rfl) | ((with_reducible apply oI); (iterate 2 exact rfl); intro K hK) | (with_reducible (first | apply wI | apply wJ | apply wK))); try simp only [go_sem, simprocAttr, hbk, hv, hi, hb1, hb2, hcl]) | fail | (with_reducible (first | apply oC | apply oJ | exact oK | apply wA | apply wB | apply wC hX hC | apply wD hX hC | apply wE hX hC hmix | apply wF hX hC hmix | apply wG | apply wH | apply And.intro)) | ((with_reducible refine oD ?_ ?_); first | fail | kernel_rfl) | ((with_reducible (first | apply oE | apply oF)); (iterate 3 exact rfl); all_goals (intro h; first | (exact absurd h (by decide)) | ((try simp only [go_sem, simprocAttr, hbk, hv, hi, hb1, hb2, hcl] at h); (try with_reducible intro K hK); simp only [go_sem, simprocAttr, hbk, hv, hi, hb1, hb2, hcl]))) | ((first | ((with_reducible apply wL); exact rfl) | ((with_reducible apply wM); exact rfl)); all_goals (try ((with_reducible intro h); first | (exact absurd h (by decide)) | (try simp only [go_sem, simprocAttr, hbk, hv, hi, hb1, hb2, hcl] at h)))) | omega | ((first | first | refine acall_simple hX hC hP (refGoodA_spec g hl) rfl rfl rfl (by simp only [go_sem, simprocAttr, hbk, hv, hi, hb1, hb2, hcl]) rfl ?_ | refine acall_simple hX hC hP (each_spec p.ord g.n ho) rfl rfl rfl (by simp only [go_sem, simprocAttr, hbk, hv, hi, hb1, hb2, hcl]) rfl ?_); try simp only [go_sem, simprocAttr, hbk, hv, hi, hb1, hb2, hcl]) | (intro h))
      have hb2 : decide ((g.es.length : Int) ≤ i) = false := decide_eq_false h1
      obtain ⟨e, rfl⟩ : ∃ e : Nat, i = e := ⟨i.toNat, by omega⟩
      have hel : e < g.es.length := by omega
      by_cases h2 : (g.es.getD e (0, 0)).1 = x
      rotate_left
      · have hres := hr1 _ him (fun h => h2 (by have := (outZ_iff.1 h).2; rwa [Int.toNat_natCast] at this))
        subst hres
        have hb3 : decide ((g.es.getD e (0, 0)).1 = (x : Int)) = false := decide_eq_false h2
        repeat' (first | fail | ((first | ((with_reducible (first | apply oA | apply oB)); exact rfl; intro K hK) | (refine hK _ ?_; clear hK K) | ((with_reducible (first | apply oG | apply oH)); iterate 3 exact rfl) | ((with_reducible apply oI); (iterate 2 exact rfl); intro K hK) | (with_reducible (first | apply wI | apply wJ | apply wK))); try simp only [go_sem, simprocAttr, hbk, hv, hi, hb1, hb2, hb3, hcl]) | fail | (with_reducible (first | apply oC | apply oJ | exact oK | apply wA | apply wB | apply wC hX hC | apply wD hX hC | apply wE hX hC hmix | apply wF hX hC hmix | apply wG | apply wH | apply And.intro)) | ((with_reducible refine oD ?_ ?_); first | fail | kernel_rfl) | ((with_reducible (first | apply oE | apply oF)); (iterate 3 exact rfl); all_goals (intro h; first | (exact absurd h (by decide)) | ((try simp only [go_sem, simprocAttr, hbk, hv, hi, hb1, hb2, hb3, hcl] at h); (try with_reducible intro K hK); simp only [go_sem, simprocAttr, hbk, hv, hi, hb1, hb2, hb3, hcl]))) | ((first | ((with_reducible apply wL); exact rfl) | ((with_reducible apply wM); exact rfl)); all_goals (try ((with_reducible intro h); first | (exact absurd h (by decide)) | (try simp only [go_sem, simprocAttr, hbk, hv, hi, hb1, hb2, hb3, hcl] at h)))) | omega | ((first | first | refine acall_simple hX hC hP (refGoodA_spec g hl) rfl rfl rfl (by simp only [go_sem, simprocAttr, hbk, hv, hi, hb1, hb2, hb3, hcl]) rfl ?_ | refine acall_simple hX hC hP (each_spec p.ord g.n ho) rfl rfl rfl (by simp only [go_sem, simprocAttr, hbk, hv, hi, hb1, hb2, hb3, hcl]) rfl ?_); try simp only [go_sem, simprocAttr, hbk, hv, hi, hb1, hb2, hb3, hcl]) | (intro h))
      have hb3 : decide ((g.es.getD e (0, 0)).1 = (x : Int)) = true := decide_eq_true h2
      have hct := cntL_at (fl := fl ++ l.take k) hel
      by_cases h3 : (e : Int) ∈ fl ++ l.take k
      · have hres := hr2 (k + 1) (fun h => by
          rw [htk, ← List.append_assoc, List.nodup_append] at h
          exact h.2.2 _ h3 _ (List.mem_singleton.2 rfl) rfl)
        subst hres
        rw [if_pos h3] at hct
        repeat' (first | fail | ((first | ((with_reducible (first | apply oA | apply oB)); exact rfl; intro K hK) | (refine hK _ ?_; clear hK K) | ((with_reducible (first | apply oG | apply oH)); iterate 3 exact rfl) | ((with_reducible apply oI); (iterate 2 exact rfl); intro K hK) | (with_reducible (first | apply wI | apply wJ | apply wK))); try simp only [go_sem, simprocAttr, hbk, hv, hi, hb1, hb2, hb3, hcl, hct]) | fail | (with_reducible (first | apply oC | apply oJ | exact oK | apply wA | apply wB | apply wC hX hC | apply wD hX hC | apply wE hX hC hmix | apply wF hX hC hmix | apply wG | apply wH | apply And.intro)) | ((with_reducible refine oD ?_ ?_); first | fail | kernel_rfl) | ((with_reducible (first | apply oE | apply oF)); (iterate 3 exact rfl); all_goals (intro h; first | (exact absurd h (by decide)) | ((try simp only [go_sem, simprocAttr, hbk, hv, hi, hb1, hb2, hb3, hcl, hct] at h); (try with_reducible intro K hK); simp only [go_sem, simprocAttr, hbk, hv, hi, hb1, hb2, hb3, hcl, hct]))) | ((first | ((with_reducible apply wL); exact rfl) | ((with_reducible apply wM); exact rfl)); all_goals (try ((with_reducible intro h); first | (exact absurd h (by decide)) | (try simp only [go_sem, simprocAttr, hbk, hv, hi, hb1, hb2, hb3, hcl, hct] at h)))) | omega | ((first | first | refine acall_simple hX hC hP (refGoodA_spec g hl) rfl rfl rfl (by simp only [go_sem, simprocAttr, hbk, hv, hi, hb1, hb2, hb3, hcl, hct]) rfl ?_ | refine acall_simple hX hC hP (each_spec p.ord g.n ho) rfl rfl rfl (by simp only [go_sem, simprocAttr, hbk, hv, hi, hb1, hb2, hb3, hcl, hct]) rfl ?_); try simp only [go_sem, simprocAttr, hbk, hv, hi, hb1, hb2, hb3, hcl, hct]) | (intro h))
      · rw [if_neg h3] at hct
        have hset := cntL_set (fl := fl ++ l.take k) hel
        rw [List.append_assoc, ← htk] at hset
        repeat' (first | fail | ((first | ((with_reducible (first | apply oA | apply oB)); exact rfl; intro K hK) | (refine hK _ ?_; clear hK K) | ((with_reducible (first | apply oG | apply oH)); iterate 3 exact rfl) | ((with_reducible apply oI); (iterate 2 exact rfl); intro K hK) | (with_reducible (first | apply wI | apply wJ | apply wK))); try simp only [go_sem, simprocAttr, hbk, hv, hi, hb1, hb2, hb3, hcl, hct]) | fail | (with_reducible (first | apply oC | apply oJ | exact oK | apply wA | apply wB | apply wC hX hC | apply wD hX hC | apply wE hX hC hmix | apply wF hX hC hmix | apply wG | apply wH | apply And.intro)) | ((with_reducible refine oD ?_ ?_); first | fail | kernel_rfl) | ((with_reducible (first | apply oE | apply oF)); (iterate 3 exact rfl); all_goals (intro h; first | (exact absurd h (by decide)) | ((try simp only [go_sem, simprocAttr, hbk, hv, hi, hb1, hb2, hb3, hcl, hct] at h); (try with_reducible intro K hK); simp only [go_sem, simprocAttr, hbk, hv, hi, hb1, hb2, hb3, hcl, hct]))) | ((first | ((with_reducible apply wL); exact rfl) | ((with_reducible apply wM); exact rfl)); all_goals (try ((with_reducible intro h); first | (exact absurd h (by decide)) | (try simp only [go_sem, simprocAttr, hbk, hv, hi, hb1, hb2, hb3, hcl, hct] at h)))) | omega | ((first | first | refine acall_simple hX hC hP (refGoodA_spec g hl) rfl rfl rfl (by simp only [go_sem, simprocAttr, hbk, hv, hi, hb1, hb2, hb3, hcl, hct]) rfl ?_ | refine acall_simple hX hC hP (each_spec p.ord g.n ho) rfl rfl rfl (by simp only [go_sem, simprocAttr, hbk, hv, hi, hb1, hb2, hb3, hcl, hct]) rfl ?_); try simp only [go_sem, simprocAttr, hbk, hv, hi, hb1, hb2, hb3, hcl, hct]) | (intro h))
        refine ⟨k + 1, ⟨by omega, ?_, ?_⟩, ?_, by omega⟩
        · rw [htk, ← List.append_assoc, List.nodup_append]
          exact ⟨hndk, by simp, fun a ha b hb h => h3 (by rw [List.mem_singleton] at hb; rw [← hb, ← h]; exact ha)⟩
        · intro j hj
          rw [htk, List.mem_append, List.mem_singleton] at hj
          rcases hj with hj | rfl
          · exact hgk j hj
          · exact outZ_iff.2 ⟨⟨by omega, by omega⟩, by rw [Int.toNat_natCast]; exact h2⟩
        · rw [← hset]
          refine Le.of ?_ ?_ <;> simp [go_sem, simprocAttr, hbk, hv, hi, hb1, hb2, hb3, hcl, hct, rI]
    · have hbk : decide ((k : Int) < (l.length : Int)) = false := decide_eq_false (by omega)
      obtain rfl : k = l.length := by omega
      rw [List.take_length] at hndk hgk
      repeat' (first | fail | ((first | ((with_reducible (first | apply oA | apply oB)); exact rfl; intro K hK) | (refine hK _ ?_; clear hK K) | ((with_reducible (first | apply oG | apply oH)); iterate 3 exact rfl) | ((with_reducible apply oI); (iterate 2 exact rfl); intro K hK) | (with_reducible (first | apply wI | apply wJ | apply wK))); try simp only [go_sem, simprocAttr, hbk, hv]) | fail | (with_reducible (first | apply oC | apply oJ | exact oK | apply wA | apply wB | apply wC hX hC | apply wD hX hC | apply wE hX hC hmix | apply wF hX hC hmix | apply wG | apply wH | apply And.intro)) | ((with_reducible refine oD ?_ ?_); first | fail | kernel_rfl) | ((with_reducible (first | apply oE | apply oF)); (iterate 3 exact rfl); all_goals (intro h; first | (exact absurd h (by decide)) | ((try simp only [go_sem, simprocAttr, hbk, hv] at h); (try with_reducible intro K hK); simp only [go_sem, simprocAttr, hbk, hv]))) | ((first | ((with_reducible apply wL); exact rfl) | ((with_reducible apply wM); exact rfl)); all_goals (try ((with_reducible intro h); first | (exact absurd h (by decide)) | (try simp only [go_sem, simprocAttr, hbk, hv] at h)))) | omega | ((first | first | refine acall_simple hX hC hP (refGoodA_spec g hl) rfl rfl rfl (by simp only [go_sem, simprocAttr, hbk, hv]) rfl ?_ | refine acall_simple hX hC hP (each_spec p.ord g.n ho) rfl rfl rfl (by simp only [go_sem, simprocAttr, hbk, hv]) rfl ?_); try simp only [go_sem, simprocAttr, hbk, hv]) | (intro h))
      refine ⟨x + 1, ⟨by omega, by rw [hnext]; exact hndk, hgn hgk⟩, ?_, by omega⟩
      rw [hnext]
      refine Le.of ?_ ?_ <;> simp [go_sem, simprocAttr, hbk, hv]
  have hb : decide ((x : Int) < (p.outs.length : Int)) = false := decide_eq_false (by omega)
  obtain rfl : x = p.outs.length := by omega
  rw [List.take_length] at hnd
  rw [List.take_length]
  have hcl := cntL_len (m := g.es.length) (fl := p.outs.flatten)
  repeat' (first | fail | ((first | ((with_reducible (first | apply oA | apply oB)); exact rfl; intro K hK) | (refine hK _ ?_; clear hK K) | ((with_reducible (first | apply oG | apply oH)); iterate 3 exact rfl) | ((with_reducible apply oI); (iterate 2 exact rfl); intro K hK) | (with_reducible (first | apply wI | apply wJ | apply wK))); try simp only [go_sem, simprocAttr, hb]) | fail | (with_reducible (first | apply oC | apply oJ | exact oK | apply wA | apply wB | apply wC hX hC | apply wD hX hC | apply wE hX hC hmix | apply wF hX hC hmix | apply wG | apply wH | apply And.intro)) | ((with_reducible refine oD ?_ ?_); first | fail | kernel_rfl) | ((with_reducible (first | apply oE | apply oF)); (iterate 3 exact rfl); all_goals (intro h; first | (exact absurd h (by decide)) | ((try simp only [go_sem, simprocAttr, hb] at h); (try with_reducible intro K hK); simp only [go_sem, simprocAttr, hb]))) | ((first | ((with_reducible apply wL); exact rfl) | ((with_reducible apply wM); exact rfl)); all_goals (try ((with_reducible intro h); first | (exact absurd h (by decide)) | (try simp only [go_sem, simprocAttr, hb] at h)))) | omega | ((first | first | refine acall_simple hX hC hP (refGoodA_spec g hl) rfl rfl rfl (by simp only [go_sem, simprocAttr, hb]) rfl ?_ | refine acall_simple hX hC hP (each_spec p.ord g.n ho) rfl rfl rfl (by simp only [go_sem, simprocAttr, hb]) rfl ?_); try simp only [go_sem, simprocAttr, hb]) | (intro h))
  clear hb
  refine awp_loopP (fun k : Nat => k ≤ g.es.length ∧ ∀ i : Nat, i < k → (i : Int) ∈ p.outs.flatten) (fun k => ⟨[(5, .ref 32), (9, eN k)], [(32, .own 3 1 ((cntL g.es.length p.outs.flatten).map rI))]⟩) (fun k => g.es.length - k) 0 (by simp) ?_ ?_
  · refine Le.of ?_ ?_ <;> simp [go_sem, simprocAttr]
  rintro k ⟨hk, hgk⟩
  rcases Nat.lt_or_ge k g.es.length with hkl | hkg
  · have hbk : decide ((k : Int) < (g.es.length : Int)) = true := decide_eq_true (by omega)
    have hct := cntL_at (fl := p.outs.flatten) hkl
    by_cases h3 : (k : Int) ∈ p.outs.flatten
    · rw [if_pos h3] at hct
      repeat' (first | fail | ((first | ((with_reducible (first | apply oA | apply oB)); exact rfl; intro K hK) | (refine hK _ ?_; clear hK K) | ((with_reducible (first | apply oG | apply oH)); iterate 3 exact rfl) | ((with_reducible apply oI); (iterate 2 exact rfl); intro K hK) | (with_reducible (first | apply wI | apply wJ | apply wK))); try simp only [go_sem, simprocAttr, hbk, hcl, hct]) | fail | (with_reducible (first | apply oC | apply oJ | exact oK | apply wA | apply wB | apply wC hX hC | apply wD hX hC | apply wE hX hC hmix | apply wF hX hC hmix | apply wG | apply wH | apply And.intro)) | ((with_reducible refine oD ?_ ?_); first | fail | kernel_rfl) | ((with_reducible (first | apply oE | apply oF)); (iterate 3 exact rfl); all_goals (intro h; first | (exact absurd h (by decide)) | ((try simp only [go_sem, simprocAttr, hbk, hcl, hct] at h); (try with_reducible intro K hK); simp only [go_sem, simprocAttr, hbk, hcl, hct]))) | ((first | ((with_reducible apply wL); exact rfl) | ((with_reducible apply wM); exact rfl)); all_goals (try ((with_reducible intro h); first | (exact absurd h (by decide)) | (try simp only [go_sem, simprocAttr, hbk, hcl, hct] at h)))) | omega | ((first | first | refine acall_simple hX hC hP (refGoodA_spec g hl) rfl rfl rfl (by simp only [go_sem, simprocAttr, hbk, hcl, hct]) rfl ?_ | refine acall_simple hX hC hP (each_spec p.ord g.n ho) rfl rfl rfl (by simp only [go_sem, simprocAttr, hbk, hcl, hct]) rfl ?_); try simp only [go_sem, simprocAttr, hbk, hcl, hct]) | (intro h))
      refine ⟨k + 1, ⟨by omega, fun i hi => ?_⟩, ?_, by omega⟩
      · by_cases e : i = k
        · subst e; exact h3
        · exact hgk i (by omega)
      · (refine Le.of ?_ ?_ <;> simp [go_sem, simprocAttr, hbk, hcl, hct])
    · rw [if_neg h3] at hct
      have hres : res = false := by
        rw [← Bool.not_eq_true, hr]
        rintro ⟨_, _, _, _, h5⟩
        exact h3 (h5 k hkl)
      subst hres
      repeat' (first | fail | ((first | ((with_reducible (first | apply oA | apply oB)); exact rfl; intro K hK) | (refine hK _ ?_; clear hK K) | ((with_reducible (first | apply oG | apply oH)); iterate 3 exact rfl) | ((with_reducible apply oI); (iterate 2 exact rfl); intro K hK) | (with_reducible (first | apply wI | apply wJ | apply wK))); try simp only [go_sem, simprocAttr, hbk, hcl, hct]) | fail | (with_reducible (first | apply oC | apply oJ | exact oK | apply wA | apply wB | apply wC hX hC | apply wD hX hC | apply wE hX hC hmix | apply wF hX hC hmix | apply wG | apply wH | apply And.intro)) | ((with_reducible refine oD ?_ ?_); first | fail | kernel_rfl) | ((with_reducible (first | apply oE | apply oF)); (iterate 3 exact rfl); all_goals (intro h; first | (exact absurd h (by decide)) | ((try simp only [go_sem, simprocAttr, hbk, hcl, hct] at h); (try with_reducible intro K hK); simp only [go_sem, simprocAttr, hbk, hcl, hct]))) | ((first | ((with_reducible apply wL); exact rfl) | ((with_reducible apply wM); exact rfl)); all_goals (try ((with_reducible intro h); first | (exact absurd h (by decide)) | (try simp only [go_sem, simprocAttr, hbk, hcl, hct] at h)))) | omega | ((first | first | refine acall_simple hX hC hP (refGoodA_spec g hl) rfl rfl rfl (by simp only [go_sem, simprocAttr, hbk, hcl, hct]) rfl ?_ | refine acall_simple hX hC hP (each_spec p.ord g.n ho) rfl rfl rfl (by simp only [go_sem, simprocAttr, hbk, hcl, hct]) rfl ?_); try simp only [go_sem, simprocAttr, hbk, hcl, hct]) | (intro h))
  · have hbk : decide ((k : Int) < (g.es.length : Int)) = false := decide_eq_false (by omega)
    obtain rfl : k = g.es.length := by omega
    have hres : res = true := hr.2 ⟨he1, he2, hgx, hnd, hgk⟩
    subst hres
    repeat' (first | fail | ((first | ((with_reducible (first | apply oA | apply oB)); exact rfl; intro K hK) | (refine hK _ ?_; clear hK K) | ((with_reducible (first | apply oG | apply oH)); iterate 3 exact rfl) | ((with_reducible apply oI); (iterate 2 exact rfl); intro K hK) | (with_reducible (first | apply wI | apply wJ | apply wK))); try simp only [go_sem, simprocAttr, hbk, hcl]) | fail | (with_reducible (first | apply oC | apply oJ | exact oK | apply wA | apply wB | apply wC hX hC | apply wD hX hC | apply wE hX hC hmix | apply wF hX hC hmix | apply wG | apply wH | apply And.intro)) | ((with_reducible refine oD ?_ ?_); first | fail | kernel_rfl) | ((with_reducible (first | apply oE | apply oF)); (iterate 3 exact rfl); all_goals (intro h; first | (exact absurd h (by decide)) | ((try simp only [go_sem, simprocAttr, hbk, hcl] at h); (try with_reducible intro K hK); simp only [go_sem, simprocAttr, hbk, hcl]))) | ((first | ((with_reducible apply wL); exact rfl) | ((with_reducible apply wM); exact rfl)); all_goals (try ((with_reducible intro h); first | (exact absurd h (by decide)) | (try simp only [go_sem, simprocAttr, hbk, hcl] at h)))) | omega | ((first | first | refine acall_simple hX hC hP (refGoodA_spec g hl) rfl rfl rfl (by simp only [go_sem, simprocAttr, hbk, hcl]) rfl ?_ | refine acall_simple hX hC hP (each_spec p.ord g.n ho) rfl rfl rfl (by simp only [go_sem, simprocAttr, hbk, hcl]) rfl ?_); try simp only [go_sem, simprocAttr, hbk, hcl]) | (intro h))
end Go.Ab
end
section
namespace Go.Ab
open Go.Proofs
attribute [local congr] ACall.congr
set_option maxRecDepth 10000
set_option maxHeartbeats 8000000

/-- What comes of a plan: what ends at each vertex, the row at the end; the error, its place. -/
def runRes (b : Bool) (g : Gr) (p : Pl) : (List (List It) × List It) × Int × Int :=
  if b = false then (([], []), (1, 0)) else
  match stopK g p g.n.toNat with
  | some i => (([], []), (3, (i : Int)))
  | none => ((endR g p g.n.toNat, (fK g p g.n.toNat).row), (0, 0))
theorem rep_vT {n : Nat} : List.replicate n [D.sl 3 []] = vT (List.replicate n []) := by simp [vT, sT]
theorem vT_set {ls : List (List It)} {k : Nat} {l : List It} : (vT ls).set k [sT l] = vT (ls.set k l) := by simp [vT, List.map_set]
theorem endR_next {g : Gr} {p : Pl} {k : Nat} : endR g p (k + 1) = (endR g p k).set (oAt p k).toNat (goneK g p k) := rfl
theorem refRun_spec (g : Gr) (hl : g.es.length ≤ 9223372036854775807) (p : Pl) (hp : PlLen p) (b : Bool) (hr : b = true ↔ (chkG g).1 = 0 ∧ PlanOk g p) :
    Spec Try.prog 48 (Args [eG g, ePl p]) [] (.tup [.d (.sl 1 (vT (runRes b g p).1.1)), .d (sT (runRes b g p).1.2), eN (runRes b g p).2.1, eN (runRes b g p).2.2]) [] := by
  have hO := ofR_spec g hl p hp b hr
  cases b with
  | false =>
    have hR : runRes false g p = (([], []), (1, 0)) := rfl
    rw [hR]
    (refine Spec.intro (C := T.cfg [] []) (rs := [.t 4, .t 5, .t 6, .t 7]) (T.cfg_ok _ _) Try.func48 rfl rfl Try.ntmps48 Try.results48 (by simp [AObj.isNest]) (by simp [AObj.isNest]) (by kernel_rfl) ?_; intro X hX hP hC hXn hXm vals hA; refine ⟨_, by simp, hA, ?_⟩; have hmix : X.P.follows .mixedOrders = true := (by rw [hP]; exact T.mixed); clear hXn hXm)
    repeat' (first | fail | ((first | ((with_reducible (first | apply oA | apply oB)); exact rfl; intro K hK) | (refine hK _ ?_; clear hK K) | ((with_reducible (first | apply oG | apply oH)); iterate 3 exact rfl) | ((with_reducible apply oI); (iterate 2 exact rfl); intro K hK) | (with_reducible (first | apply wI | apply wJ | apply wK))); try simp only [go_sem, simprocAttr, vT, List.map_nil]) | fail | (with_reducible (first | apply oC | apply oJ | exact oK | apply wA | apply wB | apply wC hX hC | apply wD hX hC | apply wE hX hC hmix | apply wF hX hC hmix | apply wG | apply wH | apply And.intro)) | ((with_reducible refine oD ?_ ?_); first | fail | kernel_rfl) | ((with_reducible (first | apply oE | apply oF)); (iterate 3 exact rfl); all_goals (intro h; first | (exact absurd h (by decide)) | ((try simp only [go_sem, simprocAttr, vT, List.map_nil] at h); (try with_reducible intro K hK); simp only [go_sem, simprocAttr, vT, List.map_nil]))) | ((first | ((with_reducible apply wL); exact rfl) | ((with_reducible apply wM); exact rfl)); all_goals (try ((with_reducible intro h); first | (exact absurd h (by decide)) | (try simp only [go_sem, simprocAttr, vT, List.map_nil] at h)))) | omega | ((first | first | refine acall_simple hX hC hP (hO) rfl rfl rfl (by simp only [go_sem, simprocAttr, vT, List.map_nil]) rfl ?_); try simp only [go_sem, simprocAttr, vT, List.map_nil]) | (intro h))
  | true =>
  obtain ⟨hc, hpo⟩ := hr.1 rfl
  have hm := good_may hc
  have hn := mayB_n hm
  have hle := plan_len hpo
  have hR : runRes true g p = match stopK g p g.n.toNat with
    | some i => (([], []), (3, (i : Int)))
    | none => ((endR g p g.n.toNat, (fK g p g.n.toNat).row), (0, 0)) := rfl
  generalize runRes true g p = R at hR
  (refine Spec.intro (C := T.cfg [] []) (rs := [.t 4, .t 5, .t 6, .t 7]) (T.cfg_ok _ _) Try.func48 rfl rfl Try.ntmps48 Try.results48 (by simp [AObj.isNest]) (by simp [AObj.isNest]) (by kernel_rfl) ?_; intro X hX hP hC hXn hXm vals hA; refine ⟨_, by simp, hA, ?_⟩; have hmix : X.P.follows .mixedOrders = true := (by rw [hP]; exact T.mixed); clear hXn hXm)
  repeat' (first | fail | ((first | ((with_reducible (first | apply oA | apply oB)); exact rfl; intro K hK) | (refine hK _ ?_; clear hK K) | ((with_reducible (first | apply oG | apply oH)); iterate 3 exact rfl) | ((with_reducible apply oI); (iterate 2 exact rfl); intro K hK) | (with_reducible (first | apply wI | apply wJ | apply wK))); try simp only [go_sem, simprocAttr]) | (show awp _ (.seq (.region 4 _ _) _) _ _; (refine awp_nilD 20 2 3 rfl rfl rfl ?_; simp only [LA.app, ASt.put, ASt.kill, putM, rml, List.set_cons_zero, List.set_cons_succ, go_sem, simprocAttr]); (refine awp_nilD 20 3 1 rfl rfl rfl ?_; simp only [LA.app, ASt.put, ASt.kill, putM, rml, List.set_cons_zero, List.set_cons_succ, go_sem, simprocAttr])) | (with_reducible (first | apply oC | apply oJ | exact oK | apply wA | apply wB | apply wC hX hC | apply wD hX hC | apply wE hX hC hmix | apply wF hX hC hmix | apply wG | apply wH | apply And.intro)) | ((with_reducible refine oD ?_ ?_); first | fail | kernel_rfl) | ((with_reducible (first | apply oE | apply oF)); (iterate 3 exact rfl); all_goals (intro h; first | (exact absurd h (by decide)) | ((try simp only [go_sem, simprocAttr] at h); (try with_reducible intro K hK); simp only [go_sem, simprocAttr]))) | ((first | ((with_reducible apply wL); exact rfl) | ((with_reducible apply wM); exact rfl)); all_goals (try ((with_reducible intro h); first | (exact absurd h (by decide)) | (try simp only [go_sem, simprocAttr] at h)))) | omega | ((first | first | refine acall_simple hX hC hP (hO) rfl rfl rfl (by simp only [go_sem, simprocAttr]) rfl ?_); try simp only [go_sem, simprocAttr]) | (intro h))
  rw [rep_vT]
  refine awp_loopP (fun k : Nat => k ≤ g.n.toNat ∧ ∀ j, j < k → okK g p j = true) (fun k => ⟨[(2, .ptr 2 0), (3, .ptr 3 0), (8, .ptr 20 0), (9, .ref 23), (10, eN k)], [(23, .own 55 1 (vT (endR g p k))), (20, .box (rfC g (fK g p k))), (3, .box [.d (sI p.ord), .d (.sl 1 (vI p.outs))]), (2, .box [eN g.n, .d (sE g.es)])]⟩) (fun k => g.n.toNat - k) 0 (by simp) ?_ ?_
  · refine Le.of ?_ ?_ <;> simp [go_sem, simprocAttr, rfC, fK, endR]
  rintro k ⟨hk, hok⟩
  obtain ⟨hi, _, hrl⟩ := run_inv hm hpo hk hok
  have hel := endR_len (g := g) (p := p) (k := k)
  rcases Nat.lt_or_ge k g.n.toNat with hlt | hge
  · have hb : decide ((k : Int) < (p.ord.length : Int)) = true := decide_eq_true (by omega)
    have hxm := oAt_mem hpo hlt
    have hnx := endR_next (g := g) (p := p) (k := k)
    have hfx : fK g p (k + 1) = (succF g (fK g p k) (oAt p k) (lAt p (oAt p k))).2 := rfl
    have hgx : goneK g p k = (succF g (fK g p k) (oAt p k) (lAt p (oAt p k))).1.1 := rfl
    have hpk := place_ok hpo hlt
    have hpn := place_no (g := g) (p := p) (k := k)
    have hsk : okK g p k = false → R = (([], []), (3, (k : Int))) := fun h => by
      rw [hR, stopK_some.2 ⟨hlt, h, hok⟩]
    have hmul : k * (g.es.length + 1) ≤ 64 * 129 := Nat.mul_le_mul (by omega) (by omega)
    have hll := lAt_len hpo hxm.1 hxm.2
    have hxo : p.ord.getD k 0 = oAt p k := rfl
    have hplen : (fK g p k).pl.length ≤ 64 := by
      rcases pl_le hi.toFrInv with h | h
      · omega
      · rw [h]; simp
    obtain ⟨x, hx⟩ : ∃ x : Nat, oAt p k = x := ⟨(oAt p k).toNat, by omega⟩
    rw [hx] at hxo hfx hgx hpk hpn hxm hll hnx
    have hxl : x < p.outs.length := by have := hpo.1; omega
    have hv := vI_getD hxl
    have hla : lAt p (x : Int) = p.outs.getD x [] := by unfold lAt; rw [Int.toNat_natCast]
    rw [hla] at hfx hgx hpk hpn hll
    rw [Int.toNat_natCast] at hnx
    have hPl := rPlace_spec g (by omega) (fK g p k) (x : Int) (p.outs.getD x []) (by omega) (by omega) (by omega)
    have hset := vT_set (ls := endR g p k) (k := x) (l := goneK g p k)
    generalize p.outs.getD x [] = o at hv hfx hgx hpk hpn hPl
    rw [← hnx] at hset
    generalize fK g p k = f at hfx hgx hpk hpn hPl hi hrl hplen
    cases hok1 : okK g p k with
    | false =>
      rw [hpn hok1] at hPl
      have hRk := hsk hok1
      subst hRk
      repeat' (first | fail | ((first | ((with_reducible (first | apply oA | apply oB)); exact rfl; intro K hK) | (refine hK _ ?_; clear hK K) | ((with_reducible (first | apply oG | apply oH)); iterate 3 exact rfl) | ((with_reducible apply oI); (iterate 2 exact rfl); intro K hK) | (with_reducible (first | apply wI | apply wJ | apply wK))); try simp only [go_sem, simprocAttr, hb, hxo, hv, rfC, vT, List.map_nil]) | fail | (with_reducible (first | apply oC | apply oJ | exact oK | apply wA | apply wB | apply wC hX hC | apply wD hX hC | apply wE hX hC hmix | apply wF hX hC hmix | apply wG | apply wH | apply And.intro)) | ((with_reducible refine oD ?_ ?_); first | fail | kernel_rfl) | ((with_reducible (first | apply oE | apply oF)); (iterate 3 exact rfl); all_goals (intro h; first | (exact absurd h (by decide)) | ((try simp only [go_sem, simprocAttr, hb, hxo, hv, rfC, vT, List.map_nil] at h); (try with_reducible intro K hK); simp only [go_sem, simprocAttr, hb, hxo, hv, rfC, vT, List.map_nil]))) | ((first | ((with_reducible apply wL); exact rfl) | ((with_reducible apply wM); exact rfl)); all_goals (try ((with_reducible intro h); first | (exact absurd h (by decide)) | (try simp only [go_sem, simprocAttr, hb, hxo, hv, rfC, vT, List.map_nil] at h)))) | omega | ((first | first | (refine acall_gen hX hC hP [(10000, 20)] (hPl) rfl rfl rfl ?_ ?_ ?_ ?_ ?_ ?_ ?_ ?_ ?_ ?_ ?_ ?_ ?_ ?_; (focus (simp only [go_sem, simprocAttr, hb, hxo, hv, rfC, vT, List.map_nil]; done)); (iterate 12 (focus (simp [go_sem, simprocAttr, hb, hxo, hv, rfC, vT, List.map_nil]; done))); simp only [go_sem, simprocAttr, hb, hxo, hv, rfC, vT, List.map_nil, List.map_cons, List.map_nil])); try simp only [go_sem, simprocAttr, hb, hxo, hv, rfC, vT, List.map_nil]) | (intro h))
    | true =>
      rw [hpk hok1] at hPl
      have hcode : (succF g f (x : Int) o).1.2 = 0 := rfl
      rw [hgx] at hset
      generalize succF g f (x : Int) o = su at hfx hgx hPl hcode hset
      have hxe : x < (endR g p k).length := by omega
      generalize hEk : endR g p k = E at hset hxe hel
      have hvl : (vT E).length = E.length := vT_length
      have hvd := fun d => vT_getD hxe d
      repeat' (first | fail | ((first | ((with_reducible (first | apply oA | apply oB)); exact rfl; intro K hK) | (refine hK _ ?_; clear hK K) | ((with_reducible (first | apply oG | apply oH)); iterate 3 exact rfl) | ((with_reducible apply oI); (iterate 2 exact rfl); intro K hK) | (with_reducible (first | apply wI | apply wJ | apply wK))); try simp only [go_sem, simprocAttr, hb, hxo, hv, rfC, hcode, hset, hvd, List.drop_succ_cons, List.drop_zero]) | fail | (with_reducible (first | apply oC | apply oJ | exact oK | apply wA | apply wB | apply wC hX hC | apply wD hX hC | apply wE hX hC hmix | apply wF hX hC hmix | apply wG | apply wH | apply And.intro)) | ((with_reducible refine oD ?_ ?_); first | fail | kernel_rfl) | ((with_reducible (first | apply oE | apply oF)); (iterate 3 exact rfl); all_goals (intro h; first | (exact absurd h (by decide)) | ((try simp only [go_sem, simprocAttr, hb, hxo, hv, rfC, hcode, hset, hvd, List.drop_succ_cons, List.drop_zero] at h); (try with_reducible intro K hK); simp only [go_sem, simprocAttr, hb, hxo, hv, rfC, hcode, hset, hvd, List.drop_succ_cons, List.drop_zero]))) | ((first | ((with_reducible apply wL); exact rfl) | ((with_reducible apply wM); exact rfl)); all_goals (try ((with_reducible intro h); first | (exact absurd h (by decide)) | (try simp only [go_sem, simprocAttr, hb, hxo, hv, rfC, hcode, hset, hvd, List.drop_succ_cons, List.drop_zero] at h)))) | omega | ((first | first | (refine acall_gen hX hC hP [(10000, 20)] (hPl) rfl rfl rfl ?_ ?_ ?_ ?_ ?_ ?_ ?_ ?_ ?_ ?_ ?_ ?_ ?_ ?_; (focus (simp only [go_sem, simprocAttr, hb, hxo, hv, rfC, hcode, hset, hvd, List.drop_succ_cons, List.drop_zero]; done)); (iterate 12 (focus (simp [go_sem, simprocAttr, hb, hxo, hv, rfC, hcode, hset, hvd, List.drop_succ_cons, List.drop_zero]; done))); simp only [go_sem, simprocAttr, hb, hxo, hv, rfC, hcode, hset, hvd, List.drop_succ_cons, List.drop_zero, List.map_cons, List.map_nil])); try simp only [go_sem, simprocAttr, hb, hxo, hv, rfC, hcode, hset, hvd, List.drop_succ_cons, List.drop_zero]) | (intro h))
      refine ⟨k + 1, ⟨by omega, fun j hj => ?_⟩, ?_, by omega⟩
      · by_cases e : j = k
        · subst e; exact hok1
        · exact hok j (by omega)
      · rw [hfx]
        have hset2 : (vT E).set x [D.sl 3 (List.map rT su.1.1)] = vT (endR g p (k + 1)) := hset
        refine Le.of ?_ ?_ <;> simp [go_sem, simprocAttr, hb, hxo, hv, rfC, hcode, hset, hvd, List.drop_succ_cons, List.drop_zero, hset2]
  have hb : decide ((k : Int) < (p.ord.length : Int)) = false := decide_eq_false (by omega)
  obtain rfl : k = g.n.toNat := by omega
  rw [stopK_none.2 hok] at hR
  subst hR
  repeat' (first | fail | ((first | ((with_reducible (first | apply oA | apply oB)); exact rfl; intro K hK) | (refine hK _ ?_; clear hK K) | ((with_reducible (first | apply oG | apply oH)); iterate 3 exact rfl) | ((with_reducible apply oI); (iterate 2 exact rfl); intro K hK) | (with_reducible (first | apply wI | apply wJ | apply wK))); try simp only [go_sem, simprocAttr, hb, rfC]) | fail | (with_reducible (first | apply oC | apply oJ | exact oK | apply wA | apply wB | apply wC hX hC | apply wD hX hC | apply wE hX hC hmix | apply wF hX hC hmix | apply wG | apply wH | apply And.intro)) | ((with_reducible refine oD ?_ ?_); first | fail | kernel_rfl) | ((with_reducible (first | apply oE | apply oF)); (iterate 3 exact rfl); all_goals (intro h; first | (exact absurd h (by decide)) | ((try simp only [go_sem, simprocAttr, hb, rfC] at h); (try with_reducible intro K hK); simp only [go_sem, simprocAttr, hb, rfC]))) | ((first | ((with_reducible apply wL); exact rfl) | ((with_reducible apply wM); exact rfl)); all_goals (try ((with_reducible intro h); first | (exact absurd h (by decide)) | (try simp only [go_sem, simprocAttr, hb, rfC] at h)))) | omega | ((first | fail); try simp only [go_sem, simprocAttr, hb, rfC]) | (intro h))
end Go.Ab
end
section
namespace Go.Ab
open Go.Proofs
attribute [local congr] ACall.congr
set_option maxRecDepth 10000
set_option maxHeartbeats 8000000

theorem sweepRun_spec (g : Gr) (hl : g.es.length ≤ 1000) (p : Pl) (hp : PlLen p) (b : Bool) (hr : b = true ↔ (chkG g).1 = 0 ∧ PlanOk g p) :
    Spec Try.prog 25 (Args [eG g, ePl p]) [] (.tup [.d (.sl 1 (vT (runRes b g p).1.1)), .d (sT (runRes b g p).1.2), eF ((runRes b g p).2.1, (runRes b g p).2.2, [])]) [] := by
  by_cases hc : (chkG g).1 = 0
  rotate_left
  · obtain rfl : b = false := by
      rw [← Bool.not_eq_true, hr]
      exact fun h => hc h.1
    have hR : runRes false g p = (([], []), (1, 0)) := rfl
    rw [hR]
    (refine Spec.intro (C := T.cfg [] []) (rs := [.t 4, .t 5, .c 6 34]) (T.cfg_ok _ _) Try.func25 rfl rfl Try.ntmps25 Try.results25 (by simp [AObj.isNest]) (by simp [AObj.isNest]) (by kernel_rfl) ?_; intro X hX hP hC hXn hXm vals hA; refine ⟨_, by simp, hA, ?_⟩; have hmix : X.P.follows .mixedOrders = true := (by rw [hP]; exact T.mixed); clear hXn hXm)
    repeat' (first | fail | ((first | ((with_reducible (first | apply oA | apply oB)); exact rfl; intro K hK) | (refine hK _ ?_; clear hK K) | ((with_reducible (first | apply oG | apply oH)); iterate 3 exact rfl) | ((with_reducible apply oI); (iterate 2 exact rfl); intro K hK) | (with_reducible (first | apply wI | apply wJ | apply wK))); try simp only [go_sem, simprocAttr, vT, List.map_nil]) | fail | (with_reducible (first | apply oC | apply oJ | exact oK | apply wA | apply wB | apply wC hX hC | apply wD hX hC | apply wE hX hC hmix | apply wF hX hC hmix | apply wG | apply wH | apply And.intro)) | ((with_reducible refine oD ?_ ?_); first | fail | kernel_rfl) | ((with_reducible (first | apply oE | apply oF)); (iterate 3 exact rfl); all_goals (intro h; first | (exact absurd h (by decide)) | ((try simp only [go_sem, simprocAttr, vT, List.map_nil] at h); (try with_reducible intro K hK); simp only [go_sem, simprocAttr, vT, List.map_nil]))) | ((first | ((with_reducible apply wL); exact rfl) | ((with_reducible apply wM); exact rfl)); all_goals (try ((with_reducible intro h); first | (exact absurd h (by decide)) | (try simp only [go_sem, simprocAttr, vT, List.map_nil] at h)))) | omega | ((first | first | refine acall_simple hX hC hP (newN_spec g hl hc) rfl rfl rfl (by simp only [go_sem, simprocAttr, vT, List.map_nil]) rfl ?_); try simp only [go_sem, simprocAttr, vT, List.map_nil]) | (intro h))
  have hm := good_may hc
  have hn := mayB_n hm
  have hr : b = true ↔ PlanOk g p := by rw [hr]; exact ⟨fun h => h.2, fun h => ⟨hc, h⟩⟩
  have hO := ofS_spec g hm p hp b hr
  cases b with
  | false =>
    have hR : runRes false g p = (([], []), (1, 0)) := rfl
    rw [hR]
    (refine Spec.intro (C := T.cfg [] []) (rs := [.t 4, .t 5, .c 6 34]) (T.cfg_ok _ _) Try.func25 rfl rfl Try.ntmps25 Try.results25 (by simp [AObj.isNest]) (by simp [AObj.isNest]) (by kernel_rfl) ?_; intro X hX hP hC hXn hXm vals hA; refine ⟨_, by simp, hA, ?_⟩; have hmix : X.P.follows .mixedOrders = true := (by rw [hP]; exact T.mixed); clear hXn hXm)
    repeat' (first | fail | ((first | ((with_reducible (first | apply oA | apply oB)); exact rfl; intro K hK) | (refine hK _ ?_; clear hK K) | ((with_reducible (first | apply oG | apply oH)); iterate 3 exact rfl) | ((with_reducible apply oI); (iterate 2 exact rfl); intro K hK) | (with_reducible (first | apply wI | apply wJ | apply wK))); try simp only [go_sem, simprocAttr, vT, List.map_nil]) | fail | (with_reducible (first | apply oC | apply oJ | exact oK | apply wA | apply wB | apply wC hX hC | apply wD hX hC | apply wE hX hC hmix | apply wF hX hC hmix | apply wG | apply wH | apply And.intro)) | ((with_reducible refine oD ?_ ?_); first | fail | kernel_rfl) | ((with_reducible (first | apply oE | apply oF)); (iterate 3 exact rfl); all_goals (intro h; first | (exact absurd h (by decide)) | ((try simp only [go_sem, simprocAttr, vT, List.map_nil] at h); (try with_reducible intro K hK); simp only [go_sem, simprocAttr, vT, List.map_nil]))) | ((first | ((with_reducible apply wL); exact rfl) | ((with_reducible apply wM); exact rfl)); all_goals (try ((with_reducible intro h); first | (exact absurd h (by decide)) | (try simp only [go_sem, simprocAttr, vT, List.map_nil] at h)))) | omega | ((first | first | (refine acall_genC hX hC hP [(10000, 13)] (newF_spec g hl hc hm) rfl rfl rfl ?_ ?_ ?_ ?_ ?_ ?_ ?_ ?_ ?_ ?_ ?_ ?_ ?_ ?_; (focus (simp only [go_sem, simprocAttr, vT, List.map_nil]; done)); (iterate 12 (focus (simp [go_sem, simprocAttr, vT, List.map_nil]; done))); simp only [go_sem, simprocAttr, vT, List.map_nil, List.map_cons, List.map_nil]) | refine acall_simple hX hC hP (of_spec g hm) rfl rfl rfl (by simp only [go_sem, simprocAttr, vT, List.map_nil]) rfl ?_ | refine acall_simple hX hC hP (hO) rfl rfl rfl (by simp only [go_sem, simprocAttr, vT, List.map_nil]) rfl ?_); try simp only [go_sem, simprocAttr, vT, List.map_nil]) | (intro h))
  | true =>
  have hpo := hr.1 rfl
  have hle := plan_len hpo
  have hR : runRes true g p = match stopK g p g.n.toNat with
    | some i => (([], []), (3, (i : Int)))
    | none => ((endR g p g.n.toNat, (fK g p g.n.toNat).row), (0, 0)) := rfl
  generalize runRes true g p = R at hR
  (refine Spec.intro (C := T.cfg [] []) (rs := [.t 4, .t 5, .c 6 34]) (T.cfg_ok _ _) Try.func25 rfl rfl Try.ntmps25 Try.results25 (by simp [AObj.isNest]) (by simp [AObj.isNest]) (by kernel_rfl) ?_; intro X hX hP hC hXn hXm vals hA; refine ⟨_, by simp, hA, ?_⟩; have hmix : X.P.follows .mixedOrders = true := (by rw [hP]; exact T.mixed); clear hXn hXm)
  repeat' (first | fail | ((first | ((with_reducible (first | apply oA | apply oB)); exact rfl; intro K hK) | (refine hK _ ?_; clear hK K) | ((with_reducible (first | apply oG | apply oH)); iterate 3 exact rfl) | ((with_reducible apply oI); (iterate 2 exact rfl); intro K hK) | (with_reducible (first | apply wI | apply wJ | apply wK))); try simp only [go_sem, simprocAttr]) | (show awp _ (.seq (.region 5 _ _) _) _ _; (refine awp_nilD 13 0 3 rfl rfl rfl ?_; simp only [LA.app, ASt.put, ASt.kill, putM, rml, List.set_cons_zero, List.set_cons_succ, go_sem, simprocAttr]); (refine awp_newB hX 13 2 100 (.tip 3 1 []) rfl rfl rfl (by simp only [go_sem, simprocAttr]) (by decide) (by simp [go_sem, simprocAttr]) ⟨3, 1, by decide, .inr rfl⟩ ?_; simp only [LA.app, ASt.put, ASt.kill, subT, rmk, putM, rml, kl, AV.sub, AV.subs, AObj.sub, List.set_cons_zero, List.set_cons_succ, go_sem, simprocAttr])) | (with_reducible (first | apply oC | apply oJ | exact oK | apply wA | apply wB | apply wC hX hC | apply wD hX hC | apply wE hX hC hmix | apply wF hX hC hmix | apply wG | apply wH | apply And.intro)) | ((with_reducible refine oD ?_ ?_); first | fail | kernel_rfl) | ((with_reducible (first | apply oE | apply oF)); (iterate 3 exact rfl); all_goals (intro h; first | (exact absurd h (by decide)) | ((try simp only [go_sem, simprocAttr] at h); (try with_reducible intro K hK); simp only [go_sem, simprocAttr]))) | ((first | ((with_reducible apply wL); exact rfl) | ((with_reducible apply wM); exact rfl)); all_goals (try ((with_reducible intro h); first | (exact absurd h (by decide)) | (try simp only [go_sem, simprocAttr] at h)))) | omega | ((first | first | (refine acall_genC hX hC hP [(10000, 13)] (newF_spec g hl hc hm) rfl rfl rfl ?_ ?_ ?_ ?_ ?_ ?_ ?_ ?_ ?_ ?_ ?_ ?_ ?_ ?_; (focus (simp only [go_sem, simprocAttr]; done)); (iterate 12 (focus (simp [go_sem, simprocAttr]; done))); simp only [go_sem, simprocAttr, List.map_cons, List.map_nil]) | refine acall_simple hX hC hP (of_spec g hm) rfl rfl rfl (by simp only [go_sem, simprocAttr]) rfl ?_ | refine acall_simple hX hC hP (hO) rfl rfl rfl (by simp only [go_sem, simprocAttr]) rfl ?_); try simp only [go_sem, simprocAttr]) | (intro h))
  rw [rep_vT]
  refine awp_loopP (fun k : Nat => k ≤ g.n.toNat ∧ ∀ j, j < k → okK g p j = true) (fun k => ⟨[(3, .ptr 3 0), (4, .ref 28), (6, .ptr 6 0), (7, .ptr 13 0), (30, .d (sI p.ord)), (31, eN p.ord.length), (32, eN k)], [(28, .own 55 1 (vT (endR g p k))), (13, .box [.d (sT (fK g p k).row), .d (vw g), .ref 100]), (100, .tip 3 1 ((fK g p k).pl.map rI)), (6, .box [eN 0, eN 0, .nil 3]), (3, .box [.d (sI p.ord), .d (.sl 1 (vI p.outs))])]⟩) (fun k => g.n.toNat - k) 0 (by simp) ?_ ?_
  · refine Le.of ?_ ?_ <;> simp [go_sem, simprocAttr, rfC, fK, endR]
  rintro k ⟨hk, hok⟩
  obtain ⟨hi, _, hrl⟩ := run_inv hm hpo hk hok
  have hel := endR_len (g := g) (p := p) (k := k)
  have hmul : k * (g.es.length + 1) ≤ 64 * 129 := Nat.mul_le_mul (by omega) (by omega)
  rcases Nat.lt_or_ge k g.n.toNat with hlt | hge
  · have hb : decide ((k : Int) < (p.ord.length : Int)) = true := decide_eq_true (by omega)
    have hxm := oAt_mem hpo hlt
    have hnx := endR_next (g := g) (p := p) (k := k)
    have hfx : fK g p (k + 1) = (succF g (fK g p k) (oAt p k) (lAt p (oAt p k))).2 := rfl
    have hgx : goneK g p k = (succF g (fK g p k) (oAt p k) (lAt p (oAt p k))).1.1 := rfl
    have hpk := place_ok hpo hlt
    have hpn := place_no (g := g) (p := p) (k := k)
    have hsk : okK g p k = false → R = (([], []), (3, (k : Int))) := fun h => by
      rw [hR, stopK_some.2 ⟨hlt, h, hok⟩]
    have hll := lAt_len hpo hxm.1 hxm.2
    have hxo : p.ord.getD k 0 = oAt p k := rfl
    have hplen : (fK g p k).pl.length ≤ 64 := by
      rcases pl_le hi.toFrInv with h | h
      · omega
      · rw [h]; simp
    obtain ⟨x, hx⟩ : ∃ x : Nat, oAt p k = x := ⟨(oAt p k).toNat, by omega⟩
    rw [hx] at hxo hfx hgx hpk hpn hxm hll hnx
    have hxl : x < p.outs.length := by have := hpo.1; omega
    have hv := vI_getD hxl
    have hla : lAt p (x : Int) = p.outs.getD x [] := by unfold lAt; rw [Int.toNat_natCast]
    rw [hla] at hfx hgx hpk hpn hll
    rw [Int.toNat_natCast] at hnx
    have hPl := placeA_spec g hm (fK g p k) hi (x : Int) (p.outs.getD x []) (by omega) (by omega) (by omega)
    have hset := vT_set (ls := endR g p k) (k := x) (l := goneK g p k)
    generalize p.outs.getD x [] = o at hv hfx hgx hpk hpn hPl
    rw [← hnx] at hset
    generalize fK g p k = f at hfx hgx hpk hpn hPl hi hrl hplen
    have hxe : x < (endR g p k).length := by omega
    have hvl : (vT (endR g p k)).length = (endR g p k).length := vT_length
    cases hok1 : okK g p k with
    | false =>
      rw [hpn hok1] at hPl
      simp only at hPl
      have hRk := hsk hok1
      subst hRk
      repeat' (first | fail | ((first | ((with_reducible (first | apply oA | apply oB)); exact rfl; intro K hK) | (refine hK _ ?_; clear hK K) | ((with_reducible (first | apply oG | apply oH)); iterate 3 exact rfl) | ((with_reducible apply oI); (iterate 2 exact rfl); intro K hK) | (with_reducible (first | apply wI | apply wJ | apply wK))); try simp only [go_sem, simprocAttr, hb, hxo, hv, frO, frN, List.map_nil]) | fail | (with_reducible (first | apply oC | apply oJ | exact oK | apply wA | apply wB | apply wC hX hC | apply wD hX hC | apply wE hX hC hmix | apply wF hX hC hmix | apply wG | apply wH | apply And.intro)) | ((with_reducible refine oD ?_ ?_); first | fail | kernel_rfl) | ((with_reducible (first | apply oE | apply oF)); (iterate 3 exact rfl); all_goals (intro h; first | (exact absurd h (by decide)) | ((try simp only [go_sem, simprocAttr, hb, hxo, hv, frO, frN, List.map_nil] at h); (try with_reducible intro K hK); simp only [go_sem, simprocAttr, hb, hxo, hv, frO, frN, List.map_nil]))) | ((first | ((with_reducible apply wL); exact rfl) | ((with_reducible apply wM); exact rfl)); all_goals (try ((with_reducible intro h); first | (exact absurd h (by decide)) | (try simp only [go_sem, simprocAttr, hb, hxo, hv, frO, frN, List.map_nil] at h)))) | omega | ((first | first | (refine acall_gen hX hC hP [(10000, 13), (10001, 100), (10002, 101)] (hPl) rfl rfl rfl ?_ ?_ ?_ ?_ ?_ ?_ ?_ ?_ ?_ ?_ ?_ ?_ ?_ ?_; (focus (simp only [go_sem, simprocAttr, hb, hxo, hv, frO, frN, List.map_nil]; done)); (iterate 12 (focus (simp [go_sem, simprocAttr, hb, hxo, hv, frO, frN, List.map_nil]; done))); simp only [go_sem, simprocAttr, hb, hxo, hv, frO, frN, List.map_nil, List.map_cons, List.map_nil])); try simp only [go_sem, simprocAttr, hb, hxo, hv, frO, frN, List.map_nil]) | (intro h))
      all_goals rfl
    | true =>
      rw [hpk hok1] at hPl
      have hcode : (succF g f (x : Int) o).1.2 = 0 := rfl
      rw [hgx] at hset
      generalize succF g f (x : Int) o = su at hfx hgx hPl hcode hset
      generalize hEk : endR g p k = E at hset hxe hel hvl
      have hvd := fun d => vT_getD hxe d
      repeat' (first | fail | ((first | ((with_reducible (first | apply oA | apply oB)); exact rfl; intro K hK) | (refine hK _ ?_; clear hK K) | ((with_reducible (first | apply oG | apply oH)); iterate 3 exact rfl) | ((with_reducible apply oI); (iterate 2 exact rfl); intro K hK) | (with_reducible (first | apply wI | apply wJ | apply wK))); try simp only [go_sem, simprocAttr, hb, hxo, hv, frO, frN, hcode, hset, hvd, List.drop_succ_cons, List.drop_zero]) | (show awp _ (.region 11 _ _) _ _; (refine awp_mvB hX 13 2 101 100 rfl rfl rfl (by first | exact .inl rfl | exact .inr rfl) (by decide) (by decide) ?_; simp only [LA.app, ASt.put, ASt.kill, subT, rmk, putM, rml, kl, AV.sub, AV.subs, AObj.sub, List.set_cons_zero, List.set_cons_succ, go_sem, simprocAttr, hb, hxo, hv, frO, frN, hcode, hset, hvd, List.drop_succ_cons, List.drop_zero])) | (with_reducible (first | apply oC | apply oJ | exact oK | apply wA | apply wB | apply wC hX hC | apply wD hX hC | apply wE hX hC hmix | apply wF hX hC hmix | apply wG | apply wH | apply And.intro)) | ((with_reducible refine oD ?_ ?_); first | fail | kernel_rfl) | ((with_reducible (first | apply oE | apply oF)); (iterate 3 exact rfl); all_goals (intro h; first | (exact absurd h (by decide)) | ((try simp only [go_sem, simprocAttr, hb, hxo, hv, frO, frN, hcode, hset, hvd, List.drop_succ_cons, List.drop_zero] at h); (try with_reducible intro K hK); simp only [go_sem, simprocAttr, hb, hxo, hv, frO, frN, hcode, hset, hvd, List.drop_succ_cons, List.drop_zero]))) | ((first | ((with_reducible apply wL); exact rfl) | ((with_reducible apply wM); exact rfl)); all_goals (try ((with_reducible intro h); first | (exact absurd h (by decide)) | (try simp only [go_sem, simprocAttr, hb, hxo, hv, frO, frN, hcode, hset, hvd, List.drop_succ_cons, List.drop_zero] at h)))) | omega | ((first | first | (refine acall_gen hX hC hP [(10000, 13), (10001, 100), (10002, 101)] (hPl) rfl rfl rfl ?_ ?_ ?_ ?_ ?_ ?_ ?_ ?_ ?_ ?_ ?_ ?_ ?_ ?_; (focus (simp only [go_sem, simprocAttr, hb, hxo, hv, frO, frN, hcode, hset, hvd, List.drop_succ_cons, List.drop_zero]; done)); (iterate 12 (focus (simp [go_sem, simprocAttr, hb, hxo, hv, frO, frN, hcode, hset, hvd, List.drop_succ_cons, List.drop_zero]; done))); simp only [go_sem, simprocAttr, hb, hxo, hv, frO, frN, hcode, hset, hvd, List.drop_succ_cons, List.drop_zero, List.map_cons, List.map_nil])); try simp only [go_sem, simprocAttr, hb, hxo, hv, frO, frN, hcode, hset, hvd, List.drop_succ_cons, List.drop_zero]) | (intro h))
      refine ⟨k + 1, ⟨by omega, fun j hj => ?_⟩, ?_, by omega⟩
      · by_cases e : j = k
        · subst e; exact hok1
        · exact hok j (by omega)
      · rw [hfx]
        have hset2 : (vT E).set x [D.sl 3 (List.map rT su.1.1)] = vT (endR g p (k + 1)) := hset
        refine Le.of ?_ ?_ <;> simp [go_sem, simprocAttr, hb, hxo, hv, frO, frN, hcode, hset, hvd, List.drop_succ_cons, List.drop_zero, hset2]
  have hb : decide ((k : Int) < (p.ord.length : Int)) = false := decide_eq_false (by omega)
  obtain rfl : k = g.n.toNat := by omega
  rw [stopK_none.2 hok] at hR
  subst hR
  repeat' (first | fail | ((first | ((with_reducible (first | apply oA | apply oB)); exact rfl; intro K hK) | (refine hK _ ?_; clear hK K) | ((with_reducible (first | apply oG | apply oH)); iterate 3 exact rfl) | ((with_reducible apply oI); (iterate 2 exact rfl); intro K hK) | (with_reducible (first | apply wI | apply wJ | apply wK))); try simp only [go_sem, simprocAttr, hb]) | fail | (with_reducible (first | apply oC | apply oJ | exact oK | apply wA | apply wB | apply wC hX hC | apply wD hX hC | apply wE hX hC hmix | apply wF hX hC hmix | apply wG | apply wH | apply And.intro)) | ((with_reducible refine oD ?_ ?_); first | fail | kernel_rfl) | ((with_reducible (first | apply oE | apply oF)); (iterate 3 exact rfl); all_goals (intro h; first | (exact absurd h (by decide)) | ((try simp only [go_sem, simprocAttr, hb] at h); (try with_reducible intro K hK); simp only [go_sem, simprocAttr, hb]))) | ((first | ((with_reducible apply wL); exact rfl) | ((with_reducible apply wM); exact rfl)); all_goals (try ((with_reducible intro h); first | (exact absurd h (by decide)) | (try simp only [go_sem, simprocAttr, hb] at h)))) | omega | ((first | first | (refine acall_lend1 hX hC hP 60 (rowT_spec [vw g, sI (fK g p g.n.toNat).pl] (fK g p g.n.toNat).row (by omega)) rfl rfl rfl ?_ ?_ (by first | exact ⟨_, _, _, rfl, flatI⟩ | exact ⟨_, _, _, rfl, flatT⟩) rfl (by decide) ?_; (iterate 2 (focus (simp only [go_sem, simprocAttr, hb]; done))); simp only [go_sem, simprocAttr, hb])); try simp only [go_sem, simprocAttr, hb]) | (intro h))
end Go.Ab
end
section
namespace Go.Ab
open Go.Proofs
attribute [local congr] ACall.congr
set_option maxRecDepth 10000
set_option maxHeartbeats 8000000

/-- A builder. -/
def buO (n : Int) (es : List Edge) (ord : List Int) (O : List (List Int)) : List (Nat × AObj) := [(10000, .box [eN n, .ref 10001, .ref 10002, .ref 10003]), (10001, .tip 53 2 (es.map rE)), (10002, .tip 3 1 (ord.map rI)), (10003, .own 32 1 (vI O))]
def buN (n : Int) (es : List Edge) (ord : List Int) (O : List (List Int)) : List (Nat × AObj) := [(10000, .box [eN n, .ref 10004, .ref 10002, .ref 10003]), (10004, .tip 53 2 (es.map rE)), (10002, .tip 3 1 (ord.map rI)), (10003, .own 32 1 (vI O))]
/-- What items lay: edges from their sinks. -/
def layE (x : Int) (items : List It) : List Edge := (loose items).map fun v => (v, x)
theorem layE_app {x : Int} {a b : List It} : layE x (a ++ b) = layE x a ++ layE x b := by simp [layE, loose_app]
theorem vI_set {ls : List (List Int)} {k : Nat} {l : List Int} : (vI ls).set k [sI l] = vI (ls.set k l) := by simp [vI, List.map_set]
theorem loose_len {items : List It} : (loose items).length ≤ items.length := by
  unfold loose
  rw [List.length_map]
  exact List.length_filter_le _ _
theorem lay_spec (n : Int) (es : List Edge) (ord : List Int) (O : List (List Int)) (x : Int) (items : List It) (hl : es.length + items.length ≤ 100000) (hO : ∀ v ∈ loose items, 0 ≤ v ∧ v < O.length) :
    Spec Try.prog 47 (Args [.ptr 10000 0, eN x, .d (sT items)]) (buO n es ord O) (.tup []) (buN n (es ++ layE x items) ord (layO es.length (layE x items) O)) := by
  unfold buO buN
  (refine Spec.introR (C := T.cfg [] []) (rs := []) [(10004, 50)] (T.cfg_ok _ _) Try.func47 rfl rfl Try.ntmps47 Try.results47 (by simp [AObj.isNest]) (by simp [AObj.isNest]) (by first | (simp [look]; done) | (simp [asN]; done) | (intro l hl; simp only [asN]; repeat (rw [if_neg (fun e => by subst e; simp [look] at hl)]))) (by first | (simp [look]; done) | (simp [asN]; done) | (intro l hl; simp only [asN]; repeat (rw [if_neg (fun e => by subst e; simp [look] at hl)]))) (by kernel_rfl) ?_; intro X hX hP hC hXn hXm vals hA; refine ⟨_, by simp, hA, ?_⟩; have hmix : X.P.follows .mixedOrders = true := (by rw [hP]; exact T.mixed); clear hXn hXm)
  repeat' (first | fail | ((first | ((with_reducible (first | apply oA | apply oB)); exact rfl; intro K hK) | (refine hK _ ?_; clear hK K) | ((with_reducible (first | apply oG | apply oH)); iterate 3 exact rfl) | ((with_reducible apply oI); (iterate 2 exact rfl); intro K hK) | (with_reducible (first | apply wI | apply wJ | apply wK))); try simp only [go_sem, simprocAttr]) | fail | (with_reducible (first | apply oC | apply oJ | exact oK | apply wA | apply wB | apply wC hX hC | apply wD hX hC | apply wE hX hC hmix | apply wF hX hC hmix | apply wG | apply wH | apply And.intro)) | ((with_reducible refine oD ?_ ?_); first | fail | kernel_rfl) | ((with_reducible (first | apply oE | apply oF)); (iterate 3 exact rfl); all_goals (intro h; first | (exact absurd h (by decide)) | ((try simp only [go_sem, simprocAttr] at h); (try with_reducible intro K hK); simp only [go_sem, simprocAttr]))) | ((first | ((with_reducible apply wL); exact rfl) | ((with_reducible apply wM); exact rfl)); all_goals (try ((with_reducible intro h); first | (exact absurd h (by decide)) | (try simp only [go_sem, simprocAttr] at h)))) | omega | ((first | fail); try simp only [go_sem, simprocAttr]) | (intro h))
  (refine awp_mvB hX 10000 1 10001 50 rfl rfl rfl (by first | exact .inl rfl | exact .inr rfl) (by decide) (by decide) ?_; simp only [LA.app, ASt.put, ASt.kill, subT, rmk, putM, rml, kl, AV.sub, AV.subs, AObj.sub, List.set_cons_zero, List.set_cons_succ, go_sem, simprocAttr])
  refine awp_loopP (fun k : Nat => k ≤ items.length) (fun k => ⟨[(0, .ptr 10000 0), (1, eN x), (8, .d (sT items)), (9, eN items.length), (10, eN k)], [(10000, .box [eN n, .ref 50, .ref 10002, .ref 10003]), (50, .tip 53 2 ((es ++ layE x (items.take k)).map rE)), (10002, .tip 3 1 (ord.map rI)), (10003, .own 32 1 (vI (layO es.length (layE x (items.take k)) O)))]⟩) (fun k => items.length - k) 0 (by simp) ?_ ?_
  · refine Le.of ?_ ?_ <;> simp [go_sem, simprocAttr, layE, loose, layO]
  rintro k hk
  rcases Nat.lt_or_ge k items.length with hlt | hge
  · have hb : decide ((k : Int) < (items.length : Int)) = true := decide_eq_true (by omega)
    have htk : items.take (k + 1) = items.take k ++ [items.getD k (0, 0, 0)] := take_getD hlt
    have hmt := getD_memX (d := (0, 0, 0)) hlt
    have hsn : layE x (items.take (k + 1)) = layE x (items.take k) ++ layE x [items.getD k (0, 0, 0)] := by rw [htk, layE_app]
    have hvO : (items.getD k (0, 0, 0)).1 < 0 → 0 ≤ (items.getD k (0, 0, 0)).2.1 ∧ (items.getD k (0, 0, 0)).2.1 < O.length := fun h => hO _ (by
      unfold loose
      exact List.mem_map.2 ⟨_, List.mem_filter.2 ⟨hmt, decide_eq_true h⟩, rfl⟩)
    have hll : (layE x (items.take k)).length ≤ k := by
      unfold layE
      rw [List.length_map]
      refine Nat.le_trans loose_len ?_
      rw [List.length_take]; omega
    have hLO := layO_app (m := es.length) (N := layE x (items.take k)) (M := layE x [items.getD k (0, 0, 0)]) (O := O)
    have hOl : (layO es.length (layE x (items.take k)) O).length = O.length := layO_len
    rw [← hsn] at hLO
    generalize hti : items.getD k (0, 0, 0) = t at hsn hvO hLO
    generalize layO es.length (layE x (items.take k)) O = O' at hLO hOl
    generalize layE x (items.take k) = N at hsn hll hLO
    by_cases h0 : 0 ≤ t.1
    · have hb1 : decide (0 ≤ t.1) = true := decide_eq_true h0
      have he : layE x [t] = [] := by
        have : ¬ t.1 < 0 := by omega
        simp [layE, loose, this]
      rw [he] at hsn hLO
      rw [List.append_nil] at hsn
      repeat' (first | fail | ((first | ((with_reducible (first | apply oA | apply oB)); exact rfl; intro K hK) | (refine hK _ ?_; clear hK K) | ((with_reducible (first | apply oG | apply oH)); iterate 3 exact rfl) | ((with_reducible apply oI); (iterate 2 exact rfl); intro K hK) | (with_reducible (first | apply wI | apply wJ | apply wK))); try simp only [go_sem, simprocAttr, hb, hb1, hti]) | fail | (with_reducible (first | apply oC | apply oJ | exact oK | apply wA | apply wB | apply wC hX hC | apply wD hX hC | apply wE hX hC hmix | apply wF hX hC hmix | apply wG | apply wH | apply And.intro)) | ((with_reducible refine oD ?_ ?_); first | fail | kernel_rfl) | ((with_reducible (first | apply oE | apply oF)); (iterate 3 exact rfl); all_goals (intro h; first | (exact absurd h (by decide)) | ((try simp only [go_sem, simprocAttr, hb, hb1, hti] at h); (try with_reducible intro K hK); simp only [go_sem, simprocAttr, hb, hb1, hti]))) | ((first | ((with_reducible apply wL); exact rfl) | ((with_reducible apply wM); exact rfl)); all_goals (try ((with_reducible intro h); first | (exact absurd h (by decide)) | (try simp only [go_sem, simprocAttr, hb, hb1, hti] at h)))) | omega | ((first | fail); try simp only [go_sem, simprocAttr, hb, hb1, hti]) | (intro h))
      refine ⟨k + 1, by omega, ?_, by omega⟩
      rw [hLO, hsn]
      refine Le.of ?_ ?_ <;> simp [go_sem, simprocAttr, hb, hb1, hti, layO]
    · have hb1 : decide (0 ≤ t.1) = false := decide_eq_false h0
      have he : layE x [t] = [(t.2.1, x)] := by
        have : t.1 < 0 := by omega
        simp [layE, loose, this]
      rw [he] at hsn hLO
      obtain ⟨hv0, hv1⟩ := hvO (by omega)
      obtain ⟨vn, hvn⟩ : ∃ vn : Nat, t.2.1 = vn := ⟨t.2.1.toNat, by omega⟩
      have hvl : vn < O'.length := by omega
      have hvd := fun d => vI_getD hvl d
      have hLO2 : layO es.length (layE x (items.take (k + 1))) O = O'.set vn [((es.length + N.length : Nat) : Int)] := by
        rw [hLO, hvn]
        show O'.set ((vn : Int).toNat) _ = _
        rw [Int.toNat_natCast]
      rw [hvn] at hsn
      have hrow : rI ((es.length : Int) + (N.length : Int)) = [D.sc (.int .i64 ((es.length : Int) + (N.length : Int)))] := rfl
      have hset := vI_set (ls := O') (k := vn) (l := [((es.length + N.length : Nat) : Int)])
      repeat' (first | fail | ((first | ((with_reducible (first | apply oA | apply oB)); exact rfl; intro K hK) | (refine hK _ ?_; clear hK K) | ((with_reducible (first | apply oG | apply oH)); iterate 3 exact rfl) | ((with_reducible apply oI); (iterate 2 exact rfl); intro K hK) | (with_reducible (first | apply wI | apply wJ | apply wK))); try simp only [go_sem, simprocAttr, hb, hb1, hti, hvn, hvd, List.drop_succ_cons, List.drop_zero, List.length_append]) | (show awp _ (.region 6 _ _) _ _; (refine awp_mvB hX 10000 1 43 50 rfl rfl rfl (by first | exact .inl rfl | exact .inr rfl) (by decide) (by decide) ?_; simp only [LA.app, ASt.put, ASt.kill, subT, rmk, putM, rml, kl, AV.sub, AV.subs, AObj.sub, List.set_cons_zero, List.set_cons_succ, go_sem, simprocAttr, hb, hb1, hti, hvn, hvd, List.drop_succ_cons, List.drop_zero, List.length_append])) | (with_reducible (first | apply oC | apply oJ | exact oK | apply wA | apply wB | apply wC hX hC | apply wD hX hC | apply wE hX hC hmix | apply wF hX hC hmix | apply wG | apply wH | apply And.intro)) | ((with_reducible refine oD ?_ ?_); first | fail | kernel_rfl) | ((with_reducible (first | apply oE | apply oF)); (iterate 3 exact rfl); all_goals (intro h; first | (exact absurd h (by decide)) | ((try simp only [go_sem, simprocAttr, hb, hb1, hti, hvn, hvd, List.drop_succ_cons, List.drop_zero, List.length_append] at h); (try with_reducible intro K hK); simp only [go_sem, simprocAttr, hb, hb1, hti, hvn, hvd, List.drop_succ_cons, List.drop_zero, List.length_append]))) | ((first | ((with_reducible apply wL); exact rfl) | ((with_reducible apply wM); exact rfl)); all_goals (try ((with_reducible intro h); first | (exact absurd h (by decide)) | (try simp only [go_sem, simprocAttr, hb, hb1, hti, hvn, hvd, List.drop_succ_cons, List.drop_zero, List.length_append] at h)))) | omega | ((first | fail); try simp only [go_sem, simprocAttr, hb, hb1, hti, hvn, hvd, List.drop_succ_cons, List.drop_zero, List.length_append]) | (intro h))
      refine ⟨k + 1, by omega, ?_, by omega⟩
      rw [hLO2, hsn]
      refine Le.of ?_ ?_ <;> simp [go_sem, simprocAttr, hb, hb1, hti, hvn, hvd, List.drop_succ_cons, List.drop_zero, List.length_append]
      refine ⟨rfl, ?_⟩
      simp only [Int.natCast_add] at hset
      exact hset
  · have hb : decide ((k : Int) < (items.length : Int)) = false := decide_eq_false (by omega)
    obtain rfl : k = items.length := by omega
    have ht : items.take items.length = items := List.take_length
    repeat' (first | fail | ((first | ((with_reducible (first | apply oA | apply oB)); exact rfl; intro K hK) | (refine hK _ ?_; clear hK K) | ((with_reducible (first | apply oG | apply oH)); iterate 3 exact rfl) | ((with_reducible apply oI); (iterate 2 exact rfl); intro K hK) | (with_reducible (first | apply wI | apply wJ | apply wK))); try simp only [go_sem, simprocAttr, hb, ht]) | fail | (with_reducible (first | apply oC | apply oJ | exact oK | apply wA | apply wB | apply wC hX hC | apply wD hX hC | apply wE hX hC hmix | apply wF hX hC hmix | apply wG | apply wH | apply And.intro)) | ((with_reducible refine oD ?_ ?_); first | fail | kernel_rfl) | ((with_reducible (first | apply oE | apply oF)); (iterate 3 exact rfl); all_goals (intro h; first | (exact absurd h (by decide)) | ((try simp only [go_sem, simprocAttr, hb, ht] at h); (try with_reducible intro K hK); simp only [go_sem, simprocAttr, hb, ht]))) | ((first | ((with_reducible apply wL); exact rfl) | ((with_reducible apply wM); exact rfl)); all_goals (try ((with_reducible intro h); first | (exact absurd h (by decide)) | (try simp only [go_sem, simprocAttr, hb, ht] at h)))) | omega | ((first | fail); try simp only [go_sem, simprocAttr, hb, ht]) | (intro h))
end Go.Ab
end
section
namespace Go.Ab
open Go.Proofs
attribute [local congr] ACall.congr
set_option maxRecDepth 10000
set_option maxHeartbeats 16000000

theorem cloneEt_spec (ps : List Edge) (hl : ps.length ≤ 1000000) :
    Spec Try.prog 45 (Args [.d (sE ps)]) [] (.ref 10000) [(10000, .tip 53 2 (ps.map rE))] := by
  (refine Spec.introR (C := T.cfg [] []) (rs := [.t 2]) [(10000, 7)] (T.cfg_ok _ _) Try.func45 rfl rfl Try.ntmps45 Try.results45 (by simp [AObj.isNest]) (by simp [AObj.isNest]) (by first | (simp [look]; done) | (simp [asN]; done) | (intro l hl; simp only [asN]; repeat (rw [if_neg (fun e => by subst e; simp [look] at hl)]))) (by first | (simp [look]; done) | (simp [asN]; done) | (intro l hl; simp only [asN]; repeat (rw [if_neg (fun e => by subst e; simp [look] at hl)]))) (by kernel_rfl) ?_; intro X hX hP hC hXn hXm vals hA; refine ⟨_, by simp, hA, ?_⟩; have hmix : X.P.follows .mixedOrders = true := (by rw [hP]; exact T.mixed); clear hXn hXm)
  repeat' (first | (show awp _ .ret _ _; (try simp only [go_sem, simprocAttr]); refine awp_new hX 2 7 (.tip 53 2 []) ?_ ?_ (by decide) ⟨53, 2, by decide, .inr rfl⟩ ?_; (iterate 2 (focus (simp only [go_sem, simprocAttr]; done))); simp only [go_sem, simprocAttr]) | ((first | ((with_reducible (first | apply oA | apply oB)); exact rfl; intro K hK) | (refine hK _ ?_; clear hK K) | ((with_reducible (first | apply oG | apply oH)); iterate 3 exact rfl) | ((with_reducible apply oI); (iterate 2 exact rfl); intro K hK) | (with_reducible (first | apply wI | apply wJ | apply wK))); try simp only [go_sem, simprocAttr]) | fail | (with_reducible (first | apply oC | apply oJ | exact oK | apply wA | apply wB | apply wC hX hC | apply wD hX hC | apply wE hX hC hmix | apply wF hX hC hmix | apply wG | apply wH | apply And.intro)) | ((with_reducible refine oD ?_ ?_); first | fail | kernel_rfl) | ((with_reducible (first | apply oE | apply oF)); (iterate 3 exact rfl); all_goals (intro h; first | (exact absurd h (by decide)) | ((try simp only [go_sem, simprocAttr] at h); (try with_reducible intro K hK); simp only [go_sem, simprocAttr]))) | ((first | ((with_reducible apply wL); exact rfl) | ((with_reducible apply wM); exact rfl)); all_goals (try ((with_reducible intro h); first | (exact absurd h (by decide)) | (try simp only [go_sem, simprocAttr] at h)))) | omega | ((first | fail); try simp only [go_sem, simprocAttr]) | (intro h))
  exact h.symm
def pz : Pl := ⟨[], []⟩
def augR (b : Bool) (g : Gr) (p : Pl) : Gr × Pl × Int :=
  if (runRes b g p).2.1 ≠ 0 then (gz, pz, 1) else if 64 < (augG g p).n ∨ 128 < (augG g p).es.length then (gz, pz, 10) else (augG g p, augP g p, 0)
theorem runRes_ok {b : Bool} {g : Gr} {p : Pl} (hr : b = true ↔ (chkG g).1 = 0 ∧ PlanOk g p) (h : (runRes b g p).2.1 = 0) : RunsP g p ∧ runRes b g p = ((endR g p g.n.toNat, lastR g p), (0, 0)) := by
  cases b with
  | false => simp [runRes] at h
  | true =>
    have hR : runRes true g p = match stopK g p g.n.toNat with
      | some i => (([], []), (3, (i : Int)))
      | none => ((endR g p g.n.toNat, (fK g p g.n.toNat).row), (0, 0)) := rfl
    cases hs : stopK g p g.n.toNat with
    | some i => rw [hR, hs] at h; simp at h
    | none =>
      obtain ⟨h1, h2⟩ := hr.1 rfl
      exact ⟨⟨h1, h2, stopK_none.1 hs⟩, by rw [hR, hs]; rfl⟩
theorem newK_next {g : Gr} {p : Pl} {k : Nat} : newK g p (k + 1) = newK g p k ++ layE (oAt p k) (goneK g p k) := rfl
theorem newK_ok {g : Gr} {p : Pl} (hr : RunsP g p) {k : Nat} (hk : k ≤ g.n.toNat) : (newK g p k).length ≤ g.n.toNat ∧ ∀ e ∈ newK g p k, 0 ≤ e.1 ∧ e.1 < g.n := by
  obtain ⟨hc, h, hok⟩ := hr
  have hm := good_may hc
  obtain ⟨h1, h2⟩ := loose_inv hm h hk fun j hj => hok j (by omega)
  obtain ⟨hi, _⟩ := run_inv hm h hk fun j hj => hok j (by omega)
  have hv : ∀ v ∈ (newK g p k).map (·.1), 0 ≤ v ∧ v < g.n := fun v hv => hi.rng v (h2 v (List.mem_append_left _ hv)).1
  refine ⟨?_, fun e he => hv _ (List.mem_map.2 ⟨e, he, rfl⟩)⟩
  have := nodup_lenX (List.nodup_append.1 h1).1 (m := allN g.n.toNat) fun v hv' => allN_mem.2 (by have := hv v hv'; omega)
  rw [allN_len, List.length_map] at this
  exact this
theorem augment_spec (g : Gr) (hl : g.es.length ≤ 1000) (p : Pl) (hp : PlLen p) (hp1 : p.ord.length ≤ 1000) (hp2 : p.outs.length ≤ 1000) (hp3 : ∀ l ∈ p.outs, l.length ≤ 1000) (b : Bool) (hr : b = true ↔ (chkG g).1 = 0 ∧ PlanOk g p) :
    Spec Try.prog 17 (Args [eG g, ePl p]) [] (.tup [eG (augR b g p).1, ePl (augR b g p).2.1, eN (augR b g p).2.2]) [] := by
  have hO := sweepRun_spec g hl p hp b hr
  by_cases h0 : (runRes b g p).2.1 = 0
  rotate_left
  · have hAr : augR b g p = (gz, pz, 1) := if_pos h0
    rw [hAr]
    have hb1 : decide ((runRes b g p).2.1 = 0) = false := decide_eq_false h0
    (refine Spec.intro (C := T.cfg [] []) (rs := [.c 4 24, .c 5 43, .t 6]) (T.cfg_ok _ _) Try.func17 rfl rfl Try.ntmps17 Try.results17 (by simp [AObj.isNest]) (by simp [AObj.isNest]) (by kernel_rfl) ?_; intro X hX hP hC hXn hXm vals hA; refine ⟨_, by simp, hA, ?_⟩; have hmix : X.P.follows .mixedOrders = true := (by rw [hP]; exact T.mixed); clear hXn hXm)
    repeat' (first | fail | ((first | ((with_reducible (first | apply oA | apply oB)); exact rfl; intro K hK) | (refine hK _ ?_; clear hK K) | ((with_reducible (first | apply oG | apply oH)); iterate 3 exact rfl) | ((with_reducible apply oI); (iterate 2 exact rfl); intro K hK) | (with_reducible (first | apply wI | apply wJ | apply wK))); try simp only [go_sem, simprocAttr, hb1, gz, pz, vI, List.map_nil]) | fail | (with_reducible (first | apply oC | apply oJ | exact oK | apply wA | apply wB | apply wC hX hC | apply wD hX hC | apply wE hX hC hmix | apply wF hX hC hmix | apply wG | apply wH | apply And.intro)) | ((with_reducible refine oD ?_ ?_); first | fail | kernel_rfl) | ((with_reducible (first | apply oE | apply oF)); (iterate 3 exact rfl); all_goals (intro h; first | (exact absurd h (by decide)) | ((try simp only [go_sem, simprocAttr, hb1, gz, pz, vI, List.map_nil] at h); (try with_reducible intro K hK); simp only [go_sem, simprocAttr, hb1, gz, pz, vI, List.map_nil]))) | ((first | ((with_reducible apply wL); exact rfl) | ((with_reducible apply wM); exact rfl)); all_goals (try ((with_reducible intro h); first | (exact absurd h (by decide)) | (try simp only [go_sem, simprocAttr, hb1, gz, pz, vI, List.map_nil] at h)))) | omega | ((first | first | refine acall_simple hX hC hP (hO) rfl rfl rfl (by simp only [go_sem, simprocAttr, hb1, gz, pz, vI, List.map_nil]) rfl ?_); try simp only [go_sem, simprocAttr, hb1, gz, pz, vI, List.map_nil]) | (intro h))
  obtain ⟨hrun, hR⟩ := runRes_ok hr h0
  rw [hR] at hO
  simp only at hO
  have hAr : augR b g p = if 64 < (augG g p).n ∨ 128 < (augG g p).es.length then (gz, pz, 10) else (augG g p, augP g p, 0) := by
    unfold augR; rw [if_neg (by rw [h0]; simp)]
  generalize augR b g p = AR at hAr
  have hm := good_may hrun.1
  have hn := mayB_n hm
  have hpo := hrun.2.1
  have hle := plan_len hpo
  have hol := hpo.1
  (refine Spec.intro (C := T.cfg [55, 98] []) (rs := [.c 4 24, .c 5 43, .t 6]) (T.cfg_ok _ _) Try.func17 rfl rfl Try.ntmps17 Try.results17 (by simp [AObj.isNest]) (by simp [AObj.isNest]) (by kernel_rfl) ?_; intro X hX hP hC hXn hXm vals hA; refine ⟨_, by simp, hA, ?_⟩; have hmix : X.P.follows .mixedOrders = true := (by rw [hP]; exact T.mixed); clear hXn hXm)
  repeat' (first | fail | ((first | ((with_reducible (first | apply oA | apply oB)); exact rfl; intro K hK) | (refine hK _ ?_; clear hK K) | ((with_reducible (first | apply oG | apply oH)); iterate 3 exact rfl) | ((with_reducible apply oI); (iterate 2 exact rfl); intro K hK) | (with_reducible (first | apply wI | apply wJ | apply wK))); try simp only [go_sem, simprocAttr]) | (show awp _ (.seq (.region 5 _ _) _) _ _; (refine awp_mvB hX 38 1 31 200 rfl rfl rfl (by first | exact .inl rfl | exact .inr rfl) (by decide) (by decide) ?_; simp only [LA.app, ASt.put, ASt.kill, subT, rmk, putM, rml, kl, AV.sub, AV.subs, AObj.sub, List.set_cons_zero, List.set_cons_succ, go_sem, simprocAttr]); (refine awp_newB hX 38 3 201 (.own 32 1 []) rfl rfl rfl (by simp only [go_sem, simprocAttr]) (by decide) (by simp [go_sem, simprocAttr]) ⟨32, 1, by decide, .inl rfl⟩ ?_; simp only [LA.app, ASt.put, ASt.kill, subT, rmk, putM, rml, kl, AV.sub, AV.subs, AObj.sub, List.set_cons_zero, List.set_cons_succ, go_sem, simprocAttr])) | (with_reducible (first | apply oC | apply oJ | exact oK | apply wA | apply wB | apply wC hX hC | apply wD hX hC | apply wE hX hC hmix | apply wF hX hC hmix | apply wG | apply wH | apply And.intro)) | ((with_reducible refine oD ?_ ?_); first | fail | kernel_rfl) | ((with_reducible (first | apply oE | apply oF)); (iterate 3 exact rfl); all_goals (intro h; first | (exact absurd h (by decide)) | ((try simp only [go_sem, simprocAttr] at h); (try with_reducible intro K hK); simp only [go_sem, simprocAttr]))) | ((first | ((with_reducible apply wL); exact rfl) | ((with_reducible apply wM); exact rfl)); all_goals (try ((with_reducible intro h); first | (exact absurd h (by decide)) | (try simp only [go_sem, simprocAttr] at h)))) | omega | ((first | first | refine acall_simple hX hC hP (hO) rfl rfl rfl (by simp only [go_sem, simprocAttr]) rfl ?_ | (refine acall_genC hX hC hP [(10000, 31)] (cloneEt_spec g.es (by omega)) rfl rfl rfl ?_ ?_ ?_ ?_ ?_ ?_ ?_ ?_ ?_ ?_ ?_ ?_ ?_ ?_; (focus (simp only [go_sem, simprocAttr]; done)); (iterate 12 (focus (simp [go_sem, simprocAttr]; done))); simp only [go_sem, simprocAttr, List.map_cons, List.map_nil]) | (refine acall_genC hX hC hP [(10000, 35)] (cloneIt_spec p.ord (by omega)) rfl rfl rfl ?_ ?_ ?_ ?_ ?_ ?_ ?_ ?_ ?_ ?_ ?_ ?_ ?_ ?_; (focus (simp only [go_sem, simprocAttr]; done)); (iterate 12 (focus (simp [go_sem, simprocAttr]; done))); simp only [go_sem, simprocAttr, List.map_cons, List.map_nil])); try simp only [go_sem, simprocAttr]) | (intro h))
  refine awp_loopP (fun x : Nat => x ≤ p.outs.length) (fun x => ⟨[(2, .ptr 2 0), (3, .ptr 3 0), (4, .ptr 4 0), (5, .ptr 5 0), (7, .d (.sl 1 (vT (endR g p g.n.toNat)))), (8, .d (sT (lastR g p))), (10, .ptr 38 0), (40, .d (.sl 1 (vI p.outs))), (41, eN p.outs.length), (42, eN x)], [(2, .box [eN g.n, .d (sE g.es)]), (3, .box [.d (sI p.ord), .d (.sl 1 (vI p.outs))]), (4, .box [eN 0, .nil 53]), (5, .box [.nil 3, .nil 32]), (38, .box [eN g.n, .ref 200, .ref 35, .ref 201]), (200, .tip 53 2 (g.es.map rE)), (35, .tip 3 1 (p.ord.map rI)), (201, .own 32 1 (vI (p.outs.take x)))]⟩) (fun x => p.outs.length - x) 0 (by simp) ?_ ?_
  · refine Le.of ?_ ?_ <;> simp [go_sem, simprocAttr, vI]
  rintro x hx
  rcases Nat.lt_or_ge x p.outs.length with hxl | hxg
  · have hb : decide ((x : Int) < (p.outs.length : Int)) = true := decide_eq_true (by omega)
    have hv := vI_getD hxl
    have hll := hp3 _ (getD_memX (d := []) hxl)
    have htk : vI (p.outs.take (x + 1)) = vI (p.outs.take x) ++ [[sI (p.outs.getD x [])]] := by
      unfold vI
      rw [take_nextX (d := []) hxl]
    have htl : (p.outs.take x).length = x := by rw [List.length_take]; omega
    have hCl := cloneI_spec (p.outs.getD x []) (by omega)
    generalize p.outs.getD x [] = l at hv hll htk hCl
    repeat' (first | fail | ((first | ((with_reducible (first | apply oA | apply oB)); exact rfl; intro K hK) | (refine hK _ ?_; clear hK K) | ((with_reducible (first | apply oG | apply oH)); iterate 3 exact rfl) | ((with_reducible apply oI); (iterate 2 exact rfl); intro K hK) | (with_reducible (first | apply wI | apply wJ | apply wK))); try simp only [go_sem, simprocAttr, hb, hv, htl]) | (show awp _ (.region 9 _ _) _ _; (refine awp_mvB hX 38 3 55 201 rfl rfl rfl (by first | exact .inl rfl | exact .inr rfl) (by decide) (by decide) ?_; simp only [LA.app, ASt.put, ASt.kill, subT, rmk, putM, rml, kl, AV.sub, AV.subs, AObj.sub, List.set_cons_zero, List.set_cons_succ, go_sem, simprocAttr, hb, hv, htl])) | (with_reducible (first | apply oC | apply oJ | exact oK | apply wA | apply wB | apply wC hX hC | apply wD hX hC | apply wE hX hC hmix | apply wF hX hC hmix | apply wG | apply wH | apply And.intro)) | ((with_reducible refine oD ?_ ?_); first | fail | kernel_rfl) | ((with_reducible (first | apply oE | apply oF)); (iterate 3 exact rfl); all_goals (intro h; first | (exact absurd h (by decide)) | ((try simp only [go_sem, simprocAttr, hb, hv, htl] at h); (try with_reducible intro K hK); simp only [go_sem, simprocAttr, hb, hv, htl]))) | ((first | ((with_reducible apply wL); exact rfl) | ((with_reducible apply wM); exact rfl)); all_goals (try ((with_reducible intro h); first | (exact absurd h (by decide)) | (try simp only [go_sem, simprocAttr, hb, hv, htl] at h)))) | omega | ((first | first | refine acall_simple hX hC hP (hCl) rfl rfl rfl (by simp only [go_sem, simprocAttr, hb, hv, htl]) rfl ?_); try simp only [go_sem, simprocAttr, hb, hv, htl]) | (intro h))
    refine ⟨x + 1, by omega, ?_, by omega⟩
    rw [htk]
    refine Le.of ?_ ?_ <;> simp [go_sem, simprocAttr, hb, hv, htl]
  have hb : decide ((x : Int) < (p.outs.length : Int)) = false := decide_eq_false (by omega)
  obtain rfl : x = p.outs.length := by omega
  repeat' (first | fail | ((first | ((with_reducible (first | apply oA | apply oB)); exact rfl; intro K hK) | (refine hK _ ?_; clear hK K) | ((with_reducible (first | apply oG | apply oH)); iterate 3 exact rfl) | ((with_reducible apply oI); (iterate 2 exact rfl); intro K hK) | (with_reducible (first | apply wI | apply wJ | apply wK))); try simp only [go_sem, simprocAttr, hb, List.take_length]) | fail | (with_reducible (first | apply oC | apply oJ | exact oK | apply wA | apply wB | apply wC hX hC | apply wD hX hC | apply wE hX hC hmix | apply wF hX hC hmix | apply wG | apply wH | apply And.intro)) | ((with_reducible refine oD ?_ ?_); first | fail | kernel_rfl) | ((with_reducible (first | apply oE | apply oF)); (iterate 3 exact rfl); all_goals (intro h; first | (exact absurd h (by decide)) | ((try simp only [go_sem, simprocAttr, hb, List.take_length] at h); (try with_reducible intro K hK); simp only [go_sem, simprocAttr, hb, List.take_length]))) | ((first | ((with_reducible apply wL); exact rfl) | ((with_reducible apply wM); exact rfl)); all_goals (try ((with_reducible intro h); first | (exact absurd h (by decide)) | (try simp only [go_sem, simprocAttr, hb, List.take_length] at h)))) | omega | ((first | first | refine acall_simple hX hC hP (hCl) rfl rfl rfl (by simp only [go_sem, simprocAttr, hb, List.take_length]) rfl ?_); try simp only [go_sem, simprocAttr, hb, List.take_length]) | (intro h))
  clear hb hx
  refine awp_loopP (fun k : Nat => k ≤ g.n.toNat) (fun k => ⟨[(2, .ptr 2 0), (4, .ptr 4 0), (5, .ptr 5 0), (7, .d (.sl 1 (vT (endR g p g.n.toNat)))), (8, .d (sT (lastR g p))), (10, .ptr 38 0), (61, .d (sI p.ord)), (62, eN p.ord.length), (63, eN k)], [(2, .box [eN g.n, .d (sE g.es)]), (4, .box [eN 0, .nil 53]), (5, .box [.nil 3, .nil 32]), (38, .box [eN g.n, .ref 200, .ref 35, .ref 201]), (200, .tip 53 2 ((g.es ++ newK g p k).map rE)), (35, .tip 3 1 (p.ord.map rI)), (201, .own 32 1 (vI (layO g.es.length (newK g p k) p.outs)))]⟩) (fun k => g.n.toNat - k) 0 (by simp) ?_ ?_
  · refine Le.of ?_ ?_ <;> simp [go_sem, simprocAttr, newK, layO]
  rintro k hk
  obtain ⟨hnl, hnr⟩ := newK_ok hrun hk
  have hOl : (layO g.es.length (newK g p k) p.outs).length = p.outs.length := layO_len
  rcases Nat.lt_or_ge k g.n.toNat with hkl | hkg
  · have hb : decide ((k : Int) < (p.ord.length : Int)) = true := decide_eq_true (by omega)
    have hxm := oAt_mem hpo hkl
    have hea := ends_at hpo (k := g.n.toNat) (Nat.le_refl _) hkl
    have hxo : p.ord.getD k 0 = oAt p k := rfl
    have hnx := newK_next (g := g) (p := p) (k := k)
    obtain ⟨hnl2, hnr2⟩ := newK_ok hrun (k := k + 1) (by omega)
    have hgl : (goneK g p k).length ≤ (fK g p k).row.length := by unfold goneK succF; simp; omega
    obtain ⟨_, _, hrl⟩ := run_inv hm hpo (k := k) (by omega) fun j hj => hrun.2.2 j (by omega)
    have hmul : k * (g.es.length + 1) ≤ 64 * 129 := Nat.mul_le_mul (by omega) (by omega)
    have hLO : layO g.es.length (newK g p (k + 1)) p.outs = layO (g.es ++ newK g p k).length (layE (oAt p k) (goneK g p k)) (layO g.es.length (newK g p k) p.outs) := by
      rw [hnx, layO_app, List.length_append]
    have hLs := lay_spec g.n (g.es ++ newK g p k) p.ord (layO g.es.length (newK g p k) p.outs) (oAt p k) (goneK g p k) (by rw [List.length_append]; omega) (fun v hv => by
      have := hnr2 (v, oAt p k) (by rw [hnx]; exact List.mem_append_right _ (List.mem_map.2 ⟨v, hv, rfl⟩))
      simp only at this
      omega)
    rw [← hLO] at hLs
    have hes : g.es ++ newK g p k ++ layE (oAt p k) (goneK g p k) = g.es ++ newK g p (k + 1) := by rw [hnx, List.append_assoc]
    rw [hes] at hLs
    obtain ⟨x, hx⟩ : ∃ x : Nat, oAt p k = x := ⟨(oAt p k).toNat, by omega⟩
    rw [hx] at hxo hea hLs hxm
    rw [Int.toNat_natCast] at hea
    have hel := endR_len (g := g) (p := p) (k := g.n.toNat)
    have hxe : x < (endR g p g.n.toNat).length := by omega
    have hve := vT_getD hxe
    rw [hea] at hve
    have hvl : (vT (endR g p g.n.toNat)).length = (endR g p g.n.toNat).length := vT_length
    repeat' (first | fail | ((first | ((with_reducible (first | apply oA | apply oB)); exact rfl; intro K hK) | (refine hK _ ?_; clear hK K) | ((with_reducible (first | apply oG | apply oH)); iterate 3 exact rfl) | ((with_reducible apply oI); (iterate 2 exact rfl); intro K hK) | (with_reducible (first | apply wI | apply wJ | apply wK))); try simp only [go_sem, simprocAttr, hb, hxo, hve, hvl, buO, buN]) | (show awp _ (.region 14 _ _) _ _; (refine awp_mvB hX 38 1 202 200 rfl rfl rfl (by first | exact .inl rfl | exact .inr rfl) (by decide) (by decide) ?_; simp only [LA.app, ASt.put, ASt.kill, subT, rmk, putM, rml, kl, AV.sub, AV.subs, AObj.sub, List.set_cons_zero, List.set_cons_succ, go_sem, simprocAttr, hb, hxo, hve, hvl, buO, buN])) | (with_reducible (first | apply oC | apply oJ | exact oK | apply wA | apply wB | apply wC hX hC | apply wD hX hC | apply wE hX hC hmix | apply wF hX hC hmix | apply wG | apply wH | apply And.intro)) | ((with_reducible refine oD ?_ ?_); first | fail | kernel_rfl) | ((with_reducible (first | apply oE | apply oF)); (iterate 3 exact rfl); all_goals (intro h; first | (exact absurd h (by decide)) | ((try simp only [go_sem, simprocAttr, hb, hxo, hve, hvl, buO, buN] at h); (try with_reducible intro K hK); simp only [go_sem, simprocAttr, hb, hxo, hve, hvl, buO, buN]))) | ((first | ((with_reducible apply wL); exact rfl) | ((with_reducible apply wM); exact rfl)); all_goals (try ((with_reducible intro h); first | (exact absurd h (by decide)) | (try simp only [go_sem, simprocAttr, hb, hxo, hve, hvl, buO, buN] at h)))) | omega | ((first | first | (refine acall_gen hX hC hP [(10000, 38), (10001, 200), (10002, 35), (10003, 201), (10004, 202)] (hLs) rfl rfl rfl ?_ ?_ ?_ ?_ ?_ ?_ ?_ ?_ ?_ ?_ ?_ ?_ ?_ ?_; (focus (simp only [go_sem, simprocAttr, hb, hxo, hve, hvl, buO, buN]; done)); (iterate 12 (focus (simp [go_sem, simprocAttr, hb, hxo, hve, hvl, buO, buN]; done))); simp only [go_sem, simprocAttr, hb, hxo, hve, hvl, buO, buN, List.map_cons, List.map_nil])); try simp only [go_sem, simprocAttr, hb, hxo, hve, hvl, buO, buN]) | (intro h))
    refine ⟨k + 1, by omega, ?_, by omega⟩
    refine Le.of ?_ ?_ <;> simp [go_sem, simprocAttr, hb, hxo, hve, hvl, buO, buN]
  have hb : decide ((k : Int) < (p.ord.length : Int)) = false := decide_eq_false (by omega)
  obtain rfl : k = g.n.toNat := by omega
  by_cases h1 : 1 < (lastR g p).length
  · have hb1 : decide ((1 : Int) < ((lastR g p).length : Int)) = true := decide_eq_true (by omega)
    obtain ⟨_, _, hrl⟩ := run_inv hm hpo (k := g.n.toNat) (Nat.le_refl _) hrun.2.2
    have hmul : g.n.toNat * (g.es.length + 1) ≤ 64 * 129 := Nat.mul_le_mul (by omega) (by omega)
    have hrl : (lastR g p).length ≤ g.n.toNat * (g.es.length + 1) := hrl
    obtain ⟨hN1, hN2⟩ := newA_ok hrun
    have hnl2 : newL g p = layE g.n (lastR g p) := if_pos h1
    have hLs := lay_spec (g.n + 1) (g.es ++ newK g p g.n.toNat) (p.ord ++ [g.n]) (layO g.es.length (newK g p g.n.toNat) p.outs ++ [[]]) g.n (lastR g p) (by rw [List.length_append]; omega) (fun v hv => by
      have := (hN2 (v, g.n) (by unfold newA; rw [hnl2]; exact List.mem_append_right _ (List.mem_map.2 ⟨v, hv, rfl⟩))).1
      simp only at this
      rw [List.length_append, layO_len]; omega)
    have hq : layO (g.es ++ newK g p g.n.toNat).length (layE g.n (lastR g p)) (layO g.es.length (newK g p g.n.toNat) p.outs ++ [[]]) = (augP g p).outs := by
      show _ = layO g.es.length (newA g p) (if 1 < (lastR g p).length then p.outs ++ [[]] else p.outs)
      have hsn := layO_snoc (m := g.es.length) (N := newK g p g.n.toNat) (O := p.outs) (fun e he => by
        have := hnr e he
        omega)
      rw [if_pos h1, newA, hnl2, layO_app, List.length_append, hsn]
    have he : g.es ++ newK g p g.n.toNat ++ layE g.n (lastR g p) = (augG g p).es := by
      show _ = g.es ++ newA g p
      rw [newA, hnl2, List.append_assoc]
    have ho : p.ord ++ [g.n] = (augP g p).ord := (if_pos h1).symm
    have hg : g.n + 1 = (augG g p).n := (if_pos h1).symm
    have hvs : vI (layO g.es.length (newK g p g.n.toNat) p.outs) ++ [[D.sl 1 []]] = vI (layO g.es.length (newK g p g.n.toNat) p.outs ++ [[]]) := by simp [vI, sI]
    have hos : p.ord.map rI ++ [[D.sc (.int .i64 g.n)]] = (p.ord ++ [g.n]).map rI := by simp [rI]
    rw [hq, he] at hLs
    have hal : (augG g p).es.length ≤ 1000 := by
      rw [← he, List.length_append, List.length_append]
      have : (layE g.n (lastR g p)).length ≤ g.n.toNat := by
        have := nodup_lenX (List.nodup_append.1 (by rw [newA, List.map_append] at hN1; exact hN1)).2.1 (m := allN g.n.toNat) fun v hv' => allN_mem.2 (by
          obtain ⟨e, he, rfl⟩ := List.mem_map.1 hv'
          have := (hN2 e (List.mem_append_right _ he)).1
          omega)
        rw [allN_len, List.length_map, hnl2] at this
        exact this
      omega
    have hA2 : AR = if 64 < (augG g p).n ∨ 128 < (augG g p).es.length then (gz, pz, 10) else (augG g p, augP g p, 0) := hAr
    clear hAr
    have hql : (augP g p).outs.length = (augP g p).outs.length := rfl
    have hpp : augP g p = ⟨(augP g p).ord, (augP g p).outs⟩ := rfl
    generalize augG g p = G at he hg hLs hA2 hal
    rw [ho] at hLs hos
    generalize augP g p = Q at hq ho hLs hA2 hos
    by_cases h2 : 64 < G.n
    · have hb2 : decide (64 < G.n) = true := decide_eq_true h2
      rw [if_pos (.inl h2)] at hA2
      subst hA2
      repeat' (first | fail | ((first | ((with_reducible (first | apply oA | apply oB)); exact rfl; intro K hK) | (refine hK _ ?_; clear hK K) | ((with_reducible (first | apply oG | apply oH)); iterate 3 exact rfl) | ((with_reducible apply oI); (iterate 2 exact rfl); intro K hK) | (with_reducible (first | apply wI | apply wJ | apply wK))); try simp only [go_sem, simprocAttr, hb, hb1, hb2, buO, buN, hvs, hos, hg, gz, pz, vI, List.map_nil]) | fail | (with_reducible (first | apply oC | apply oJ | exact oK | apply wA | apply wB | apply wC hX hC | apply wD hX hC | apply wE hX hC hmix | apply wF hX hC hmix | apply wG | apply wH | apply And.intro)) | ((with_reducible refine oD ?_ ?_); first | fail | kernel_rfl) | ((with_reducible (first | apply oE | apply oF)); (iterate 3 exact rfl); all_goals (intro h; first | (exact absurd h (by decide)) | ((try simp only [go_sem, simprocAttr, hb, hb1, hb2, buO, buN, hvs, hos, hg, gz, pz, vI, List.map_nil] at h); (try with_reducible intro K hK); simp only [go_sem, simprocAttr, hb, hb1, hb2, buO, buN, hvs, hos, hg, gz, pz, vI, List.map_nil]))) | ((first | ((with_reducible apply wL); exact rfl) | ((with_reducible apply wM); exact rfl)); all_goals (try ((with_reducible intro h); first | (exact absurd h (by decide)) | (try simp only [go_sem, simprocAttr, hb, hb1, hb2, buO, buN, hvs, hos, hg, gz, pz, vI, List.map_nil] at h)))) | omega | ((first | first | (refine acall_gen hX hC hP [(10000, 38), (10001, 200), (10002, 87), (10003, 98), (10004, 203)] (hLs) rfl rfl rfl ?_ ?_ ?_ ?_ ?_ ?_ ?_ ?_ ?_ ?_ ?_ ?_ ?_ ?_; (focus (simp only [go_sem, simprocAttr, hb, hb1, hb2, buO, buN, hvs, hos, hg, gz, pz, vI, List.map_nil]; done)); (iterate 12 (focus (simp [go_sem, simprocAttr, hb, hb1, hb2, buO, buN, hvs, hos, hg, gz, pz, vI, List.map_nil]; done))); simp only [go_sem, simprocAttr, hb, hb1, hb2, buO, buN, hvs, hos, hg, gz, pz, vI, List.map_nil, List.map_cons, List.map_nil])); try simp only [go_sem, simprocAttr, hb, hb1, hb2, buO, buN, hvs, hos, hg, gz, pz, vI, List.map_nil]) | (intro h))
    · have hb2 : decide (64 < G.n) = false := decide_eq_false h2
      by_cases h3 : 128 < G.es.length
      · have hb3 : decide (128 < (G.es.length : Int)) = true := decide_eq_true (by omega)
        rw [if_pos (.inr h3)] at hA2
        subst hA2
        repeat' (first | fail | ((first | ((with_reducible (first | apply oA | apply oB)); exact rfl; intro K hK) | (refine hK _ ?_; clear hK K) | ((with_reducible (first | apply oG | apply oH)); iterate 3 exact rfl) | ((with_reducible apply oI); (iterate 2 exact rfl); intro K hK) | (with_reducible (first | apply wI | apply wJ | apply wK))); try simp only [go_sem, simprocAttr, hb, hb1, hb2, hb3, buO, buN, hvs, hos, hg, gz, pz]) | fail | (with_reducible (first | apply oC | apply oJ | exact oK | apply wA | apply wB | apply wC hX hC | apply wD hX hC | apply wE hX hC hmix | apply wF hX hC hmix | apply wG | apply wH | apply And.intro)) | ((with_reducible refine oD ?_ ?_); first | fail | kernel_rfl) | ((with_reducible (first | apply oE | apply oF)); (iterate 3 exact rfl); all_goals (intro h; first | (exact absurd h (by decide)) | ((try simp only [go_sem, simprocAttr, hb, hb1, hb2, hb3, buO, buN, hvs, hos, hg, gz, pz] at h); (try with_reducible intro K hK); simp only [go_sem, simprocAttr, hb, hb1, hb2, hb3, buO, buN, hvs, hos, hg, gz, pz]))) | ((first | ((with_reducible apply wL); exact rfl) | ((with_reducible apply wM); exact rfl)); all_goals (try ((with_reducible intro h); first | (exact absurd h (by decide)) | (try simp only [go_sem, simprocAttr, hb, hb1, hb2, hb3, buO, buN, hvs, hos, hg, gz, pz] at h)))) | omega | ((first | first | (refine acall_gen hX hC hP [(10000, 38), (10001, 200), (10002, 87), (10003, 98), (10004, 203)] (hLs) rfl rfl rfl ?_ ?_ ?_ ?_ ?_ ?_ ?_ ?_ ?_ ?_ ?_ ?_ ?_ ?_; (focus (simp only [go_sem, simprocAttr, hb, hb1, hb2, hb3, buO, buN, hvs, hos, hg, gz, pz]; done)); (iterate 12 (focus (simp [go_sem, simprocAttr, hb, hb1, hb2, hb3, buO, buN, hvs, hos, hg, gz, pz]; done))); simp only [go_sem, simprocAttr, hb, hb1, hb2, hb3, buO, buN, hvs, hos, hg, gz, pz, List.map_cons, List.map_nil])); try simp only [go_sem, simprocAttr, hb, hb1, hb2, hb3, buO, buN, hvs, hos, hg, gz, pz]) | (intro h))
        all_goals rfl
      · have hb3 : decide (128 < (G.es.length : Int)) = false := decide_eq_false (by omega)
        rw [if_neg (by rintro (h | h); exact h2 h; exact h3 h)] at hA2
        subst hA2
        repeat' (first | fail | ((first | ((with_reducible (first | apply oA | apply oB)); exact rfl; intro K hK) | (refine hK _ ?_; clear hK K) | ((with_reducible (first | apply oG | apply oH)); iterate 3 exact rfl) | ((with_reducible apply oI); (iterate 2 exact rfl); intro K hK) | (with_reducible (first | apply wI | apply wJ | apply wK))); try simp only [go_sem, simprocAttr, hb, hb1, hb2, hb3, buO, buN, hvs, hos, hg]) | fail | (with_reducible (first | apply oC | apply oJ | exact oK | apply wA | apply wB | apply wC hX hC | apply wD hX hC | apply wE hX hC hmix | apply wF hX hC hmix | apply wG | apply wH | apply And.intro)) | ((with_reducible refine oD ?_ ?_); first | fail | kernel_rfl) | ((with_reducible (first | apply oE | apply oF)); (iterate 3 exact rfl); all_goals (intro h; first | (exact absurd h (by decide)) | ((try simp only [go_sem, simprocAttr, hb, hb1, hb2, hb3, buO, buN, hvs, hos, hg] at h); (try with_reducible intro K hK); simp only [go_sem, simprocAttr, hb, hb1, hb2, hb3, buO, buN, hvs, hos, hg]))) | ((first | ((with_reducible apply wL); exact rfl) | ((with_reducible apply wM); exact rfl)); all_goals (try ((with_reducible intro h); first | (exact absurd h (by decide)) | (try simp only [go_sem, simprocAttr, hb, hb1, hb2, hb3, buO, buN, hvs, hos, hg] at h)))) | omega | ((first | first | (refine acall_gen hX hC hP [(10000, 38), (10001, 200), (10002, 87), (10003, 98), (10004, 203)] (hLs) rfl rfl rfl ?_ ?_ ?_ ?_ ?_ ?_ ?_ ?_ ?_ ?_ ?_ ?_ ?_ ?_; (focus (simp only [go_sem, simprocAttr, hb, hb1, hb2, hb3, buO, buN, hvs, hos, hg]; done)); (iterate 12 (focus (simp [go_sem, simprocAttr, hb, hb1, hb2, hb3, buO, buN, hvs, hos, hg]; done))); simp only [go_sem, simprocAttr, hb, hb1, hb2, hb3, buO, buN, hvs, hos, hg, List.map_cons, List.map_nil])); try simp only [go_sem, simprocAttr, hb, hb1, hb2, hb3, buO, buN, hvs, hos, hg]) | (intro h))
  · have hb1 : decide ((1 : Int) < ((lastR g p).length : Int)) = false := decide_eq_false (by omega)
    have hnl2 : newL g p = [] := if_neg h1
    have he : g.es ++ newK g p g.n.toNat = (augG g p).es := by
      show _ = g.es ++ newA g p
      rw [newA, hnl2, List.append_nil]
    have hq : layO g.es.length (newK g p g.n.toNat) p.outs = (augP g p).outs := by
      show _ = layO g.es.length (newA g p) (if 1 < (lastR g p).length then p.outs ++ [[]] else p.outs)
      rw [if_neg h1, newA, hnl2, List.append_nil]
    have ho : p.ord = (augP g p).ord := (if_neg h1).symm
    have hg : g.n = (augG g p).n := (if_neg h1).symm
    have hml : (g.es ++ newK g p g.n.toNat).map rE = (augG g p).es.map rE := by rw [he]
    have hel2 : (augG g p).es.length = g.es.length + (newK g p g.n.toNat).length := by rw [← he, List.length_append]
    have hov : p.ord.map rI = (augP g p).ord.map rI := by rw [← ho]
    generalize augG g p = G at he hg hAr hml hel2
    generalize augP g p = Q at hq ho hAr hov
    by_cases h2 : 64 < G.n
    · omega
    · have hb2 : decide (64 < G.n) = false := decide_eq_false h2
      by_cases h3 : 128 < G.es.length
      · have hb3 : decide (128 < (G.es.length : Int)) = true := decide_eq_true (by omega)
        rw [if_pos (.inr h3)] at hAr
        subst hAr
        rw [he]
        repeat' (first | fail | ((first | ((with_reducible (first | apply oA | apply oB)); exact rfl; intro K hK) | (refine hK _ ?_; clear hK K) | ((with_reducible (first | apply oG | apply oH)); iterate 3 exact rfl) | ((with_reducible apply oI); (iterate 2 exact rfl); intro K hK) | (with_reducible (first | apply wI | apply wJ | apply wK))); try simp only [go_sem, simprocAttr, hb, hb1, hb2, hb3, hg, gz, pz]) | fail | (with_reducible (first | apply oC | apply oJ | exact oK | apply wA | apply wB | apply wC hX hC | apply wD hX hC | apply wE hX hC hmix | apply wF hX hC hmix | apply wG | apply wH | apply And.intro)) | ((with_reducible refine oD ?_ ?_); first | fail | kernel_rfl) | ((with_reducible (first | apply oE | apply oF)); (iterate 3 exact rfl); all_goals (intro h; first | (exact absurd h (by decide)) | ((try simp only [go_sem, simprocAttr, hb, hb1, hb2, hb3, hg, gz, pz] at h); (try with_reducible intro K hK); simp only [go_sem, simprocAttr, hb, hb1, hb2, hb3, hg, gz, pz]))) | ((first | ((with_reducible apply wL); exact rfl) | ((with_reducible apply wM); exact rfl)); all_goals (try ((with_reducible intro h); first | (exact absurd h (by decide)) | (try simp only [go_sem, simprocAttr, hb, hb1, hb2, hb3, hg, gz, pz] at h)))) | omega | ((first | fail); try simp only [go_sem, simprocAttr, hb, hb1, hb2, hb3, hg, gz, pz]) | (intro h))
        all_goals rfl
      · have hb3 : decide (128 < (G.es.length : Int)) = false := decide_eq_false (by omega)
        rw [if_neg (by rintro (h | h); exact h2 h; exact h3 h)] at hAr
        subst hAr
        rw [he, hq]
        have hov2 := hov.symm
        have hg2 := hg.symm
        rw [hg2] at hb2
        repeat' (first | fail | ((first | ((with_reducible (first | apply oA | apply oB)); exact rfl; intro K hK) | (refine hK _ ?_; clear hK K) | ((with_reducible (first | apply oG | apply oH)); iterate 3 exact rfl) | ((with_reducible apply oI); (iterate 2 exact rfl); intro K hK) | (with_reducible (first | apply wI | apply wJ | apply wK))); try simp only [go_sem, simprocAttr, hb, hb1, hb2, hb3, hg2, hov2]) | fail | (with_reducible (first | apply oC | apply oJ | exact oK | apply wA | apply wB | apply wC hX hC | apply wD hX hC | apply wE hX hC hmix | apply wF hX hC hmix | apply wG | apply wH | apply And.intro)) | ((with_reducible refine oD ?_ ?_); first | fail | kernel_rfl) | ((with_reducible (first | apply oE | apply oF)); (iterate 3 exact rfl); all_goals (intro h; first | (exact absurd h (by decide)) | ((try simp only [go_sem, simprocAttr, hb, hb1, hb2, hb3, hg2, hov2] at h); (try with_reducible intro K hK); simp only [go_sem, simprocAttr, hb, hb1, hb2, hb3, hg2, hov2]))) | ((first | ((with_reducible apply wL); exact rfl) | ((with_reducible apply wM); exact rfl)); all_goals (try ((with_reducible intro h); first | (exact absurd h (by decide)) | (try simp only [go_sem, simprocAttr, hb, hb1, hb2, hb3, hg2, hov2] at h)))) | omega | ((first | fail); try simp only [go_sem, simprocAttr, hb, hb1, hb2, hb3, hg2, hov2]) | (intro h))
end Go.Ab
end
section
namespace Go.Ab
open Go.Proofs
attribute [local congr] ACall.congr
set_option maxRecDepth 10000
set_option maxHeartbeats 16000000

def docK (p : Pl) (x : Gr) (k : Nat) : List (List Int) := (List.range k).map fun v => if 0 < (p.outs.getD v []).length then p.outs.getD v [] else outZ x (v : Int)
/-- At the end all that stands in the row is loose. -/
theorem last_loose {g : Gr} {p : Pl} (hr : RunsP g p) : ∀ t ∈ lastR g p, t.1 < 0 := by
  obtain ⟨hc, h, hok⟩ := hr
  have hm := good_may hc
  have hn := mayB_n hm
  obtain ⟨hi, hpl, _⟩ := run_inv hm h (k := g.n.toNat) (Nat.le_refl _) hok
  intro t ht
  refine Decidable.byContradiction fun h0 => ?_
  rcases hi.it t ht with ⟨h1, _⟩ | ⟨h1, h2, _, h4⟩
  · omega
  · have hrg := (mayB_e hm (k := t.1.toNat) (by omega)).2
    rw [← h4] at hrg
    refine hi.head t ht h1 (full_none hi.toFrInv ?_ hrg)
    rw [hpl, List.length_take, plan_len h]; omega
end Go.Ab
end
section
namespace Go.Ab
open Go.Proofs
attribute [local congr] ACall.congr
set_option maxRecDepth 10000
set_option maxHeartbeats 8000000

def bigB (g : Gr) (p : Pl) : Bool := decide (200 < g.es.length) || decide (100 < p.ord.length) || decide (100 < p.outs.length) || p.outs.any fun l => decide (200 < l.length)
theorem big_not {g : Gr} {p : Pl} (h : bigB g p = false) : g.es.length ≤ 200 ∧ p.ord.length ≤ 100 ∧ p.outs.length ≤ 100 ∧ ∀ l ∈ p.outs, l.length ≤ 200 := by
  simp only [bigB, Bool.or_eq_false_iff, decide_eq_false_iff_not, List.any_eq_false, decide_eq_true_eq] at h
  obtain ⟨⟨⟨h1, h2⟩, h3⟩, h4⟩ := h
  exact ⟨by omega, by omega, by omega, fun l hl => by have := h4 l hl; omega⟩
theorem plLen_of {g : Gr} {p : Pl} (h : bigB g p = false) : PlLen p := by
  obtain ⟨_, h1, h2, h3⟩ := big_not h
  exact ⟨by omega, by omega, fun l hl => by have := h3 l hl; omega⟩
structure PlMax (p : Pl) : Prop where
  ord : p.ord.length ≤ 9223372036854775807
  outs : p.outs.length ≤ 9223372036854775807
  each : ∀ l ∈ p.outs, l.length ≤ 9223372036854775807
theorem great10_spec (g : Gr) (p : Pl) (hl : g.es.length ≤ 9223372036854775807) (hp : PlMax p) : Spec Try.prog 16 (Args [eG g, ePl p]) [] (eB (bigB g p)) [] := by
  have ho := hp.ord
  have hu := hp.outs
  (refine Spec.intro (C := T.cfg [] []) (rs := [.t 4]) (T.cfg_ok _ _) Try.func16 rfl rfl Try.ntmps16 Try.results16 (by simp [AObj.isNest]) (by simp [AObj.isNest]) (by kernel_rfl) ?_; intro X hX hP hC hXn hXm vals hA; refine ⟨_, by simp, hA, ?_⟩; have hmix : X.P.follows .mixedOrders = true := (by rw [hP]; exact T.mixed); clear hXn hXm)
  generalize hB : bigB g p = B
  by_cases h1 : 200 < g.es.length
  · have hb1 : decide (200 < (g.es.length : Int)) = true := decide_eq_true (by omega)
    have : B = true := by rw [← hB, bigB, decide_eq_true h1]; rfl
    subst this
    repeat' (first | fail | ((first | ((with_reducible (first | apply oA | apply oB)); exact rfl; intro K hK) | (refine hK _ ?_; clear hK K) | ((with_reducible (first | apply oG | apply oH)); iterate 3 exact rfl) | ((with_reducible apply oI); (iterate 2 exact rfl); intro K hK) | (with_reducible (first | apply wI | apply wJ | apply wK))); try simp only [go_sem, simprocAttr, hb1]) | fail | (with_reducible (first | apply oC | apply oJ | exact oK | apply wA | apply wB | apply wC hX hC | apply wD hX hC | apply wE hX hC hmix | apply wF hX hC hmix | apply wG | apply wH | apply And.intro)) | ((with_reducible refine oD ?_ ?_); first | fail | kernel_rfl) | ((with_reducible (first | apply oE | apply oF)); (iterate 3 exact rfl); all_goals (intro h; first | (exact absurd h (by decide)) | ((try simp only [go_sem, simprocAttr, hb1] at h); (try with_reducible intro K hK); simp only [go_sem, simprocAttr, hb1]))) | ((first | ((with_reducible apply wL); exact rfl) | ((with_reducible apply wM); exact rfl)); all_goals (try ((with_reducible intro h); first | (exact absurd h (by decide)) | (try simp only [go_sem, simprocAttr, hb1] at h)))) | omega | ((first | fail); try simp only [go_sem, simprocAttr, hb1]) | (intro h))
  have hb1 : decide (200 < (g.es.length : Int)) = false := decide_eq_false (by omega)
  by_cases h2 : 100 < p.ord.length
  · have hb2 : decide (100 < (p.ord.length : Int)) = true := decide_eq_true (by omega)
    have : B = true := by rw [← hB, bigB, decide_eq_true h2]; simp
    subst this
    repeat' (first | fail | ((first | ((with_reducible (first | apply oA | apply oB)); exact rfl; intro K hK) | (refine hK _ ?_; clear hK K) | ((with_reducible (first | apply oG | apply oH)); iterate 3 exact rfl) | ((with_reducible apply oI); (iterate 2 exact rfl); intro K hK) | (with_reducible (first | apply wI | apply wJ | apply wK))); try simp only [go_sem, simprocAttr, hb1, hb2]) | fail | (with_reducible (first | apply oC | apply oJ | exact oK | apply wA | apply wB | apply wC hX hC | apply wD hX hC | apply wE hX hC hmix | apply wF hX hC hmix | apply wG | apply wH | apply And.intro)) | ((with_reducible refine oD ?_ ?_); first | fail | kernel_rfl) | ((with_reducible (first | apply oE | apply oF)); (iterate 3 exact rfl); all_goals (intro h; first | (exact absurd h (by decide)) | ((try simp only [go_sem, simprocAttr, hb1, hb2] at h); (try with_reducible intro K hK); simp only [go_sem, simprocAttr, hb1, hb2]))) | ((first | ((with_reducible apply wL); exact rfl) | ((with_reducible apply wM); exact rfl)); all_goals (try ((with_reducible intro h); first | (exact absurd h (by decide)) | (try simp only [go_sem, simprocAttr, hb1, hb2] at h)))) | omega | ((first | fail); try simp only [go_sem, simprocAttr, hb1, hb2]) | (intro h))
  have hb2 : decide (100 < (p.ord.length : Int)) = false := decide_eq_false (by omega)
  by_cases h3 : 100 < p.outs.length
  · have hb3 : decide (100 < (p.outs.length : Int)) = true := decide_eq_true (by omega)
    have : B = true := by rw [← hB, bigB, decide_eq_true h3]; simp
    subst this
    repeat' (first | fail | ((first | ((with_reducible (first | apply oA | apply oB)); exact rfl; intro K hK) | (refine hK _ ?_; clear hK K) | ((with_reducible (first | apply oG | apply oH)); iterate 3 exact rfl) | ((with_reducible apply oI); (iterate 2 exact rfl); intro K hK) | (with_reducible (first | apply wI | apply wJ | apply wK))); try simp only [go_sem, simprocAttr, hb1, hb2, hb3]) | fail | (with_reducible (first | apply oC | apply oJ | exact oK | apply wA | apply wB | apply wC hX hC | apply wD hX hC | apply wE hX hC hmix | apply wF hX hC hmix | apply wG | apply wH | apply And.intro)) | ((with_reducible refine oD ?_ ?_); first | fail | kernel_rfl) | ((with_reducible (first | apply oE | apply oF)); (iterate 3 exact rfl); all_goals (intro h; first | (exact absurd h (by decide)) | ((try simp only [go_sem, simprocAttr, hb1, hb2, hb3] at h); (try with_reducible intro K hK); simp only [go_sem, simprocAttr, hb1, hb2, hb3]))) | ((first | ((with_reducible apply wL); exact rfl) | ((with_reducible apply wM); exact rfl)); all_goals (try ((with_reducible intro h); first | (exact absurd h (by decide)) | (try simp only [go_sem, simprocAttr, hb1, hb2, hb3] at h)))) | omega | ((first | fail); try simp only [go_sem, simprocAttr, hb1, hb2, hb3]) | (intro h))
  have hb3 : decide (100 < (p.outs.length : Int)) = false := decide_eq_false (by omega)
  have hB2 : B = p.outs.any fun l => decide (200 < l.length) := by rw [← hB, bigB, decide_eq_false h1, decide_eq_false h2, decide_eq_false h3]; simp
  clear hB
  repeat' (first | fail | ((first | ((with_reducible (first | apply oA | apply oB)); exact rfl; intro K hK) | (refine hK _ ?_; clear hK K) | ((with_reducible (first | apply oG | apply oH)); iterate 3 exact rfl) | ((with_reducible apply oI); (iterate 2 exact rfl); intro K hK) | (with_reducible (first | apply wI | apply wJ | apply wK))); try simp only [go_sem, simprocAttr, hb1, hb2, hb3]) | fail | (with_reducible (first | apply oC | apply oJ | exact oK | apply wA | apply wB | apply wC hX hC | apply wD hX hC | apply wE hX hC hmix | apply wF hX hC hmix | apply wG | apply wH | apply And.intro)) | ((with_reducible refine oD ?_ ?_); first | fail | kernel_rfl) | ((with_reducible (first | apply oE | apply oF)); (iterate 3 exact rfl); all_goals (intro h; first | (exact absurd h (by decide)) | ((try simp only [go_sem, simprocAttr, hb1, hb2, hb3] at h); (try with_reducible intro K hK); simp only [go_sem, simprocAttr, hb1, hb2, hb3]))) | ((first | ((with_reducible apply wL); exact rfl) | ((with_reducible apply wM); exact rfl)); all_goals (try ((with_reducible intro h); first | (exact absurd h (by decide)) | (try simp only [go_sem, simprocAttr, hb1, hb2, hb3] at h)))) | omega | ((first | fail); try simp only [go_sem, simprocAttr, hb1, hb2, hb3]) | (intro h))
  refine awp_loopP (fun k : Nat => k ≤ p.outs.length ∧ ∀ j, j < k → (p.outs.getD j []).length ≤ 200) (fun k => ⟨[(24, .d (.sl 1 (vI p.outs))), (25, eN p.outs.length), (26, eN k)], []⟩) (fun k => p.outs.length - k) 0 (by simp) ?_ ?_
  · (refine Le.of ?_ ?_ <;> simp [go_sem, simprocAttr])
  rintro k ⟨hk, hg⟩
  rcases Nat.lt_or_ge k p.outs.length with hkl | hkg
  · have hb : decide ((k : Int) < (p.outs.length : Int)) = true := decide_eq_true (by omega)
    have hv := vI_getD hkl
    have hm := getD_memX (d := []) hkl
    have hll := hp.each _ hm
    by_cases h4 : 200 < (p.outs.getD k []).length
    · have hb4 : decide (200 < ((p.outs.getD k []).length : Int)) = true := decide_eq_true (by omega)
      have : B = true := by rw [hB2, List.any_eq_true]; exact ⟨_, hm, decide_eq_true h4⟩
      subst this
      repeat' (first | fail | ((first | ((with_reducible (first | apply oA | apply oB)); exact rfl; intro K hK) | (refine hK _ ?_; clear hK K) | ((with_reducible (first | apply oG | apply oH)); iterate 3 exact rfl) | ((with_reducible apply oI); (iterate 2 exact rfl); intro K hK) | (with_reducible (first | apply wI | apply wJ | apply wK))); try simp only [go_sem, simprocAttr, hb, hv, hb4]) | fail | (with_reducible (first | apply oC | apply oJ | exact oK | apply wA | apply wB | apply wC hX hC | apply wD hX hC | apply wE hX hC hmix | apply wF hX hC hmix | apply wG | apply wH | apply And.intro)) | ((with_reducible refine oD ?_ ?_); first | fail | kernel_rfl) | ((with_reducible (first | apply oE | apply oF)); (iterate 3 exact rfl); all_goals (intro h; first | (exact absurd h (by decide)) | ((try simp only [go_sem, simprocAttr, hb, hv, hb4] at h); (try with_reducible intro K hK); simp only [go_sem, simprocAttr, hb, hv, hb4]))) | ((first | ((with_reducible apply wL); exact rfl) | ((with_reducible apply wM); exact rfl)); all_goals (try ((with_reducible intro h); first | (exact absurd h (by decide)) | (try simp only [go_sem, simprocAttr, hb, hv, hb4] at h)))) | omega | ((first | fail); try simp only [go_sem, simprocAttr, hb, hv, hb4]) | (intro h))
    · have hb4 : decide (200 < ((p.outs.getD k []).length : Int)) = false := decide_eq_false (by omega)
      repeat' (first | fail | ((first | ((with_reducible (first | apply oA | apply oB)); exact rfl; intro K hK) | (refine hK _ ?_; clear hK K) | ((with_reducible (first | apply oG | apply oH)); iterate 3 exact rfl) | ((with_reducible apply oI); (iterate 2 exact rfl); intro K hK) | (with_reducible (first | apply wI | apply wJ | apply wK))); try simp only [go_sem, simprocAttr, hb, hv, hb4]) | fail | (with_reducible (first | apply oC | apply oJ | exact oK | apply wA | apply wB | apply wC hX hC | apply wD hX hC | apply wE hX hC hmix | apply wF hX hC hmix | apply wG | apply wH | apply And.intro)) | ((with_reducible refine oD ?_ ?_); first | fail | kernel_rfl) | ((with_reducible (first | apply oE | apply oF)); (iterate 3 exact rfl); all_goals (intro h; first | (exact absurd h (by decide)) | ((try simp only [go_sem, simprocAttr, hb, hv, hb4] at h); (try with_reducible intro K hK); simp only [go_sem, simprocAttr, hb, hv, hb4]))) | ((first | ((with_reducible apply wL); exact rfl) | ((with_reducible apply wM); exact rfl)); all_goals (try ((with_reducible intro h); first | (exact absurd h (by decide)) | (try simp only [go_sem, simprocAttr, hb, hv, hb4] at h)))) | omega | ((first | fail); try simp only [go_sem, simprocAttr, hb, hv, hb4]) | (intro h))
      refine ⟨k + 1, ⟨by omega, fun j hj => ?_⟩, ?_, by omega⟩
      · by_cases e : j = k
        · subst e; omega
        · exact hg j (by omega)
      · (refine Le.of ?_ ?_ <;> simp [go_sem, simprocAttr, hb, hv, hb4])
  · have hb : decide ((k : Int) < (p.outs.length : Int)) = false := decide_eq_false (by omega)
    have : B = false := by
      rw [hB2, List.any_eq_false]
      intro l hl
      obtain ⟨j, hj, rfl⟩ := List.mem_iff_getElem.1 hl
      have := hg j (by omega)
      rw [List.getD_eq_getElem?_getD, List.getElem?_eq_getElem hj, Option.getD_some] at this
      simp; omega
    subst this
    repeat' (first | fail | ((first | ((with_reducible (first | apply oA | apply oB)); exact rfl; intro K hK) | (refine hK _ ?_; clear hK K) | ((with_reducible (first | apply oG | apply oH)); iterate 3 exact rfl) | ((with_reducible apply oI); (iterate 2 exact rfl); intro K hK) | (with_reducible (first | apply wI | apply wJ | apply wK))); try simp only [go_sem, simprocAttr, hb]) | fail | (with_reducible (first | apply oC | apply oJ | exact oK | apply wA | apply wB | apply wC hX hC | apply wD hX hC | apply wE hX hC hmix | apply wF hX hC hmix | apply wG | apply wH | apply And.intro)) | ((with_reducible refine oD ?_ ?_); first | fail | kernel_rfl) | ((with_reducible (first | apply oE | apply oF)); (iterate 3 exact rfl); all_goals (intro h; first | (exact absurd h (by decide)) | ((try simp only [go_sem, simprocAttr, hb] at h); (try with_reducible intro K hK); simp only [go_sem, simprocAttr, hb]))) | ((first | ((with_reducible apply wL); exact rfl) | ((with_reducible apply wM); exact rfl)); all_goals (try ((with_reducible intro h); first | (exact absurd h (by decide)) | (try simp only [go_sem, simprocAttr, hb] at h)))) | omega | ((first | fail); try simp only [go_sem, simprocAttr, hb]) | (intro h))
def isB (g : Gr) : Bool := decide ((chkG g).1 = 0) && decide ((bareG (·.1) g).length = 1)
theorem augIs_spec (g : Gr) (hl : g.es.length ≤ 1000) : Spec Try.prog 21 (Args [eG g]) [] (eB (isB g)) [] := by
  by_cases hc : (chkG g).1 = 0
  · have hm := good_may hc
    have hb1 : decide ((chkG g).1 = 0) = true := decide_eq_true hc
    have hI : isB g = decide (((bareG (·.1) g).length : Int) = 1) := by
      unfold isB; rw [hb1, Bool.true_and, decide_eq_decide]; omega
    rw [hI]
    generalize hbl : bareG (·.1) g = bl
    have hS := sinks_spec g hm
    rw [hbl] at hS
    (refine Spec.intro (C := T.cfg [] []) (rs := [.t 2]) (T.cfg_ok _ _) Try.func21 rfl rfl Try.ntmps21 Try.results21 (by simp [AObj.isNest]) (by simp [AObj.isNest]) (by kernel_rfl) ?_; intro X hX hP hC hXn hXm vals hA; refine ⟨_, by simp, hA, ?_⟩; have hmix : X.P.follows .mixedOrders = true := (by rw [hP]; exact T.mixed); clear hXn hXm)
    repeat' (first | fail | ((first | ((with_reducible (first | apply oA | apply oB)); exact rfl; intro K hK) | (refine hK _ ?_; clear hK K) | ((with_reducible (first | apply oG | apply oH)); iterate 3 exact rfl) | ((with_reducible apply oI); (iterate 2 exact rfl); intro K hK) | (with_reducible (first | apply wI | apply wJ | apply wK))); try simp only [go_sem, simprocAttr, hb1]) | fail | (with_reducible (first | apply oC | apply oJ | exact oK | apply wA | apply wB | apply wC hX hC | apply wD hX hC | apply wE hX hC hmix | apply wF hX hC hmix | apply wG | apply wH | apply And.intro)) | ((with_reducible refine oD ?_ ?_); first | fail | kernel_rfl) | ((with_reducible (first | apply oE | apply oF)); (iterate 3 exact rfl); all_goals (intro h; first | (exact absurd h (by decide)) | ((try simp only [go_sem, simprocAttr, hb1] at h); (try with_reducible intro K hK); simp only [go_sem, simprocAttr, hb1]))) | ((first | ((with_reducible apply wL); exact rfl) | ((with_reducible apply wM); exact rfl)); all_goals (try ((with_reducible intro h); first | (exact absurd h (by decide)) | (try simp only [go_sem, simprocAttr, hb1] at h)))) | omega | ((first | first | refine acall_simple hX hC hP (check_spec g hl) rfl rfl rfl (by simp only [go_sem, simprocAttr, hb1]) rfl ?_ | refine acall_simple hX hC hP (of_spec g hm) rfl rfl rfl (by simp only [go_sem, simprocAttr, hb1]) rfl ?_ | refine acall_simple hX hC hP (hS) rfl rfl rfl (by simp only [go_sem, simprocAttr, hb1]) rfl ?_); try simp only [go_sem, simprocAttr, hb1]) | (intro h))
  · have hb1 : decide ((chkG g).1 = 0) = false := decide_eq_false hc
    have hI : isB g = false := by unfold isB; rw [hb1]; rfl
    rw [hI]
    (refine Spec.intro (C := T.cfg [] []) (rs := [.t 2]) (T.cfg_ok _ _) Try.func21 rfl rfl Try.ntmps21 Try.results21 (by simp [AObj.isNest]) (by simp [AObj.isNest]) (by kernel_rfl) ?_; intro X hX hP hC hXn hXm vals hA; refine ⟨_, by simp, hA, ?_⟩; have hmix : X.P.follows .mixedOrders = true := (by rw [hP]; exact T.mixed); clear hXn hXm)
    repeat' (first | fail | ((first | ((with_reducible (first | apply oA | apply oB)); exact rfl; intro K hK) | (refine hK _ ?_; clear hK K) | ((with_reducible (first | apply oG | apply oH)); iterate 3 exact rfl) | ((with_reducible apply oI); (iterate 2 exact rfl); intro K hK) | (with_reducible (first | apply wI | apply wJ | apply wK))); try simp only [go_sem, simprocAttr, hb1]) | fail | (with_reducible (first | apply oC | apply oJ | exact oK | apply wA | apply wB | apply wC hX hC | apply wD hX hC | apply wE hX hC hmix | apply wF hX hC hmix | apply wG | apply wH | apply And.intro)) | ((with_reducible refine oD ?_ ?_); first | fail | kernel_rfl) | ((with_reducible (first | apply oE | apply oF)); (iterate 3 exact rfl); all_goals (intro h; first | (exact absurd h (by decide)) | ((try simp only [go_sem, simprocAttr, hb1] at h); (try with_reducible intro K hK); simp only [go_sem, simprocAttr, hb1]))) | ((first | ((with_reducible apply wL); exact rfl) | ((with_reducible apply wM); exact rfl)); all_goals (try ((with_reducible intro h); first | (exact absurd h (by decide)) | (try simp only [go_sem, simprocAttr, hb1] at h)))) | omega | ((first | first | refine acall_simple hX hC hP (check_spec g hl) rfl rfl rfl (by simp only [go_sem, simprocAttr, hb1]) rfl ?_); try simp only [go_sem, simprocAttr, hb1]) | (intro h))
end Go.Ab
end
section
namespace Go.Ab
open Go.Proofs
attribute [local congr] ACall.congr
set_option maxRecDepth 10000
set_option maxHeartbeats 8000000

def g16 : Gr := ⟨3, [(0, 1), (0, 2)]⟩
def p16 : Pl := ⟨[0, 1, 2], [[0, 1], [], []]⟩
def x16 : Gr := ⟨4, [(0, 1), (0, 2), (1, 3), (2, 3)]⟩
def q16 : Pl := ⟨[0, 1, 2, 3], [[0, 1], [2], [3], []]⟩
theorem ok16 : (true = true) ↔ (chkG g16).1 = 0 ∧ PlanOk g16 p16 := ⟨fun _ => ⟨by decide, ⟨rfl, by decide, by decide⟩⟩, fun _ => rfl⟩
theorem aug16 : augR true g16 p16 = (x16, q16, 0) := rfl
theorem is16 : isB x16 = true := by decide
theorem is16' : isB g16 = false := by decide
theorem speaks16_spec : Spec Try.prog 15 (Args []) [] (eB true) [] := by
  have hAu := augment_spec g16 (by decide) p16 ⟨by decide, by decide, by decide⟩ (by decide) (by decide) (by decide) true ok16
  rw [aug16] at hAu
  simp only at hAu
  have h1 := is16
  have h2 := is16'
  have e1 : g16.es.map rE = [[.sc (.int .i64 0), .sc (.int .i64 1)], [.sc (.int .i64 0), .sc (.int .i64 2)]] := rfl
  have e2 : p16.ord.map rI = [[.sc (.int .i64 0)], [.sc (.int .i64 1)], [.sc (.int .i64 2)]] := rfl
  have e3 : vI p16.outs = [[.sl 1 [[.sc (.int .i64 0)], [.sc (.int .i64 1)]]], [.sl 1 []], [.sl 1 []]] := rfl
  have e4 : g16.n = 3 := rfl
  have e5 : x16.n = 4 := rfl
  have e6 : x16.es.map rE = [[.sc (.int .i64 0), .sc (.int .i64 1)], [.sc (.int .i64 0), .sc (.int .i64 2)], [.sc (.int .i64 1), .sc (.int .i64 3)], [.sc (.int .i64 2), .sc (.int .i64 3)]] := rfl
  have e7 : q16.ord.map rI = [[.sc (.int .i64 0)], [.sc (.int .i64 1)], [.sc (.int .i64 2)], [.sc (.int .i64 3)]] := rfl
  have e8 : vI q16.outs = [[.sl 1 [[.sc (.int .i64 0)], [.sc (.int .i64 1)]]], [.sl 1 [[.sc (.int .i64 2)]]], [.sl 1 [[.sc (.int .i64 3)]]], [.sl 1 []]] := rfl
  have e9 : ∀ d, [[D.sc (.int .i64 0), D.sc (.int .i64 1)], [D.sc (.int .i64 0), D.sc (.int .i64 2)], [D.sc (.int .i64 1), D.sc (.int .i64 3)], [D.sc (.int .i64 2), D.sc (.int .i64 3)]].getD 3 d = [D.sc (.int .i64 2), D.sc (.int .i64 3)] := fun d => rfl
  (refine Spec.intro (C := T.cfg [] []) (rs := [.t 0]) (T.cfg_ok _ _) Try.func15 rfl rfl Try.ntmps15 Try.results15 (by simp [AObj.isNest]) (by simp [AObj.isNest]) (by kernel_rfl) ?_; intro X hX hP hC hXn hXm vals hA; refine ⟨_, by simp, hA, ?_⟩; have hmix : X.P.follows .mixedOrders = true := (by rw [hP]; exact T.mixed); clear hXn hXm)
  repeat' (first | fail | ((first | ((with_reducible (first | apply oA | apply oB)); exact rfl; intro K hK) | (refine hK _ ?_; clear hK K) | ((with_reducible (first | apply oG | apply oH)); iterate 3 exact rfl) | ((with_reducible apply oI); (iterate 2 exact rfl); intro K hK) | (with_reducible (first | apply wI | apply wJ | apply wK))); try simp only [go_sem, simprocAttr, h1, h2, e1, e2, e3, e4, e5, e6, e7, e8, e9]) | fail | (with_reducible (first | apply oC | apply oJ | exact oK | apply wA | apply wB | apply wC hX hC | apply wD hX hC | apply wE hX hC hmix | apply wF hX hC hmix | apply wG | apply wH | apply And.intro)) | ((with_reducible refine oD ?_ ?_); first | fail | kernel_rfl) | ((with_reducible (first | apply oE | apply oF)); (iterate 3 exact rfl); all_goals (intro h; first | (exact absurd h (by decide)) | ((try simp only [go_sem, simprocAttr, h1, h2, e1, e2, e3, e4, e5, e6, e7, e8, e9] at h); (try with_reducible intro K hK); simp only [go_sem, simprocAttr, h1, h2, e1, e2, e3, e4, e5, e6, e7, e8, e9]))) | ((first | ((with_reducible apply wL); exact rfl) | ((with_reducible apply wM); exact rfl)); all_goals (try ((with_reducible intro h); first | (exact absurd h (by decide)) | (try simp only [go_sem, simprocAttr, h1, h2, e1, e2, e3, e4, e5, e6, e7, e8, e9] at h)))) | omega | ((first | first | (refine acall_look hX hC hP (hAu) rfl rfl rfl ?_ ?_ rfl ?_; iterate 2 (focus (simp only [go_sem, simprocAttr, h1, h2, e1, e2, e3, e4, e5, e6, e7, e8, e9]; done))) | refine acall_simple hX hC hP (augIs_spec x16 (by decide)) rfl rfl rfl (by simp only [go_sem, simprocAttr, h1, h2, e1, e2, e3, e4, e5, e6, e7, e8, e9]) rfl ?_ | refine acall_simple hX hC hP (augIs_spec g16 (by decide)) rfl rfl rfl (by simp only [go_sem, simprocAttr, h1, h2, e1, e2, e3, e4, e5, e6, e7, e8, e9]) rfl ?_ | (refine acall_look hX hC hP (augIs_spec x16 (by decide)) rfl rfl rfl ?_ ?_ rfl ?_; iterate 2 (focus (simp only [go_sem, simprocAttr, h1, h2, e1, e2, e3, e4, e5, e6, e7, e8, e9]; done))) | (refine acall_look hX hC hP (augIs_spec g16 (by decide)) rfl rfl rfl ?_ ?_ rfl ?_; iterate 2 (focus (simp only [go_sem, simprocAttr, h1, h2, e1, e2, e3, e4, e5, e6, e7, e8, e9]; done)))); try simp only [go_sem, simprocAttr, h1, h2, e1, e2, e3, e4, e5, e6, e7, e8, e9]) | (intro h))
theorem aug_len {b : Bool} {g : Gr} {p : Pl} (hr : b = true ↔ (chkG g).1 = 0 ∧ PlanOk g p) (h2 : p.outs.length ≤ 100) (h3 : ∀ l ∈ p.outs, l.length ≤ 200) : (augR b g p).1.es.length ≤ 128 ∧ (augR b g p).2.1.ord.length ≤ 1000 ∧ (augR b g p).2.1.outs.length ≤ 1000 ∧ ∀ l ∈ (augR b g p).2.1.outs, l.length ≤ 1000 := by
  unfold augR
  split
  · simp [gz, pz]
  rename_i h0
  split
  · simp [gz, pz]
  rename_i h1
  obtain ⟨hrun, _⟩ := runRes_ok hr (by simpa using h0)
  have hes : (augG g p).es.length ≤ 128 := by omega
  have hnn : (augG g p).n ≤ 64 := by omega
  refine ⟨hes, ?_, ?_, ?_⟩
  · have hle := plan_len hrun.2.1
    have hn := mayB_n (good_may hrun.1)
    show (if _ then _ else _ : List Int).length ≤ 1000
    split
    · rw [List.length_append]; simp; omega
    · omega
  · rw [aug_outs hrun]; simp [docO]; omega
  · intro l hl
    rw [aug_outs hrun] at hl
    simp only [docO, List.mem_map, List.mem_range] at hl
    obtain ⟨v, hv, rfl⟩ := hl
    split
    · rename_i h4
      by_cases hvo : v < p.outs.length
      · have := h3 _ (getD_memX (d := []) hvo); omega
      · rw [List.getD_eq_getElem?_getD, List.getElem?_eq_none (by omega)] at h4; simp at h4
    · exact Nat.le_trans outZ_len (by omega)
end Go.Ab
end
section
namespace Go.Ab
open Go.Proofs
attribute [local congr] ACall.congr
set_option maxRecDepth 10000

/-- Numbers from 0 on, in order. -/
def upB (l : List Int) (k : Nat) : Bool := (List.range k).all fun i => decide (l.getD i 0 = (i : Int))
/-- The first k edges of the order, under the new names. -/
def renK (g : Gr) (names order : List Int) (k : Nat) : List Edge := (List.range k).map fun i => (names.getD (g.es.getD (order.getD i 0).toNat (0, 0)).1.toNat 0, names.getD (g.es.getD (order.getD i 0).toNat (0, 0)).2.toNat 0)
def renG (g : Gr) (names order : List Int) : Gr := ⟨g.n, renK g names order order.length⟩
theorem renK_length {g : Gr} {names order : List Int} {k : Nat} : (renK g names order k).length = k := by simp [renK]
def renOk (g : Gr) (names order : List Int) : Bool := mayB g && eachB names g.n && eachB order g.es.length
def renR (g : Gr) (names order : List Int) : Gr := if renOk g names order then renG g names order else ⟨0, []⟩
end Go.Ab
end
section
namespace Go.Ab

/-- An edge leads from a to b. -/
def Ed (g : Gr) (a b : Int) : Prop := ∃ i, i < g.es.length ∧ tl g i = a ∧ hd g i = b
/-- Each leads to the next one, the last one to the first. -/
def Cyc (g : Gr) (l : List Int) : Prop := ∀ i, i < l.length → Ed g (l.getD i 0) (l.getD ((i + 1) % l.length) 0)
/-- A way back: each vertex but the first has an edge to the one before. -/
def Chain' (g : Gr) (way : List Int) (at_ : Int) : Prop := ∀ p, p < way.length → Ed g ((way ++ [at_]).getD (p + 1) 0) (way.getD p 0)
theorem getD_last {l : List Int} {a : Int} : (l ++ [a]).getD l.length 0 = a := by
  rw [List.getD_eq_getElem?_getD, List.getElem?_append_right (Nat.le_refl _)]; simp
theorem wayF_chain {g : Gr} (hm : mayB g = true) : ∀ (f : Nat) (way : List Int) (a : Nat), a < g.n.toNat → (a : Int) ∉ runG g → Chain' g way a → left g way ≤ f →
    Chain' g (wayF g (wts g (runG g)) f way a).1 (wayF g (wts g (runG g)) f way a).2 ∧ 0 ≤ (wayF g (wts g (runG g)) f way a).2 ∧ (wayF g (wts g (runG g)) f way a).2 ∈ (wayF g (wts g (runG g)) f way a).1
  | f, way, a, ha, hn, hc, hl => by
    by_cases hmem : (a : Int) ∈ way
    · rw [wayF_end (.inr hmem)]
      exact ⟨hc, by simp only; omega, hmem⟩
    · have hla := left_app ha hmem
      cases f with
      | zero => omega
      | succ f =>
        obtain ⟨⟨i, hi, hhd, htl, hnr⟩, _⟩ := backG_spec hm (Q_of hm ha hn)
        have htr := tl_range hm hi
        rw [htl] at htr
        obtain ⟨b, hbe⟩ : ∃ b : Nat, backG g (wts g (runG g)) a = b := ⟨(backG g (wts g (runG g)) a).toNat, by omega⟩
        rw [hbe] at hnr htr htl
        have e1 : wayF g (wts g (runG g)) (f + 1) way a = wayF g (wts g (runG g)) f (way ++ [(a : Int)]) b := by
          simp only [wayF]; rw [if_neg (by intro h; rcases h with h | h; omega; exact hmem h), hbe]
        rw [e1]
        refine wayF_chain hm f (way ++ [(a : Int)]) b (by omega) hnr ?_ (by omega)
        intro p hp
        rw [List.length_append, List.length_singleton] at hp
        by_cases hpl : p < way.length
        · have := hc p hpl
          rw [getD_app (by simp; omega), getD_app hpl]
          exact this
        · have : p = way.length := by omega
          subst this
          have e2 := getD_last (l := way ++ [(a : Int)]) (a := (b : Int))
          rw [List.length_append, List.length_singleton] at e2
          rw [e2, getD_last]
          exact ⟨i, hi, htl, hhd⟩
theorem getD_drop {l : List Int} {k p : Nat} : (l.drop k).getD p 0 = l.getD (k + p) 0 := by
  rw [List.getD_eq_getElem?_getD, List.getElem?_drop, ← List.getD_eq_getElem?_getD]
theorem Cyc.turn {g : Gr} {l : List Int} (h : ∀ p, p < l.length → Ed g (l.getD ((p + 1) % l.length) 0) (l.getD p 0)) (h0 : 0 < l.length) : Cyc g (turnL l.reverse) := by
  have h0r : 0 < l.reverse.length := by simpa using h0
  obtain ⟨k, hk1, hk2, _⟩ := idxI_mem (minL_mem h0r)
  rw [List.length_reverse] at hk2
  have e1 : turnL l.reverse = l.reverse.drop k ++ l.reverse.take k := by simp only [turnL, hk1, Int.toNat_natCast]
  have hlen : (turnL l.reverse).length = l.length := by rw [e1]; simp; omega
  have hg : ∀ i, i < l.length → (turnL l.reverse).getD i 0 = l.getD (l.length - 1 - (i + k) % l.length) 0 := by
    intro i hi
    rw [e1, List.getD_eq_getElem?_getD]
    by_cases hik : i < l.length - k
    · rw [List.getElem?_append_left (by simp; omega), List.getElem?_drop, List.getElem?_reverse (by omega), Nat.mod_eq_of_lt (by omega), ← List.getD_eq_getElem?_getD]
      congr 1; omega
    · rw [List.getElem?_append_right (by simp; omega), List.length_drop, List.length_reverse, List.getElem?_take, if_pos (by omega), List.getElem?_reverse (by omega), ← List.getD_eq_getElem?_getD]
      have : (i + k) % l.length = i + k - l.length := by rw [Nat.mod_eq_sub_mod (by omega), Nat.mod_eq_of_lt (by omega)]
      rw [this]; congr 1; omega
  intro i hi
  rw [hlen] at hi ⊢
  rw [hg i hi, hg _ (Nat.mod_lt _ h0)]
  have hmm : ((i + 1) % l.length + k) % l.length = ((i + k) % l.length + 1) % l.length := by
    rw [Nat.mod_add_mod, Nat.mod_add_mod]; congr 1; omega
  rw [hmm]
  have hj := Nat.mod_lt (i + k) h0
  generalize (i + k) % l.length = j at hj ⊢
  by_cases hlast : j + 1 < l.length
  · rw [Nat.mod_eq_of_lt hlast]
    have := h (l.length - 1 - (j + 1)) (by omega)
    rw [Nat.mod_eq_of_lt (by omega), show l.length - 1 - (j + 1) + 1 = l.length - 1 - j from by omega] at this
    exact this
  · have : j + 1 = l.length := by omega
    rw [this, Nat.mod_self]
    have := h (l.length - 1) (by omega)
    rw [show l.length - 1 + 1 = l.length from by omega, Nat.mod_self] at this
    rw [show l.length - 1 - j = 0 from by omega]
    exact this
/-- Is there a way to number vertices so that edges rise? -/
def Acyc (g : Gr) : Prop := ∃ r : Int → Nat, ∀ i, i < g.es.length → r (tl g i) < r (hd g i)
theorem okG_iff {g : Gr} (hm : mayB g = true) : okG g = true ↔ Acyc g := by
  constructor
  · intro h
    refine ⟨fun v => ((atK g.n.toNat (runG g) (runG g).length).getD v.toNat 0).toNat, fun i hi => ?_⟩
    have h1 := rises_at (ord_right hm h) hi
    have h2 := atK_nonneg (n := g.n.toNat) (l := runG g) (k := (runG g).length) (y := (tl g i).toNat)
    simp only; omega
  · rintro ⟨r, hr⟩
    cases h : okG g with
    | true => rfl
    | false =>
      exfalso
      obtain ⟨y, hy, hn⟩ := okG_not hm h
      have key : ∀ (p : Nat) (y : Nat), y < g.n.toNat → (y : Int) ∉ runG g → r y = p → False := by
        intro p
        induction p using Nat.strongRecOn with
        | _ p ih =>
          intro y hy hn hp
          obtain ⟨t, i, hi, h1, rfl, h2⟩ := Q_of hm hy hn
          have htr := tl_range hm hi
          have hlt := hr i hi
          rw [h1, hp] at hlt
          have e : ((tl g i).toNat : Int) = tl g i := by omega
          exact ih (r (tl g i)) hlt (tl g i).toNat (by omega) (by rw [e]; exact h2) (by rw [e])
      exact key _ y hy hn rfl
theorem cycG_ok {g : Gr} (hm : mayB g = true) (h : okG g = true) : cycG g = [] := by
  have hall := (eachB_iff.1 (okG_all hm h)).2
  have hn := mayB_n hm
  rcases start_eq hm with ⟨h1, h2⟩ | ⟨a, ha, h1, h2, h3⟩
  · have : wayG g = ([], -1) := by
      unfold wayG; rw [h1]; exact wayF_end (.inl (by omega)) _
    simp only [cycG, this]
    rw [if_pos (by omega)]
  · exact absurd (hall a (allN_mem.2 (by omega))) h3
theorem cycG_not {g : Gr} (hm : mayB g = true) (h : okG g = false) : 0 < (cycG g).length ∧ Cyc g (cycG g) := by
  obtain ⟨y, hy, hny⟩ := okG_not hm h
  have hn := mayB_n hm
  rcases start_eq hm with ⟨h1, h2⟩ | ⟨a, ha, h1, h2, h3⟩
  · exfalso
    rcases findI_spec (f := fun n : Int => decide (0 < n)) (l := wts g (runG g)) 0 with ⟨_, h4⟩ | ⟨k, h4, _⟩
    · have h5 := (wt_pos hm hy).2 hny
      have h6 := h4 ((wts g (runG g)).getD y 0) (by rw [List.getD_eq_getElem?_getD, wts_get hy]; exact List.mem_of_getElem? (wts_get hy))
      rw [wts_getD hy] at h6
      exact absurd h5 (of_decide_eq_false h6)
    · omega
  · obtain ⟨h4, h5, h6⟩ := wayF_chain hm g.n.toNat [] a ha h3 (fun p hp => by simp at hp) left_gx
    have hw : wayG g = wayF g (wts g (runG g)) g.n.toNat [] a := by unfold wayG; rw [h1]
    rw [← hw] at h4 h5 h6
    obtain ⟨k, hk1, hk2, hk3⟩ := idxI_mem h6
    have hc : cycG g = turnL ((wayG g).1.drop k).reverse := by
      simp only [cycG]
      rw [if_neg (by omega), hk1, Int.toNat_natCast]
    have hlen : ((wayG g).1.drop k).length = (wayG g).1.length - k := by simp
    have h0 : 0 < ((wayG g).1.drop k).length := by omega
    refine ⟨?_, ?_⟩
    · rw [hc]
      simp only [turnL, List.length_append, List.length_drop, List.length_take, List.length_reverse]
      omega
    · rw [hc]
      refine Cyc.turn (fun p hp => ?_) h0
      rw [hlen] at hp ⊢
      have h7 := h4 (k + p) (by omega)
      rw [getD_drop (p := p)]
      by_cases hlast : p + 1 < (wayG g).1.length - k
      · rw [Nat.mod_eq_of_lt hlast, getD_drop]
        rw [getD_app (by omega)] at h7
        exact h7
      · have : p + 1 = (wayG g).1.length - k := by omega
        rw [this, Nat.mod_self, getD_drop, Nat.add_zero, hk3]
        rw [show k + p + 1 = (wayG g).1.length from by omega, getD_last] at h7
        exact h7
end Go.Ab
end
section
namespace Go.Ab

def nm (names : List Int) (v : Int) : Int := names.getD v.toNat 0
structure RenOk (g : Gr) (names order : List Int) : Prop where
  may : mayB g = true
  nms : eachB names g.n = true
  ord : eachB order (g.es.length : Int) = true
section
variable {g : Gr} {names order : List Int} (h : RenOk g names order)
include h
theorem RenOk.len : (renG g names order).es.length = g.es.length := by
  have := (eachB_iff.1 h.ord).1
  simp only [renG, renK_length]; omega
theorem RenOk.edge {i : Nat} (hi : i < g.es.length) : ∃ j, j < g.es.length ∧ order.getD i 0 = (j : Int) ∧ (renG g names order).es.getD i (0, 0) = (nm names (tl g j), nm names (hd g j)) := by
  have hol := (eachB_iff.1 h.ord).1
  have := eachB_lo h.ord _ (getD_mem (l := order) (m := i) (by omega))
  refine ⟨(order.getD i 0).toNat, by omega, by omega, ?_⟩
  simp only [renG, renK, nm, tl, hd]
  rw [List.getD_eq_getElem?_getD, List.getElem?_map, List.getElem?_range (by omega)]
  rfl
theorem RenOk.back {j : Nat} (hj : j < g.es.length) : ∃ i, i < g.es.length ∧ order.getD i 0 = (j : Int) ∧ (renG g names order).es.getD i (0, 0) = (nm names (tl g j), nm names (hd g j)) := by
  obtain ⟨hol, hall⟩ := eachB_iff.1 h.ord
  obtain ⟨i, hi, hil, he⟩ := idxI_mem (hall (j : Int) (allN_mem.2 (by omega)))
  obtain ⟨j', _, h2, h3⟩ := h.edge (i := i) (by omega)
  have : j' = j := by omega
  subst this
  exact ⟨i, by omega, he, h3⟩
theorem RenOk.inj {a b : Int} (ha : 0 ≤ a ∧ a < g.n) (hb : 0 ≤ b ∧ b < g.n) (e : nm names a = nm names b) : a = b := by
  have hnl := (eachB_iff.1 h.nms).1
  have := eachB_once h.nms (i := a.toNat) (j := b.toNat) (by omega) (by omega) e
  omega
theorem RenOk.range {a : Int} (ha : 0 ≤ a ∧ a < g.n) : 0 ≤ nm names a ∧ nm names a < g.n := by
  have hnl := (eachB_iff.1 h.nms).1
  exact eachB_lo h.nms _ (getD_mem (by omega))
theorem RenOk.inv {a : Int} (ha : 0 ≤ a ∧ a < g.n) : idxI names (nm names a) = a := by
  have hnl := (eachB_iff.1 h.nms).1
  obtain ⟨k, hk, hkl, he⟩ := idxI_mem (getD_mem (l := names) (m := a.toNat) (by omega))
  have h2 := eachB_once h.nms hkl (j := a.toNat) (by omega) he
  have h3 : idxI names (nm names a) = k := hk
  omega
theorem RenOk.of {v : Int} (hv : 0 ≤ v ∧ v < g.n) : ∃ a, (0 ≤ a ∧ a < g.n) ∧ nm names a = v := by
  obtain ⟨hnl, hall⟩ := eachB_iff.1 h.nms
  obtain ⟨k, hk, hkl, he⟩ := idxI_mem (hall v (allN_mem.2 (by omega)))
  exact ⟨k, by omega, he⟩
theorem RenOk.may' : mayB (renG g names order) = true := by
  have hn := mayB_n h.may
  have hlen := h.len
  have hall : (renG g names order).es.any (outE (renG g names order)) = false := by
    rw [List.any_eq_false]
    intro e he
    obtain ⟨i, hi, rfl⟩ := List.getElem_of_mem he
    obtain ⟨j, hj, _, h3⟩ := h.edge (i := i) (by omega)
    rw [List.getD_eq_getElem?_getD, List.getElem?_eq_getElem hi, Option.getD_some] at h3
    rw [h3]
    have h4 := h.range (tl_range h.may hj)
    have h5 := h.range (hd_range h.may hj)
    have e1 : (renG g names order).n = g.n := rfl
    simp only [outE, outB, e1, Bool.or_eq_true, decide_eq_true_eq]
    omega
  have e1 : (renG g names order).n = g.n := rfl
  simp only [mayB, hall, e1, Bool.not_false, Bool.and_true, Bool.and_eq_true, decide_eq_true_eq]
  omega
omit h in
theorem ren_tl {i j : Nat} (e : (renG g names order).es.getD i (0, 0) = (nm names (tl g j), nm names (hd g j))) : tl (renG g names order) i = nm names (tl g j) ∧ hd (renG g names order) i = nm names (hd g j) := ⟨congrArg Prod.fst e, congrArg Prod.snd e⟩
/-- Loops. -/
theorem RenOk.loop : (0 ≤ loopI (renG g names order)) ↔ 0 ≤ loopI g := by
  have key : ∀ g : Gr, (0 ≤ loopI g) ↔ ∃ i, i < g.es.length ∧ tl g i = hd g i := by
    intro g
    have := findI_any (fun e : Edge => decide (e.1 = e.2)) g.es
    rw [show (0 ≤ loopI g) ↔ g.es.any (fun e : Edge => decide (e.1 = e.2)) = true from by rw [← this]; simp [loopI], List.any_eq_true]
    constructor
    · rintro ⟨e, he, h2⟩
      obtain ⟨i, hi, rfl⟩ := List.getElem_of_mem he
      refine ⟨i, hi, ?_⟩
      simpa [tl, hd, List.getD_eq_getElem?_getD, List.getElem?_eq_getElem hi] using h2
    · rintro ⟨i, hi, h2⟩
      refine ⟨_, List.getElem_mem hi, ?_⟩
      simpa [tl, hd, List.getD_eq_getElem?_getD, List.getElem?_eq_getElem hi] using h2
  rw [key, key, h.len]
  constructor
  · rintro ⟨i, hi, e⟩
    obtain ⟨j, hj, _, h3⟩ := h.edge hi
    obtain ⟨e1, e2⟩ := ren_tl h3
    exact ⟨j, hj, h.inj (tl_range h.may hj) (hd_range h.may hj) (by rw [← e1, ← e2, e])⟩
  · rintro ⟨j, hj, e⟩
    obtain ⟨i, hi, _, h3⟩ := h.back hj
    obtain ⟨e1, e2⟩ := ren_tl h3
    exact ⟨i, hi, by rw [e1, e2, e]⟩
omit h in
theorem twice_iff (g : Gr) : (0 ≤ twiceI g) ↔ ∃ i k, i < g.es.length ∧ k < g.es.length ∧ i ≠ k ∧ g.es.getD i (0, 0) = g.es.getD k (0, 0) := by
  have := findI_any (twiceB g) (List.range g.es.length)
  rw [show (0 ≤ twiceI g) ↔ (List.range g.es.length).any (twiceB g) = true from by rw [← this]; simp [twiceI], List.any_eq_true]
  constructor
  · rintro ⟨i, hi, h2⟩
    have hil := List.mem_range.1 hi
    have h3 := of_decide_eq_true h2
    rw [List.mem_iff_getElem?] at h3
    obtain ⟨k, hk⟩ := h3
    rw [List.getElem?_take] at hk
    split at hk
    · rename_i hki
      exact ⟨i, k, hil, by omega, by omega, by rw [List.getD_eq_getElem?_getD (i := k), hk]; rfl⟩
    · cases hk
  · rintro ⟨i, k, hi, hk, hne, e⟩
    have main : ∀ i k, k < i → i < g.es.length → g.es.getD i (0, 0) = g.es.getD k (0, 0) → twiceB g i = true := by
      intro i k hki hi e
      refine decide_eq_true ?_
      rw [e, List.mem_iff_getElem?]
      refine ⟨k, ?_⟩
      rw [List.getElem?_take, if_pos hki, List.getD_eq_getElem?_getD, List.getElem?_eq_getElem (by omega)]; rfl
    rcases Nat.lt_or_gt_of_ne hne with hlt | hgt
    · exact ⟨k, List.mem_range.2 hk, main k i hlt hk e.symm⟩
    · exact ⟨i, List.mem_range.2 hi, main i k hgt hi e⟩
theorem RenOk.twice : (0 ≤ twiceI (renG g names order)) ↔ 0 ≤ twiceI g := by
  have hol := (eachB_iff.1 h.ord).1
  rw [twice_iff, twice_iff, h.len]
  constructor
  · rintro ⟨i, k, hi, hk, hne, e⟩
    obtain ⟨j, hj, ho, h3⟩ := h.edge hi
    obtain ⟨j', hj', ho', h3'⟩ := h.edge hk
    refine ⟨j, j', hj, hj', fun e' => ?_, ?_⟩
    · subst e'
      exact hne (eachB_once h.ord (by omega) (by omega) (by rw [ho, ho']))
    · rw [h3, h3', Prod.mk.injEq] at e
      have e1 := h.inj (tl_range h.may hj) (tl_range h.may hj') e.1
      have e2 := h.inj (hd_range h.may hj) (hd_range h.may hj') e.2
      exact Prod.ext e1 e2
  · rintro ⟨j, j', hj, hj', hne, e⟩
    obtain ⟨i, hi, ho, h3⟩ := h.back hj
    obtain ⟨k, hk, ho', h3'⟩ := h.back hj'
    refine ⟨i, k, hi, hk, fun e' => ?_, ?_⟩
    · subst e'; omega
    · have e1 : tl g j = tl g j' := congrArg Prod.fst e
      have e2 : hd g j = hd g j' := congrArg Prod.snd e
      rw [h3, h3', e1, e2]
theorem RenOk.acyc : okG (renG g names order) = okG g := by
  rw [Bool.eq_iff_iff, okG_iff h.may', okG_iff h.may]
  constructor
  · rintro ⟨r, hr⟩
    refine ⟨fun v => r (nm names v), fun j hj => ?_⟩
    obtain ⟨i, hi, _, h3⟩ := h.back hj
    obtain ⟨e1, e2⟩ := ren_tl h3
    have := hr i (by rw [h.len]; exact hi)
    rwa [e1, e2] at this
  · rintro ⟨r, hr⟩
    refine ⟨fun v => r (idxI names v), fun i hi => ?_⟩
    rw [h.len] at hi
    obtain ⟨j, hj, _, h3⟩ := h.edge hi
    obtain ⟨e1, e2⟩ := ren_tl h3
    have := hr j hj
    rw [e1, e2]; simp only; rw [h.inv (tl_range h.may hj), h.inv (hd_range h.may hj)]
    exact this
omit h in
theorem bare_mem {g : Gr} {y : Int} : y ∈ bareG (·.2) g ↔ (0 ≤ y ∧ y < g.n) ∧ ∀ i, i < g.es.length → hd g i ≠ y := by
  simp only [bareG, bareK, List.mem_map, List.mem_filter, List.mem_range, decide_eq_true_eq]
  have he : ∀ x : Nat, x < g.n.toNat → (((endsL (·.2) g).getD x []).length = 0 ↔ ∀ i, i < g.es.length → hd g i ≠ (x : Int)) := by
    intro x hx
    have e : (endsL (·.2) g).getD x [] = endsZ (·.2) g.es g.es.length (x : Int) := by
      simp [endsL, List.getD_eq_getElem?_getD, List.getElem?_range hx, endsK_eq]
    rw [e, List.length_eq_zero_iff]
    simp only [endsZ, List.map_eq_nil_iff, List.filter_eq_nil_iff, List.mem_range, decide_eq_true_eq]
    rfl
  constructor
  · rintro ⟨x, ⟨hx, h0⟩, rfl⟩
    refine ⟨by simp; omega, (he x hx).1 h0⟩
  · rintro ⟨⟨h1, h2⟩, h3⟩
    have e : ((y.toNat : Nat) : Int) = y := by omega
    exact ⟨y.toNat, ⟨by omega, (he _ (by omega)).2 (by rw [e]; exact h3)⟩, e⟩
omit h in
theorem bare_nodup {f : Edge → Int} {g : Gr} : (bareG f g).Nodup := by
  unfold bareG bareK
  refine List.Pairwise.map _ (fun a b h e => h (Int.ofNat.inj e)) (List.Pairwise.filter _ List.nodup_range)
theorem RenOk.bare : (bareG (·.2) (renG g names order)).length = (bareG (·.2) g).length := by
  have e1 : (renG g names order).n = g.n := rfl
  have h1 : ((bareG (·.2) g).map (nm names)).length ≤ (bareG (·.2) (renG g names order)).length := by
    refine Nat.le_trans (count_le _ (bareG (·.2) (renG g names order)) ?_ ?_) List.countP_le_length
    · rw [List.nodup_iff_pairwise_ne] 
      refine List.Pairwise.map _ (fun a b h => h) ?_
      refine List.Pairwise.imp_of_mem ?_ bare_nodup
      intro a b ha hb hab e
      exact hab (h.inj (bare_mem.1 ha).1 (bare_mem.1 hb).1 e)
    · intro v hv
      obtain ⟨y, hy, rfl⟩ := List.mem_map.1 hv
      obtain ⟨hy1, hy2⟩ := bare_mem.1 hy
      refine bare_mem.2 ⟨h.range hy1, fun i hi e => ?_⟩
      rw [h.len] at hi
      obtain ⟨j, hj, _, h3⟩ := h.edge hi
      rw [(ren_tl h3).2] at e
      exact hy2 j hj (h.inj (hd_range h.may hj) hy1 e)
  have h2 : ((bareG (·.2) (renG g names order)).map (idxI names)).length ≤ (bareG (·.2) g).length := by
    have hsplit : ∀ v ∈ bareG (·.2) (renG g names order), ∃ a, (0 ≤ a ∧ a < g.n) ∧ nm names a = v := fun v hv => h.of (bare_mem.1 hv).1
    refine Nat.le_trans (count_le _ (bareG (·.2) g) ?_ ?_) List.countP_le_length
    · rw [List.nodup_iff_pairwise_ne]
      refine List.Pairwise.map _ (fun a b h => h) ?_
      refine List.Pairwise.imp_of_mem ?_ bare_nodup
      intro a b ha hb hab e
      obtain ⟨a', ha', rfl⟩ := hsplit a ha
      obtain ⟨b', hb', rfl⟩ := hsplit b hb
      rw [h.inv ha', h.inv hb'] at e
      exact hab (by rw [e])
    · intro v hv
      obtain ⟨y, hy, rfl⟩ := List.mem_map.1 hv
      obtain ⟨a, ha, rfl⟩ := hsplit y hy
      rw [h.inv ha]
      refine bare_mem.2 ⟨ha, fun j hj e => ?_⟩
      obtain ⟨i, hi, _, h3⟩ := h.back hj
      refine (bare_mem.1 hy).2 i (by rw [h.len]; exact hi) ?_
      rw [(ren_tl h3).2, e]
  simp only [List.length_map] at h1 h2
  omega
/-- The faults are of one kind. -/
theorem RenOk.kind : (chkG (renG g names order)).1 = (chkG g).1 := by
  have hm := h.may'
  have hc : (0 < (cycG (renG g names order)).length) ↔ 0 < (cycG g).length := by
    have key : ∀ g : Gr, mayB g = true → ((0 < (cycG g).length) ↔ okG g = false) := by
      intro g hm
      cases ho : okG g with
      | true => rw [cycG_ok hm ho]; simp
      | false => simp [(cycG_not hm ho).1]
    rw [key _ hm, key _ h.may, h.acyc]
  have h1 := h.loop
  have h2 := h.twice
  have h3 := h.bare
  simp only [chkG, chkOf, hm, h.may]
  simp only [Bool.true_eq_false, if_false, h1, h2, hc, h3]
  split
  · rfl
  split
  · rfl
  split
  · rfl
  split <;> rfl
end
end Go.Ab
end
section
namespace Go.Ab
open Go.Proofs
set_option maxRecDepth 10000

/-- The number and the head of the new edge from a sink. -/
def nxt : Nat → List Edge → Int → Option (Int × Int)
  | _, [], _ => none
  | m, e :: N, v => if e.1 = v then some ((m : Int), e.2) else nxt (m + 1) N v
theorem nxt_none {v : Int} : ∀ {m : Nat} {N : List Edge}, (∀ e ∈ N, e.1 ≠ v) → nxt m N v = none
  | _, [], _ => rfl
  | m, e :: N, h => by rw [nxt, if_neg (h e (List.mem_cons_self ..)), nxt_none fun e' he => h e' (List.mem_cons_of_mem _ he)]
theorem nxt_some : ∀ {m : Nat} {N : List Edge}, (N.map (·.1)).Nodup → ∀ {j : Nat}, j < N.length → nxt m N (N.getD j (0, 0)).1 = some (((m + j : Nat) : Int), (N.getD j (0, 0)).2)
  | m, e :: N, hd, 0, _ => by rw [List.getD_cons_zero, nxt, if_pos rfl]; rfl
  | m, e :: N, hd, j + 1, hj => by
    rw [List.map_cons, List.nodup_cons] at hd
    have hj' : j < N.length := by simpa using hj
    rw [List.getD_cons_succ, nxt, if_neg (fun h => hd.1 (List.mem_map.2 ⟨_, getD_memX hj', h.symm⟩)), nxt_some hd.2 hj']
    congr 2
    omega
theorem nxt_mem {m : Nat} {N : List Edge} (hd : (N.map (·.1)).Nodup) {v h : Int} (he : (v, h) ∈ N) : ∃ j : Nat, j < N.length ∧ nxt m N v = some (((m + j : Nat) : Int), h) ∧ N.getD j (0, 0) = (v, h) := by
  obtain ⟨j, hj, e⟩ := List.mem_iff_getElem.1 he
  have e2 : N.getD j (0, 0) = (v, h) := by rw [List.getD_eq_getElem?_getD, List.getElem?_eq_getElem hj, Option.getD_some, e]
  have := nxt_some (m := m) hd hj
  rw [e2] at this
  exact ⟨j, hj, this, e2⟩
theorem nxt_cases {m : Nat} {N : List Edge} (hd : (N.map (·.1)).Nodup) (v : Int) : (nxt m N v = none ∧ ∀ e ∈ N, e.1 ≠ v) ∨ ∃ h, (v, h) ∈ N := by
  by_cases h : ∃ e ∈ N, e.1 = v
  · obtain ⟨e, he, rfl⟩ := h
    exact .inr ⟨e.2, he⟩
  · have h' : ∀ e ∈ N, e.1 ≠ v := fun e he h2 => h ⟨e, he, h2⟩
    exact .inl ⟨nxt_none h', h'⟩
def phi (m : Nat) (N : List Edge) (t : It) : It := if 0 ≤ t.1 then t else match nxt m N t.2.1 with
  | some (i, h) => (i, t.2.1, h)
  | none => t
theorem phi_edge {m : Nat} {N : List Edge} {t : It} (h : 0 ≤ t.1) : phi m N t = t := if_pos h
theorem phi_loose {m : Nat} {N : List Edge} {t : It} (h : t.1 < 0) {i x : Int} (hn : nxt m N t.2.1 = some (i, x)) : phi m N t = (i, t.2.1, x) := by
  unfold phi
  rw [if_neg (by omega), hn]
theorem phi_none {m : Nat} {N : List Edge} {t : It} (hn : nxt m N t.2.1 = none) : phi m N t = t := by
  unfold phi
  split
  · rfl
  · rw [hn]
/-- What is asked of an augment that isn't too large. -/
structure AugOk (g : Gr) (p : Pl) : Prop where
  run : RunsP g p
  n : (augG g p).n ≤ 64
  es : (augG g p).es.length ≤ 128
variable {g : Gr} {p : Pl}
theorem newK_mem {v x : Int} : ∀ {k : Nat}, (v, x) ∈ newK g p k → ∃ i, i < k ∧ x = oAt p i ∧ v ∈ loose (goneK g p i)
  | k + 1, h => by
    rw [newK, List.mem_append] at h
    rcases h with h | h
    · obtain ⟨i, h1, h2⟩ := newK_mem h
      exact ⟨i, by omega, h2⟩
    · obtain ⟨w, hw, e⟩ := List.mem_map.1 h
      cases e
      exact ⟨k, by omega, rfl, hw⟩
theorem mem_newK {v : Int} : ∀ {k i : Nat}, i < k → v ∈ loose (goneK g p i) → (v, oAt p i) ∈ newK g p k
  | k + 1, i, hi, h => by
    rw [newK, List.mem_append]
    by_cases e : i = k
    · subst e; exact .inr (List.mem_map.2 ⟨v, h, rfl⟩)
    · exact .inl (mem_newK (by omega) h)
theorem newA_mem {v x : Int} (h : (v, x) ∈ newA g p) : (∃ i, i < g.n.toNat ∧ x = oAt p i ∧ v ∈ loose (goneK g p i)) ∨ (1 < (lastR g p).length ∧ x = g.n ∧ v ∈ loose (lastR g p)) := by
  rw [newA, List.mem_append] at h
  rcases h with h | h
  · exact .inl (newK_mem h)
  · unfold newL at h
    split at h
    · obtain ⟨w, hw, e⟩ := List.mem_map.1 h
      cases e
      exact .inr ⟨by assumption, rfl, hw⟩
    · cases h
theorem loose_mem {l : List It} {t : It} (h : t ∈ l) (h0 : t.1 < 0) : t.2.1 ∈ loose l := List.mem_map.2 ⟨t, List.mem_filter.2 ⟨h, decide_eq_true h0⟩, rfl⟩
theorem aug_may (h : AugOk g p) : mayB (augG g p) = true := by
  have hm := good_may h.run.1
  have hn := mayB_n hm
  have hnn : g.n ≤ (augG g p).n := by unfold augG; split <;> simp only <;> omega
  have h1 := h.n
  have h2 := h.es
  simp only [mayB, Bool.and_eq_true, decide_eq_true_eq, Bool.not_eq_true', List.any_eq_false]
  refine ⟨⟨⟨by omega, h1⟩, by omega⟩, fun e he => ?_⟩
  have he : e ∈ g.es ++ newA g p := he
  simp only [outE, outB, Bool.or_eq_true, decide_eq_true_eq, not_or]
  rcases List.mem_append.1 he with he | he
  · obtain ⟨i, hi, rfl⟩ := List.mem_iff_getElem.1 he
    have := mayB_e hm hi
    rw [List.getD_eq_getElem?_getD, List.getElem?_eq_getElem hi, Option.getD_some] at this
    omega
  · have q1 := ((newA_ok h.run).2 e he).1
    rcases newA_mem (v := e.1) (x := e.2) he with ⟨i, hi, hx, _⟩ | ⟨hl, hx, _⟩
    · have := oAt_mem h.run.2.1 hi
      omega
    · have : (augG g p).n = g.n + 1 := if_pos hl
      omega
theorem outZ_old {v : Int} : outZ (augG g p) v = outZ g v ++ (endsZ (·.1) (newA g p) (newA g p).length v).map (· + (g.es.length : Int)) := endsZ_app
theorem aug_es (i : Nat) (hi : i < g.es.length) : (augG g p).es.getD i (0, 0) = g.es.getD i (0, 0) := by
  show (g.es ++ newA g p).getD i (0, 0) = _
  rw [List.getD_eq_getElem?_getD, List.getElem?_append_left hi, ← List.getD_eq_getElem?_getD]
theorem aug_es2 (j : Nat) : (augG g p).es.getD (g.es.length + j) (0, 0) = (newA g p).getD j (0, 0) := by
  show (g.es ++ newA g p).getD _ (0, 0) = _
  rw [List.getD_eq_getElem?_getD, List.getElem?_append_right (by omega), Nat.add_sub_cancel_left, ← List.getD_eq_getElem?_getD]
/-- What goes out of a sink of the graph. -/
theorem outZ_sink (hr : RunsP g p) {v : Int} (h0 : 0 ≤ v ∧ v < g.n) (hs : lAt p v = []) : (∀ h, (v, h) ∈ newA g p → ∃ j : Nat, nxt g.es.length (newA g p) v = some (((g.es.length + j : Nat) : Int), h) ∧ outZ (augG g p) v = [((g.es.length + j : Nat) : Int)] ∧ (augG g p).es.getD (g.es.length + j) (0, 0) = (v, h)) ∧
    ((∀ e ∈ newA g p, e.1 ≠ v) → outZ (augG g p) v = []) := by
  obtain ⟨hN1, hN2⟩ := newA_ok hr
  have hz : outZ g v = [] := (outZ_nil hr.2.1 h0.1 h0.2).2 hs
  constructor
  · intro h hm
    obtain ⟨j, hj, h1, h2⟩ := nxt_mem (m := g.es.length) hN1 hm
    refine ⟨j, h1, ?_, by rw [aug_es2, h2]⟩
    have e1 := ends_one hN1 hj
    rw [h2] at e1
    rw [outZ_old, hz, e1]
    simp; omega
  · intro h
    rw [outZ_old, hz, ends_none h]; rfl
theorem outZ_other (hr : RunsP g p) {v : Int} (h0 : 0 ≤ v ∧ v < g.n) (hs : lAt p v ≠ []) : outZ (augG g p) v = outZ g v := by
  obtain ⟨hN1, hN2⟩ := newA_ok hr
  rw [outZ_old, ends_none fun e he h => hs (by rw [← h]; exact (hN2 e he).2)]
  simp
theorem aug_n_le : g.n ≤ (augG g p).n ∧ (augG g p).n ≤ g.n + 1 := by
  unfold augG; split <;> simp only <;> omega
theorem lAt_old (hr : RunsP g p) {v : Int} (h0 : 0 ≤ v ∧ v < g.n) : lAt (augP g p) v = if lAt p v ≠ [] then lAt p v else outZ (augG g p) v := by
  have hn := aug_n_le (g := g) (p := p)
  unfold lAt
  rw [aug_outs hr, docO, List.getD_eq_getElem?_getD, List.getElem?_map, List.getElem?_range (by omega)]
  simp only [Option.map_some, Option.getD_some]
  rw [show ((v.toNat : Nat) : Int) = v by omega]
  by_cases h : p.outs.getD v.toNat [] = []
  · rw [h]; simp
  · rw [if_pos (List.length_pos_iff.2 h), if_pos h]
theorem lAt_new (hr : RunsP g p) (hl : 1 < (lastR g p).length) : lAt (augP g p) g.n = [] ∧ outZ (augG g p) g.n = [] := by
  have hm := good_may hr.1
  have hn := mayB_n hm
  have hG : (augG g p).n = g.n + 1 := if_pos hl
  have hz : outZ (augG g p) g.n = [] := by
    rw [outZ_old, ends_none fun e he h => by have := ((newA_ok hr).2 e he).1; omega]
    simp only [List.map_nil, List.append_nil]
    refine ends_none fun e he h => ?_
    obtain ⟨i, hi, rfl⟩ := List.mem_iff_getElem.1 he
    have := (mayB_e hm hi).1
    rw [List.getD_eq_getElem?_getD, List.getElem?_eq_getElem hi, Option.getD_some] at this
    omega
  refine ⟨?_, hz⟩
  unfold lAt
  rw [aug_outs hr, docO, List.getD_eq_getElem?_getD, List.getElem?_map, List.getElem?_range (by omega)]
  simp only [Option.map_some, Option.getD_some]
  rw [show ((g.n.toNat : Nat) : Int) = g.n by omega, hz]
  have : p.outs.getD g.n.toNat [] = [] := by rw [List.getD_eq_getElem?_getD, List.getElem?_eq_none (by rw [hr.2.1.1]; exact Nat.le_refl _)]; rfl
  rw [this]; rfl
theorem aug_plan (hr : RunsP g p) : PlanOk (augG g p) (augP g p) := by
  have h := hr.2.1
  have hm := good_may hr.1
  have hn := mayB_n hm
  have ha := aug_n_le (g := g) (p := p)
  refine ⟨by rw [aug_outs hr]; simp [docO], ?_, fun x hx => ?_⟩
  · unfold augP augG
    split
    · have e : (g.n + 1).toNat = g.n.toNat + 1 := by omega
      have e2 : allN (g.n.toNat + 1) = allN g.n.toNat ++ [g.n] := by
        simp only [allN, List.range_succ, List.map_append, List.map_cons, List.map_nil]
        congr 2
        show ((g.n.toNat : Nat) : Int) = g.n
        omega
      show (p.ord ++ [g.n]).Perm (allN (g.n + 1).toNat)
      rw [e, e2]
      exact h.2.1.append_right _
    · exact h.2.1
  · have hl : (augP g p).outs.getD x [] = lAt (augP g p) (x : Int) := by unfold lAt; rw [Int.toNat_natCast]
    rw [hl]
    by_cases hxn : (x : Int) < g.n
    · rw [lAt_old hr ⟨by omega, hxn⟩]
      split
      · rename_i h2
        rw [outZ_other hr ⟨by omega, hxn⟩ h2]
        exact lAt_perm h (by omega) hxn
      · exact List.Perm.refl _
    · have hl1 : 1 < (lastR g p).length := Decidable.byContradiction fun hl => by
        have : (augG g p).n = g.n := if_neg hl
        omega
      have e : (x : Int) = g.n := by omega
      rw [e, (lAt_new hr hl1).1, (lAt_new hr hl1).2]
theorem oAt_old (hr : RunsP g p) {k : Nat} (hk : k < g.n.toNat) : oAt (augP g p) k = oAt p k := by
  have := plan_len hr.2.1
  unfold oAt augP
  simp only
  split
  · rw [List.getD_eq_getElem?_getD, List.getElem?_append_left (by omega), ← List.getD_eq_getElem?_getD]
  · rfl
theorem oAt_new (hr : RunsP g p) (hl : 1 < (lastR g p).length) : oAt (augP g p) g.n.toNat = g.n := by
  have := plan_len hr.2.1
  unfold oAt augP
  simp only
  rw [if_pos hl, List.getD_eq_getElem?_getD, List.getElem?_append_right (by omega), this]
  simp
/-- What stands above a vertex in the augment. -/
theorem above_phi (hr : RunsP g p) {x : Int} (h0 : 0 ≤ x ∧ x < g.n) : aboveF (augG g p) x (lAt (augP g p) x) = (aboveF g x (lAt p x)).map (phi g.es.length (newA g p)) := by
  obtain ⟨hN1, hN2⟩ := newA_ok hr
  rw [lAt_old hr h0]
  by_cases hs : lAt p x = []
  · obtain ⟨s1, s2⟩ := outZ_sink hr h0 hs
    have ha : aboveF g x (lAt p x) = [(-1, x, -1)] := if_pos hs
    rw [if_neg (by simp [hs]), ha]
    rcases nxt_cases (m := g.es.length) hN1 x with ⟨h1, h2⟩ | ⟨h, hm⟩
    · rw [s2 h2, List.map_cons, List.map_nil, phi_none h1]
      rfl
    · obtain ⟨j, h1, h2, h3⟩ := s1 h hm
      rw [h2, List.map_cons, List.map_nil, phi_loose (t := (-1, x, -1)) (by simp) h1]
      have h3' : ((augG g p).es.getD (((g.es.length + j : Nat) : Int)).toNat (0, 0)) = (x, h) := by rw [Int.toNat_natCast]; exact h3
      simp only [aboveF, itemF, List.cons_ne_nil, if_false, List.map_cons, List.map_nil, h3']
  · rw [if_pos hs]
    unfold aboveF
    rw [if_neg hs, if_neg hs, List.map_map]
    refine List.map_congr_left fun i hi => ?_
    obtain ⟨k, rfl, hk, ht⟩ := outZ_mem ((lAt_perm hr.2.1 h0.1 h0.2).mem_iff.1 hi)
    simp only [Function.comp]
    rw [phi_edge (t := itemF g x (k : Int)) (by simp [itemF])]
    simp only [itemF, Int.toNat_natCast, aug_es k hk]
theorem need_aug {x : Int} : needN (augG g p) x = needN g x + ((newA g p).filter fun e => decide (e.2 = x)).length := by
  unfold needN
  have : endsZ (·.2) (augG g p).es (augG g p).es.length x = endsZ (·.2) g.es g.es.length x ++ (endsZ (·.2) (newA g p) (newA g p).length x).map (· + (g.es.length : Int)) := endsZ_app
  rw [this, List.length_append, List.length_map]
  congr 1
  generalize newA g p = N
  unfold endsZ
  rw [List.length_map, ← List.countP_eq_length_filter, ← List.countP_eq_length_filter]
  have e : N = (List.range N.length).map fun i => N.getD i (0, 0) := by
    refine List.ext_getElem (by simp) fun i h1 h2 => ?_
    simp [List.getD_eq_getElem?_getD, List.getElem?_eq_getElem h1]
  conv => rhs; rw [e]
  rw [List.countP_map]
  rfl
end Go.Ab
end
section
namespace Go.Ab
open Go.Proofs
set_option maxRecDepth 10000

variable {g : Gr} {p : Pl}
theorem newK_filter (h : PlanOk g p) {k : Nat} : ∀ {K : Nat}, K ≤ g.n.toNat → k < g.n.toNat → (newK g p K).filter (fun e => decide (e.2 = oAt p k)) = if k < K then (loose (goneK g p k)).map fun v => (v, oAt p k) else []
  | 0, _, _ => by simp [newK]
  | K + 1, hK, hk => by
    rw [newK, List.filter_append, newK_filter h (by omega) hk]
    by_cases e : k = K
    · subst e
      rw [if_neg (by omega), if_pos (by omega), List.nil_append, List.filter_eq_self.2]
      intro e he
      obtain ⟨v, _, rfl⟩ := List.mem_map.1 he
      simp
    · have : ((loose (goneK g p K)).map fun v => (v, oAt p K)).filter (fun e => decide (e.2 = oAt p k)) = [] := List.filter_eq_nil_iff.2 fun e' he => by
        obtain ⟨v, _, rfl⟩ := List.mem_map.1 he
        simp only [decide_eq_true_eq]
        intro h2
        exact e (oAt_inj h hk (by omega) h2.symm)
      rw [this, List.append_nil]
      by_cases h3 : k < K
      · rw [if_pos h3, if_pos (by omega)]
      · rw [if_neg h3, if_neg (by omega)]
theorem newA_filter (hr : RunsP g p) {k : Nat} (hk : k < g.n.toNat) : ((newA g p).filter fun e => decide (e.2 = oAt p k)).length = (loose (goneK g p k)).length := by
  have hx := oAt_mem hr.2.1 hk
  rw [newA, List.filter_append, newK_filter hr.2.1 (Nat.le_refl _) hk, if_pos hk]
  have : (newL g p).filter (fun e => decide (e.2 = oAt p k)) = [] := List.filter_eq_nil_iff.2 fun e' he => by
    unfold newL at he
    split at he
    · obtain ⟨v, _, rfl⟩ := List.mem_map.1 he
      simp only [decide_eq_true_eq]; omega
    · cases he
  rw [this]; simp
theorem not_take {l : List Int} (h : l.Nodup) {k : Nat} (hk : k < l.length) : l.getD k 0 ∉ l.take k := by
  intro hm
  obtain ⟨j, hj, e⟩ := List.mem_iff_getElem.1 hm
  simp only [List.length_take] at hj
  have e2 : l.getD j 0 = l.getD k 0 := by
    rw [← e, List.getD_eq_getElem?_getD, List.getElem?_eq_getElem (by omega)]
    simp
  have := nodup_getD h (by omega) hk e2
  omega
theorem take_at {p : Pl} {k : Nat} {v : Int} (hk : k ≤ p.ord.length) (h : v ∈ p.ord.take k) : ∃ j, j < k ∧ oAt p j = v := by
  obtain ⟨j, hj, e⟩ := List.mem_iff_getElem.1 h
  simp only [List.length_take] at hj
  refine ⟨j, by omega, ?_⟩
  rw [← e, oAt, List.getD_eq_getElem?_getD, List.getElem?_eq_getElem (by omega)]
  simp
theorem loose_count {x : Int} {X : List It} (h : ∀ t ∈ X, (t.1 < 0 ↔ ¬ t.2.2 = x)) : X.countP (isH x) + (loose X).length = X.length := by
  rw [List.length_eq_countP_add_countP (isH x)]
  congr 1
  unfold loose
  rw [List.length_map, ← List.countP_eq_length_filter]
  refine List.countP_congr fun t ht => ?_
  have := h t ht
  simp only [isH, decide_eq_true_eq, Bool.not_eq_true, decide_eq_false_iff_not]
  exact this
theorem sim (h : AugOk g p) : ∀ {k : Nat}, k ≤ g.n.toNat → (∀ j, j < k → okK (augG g p) (augP g p) j = true) ∧ (fK (augG g p) (augP g p) k).row = (fK g p k).row.map (phi g.es.length (newA g p))
  | 0, _ => ⟨fun j hj => by omega, rfl⟩
  | k + 1, hk => by
    have hr := h.run
    have hpo := hr.2.1
    have hm := good_may hr.1
    have hmG := aug_may h
    have hQ := aug_plan hr
    obtain ⟨hN1, hN2⟩ := newA_ok hr
    have hnG := aug_n_le (g := g) (p := p)
    obtain ⟨oks, hrow⟩ := sim h (k := k) (by omega)
    obtain ⟨hi, _, _⟩ := run_inv hm hpo (k := k) (by omega) fun j hj => hr.2.2 j (by omega)
    obtain ⟨hiG, hplG, _⟩ := run_inv hmG hQ (k := k) (by omega) oks
    have hR : rReadyF g (fK g p k) (oAt p k) = true := hr.2.2 k (by omega)
    have hxo := oAt_old hr (k := k) (by omega)
    have hx := oAt_mem hpo (k := k) (by omega)
    obtain ⟨hl1, hl2⟩ := loose_inv hm hpo (k := k) (by omega) fun j hj => hr.2.2 j (by omega)
    have hlr : (loose (fK g p k).row).Nodup := (List.nodup_append.1 hl1).2.1
    have hnot : oAt p k ∉ (fK (augG g p) (augP g p) k).pl := by
      rw [hplG, ← hxo]
      exact not_take (plan_nodup hQ) (by rw [plan_len hQ]; omega)
    have hfil := newA_filter hr (k := k) (by omega)
    have hnd := need_aug (g := g) (p := p) (x := oAt p k)
    have habv := above_phi hr hx
    have hin : ∀ v, (v, oAt p k) ∈ newA g p → v ∈ loose (goneK g p k) := fun v hv => by
      rcases newA_mem hv with ⟨i, h1, h2, h3⟩ | ⟨_, h2, _⟩
      · have := oAt_inj hpo (by omega) h1 h2
        subst this; exact h3
      · omega
    have hout : ∀ v, v ∈ loose (goneK g p k) → (v, oAt p k) ∈ newA g p := fun v hv => List.mem_append_left _ (mem_newK (by omega) hv)
    -- what is to be shown, of the step
    suffices hs : okK (augG g p) (augP g p) k = true ∧ (fK (augG g p) (augP g p) (k + 1)).row = (fK g p (k + 1)).row.map (phi g.es.length (newA g p)) by
      refine ⟨fun j hj => ?_, hs.2⟩
      by_cases e : j = k
      · subst e; exact hs.1
      · exact oks j (by omega)
    have hfG : (fK (augG g p) (augP g p) (k + 1)) = (succF (augG g p) (fK (augG g p) (augP g p) k) (oAt p k) (lAt (augP g p) (oAt p k))).2 := by
      rw [← hxo]; rfl
    have hfg : (fK g p (k + 1)) = (succF g (fK g p k) (oAt p k) (lAt p (oAt p k))).2 := rfl
    have hok : okK (augG g p) (augP g p) k = rReadyF (augG g p) (fK (augG g p) (augP g p) k) (oAt p k) := by unfold okK; rw [hxo]
    rw [hfG, hfg, hok]
    have hgk : goneK g p k = (succF g (fK g p k) (oAt p k) (lAt p (oAt p k))).1.1 := rfl
    generalize oAt p k = x at *
    by_cases hn : needN g x = 0
    · have hno := ready_none hm hi.toFrInv hx.1 hn
      rw [succ_none _ hno] at hgk
      have hnG0 : needN (augG g p) x = 0 := by rw [hnd, hn, hfil, hgk]; rfl
      have hnoG := ready_none hmG hiG.toFrInv hx.1 hnG0
      refine ⟨?_, ?_⟩
      · unfold rReadyF
        rw [if_neg (by rintro (h | h | h); omega; omega; exact hnot h), if_pos hnG0]
      · rw [succ_none _ hno, succ_none _ hnoG]
        simp only [List.map_append]
        rw [habv, hrow]
    · obtain ⟨A, X, C, hrw, nA, nC, hX, cX⟩ := ready_split hm hi.toFrInv hR hn
      rw [succ_of _ hrw nA nC hX] at hgk
      simp only at hgk
      rw [hgk] at hin hout hfil
      have hXm : ∀ t ∈ X, t ∈ (fK g p k).row := fun t ht => by rw [hrw]; simp [ht]
      have hAm : ∀ t ∈ A, t ∈ (fK g p k).row := fun t ht => by rw [hrw]; simp [ht]
      have hCm : ∀ t ∈ C, t ∈ (fK g p k).row := fun t ht => by rw [hrw]; simp [ht]
      have hit : ∀ t ∈ X, (t.1 < 0 ↔ ¬ t.2.2 = x) := fun t ht => by
        have h1 := (hi.it t (hXm t ht)).head hm
        have h2 := hX.al t ht
        omega
      rw [hrw, loose_app, loose_app, List.nodup_append, List.nodup_append] at hlr
      have nA' : NoH x (A.map (phi g.es.length (newA g p))) := fun t' ht' => by
        obtain ⟨t, ht, rfl⟩ := List.mem_map.1 ht'
        by_cases h0 : 0 ≤ t.1
        · rw [phi_edge h0]; exact nA t ht
        · rcases nxt_cases (m := g.es.length) hN1 t.2.1 with ⟨h1, _⟩ | ⟨y, h1⟩
          · rw [phi_none h1]; exact nA t ht
          · obtain ⟨j, _, h2, _⟩ := nxt_mem (m := g.es.length) hN1 h1
            rw [phi_loose (by omega) h2]
            intro e
            have e : y = x := e
            subst e
            exact hlr.1.2.2 _ (loose_mem ht (by omega)) _ (hin _ h1) rfl
      have nC' : NoH x (C.map (phi g.es.length (newA g p))) := fun t' ht' => by
        obtain ⟨t, ht, rfl⟩ := List.mem_map.1 ht'
        by_cases h0 : 0 ≤ t.1
        · rw [phi_edge h0]; exact nC t ht
        · rcases nxt_cases (m := g.es.length) hN1 t.2.1 with ⟨h1, _⟩ | ⟨y, h1⟩
          · rw [phi_none h1]; exact nC t ht
          · obtain ⟨j, _, h2, _⟩ := nxt_mem (m := g.es.length) hN1 h1
            rw [phi_loose (by omega) h2]
            intro e
            have e : y = x := e
            subst e
            exact hlr.2.2 _ (List.mem_append_right _ (hin _ h1)) _ (loose_mem ht (by omega)) rfl
      have hXx : ∀ t ∈ X, (phi g.es.length (newA g p) t).2.2 = x := fun t ht => by
        by_cases h0 : 0 ≤ t.1
        · rw [phi_edge h0]
          have := hit t ht
          omega
        · obtain ⟨j, _, h2, _⟩ := nxt_mem (m := g.es.length) hN1 (hout _ (loose_mem ht (by omega)))
          rw [phi_loose (by omega) h2]
      have hX' : Mid x (X.map (phi g.es.length (newA g p))) := by
        obtain ⟨q, X0, e1, _⟩ := hX.fst
        obtain ⟨X1, q', e2, _⟩ := hX.lst
        refine ⟨⟨phi g.es.length (newA g p) q, X0.map (phi g.es.length (newA g p)), by rw [e1]; rfl, hXx q (by rw [e1]; simp)⟩, ⟨X1.map (phi g.es.length (newA g p)), phi g.es.length (newA g p) q', by rw [e2]; simp, hXx q' (by rw [e2]; simp)⟩, fun t' ht' => ?_⟩
        obtain ⟨t, ht, rfl⟩ := List.mem_map.1 ht'
        exact .inl (hXx t ht)
      have hcnt : (X.map (phi g.es.length (newA g p))).countP (isH x) = needN (augG g p) x := by
        have h1 : (X.map (phi g.es.length (newA g p))).countP (isH x) = (X.map (phi g.es.length (newA g p))).length := List.countP_eq_length.2 fun t' ht' => by
          obtain ⟨t, ht, rfl⟩ := List.mem_map.1 ht'
          simp [isH, hXx t ht]
        rw [h1, List.length_map, hnd, hfil, ← cX, loose_count hit]
      have hrG : (fK (augG g p) (augP g p) k).row = A.map (phi g.es.length (newA g p)) ++ X.map (phi g.es.length (newA g p)) ++ C.map (phi g.es.length (newA g p)) := by rw [hrow, hrw]; simp
      refine ⟨ready_join hmG hiG.toFrInv hx.1 (by omega) hnot hrG nA' nC' hX' hcnt, ?_⟩
      rw [succ_of _ hrw nA nC hX, succ_of _ hrG nA' nC' hX']
      simp only [List.map_append]
      rw [habv]
/-- A loose end goes, or stands in the last row. -/
theorem persist (hr : RunsP g p) {v : Int} {k : Nat} : ∀ {K : Nat}, k ≤ K → K ≤ g.n.toNat → v ∈ loose (fK g p k).row → (∃ i, i < K ∧ v ∈ loose (goneK g p i)) ∨ v ∈ loose (fK g p K).row
  | 0, h1, _, hv => by
    obtain rfl : k = 0 := by omega
    exact .inr hv
  | K + 1, h1, h2, hv => by
    by_cases e : k = K + 1
    · subst e; exact .inr hv
    · rcases persist hr (K := K) (by omega) (by omega) hv with ⟨i, h3, h4⟩ | h3
      · exact .inl ⟨i, by omega, h4⟩
      · have hm := good_may hr.1
        obtain ⟨hi, _, _⟩ := run_inv hm hr.2.1 (k := K) (by omega) fun j hj => hr.2.2 j (by omega)
        obtain ⟨A, X, C, hrw, _, _, _, hs⟩ := succ_cases hm hi.toFrInv (hr.2.2 K (by omega))
        have hg : goneK g p K = X := by unfold goneK; rw [hs]
        have hrow : (fK g p (K + 1)).row = A ++ aboveF g (oAt p K) (lAt p (oAt p K)) ++ C := by show (succF _ _ _ _).2.row = _; rw [hs]
        rw [hrw, loose_app, loose_app, List.mem_append, List.mem_append] at h3
        rcases h3 with (h3 | h3) | h3
        · refine .inr ?_
          rw [hrow, loose_app, loose_app]; simp [h3]
        · exact .inl ⟨K, by omega, by rw [hg]; exact h3⟩
        · refine .inr ?_
          rw [hrow, loose_app, loose_app]; simp [h3]
end Go.Ab
end
