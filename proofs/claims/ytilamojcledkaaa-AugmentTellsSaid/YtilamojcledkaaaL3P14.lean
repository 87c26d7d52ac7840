/- A part of the proof. -/
import Derived.Test.YtilamojcledkaaaL3P13
set_option linter.unusedSimpArgs false
set_option linter.unusedVariables false
section
namespace Go.Ab
open Go.Proofs
attribute [local congr] ACall.congr
set_option maxRecDepth 10000
set_option maxHeartbeats 8000000

/-- How often edges were met: once, or not. -/
def cntL (m : Nat) (fl : List Int) : List Int := (List.range m).map fun i : Nat => if (i : Int) ∈ fl then (1 : Int) else 0
theorem cntL_len {m : Nat} {fl : List Int} : (cntL m fl).length = m := by simp [cntL]
theorem cntL_zero {m : Nat} : cntL m [] = List.replicate m 0 := by
  refine List.ext_getElem (by simp [cntL]) fun i h1 h2 => ?_
  simp [cntL]
theorem cntL_at {m : Nat} {fl : List Int} {i : Nat} (h : i < m) : (cntL m fl).getD i 0 = if (i : Int) ∈ fl then 1 else 0 := by
  simp [cntL, List.getD_eq_getElem?_getD, List.getElem?_range h]
theorem cntL_set {m : Nat} {fl : List Int} {i : Nat} (h : i < m) : (cntL m fl).set i 1 = cntL m (fl ++ [(i : Int)]) := by
  refine List.ext_getElem (by simp [cntL]) fun j h1 h2 => ?_
  rw [List.getElem_set]
  simp only [cntL, List.getElem_map, List.getElem_range, List.mem_append, List.mem_singleton]
  by_cases e : i = j
  · subst e; simp
  · rw [if_neg e]
    have : ¬ (j : Int) = (i : Int) := by omega
    simp [this]
theorem flat_pre {outs : List (List Int)} {x k : Nat} (hx : x < outs.length) : ((outs.take x).flatten ++ (outs.getD x []).take k).Sublist outs.flatten := by
  have e : outs = outs.take x ++ outs.getD x [] :: outs.drop (x + 1) := by
    conv => lhs; rw [← List.take_append_drop x outs]
    congr 1
    rw [List.drop_eq_getElem_cons hx, List.getD_eq_getElem?_getD, List.getElem?_eq_getElem hx]
    rfl
  conv => rhs; rw [e]
  rw [List.flatten_append, List.flatten_cons]
  exact List.Sublist.append (List.Sublist.refl _) ((List.take_sublist _ _).trans (List.sublist_append_left _ _))
theorem take_snocI {l : List Int} {k : Nat} (h : k < l.length) : l.take (k + 1) = l.take k ++ [l.getD k 0] := by
  rw [List.take_add_one, List.getD_eq_getElem?_getD, List.getElem?_eq_getElem h]; rfl
theorem outZ_iff {g : Gr} {x i : Int} : i ∈ outZ g x ↔ (0 ≤ i ∧ i < g.es.length) ∧ (g.es.getD i.toNat (0, 0)).1 = x := by
  constructor
  · exact endsZ_mem
  · rintro ⟨⟨h1, h2⟩, h3⟩
    simp only [outZ, endsZ, List.mem_map, List.mem_filter, List.mem_range, decide_eq_true_eq]
    exact ⟨i.toNat, ⟨by omega, h3⟩, by simp; omega⟩
theorem ofR_spec (g : Gr) (hl : g.es.length ≤ 9223372036854775807) (p : Pl) (hp : PlLen p) (res : Bool) (hr : res = true ↔ (chkG g).1 = 0 ∧ PlanOk g p) : Spec Try.prog 92 (Args [eG g, ePl p]) [] (eB res) [] := by
  have ho : p.ord.length ≤ 9223372036854775807 := by have := hp.ord; omega
  have ho2 := hp.outs
  by_cases hc : (chkG g).1 = 0
  rotate_left
  · have hres : res = false := by
      rw [← Bool.not_eq_true, hr]
      rintro ⟨h, _⟩
      exact hc h
    subst hres
    have hb1 : decide ((chkG g).1 = 0) = false := decide_eq_false hc
    (refine Spec.intro (C := T.cfg [] []) (rs := [.t 4]) (T.cfg_ok _ _) Try.func92 rfl rfl Try.ntmps92 Try.results92 (by simp [AObj.isNest]) (by simp [AObj.isNest]) (by kernel_rfl) ?_; intro X hX hP hC hXn hXm vals hA; refine ⟨_, by simp, hA, ?_⟩; have hmix : X.P.follows .mixedOrders = true := (by rw [hP]; exact T.mixed); clear hXn hXm)
    repeat' (first | fail | ((first | ((with_reducible (first | apply oA | apply oB)); exact rfl; intro K hK) | (refine hK _ ?_; clear hK K) | ((with_reducible (first | apply oG | apply oH)); iterate 3 exact rfl) | ((with_reducible apply oI); (iterate 2 exact rfl); intro K hK) | (with_reducible (first | apply wI | apply wJ | apply wK))); try simp only [go_sem, simprocAttr, hb1]) | fail | (with_reducible (first | apply oC | apply oJ | exact oK | apply wA | apply wB | apply wC hX hC | apply wD hX hC | apply wE hX hC hmix | apply wF hX hC hmix | apply wG | apply wH | apply And.intro)) | ((with_reducible refine oD ?_ ?_); first | fail | kernel_rfl) | ((with_reducible (first | apply oE | apply oF)); (iterate 3 exact rfl); all_goals (intro h; first | (exact absurd h (by decide)) | ((try simp only [go_sem, simprocAttr, hb1] at h); (try with_reducible intro K hK); simp only [go_sem, simprocAttr, hb1]))) | ((first | ((with_reducible apply wL); exact rfl) | ((with_reducible apply wM); exact rfl)); all_goals (try ((with_reducible intro h); first | (exact absurd h (by decide)) | (try simp only [go_sem, simprocAttr, hb1] at h)))) | omega | ((first | first | refine acall_simple hX hC hP (refGoodA_spec g hl) rfl rfl rfl (by simp only [go_sem, simprocAttr, hb1]) rfl ?_); try simp only [go_sem, simprocAttr, hb1]) | (intro h))
  have hb1 : decide ((chkG g).1 = 0) = true := decide_eq_true hc
  have hm := good_may hc
  have hn := mayB_n hm
  have hr : res = true ↔ PlanOk g p := by rw [hr]; exact ⟨fun h => h.2, fun h => ⟨hc, h⟩⟩
  rw [← ofR_iff hm] at hr
  by_cases he : eachB p.ord g.n = true ∧ p.outs.length = g.n.toNat
  rotate_left
  · have hres : res = false := by
      rw [← Bool.not_eq_true, hr]
      rintro ⟨h2, h3, _⟩
      exact he ⟨h2, h3⟩
    subst hres
    cases h2 : eachB p.ord g.n with
    | false =>
      (refine Spec.intro (C := T.cfg [] []) (rs := [.t 4]) (T.cfg_ok _ _) Try.func92 rfl rfl Try.ntmps92 Try.results92 (by simp [AObj.isNest]) (by simp [AObj.isNest]) (by kernel_rfl) ?_; intro X hX hP hC hXn hXm vals hA; refine ⟨_, by simp, hA, ?_⟩; have hmix : X.P.follows .mixedOrders = true := (by rw [hP]; exact T.mixed); clear hXn hXm)
      repeat' (first | fail | ((first | ((with_reducible (first | apply oA | apply oB)); exact rfl; intro K hK) | (refine hK _ ?_; clear hK K) | ((with_reducible (first | apply oG | apply oH)); iterate 3 exact rfl) | ((with_reducible apply oI); (iterate 2 exact rfl); intro K hK) | (with_reducible (first | apply wI | apply wJ | apply wK))); try simp only [go_sem, simprocAttr, hb1, h2]) | fail | (with_reducible (first | apply oC | apply oJ | exact oK | apply wA | apply wB | apply wC hX hC | apply wD hX hC | apply wE hX hC hmix | apply wF hX hC hmix | apply wG | apply wH | apply And.intro)) | ((with_reducible refine oD ?_ ?_); first | fail | kernel_rfl) | ((with_reducible (first | apply oE | apply oF)); (iterate 3 exact rfl); all_goals (intro h; first | (exact absurd h (by decide)) | ((try simp only [go_sem, simprocAttr, hb1, h2] at h); (try with_reducible intro K hK); simp only [go_sem, simprocAttr, hb1, h2]))) | ((first | ((with_reducible apply wL); exact rfl) | ((with_reducible apply wM); exact rfl)); all_goals (try ((with_reducible intro h); first | (exact absurd h (by decide)) | (try simp only [go_sem, simprocAttr, hb1, h2] at h)))) | omega | ((first | first | refine acall_simple hX hC hP (refGoodA_spec g hl) rfl rfl rfl (by simp only [go_sem, simprocAttr, hb1, h2]) rfl ?_ | refine acall_simple hX hC hP (each_spec p.ord g.n ho) rfl rfl rfl (by simp only [go_sem, simprocAttr, hb1, h2]) rfl ?_); try simp only [go_sem, simprocAttr, hb1, h2]) | (intro h))
    | true =>
      have hb2 : decide ((p.outs.length : Int) = g.n) = false := decide_eq_false fun h3 => he ⟨h2, by omega⟩
      (refine Spec.intro (C := T.cfg [] []) (rs := [.t 4]) (T.cfg_ok _ _) Try.func92 rfl rfl Try.ntmps92 Try.results92 (by simp [AObj.isNest]) (by simp [AObj.isNest]) (by kernel_rfl) ?_; intro X hX hP hC hXn hXm vals hA; refine ⟨_, by simp, hA, ?_⟩; have hmix : X.P.follows .mixedOrders = true := (by rw [hP]; exact T.mixed); clear hXn hXm)
      repeat' (first | fail | ((first | ((with_reducible (first | apply oA | apply oB)); exact rfl; intro K hK) | (refine hK _ ?_; clear hK K) | ((with_reducible (first | apply oG | apply oH)); iterate 3 exact rfl) | ((with_reducible apply oI); (iterate 2 exact rfl); intro K hK) | (with_reducible (first | apply wI | apply wJ | apply wK))); try simp only [go_sem, simprocAttr, hb1, h2, hb2]) | fail | (with_reducible (first | apply oC | apply oJ | exact oK | apply wA | apply wB | apply wC hX hC | apply wD hX hC | apply wE hX hC hmix | apply wF hX hC hmix | apply wG | apply wH | apply And.intro)) | ((with_reducible refine oD ?_ ?_); first | fail | kernel_rfl) | ((with_reducible (first | apply oE | apply oF)); (iterate 3 exact rfl); all_goals (intro h; first | (exact absurd h (by decide)) | ((try simp only [go_sem, simprocAttr, hb1, h2, hb2] at h); (try with_reducible intro K hK); simp only [go_sem, simprocAttr, hb1, h2, hb2]))) | ((first | ((with_reducible apply wL); exact rfl) | ((with_reducible apply wM); exact rfl)); all_goals (try ((with_reducible intro h); first | (exact absurd h (by decide)) | (try simp only [go_sem, simprocAttr, hb1, h2, hb2] at h)))) | omega | ((first | first | refine acall_simple hX hC hP (refGoodA_spec g hl) rfl rfl rfl (by simp only [go_sem, simprocAttr, hb1, h2, hb2]) rfl ?_ | refine acall_simple hX hC hP (each_spec p.ord g.n ho) rfl rfl rfl (by simp only [go_sem, simprocAttr, hb1, h2, hb2]) rfl ?_); try simp only [go_sem, simprocAttr, hb1, h2, hb2]) | (intro h))
  obtain ⟨he1, he2⟩ := he
  have hb2 : decide ((p.outs.length : Int) = g.n) = true := decide_eq_true (by omega)
  (refine Spec.intro (C := T.cfg [] []) (rs := [.t 4]) (T.cfg_ok _ _) Try.func92 rfl rfl Try.ntmps92 Try.results92 (by simp [AObj.isNest]) (by simp [AObj.isNest]) (by kernel_rfl) ?_; intro X hX hP hC hXn hXm vals hA; refine ⟨_, by simp, hA, ?_⟩; have hmix : X.P.follows .mixedOrders = true := (by rw [hP]; exact T.mixed); clear hXn hXm)
  repeat' (first | fail | ((first | ((with_reducible (first | apply oA | apply oB)); exact rfl; intro K hK) | (refine hK _ ?_; clear hK K) | ((with_reducible (first | apply oG | apply oH)); iterate 3 exact rfl) | ((with_reducible apply oI); (iterate 2 exact rfl); intro K hK) | (with_reducible (first | apply wI | apply wJ | apply wK))); try simp only [go_sem, simprocAttr, hb1, he1, hb2]) | fail | (with_reducible (first | apply oC | apply oJ | exact oK | apply wA | apply wB | apply wC hX hC | apply wD hX hC | apply wE hX hC hmix | apply wF hX hC hmix | apply wG | apply wH | apply And.intro)) | ((with_reducible refine oD ?_ ?_); first | fail | kernel_rfl) | ((with_reducible (first | apply oE | apply oF)); (iterate 3 exact rfl); all_goals (intro h; first | (exact absurd h (by decide)) | ((try simp only [go_sem, simprocAttr, hb1, he1, hb2] at h); (try with_reducible intro K hK); simp only [go_sem, simprocAttr, hb1, he1, hb2]))) | ((first | ((with_reducible apply wL); exact rfl) | ((with_reducible apply wM); exact rfl)); all_goals (try ((with_reducible intro h); first | (exact absurd h (by decide)) | (try simp only [go_sem, simprocAttr, hb1, he1, hb2] at h)))) | omega | ((first | first | refine acall_simple hX hC hP (refGoodA_spec g hl) rfl rfl rfl (by simp only [go_sem, simprocAttr, hb1, he1, hb2]) rfl ?_ | refine acall_simple hX hC hP (each_spec p.ord g.n ho) rfl rfl rfl (by simp only [go_sem, simprocAttr, hb1, he1, hb2]) rfl ?_); try simp only [go_sem, simprocAttr, hb1, he1, hb2]) | (intro h))
  clear hb1 hb2
  have hrep : List.replicate g.es.length [D.sc (.int .i64 0)] = (cntL g.es.length []).map rI := by rw [cntL_zero, List.map_replicate]; rfl
  rw [hrep]
  clear hrep
  refine awp_loopP (fun x : Nat => x ≤ p.outs.length ∧ (p.outs.take x).flatten.Nodup ∧ ∀ y : Nat, y < x → ∀ i ∈ p.outs.getD y [], i ∈ outZ g y) (fun x => ⟨[(2, .ptr 2 0), (3, .ptr 3 0), (5, .ref 32), (6, eN x)], [(32, .own 3 1 ((cntL g.es.length (p.outs.take x).flatten).map rI)), (3, .box [.d (sI p.ord), .d (.sl 1 (vI p.outs))]), (2, .box [eN g.n, .d (sE g.es)])]⟩) (fun x => p.outs.length - x) 0 (by simp) ?_ ?_
  · refine Le.of ?_ ?_ <;> simp [go_sem, simprocAttr]
  rintro x ⟨hx, hnd, hgx⟩
  rcases Nat.lt_or_ge x p.outs.length with hxl | hxg
  · have hb : decide ((x : Int) < (p.outs.length : Int)) = true := decide_eq_true (by omega)
    have hv := vI_getD hxl
    have hle := hp.each _ (getD_memX (d := []) hxl)
    have hpre := fun k => flat_pre (k := k) hxl
    have hnext : (p.outs.take (x + 1)).flatten = (p.outs.take x).flatten ++ p.outs.getD x [] := by
      rw [List.take_add_one, List.flatten_append, List.getD_eq_getElem?_getD, List.getElem?_eq_getElem hxl]; simp
    have hr1 : ∀ i ∈ p.outs.getD x [], i ∉ outZ g x → res = false := fun i hi hn => by
      rw [← Bool.not_eq_true, hr]
      rintro ⟨_, _, h3, _⟩
      exact hn (h3 x hxl i hi)
    have hr2 : ∀ k, ¬ ((p.outs.take x).flatten ++ (p.outs.getD x []).take k).Nodup → res = false := fun k hn => by
      rw [← Bool.not_eq_true, hr]
      rintro ⟨_, _, _, h4, _⟩
      exact hn (List.Nodup.sublist (hpre k) h4)
    have hgn : (∀ i ∈ p.outs.getD x [], i ∈ outZ g x) → ∀ y : Nat, y < x + 1 → ∀ i ∈ p.outs.getD y [], i ∈ outZ g y := fun h y hy => by
      by_cases e : y = x
      · subst e; exact h
      · exact hgx y (by omega)
    generalize p.outs.getD x [] = l at hv hle hpre hnext hr1 hr2 hgn
    generalize (p.outs.take x).flatten = fl at hnd hpre hnext hr2
    clear hpre
    repeat' (first | fail | ((first | ((with_reducible (first | apply oA | apply oB)); exact rfl; intro K hK) | (refine hK _ ?_; clear hK K) | ((with_reducible (first | apply oG | apply oH)); iterate 3 exact rfl) | ((with_reducible apply oI); (iterate 2 exact rfl); intro K hK) | (with_reducible (first | apply wI | apply wJ | apply wK))); try simp only [go_sem, simprocAttr, hb, hv]) | fail | (with_reducible (first | apply oC | apply oJ | exact oK | apply wA | apply wB | apply wC hX hC | apply wD hX hC | apply wE hX hC hmix | apply wF hX hC hmix | apply wG | apply wH | apply And.intro)) | ((with_reducible refine oD ?_ ?_); first | fail | kernel_rfl) | ((with_reducible (first | apply oE | apply oF)); (iterate 3 exact rfl); all_goals (intro h; first | (exact absurd h (by decide)) | ((try simp only [go_sem, simprocAttr, hb, hv] at h); (try with_reducible intro K hK); simp only [go_sem, simprocAttr, hb, hv]))) | ((first | ((with_reducible apply wL); exact rfl) | ((with_reducible apply wM); exact rfl)); all_goals (try ((with_reducible intro h); first | (exact absurd h (by decide)) | (try simp only [go_sem, simprocAttr, hb, hv] at h)))) | omega | ((first | first | refine acall_simple hX hC hP (refGoodA_spec g hl) rfl rfl rfl (by simp only [go_sem, simprocAttr, hb, hv]) rfl ?_ | refine acall_simple hX hC hP (each_spec p.ord g.n ho) rfl rfl rfl (by simp only [go_sem, simprocAttr, hb, hv]) rfl ?_); try simp only [go_sem, simprocAttr, hb, hv]) | (intro h))
    clear hb
    refine awp_loopP (fun k : Nat => k ≤ l.length ∧ (fl ++ l.take k).Nodup ∧ ∀ i ∈ l.take k, i ∈ outZ g x) (fun k => ⟨[(2, .ptr 2 0), (3, .ptr 3 0), (5, .ref 32), (6, eN x), (7, eN k)], [(32, .own 3 1 ((cntL g.es.length (fl ++ l.take k)).map rI)), (3, .box [.d (sI p.ord), .d (.sl 1 (vI p.outs))]), (2, .box [eN g.n, .d (sE g.es)])]⟩) (fun k => l.length - k) 0 (by simpa using hnd) ?_ ?_
    · refine Le.of ?_ ?_ <;> simp [go_sem, simprocAttr]
    rintro k ⟨hk, hndk, hgk⟩
    rcases Nat.lt_or_ge k l.length with hkl | hkg
    · have hbk : decide ((k : Int) < (l.length : Int)) = true := decide_eq_true (by omega)
      have htk := take_snocI hkl
      have him := getD_memX (d := 0) hkl
      have hcl := cntL_len (m := g.es.length) (fl := fl ++ l.take k)
      generalize hi : l.getD k 0 = i at htk him
      by_cases h0 : i < 0
      · have hres := hr1 i him (fun h => by have := (outZ_iff.1 h).1; omega)
        subst hres
        have hb1 : decide (i < 0) = true := decide_eq_true h0
        repeat' (first | fail | ((first | ((with_reducible (first | apply oA | apply oB)); exact rfl; intro K hK) | (refine hK _ ?_; clear hK K) | ((with_reducible (first | apply oG | apply oH)); iterate 3 exact rfl) | ((with_reducible apply oI); (iterate 2 exact rfl); intro K hK) | (with_reducible (first | apply wI | apply wJ | apply wK))); try simp only [go_sem, simprocAttr, hbk, hv, hi, hb1]) | fail | (with_reducible (first | apply oC | apply oJ | exact oK | apply wA | apply wB | apply wC hX hC | apply wD hX hC | apply wE hX hC hmix | apply wF hX hC hmix | apply wG | apply wH | apply And.intro)) | ((with_reducible refine oD ?_ ?_); first | fail | kernel_rfl) | ((with_reducible (first | apply oE | apply oF)); (iterate 3 exact rfl); all_goals (intro h; first | (exact absurd h (by decide)) | ((try simp only [go_sem, simprocAttr, hbk, hv, hi, hb1] at h); (try with_reducible intro K hK); simp only [go_sem, simprocAttr, hbk, hv, hi, hb1]))) | ((first | ((with_reducible apply wL); exact rfl) | ((with_reducible apply wM); exact rfl)); all_goals (try ((with_reducible intro h); first | (exact absurd h (by decide)) | (try simp only [go_sem, simprocAttr, hbk, hv, hi, hb1] at h)))) | omega | ((first | first | refine acall_simple hX hC hP (refGoodA_spec g hl) rfl rfl rfl (by simp only [go_sem, simprocAttr, hbk, hv, hi, hb1]) rfl ?_ | refine acall_simple hX hC hP (each_spec p.ord g.n ho) rfl rfl rfl (by simp only [go_sem, simprocAttr, hbk, hv, hi, hb1]) rfl ?_); try simp only [go_sem, simprocAttr, hbk, hv, hi, hb1]) | (intro h))
      have hb1 : decide (i < 0) = false := decide_eq_false h0
      by_cases h1 : (g.es.length : Int) ≤ i
      · have hres := hr1 i him (fun h => by have := (outZ_iff.1 h).1; omega)
        subst hres
        have hb2 : decide ((g.es.length : Int) ≤ i) = true := decide_eq_true h1
        repeat' (first | fail | ((first | ((with_reducible (first | apply oA | apply oB)); exact rfl; intro K hK) | (refine hK _ ?_; clear hK K) | ((with_reducible (first | apply oG | apply oH)); iterate 3 exact rfl) | ((with_reducible apply oI); (iterate 2 exact rfl); intro K hK) | (with_reducible (first | apply wI | apply wJ | apply wK))); try simp only [go_sem, simprocAttr, hbk, hv, hi, hb1, hb2, hcl]) | fail | (with_reducible (first | apply oC | apply oJ | exact oK | apply wA | apply wB | apply wC hX hC | apply wD hX hC | apply wE hX hC hmix | apply wF hX hC hmix | apply wG | apply wH | apply And.intro)) | ((with_reducible refine oD ?_ ?_); first | fail | kernel_rfl) | ((with_reducible (first | apply oE | apply oF)); (iterate 3 exact rfl); all_goals (intro h; first | (exact absurd h (by decide)) | ((try simp only [go_sem, simprocAttr, hbk, hv, hi, hb1, hb2, hcl] at h); (try with_reducible intro K hK); simp only [go_sem, simprocAttr, hbk, hv, hi, hb1, hb2, hcl]))) | ((first | ((with_reducible apply wL); exact rfl) | ((with_reducible apply wM); exact rfl)); all_goals (try ((with_reducible intro h); first | (exact absurd h (by decide)) | (try simp only [go_sem, simprocAttr, hbk, hv, hi, hb1, hb2, hcl] at h)))) | omega | ((first | first | refine acall_simple hX hC hP (refGoodA_spec g hl) rfl rfl rfl (by simp only [go_sem, simprocAttr, hbk, hv, hi, hb1, hb2, hcl]) rfl ?_ | refine acall_simple hX hC hP (each_spec p.ord g.n ho) rfl rfl rfl (by simp only [go_sem, simprocAttr, hbk, hv, hi, hb1, hb2, hcl]) rfl ?_); try simp only [go_sem, simprocAttr, hbk, hv, hi, hb1, hb2, hcl]) | (intro h))
      have hb2 : decide ((g.es.length : Int) ≤ i) = false := decide_eq_false h1
      obtain ⟨e, rfl⟩ : ∃ e : Nat, i = e := ⟨i.toNat, by omega⟩
      have hel : e < g.es.length := by omega
      by_cases h2 : (g.es.getD e (0, 0)).1 = x
      rotate_left
      · have hres := hr1 _ him (fun h => h2 (by have := (outZ_iff.1 h).2; rwa [Int.toNat_natCast] at this))
        subst hres
        have hb3 : decide ((g.es.getD e (0, 0)).1 = (x : Int)) = false := decide_eq_false h2
        repeat' (first | fail | ((first | ((with_reducible (first | apply oA | apply oB)); exact rfl; intro K hK) | (refine hK _ ?_; clear hK K) | ((with_reducible (first | apply oG | apply oH)); iterate 3 exact rfl) | ((with_reducible apply oI); (iterate 2 exact rfl); intro K hK) | (with_reducible (first | apply wI | apply wJ | apply wK))); try simp only [go_sem, simprocAttr, hbk, hv, hi, hb1, hb2, hb3, hcl]) | fail | (with_reducible (first | apply oC | apply oJ | exact oK | apply wA | apply wB | apply wC hX hC | apply wD hX hC | apply wE hX hC hmix | apply wF hX hC hmix | apply wG | apply wH | apply And.intro)) | ((with_reducible refine oD ?_ ?_); first | fail | kernel_rfl) | ((with_reducible (first | apply oE | apply oF)); (iterate 3 exact rfl); all_goals (intro h; first | (exact absurd h (by decide)) | ((try simp only [go_sem, simprocAttr, hbk, hv, hi, hb1, hb2, hb3, hcl] at h); (try with_reducible intro K hK); simp only [go_sem, simprocAttr, hbk, hv, hi, hb1, hb2, hb3, hcl]))) | ((first | ((with_reducible apply wL); exact rfl) | ((with_reducible apply wM); exact rfl)); all_goals (try ((with_reducible intro h); first | (exact absurd h (by decide)) | (try simp only [go_sem, simprocAttr, hbk, hv, hi, hb1, hb2, hb3, hcl] at h)))) | omega | ((first | first | refine acall_simple hX hC hP (refGoodA_spec g hl) rfl rfl rfl (by simp only [go_sem, simprocAttr, hbk, hv, hi, hb1, hb2, hb3, hcl]) rfl ?_ | refine acall_simple hX hC hP (each_spec p.ord g.n ho) rfl rfl rfl (by simp only [go_sem, simprocAttr, hbk, hv, hi, hb1, hb2, hb3, hcl]) rfl ?_); try simp only [go_sem, simprocAttr, hbk, hv, hi, hb1, hb2, hb3, hcl]) | (intro h))
      have hb3 : decide ((g.es.getD e (0, 0)).1 = (x : Int)) = true := decide_eq_true h2
      have hct := cntL_at (fl := fl ++ l.take k) hel
      by_cases h3 : (e : Int) ∈ fl ++ l.take k
      · have hres := hr2 (k + 1) (fun h => by
          rw [htk, ← List.append_assoc, List.nodup_append] at h
          exact h.2.2 _ h3 _ (List.mem_singleton.2 rfl) rfl)
        subst hres
        rw [if_pos h3] at hct
        repeat' (first | fail | ((first | ((with_reducible (first | apply oA | apply oB)); exact rfl; intro K hK) | (refine hK _ ?_; clear hK K) | ((with_reducible (first | apply oG | apply oH)); iterate 3 exact rfl) | ((with_reducible apply oI); (iterate 2 exact rfl); intro K hK) | (with_reducible (first | apply wI | apply wJ | apply wK))); try simp only [go_sem, simprocAttr, hbk, hv, hi, hb1, hb2, hb3, hcl, hct]) | fail | (with_reducible (first | apply oC | apply oJ | exact oK | apply wA | apply wB | apply wC hX hC | apply wD hX hC | apply wE hX hC hmix | apply wF hX hC hmix | apply wG | apply wH | apply And.intro)) | ((with_reducible refine oD ?_ ?_); first | fail | kernel_rfl) | ((with_reducible (first | apply oE | apply oF)); (iterate 3 exact rfl); all_goals (intro h; first | (exact absurd h (by decide)) | ((try simp only [go_sem, simprocAttr, hbk, hv, hi, hb1, hb2, hb3, hcl, hct] at h); (try with_reducible intro K hK); simp only [go_sem, simprocAttr, hbk, hv, hi, hb1, hb2, hb3, hcl, hct]))) | ((first | ((with_reducible apply wL); exact rfl) | ((with_reducible apply wM); exact rfl)); all_goals (try ((with_reducible intro h); first | (exact absurd h (by decide)) | (try simp only [go_sem, simprocAttr, hbk, hv, hi, hb1, hb2, hb3, hcl, hct] at h)))) | omega | ((first | first | refine acall_simple hX hC hP (refGoodA_spec g hl) rfl rfl rfl (by simp only [go_sem, simprocAttr, hbk, hv, hi, hb1, hb2, hb3, hcl, hct]) rfl ?_ | refine acall_simple hX hC hP (each_spec p.ord g.n ho) rfl rfl rfl (by simp only [go_sem, simprocAttr, hbk, hv, hi, hb1, hb2, hb3, hcl, hct]) rfl ?_); try simp only [go_sem, simprocAttr, hbk, hv, hi, hb1, hb2, hb3, hcl, hct]) | (intro h))
      · rw [if_neg h3] at hct
        have hset := cntL_set (fl := fl ++ l.take k) hel
        rw [List.append_assoc, ← htk] at hset
        repeat' (first | fail | ((first | ((with_reducible (first | apply oA | apply oB)); exact rfl; intro K hK) | (refine hK _ ?_; clear hK K) | ((with_reducible (first | apply oG | apply oH)); iterate 3 exact rfl) | ((with_reducible apply oI); (iterate 2 exact rfl); intro K hK) | (with_reducible (first | apply wI | apply wJ | apply wK))); try simp only [go_sem, simprocAttr, hbk, hv, hi, hb1, hb2, hb3, hcl, hct]) | fail | (with_reducible (first | apply oC | apply oJ | exact oK | apply wA | apply wB | apply wC hX hC | apply wD hX hC | apply wE hX hC hmix | apply wF hX hC hmix | apply wG | apply wH | apply And.intro)) | ((with_reducible refine oD ?_ ?_); first | fail | kernel_rfl) | ((with_reducible (first | apply oE | apply oF)); (iterate 3 exact rfl); all_goals (intro h; first | (exact absurd h (by decide)) | ((try simp only [go_sem, simprocAttr, hbk, hv, hi, hb1, hb2, hb3, hcl, hct] at h); (try with_reducible intro K hK); simp only [go_sem, simprocAttr, hbk, hv, hi, hb1, hb2, hb3, hcl, hct]))) | ((first | ((with_reducible apply wL); exact rfl) | ((with_reducible apply wM); exact rfl)); all_goals (try ((with_reducible intro h); first | (exact absurd h (by decide)) | (try simp only [go_sem, simprocAttr, hbk, hv, hi, hb1, hb2, hb3, hcl, hct] at h)))) | omega | ((first | first | refine acall_simple hX hC hP (refGoodA_spec g hl) rfl rfl rfl (by simp only [go_sem, simprocAttr, hbk, hv, hi, hb1, hb2, hb3, hcl, hct]) rfl ?_ | refine acall_simple hX hC hP (each_spec p.ord g.n ho) rfl rfl rfl (by simp only [go_sem, simprocAttr, hbk, hv, hi, hb1, hb2, hb3, hcl, hct]) rfl ?_); try simp only [go_sem, simprocAttr, hbk, hv, hi, hb1, hb2, hb3, hcl, hct]) | (intro h))
        refine ⟨k + 1, ⟨by omega, ?_, ?_⟩, ?_, by omega⟩
        · rw [htk, ← List.append_assoc, List.nodup_append]
          exact ⟨hndk, by simp, fun a ha b hb h => h3 (by rw [List.mem_singleton] at hb; rw [← hb, ← h]; exact ha)⟩
        · intro j hj
          rw [htk, List.mem_append, List.mem_singleton] at hj
          rcases hj with hj | rfl
          · exact hgk j hj
          · exact outZ_iff.2 ⟨⟨by omega, by omega⟩, by rw [Int.toNat_natCast]; exact h2⟩
        · rw [← hset]
          refine Le.of ?_ ?_ <;> simp [go_sem, simprocAttr, hbk, hv, hi, hb1, hb2, hb3, hcl, hct, rI]
    · have hbk : decide ((k : Int) < (l.length : Int)) = false := decide_eq_false (by omega)
      obtain rfl : k = l.length := by omega
      rw [List.take_length] at hndk hgk
      repeat' (first | fail | ((first | ((with_reducible (first | apply oA | apply oB)); exact rfl; intro K hK) | (refine hK _ ?_; clear hK K) | ((with_reducible (first | apply oG | apply oH)); iterate 3 exact rfl) | ((with_reducible apply oI); (iterate 2 exact rfl); intro K hK) | (with_reducible (first | apply wI | apply wJ | apply wK))); try simp only [go_sem, simprocAttr, hbk, hv]) | fail | (with_reducible (first | apply oC | apply oJ | exact oK | apply wA | apply wB | apply wC hX hC | apply wD hX hC | apply wE hX hC hmix | apply wF hX hC hmix | apply wG | apply wH | apply And.intro)) | ((with_reducible refine oD ?_ ?_); first | fail | kernel_rfl) | ((with_reducible (first | apply oE | apply oF)); (iterate 3 exact rfl); all_goals (intro h; first | (exact absurd h (by decide)) | ((try simp only [go_sem, simprocAttr, hbk, hv] at h); (try with_reducible intro K hK); simp only [go_sem, simprocAttr, hbk, hv]))) | ((first | ((with_reducible apply wL); exact rfl) | ((with_reducible apply wM); exact rfl)); all_goals (try ((with_reducible intro h); first | (exact absurd h (by decide)) | (try simp only [go_sem, simprocAttr, hbk, hv] at h)))) | omega | ((first | first | refine acall_simple hX hC hP (refGoodA_spec g hl) rfl rfl rfl (by simp only [go_sem, simprocAttr, hbk, hv]) rfl ?_ | refine acall_simple hX hC hP (each_spec p.ord g.n ho) rfl rfl rfl (by simp only [go_sem, simprocAttr, hbk, hv]) rfl ?_); try simp only [go_sem, simprocAttr, hbk, hv]) | (intro h))
      refine ⟨x + 1, ⟨by omega, by rw [hnext]; exact hndk, hgn hgk⟩, ?_, by omega⟩
      rw [hnext]
      refine Le.of ?_ ?_ <;> simp [go_sem, simprocAttr, hbk, hv]
  have hb : decide ((x : Int) < (p.outs.length : Int)) = false := decide_eq_false (by omega)
  obtain rfl : x = p.outs.length := by omega
  rw [List.take_length] at hnd
  rw [List.take_length]
  have hcl := cntL_len (m := g.es.length) (fl := p.outs.flatten)
  repeat' (first | fail | ((first | ((with_reducible (first | apply oA | apply oB)); exact rfl; intro K hK) | (refine hK _ ?_; clear hK K) | ((with_reducible (first | apply oG | apply oH)); iterate 3 exact rfl) | ((with_reducible apply oI); (iterate 2 exact rfl); intro K hK) | (with_reducible (first | apply wI | apply wJ | apply wK))); try simp only [go_sem, simprocAttr, hb]) | fail | (with_reducible (first | apply oC | apply oJ | exact oK | apply wA | apply wB | apply wC hX hC | apply wD hX hC | apply wE hX hC hmix | apply wF hX hC hmix | apply wG | apply wH | apply And.intro)) | ((with_reducible refine oD ?_ ?_); first | fail | kernel_rfl) | ((with_reducible (first | apply oE | apply oF)); (iterate 3 exact rfl); all_goals (intro h; first | (exact absurd h (by decide)) | ((try simp only [go_sem, simprocAttr, hb] at h); (try with_reducible intro K hK); simp only [go_sem, simprocAttr, hb]))) | ((first | ((with_reducible apply wL); exact rfl) | ((with_reducible apply wM); exact rfl)); all_goals (try ((with_reducible intro h); first | (exact absurd h (by decide)) | (try simp only [go_sem, simprocAttr, hb] at h)))) | omega | ((first | first | refine acall_simple hX hC hP (refGoodA_spec g hl) rfl rfl rfl (by simp only [go_sem, simprocAttr, hb]) rfl ?_ | refine acall_simple hX hC hP (each_spec p.ord g.n ho) rfl rfl rfl (by simp only [go_sem, simprocAttr, hb]) rfl ?_); try simp only [go_sem, simprocAttr, hb]) | (intro h))
  clear hb
  refine awp_loopP (fun k : Nat => k ≤ g.es.length ∧ ∀ i : Nat, i < k → (i : Int) ∈ p.outs.flatten) (fun k => ⟨[(5, .ref 32), (9, eN k)], [(32, .own 3 1 ((cntL g.es.length p.outs.flatten).map rI))]⟩) (fun k => g.es.length - k) 0 (by simp) ?_ ?_
  · refine Le.of ?_ ?_ <;> simp [go_sem, simprocAttr]
  rintro k ⟨hk, hgk⟩
  rcases Nat.lt_or_ge k g.es.length with hkl | hkg
  · have hbk : decide ((k : Int) < (g.es.length : Int)) = true := decide_eq_true (by omega)
    have hct := cntL_at (fl := p.outs.flatten) hkl
    by_cases h3 : (k : Int) ∈ p.outs.flatten
    · rw [if_pos h3] at hct
      repeat' (first | fail | ((first | ((with_reducible (first | apply oA | apply oB)); exact rfl; intro K hK) | (refine hK _ ?_; clear hK K) | ((with_reducible (first | apply oG | apply oH)); iterate 3 exact rfl) | ((with_reducible apply oI); (iterate 2 exact rfl); intro K hK) | (with_reducible (first | apply wI | apply wJ | apply wK))); try simp only [go_sem, simprocAttr, hbk, hcl, hct]) | fail | (with_reducible (first | apply oC | apply oJ | exact oK | apply wA | apply wB | apply wC hX hC | apply wD hX hC | apply wE hX hC hmix | apply wF hX hC hmix | apply wG | apply wH | apply And.intro)) | ((with_reducible refine oD ?_ ?_); first | fail | kernel_rfl) | ((with_reducible (first | apply oE | apply oF)); (iterate 3 exact rfl); all_goals (intro h; first | (exact absurd h (by decide)) | ((try simp only [go_sem, simprocAttr, hbk, hcl, hct] at h); (try with_reducible intro K hK); simp only [go_sem, simprocAttr, hbk, hcl, hct]))) | ((first | ((with_reducible apply wL); exact rfl) | ((with_reducible apply wM); exact rfl)); all_goals (try ((with_reducible intro h); first | (exact absurd h (by decide)) | (try simp only [go_sem, simprocAttr, hbk, hcl, hct] at h)))) | omega | ((first | first | refine acall_simple hX hC hP (refGoodA_spec g hl) rfl rfl rfl (by simp only [go_sem, simprocAttr, hbk, hcl, hct]) rfl ?_ | refine acall_simple hX hC hP (each_spec p.ord g.n ho) rfl rfl rfl (by simp only [go_sem, simprocAttr, hbk, hcl, hct]) rfl ?_); try simp only [go_sem, simprocAttr, hbk, hcl, hct]) | (intro h))
      refine ⟨k + 1, ⟨by omega, fun i hi => ?_⟩, ?_, by omega⟩
      · by_cases e : i = k
        · subst e; exact h3
        · exact hgk i (by omega)
      · (refine Le.of ?_ ?_ <;> simp [go_sem, simprocAttr, hbk, hcl, hct])
    · rw [if_neg h3] at hct
      have hres : res = false := by
        rw [← Bool.not_eq_true, hr]
        rintro ⟨_, _, _, _, h5⟩
        exact h3 (h5 k hkl)
      subst hres
      repeat' (first | fail | ((first | ((with_reducible (first | apply oA | apply oB)); exact rfl; intro K hK) | (refine hK _ ?_; clear hK K) | ((with_reducible (first | apply oG | apply oH)); iterate 3 exact rfl) | ((with_reducible apply oI); (iterate 2 exact rfl); intro K hK) | (with_reducible (first | apply wI | apply wJ | apply wK))); try simp only [go_sem, simprocAttr, hbk, hcl, hct]) | fail | (with_reducible (first | apply oC | apply oJ | exact oK | apply wA | apply wB | apply wC hX hC | apply wD hX hC | apply wE hX hC hmix | apply wF hX hC hmix | apply wG | apply wH | apply And.intro)) | ((with_reducible refine oD ?_ ?_); first | fail | kernel_rfl) | ((with_reducible (first | apply oE | apply oF)); (iterate 3 exact rfl); all_goals (intro h; first | (exact absurd h (by decide)) | ((try simp only [go_sem, simprocAttr, hbk, hcl, hct] at h); (try with_reducible intro K hK); simp only [go_sem, simprocAttr, hbk, hcl, hct]))) | ((first | ((with_reducible apply wL); exact rfl) | ((with_reducible apply wM); exact rfl)); all_goals (try ((with_reducible intro h); first | (exact absurd h (by decide)) | (try simp only [go_sem, simprocAttr, hbk, hcl, hct] at h)))) | omega | ((first | first | refine acall_simple hX hC hP (refGoodA_spec g hl) rfl rfl rfl (by simp only [go_sem, simprocAttr, hbk, hcl, hct]) rfl ?_ | refine acall_simple hX hC hP (each_spec p.ord g.n ho) rfl rfl rfl (by simp only [go_sem, simprocAttr, hbk, hcl, hct]) rfl ?_); try simp only [go_sem, simprocAttr, hbk, hcl, hct]) | (intro h))
  · have hbk : decide ((k : Int) < (g.es.length : Int)) = false := decide_eq_false (by omega)
    obtain rfl : k = g.es.length := by omega
    have hres : res = true := hr.2 ⟨he1, he2, hgx, hnd, hgk⟩
    subst hres
    repeat' (first | fail | ((first | ((with_reducible (first | apply oA | apply oB)); exact rfl; intro K hK) | (refine hK _ ?_; clear hK K) | ((with_reducible (first | apply oG | apply oH)); iterate 3 exact rfl) | ((with_reducible apply oI); (iterate 2 exact rfl); intro K hK) | (with_reducible (first | apply wI | apply wJ | apply wK))); try simp only [go_sem, simprocAttr, hbk, hcl]) | fail | (with_reducible (first | apply oC | apply oJ | exact oK | apply wA | apply wB | apply wC hX hC | apply wD hX hC | apply wE hX hC hmix | apply wF hX hC hmix | apply wG | apply wH | apply And.intro)) | ((with_reducible refine oD ?_ ?_); first | fail | kernel_rfl) | ((with_reducible (first | apply oE | apply oF)); (iterate 3 exact rfl); all_goals (intro h; first | (exact absurd h (by decide)) | ((try simp only [go_sem, simprocAttr, hbk, hcl] at h); (try with_reducible intro K hK); simp only [go_sem, simprocAttr, hbk, hcl]))) | ((first | ((with_reducible apply wL); exact rfl) | ((with_reducible apply wM); exact rfl)); all_goals (try ((with_reducible intro h); first | (exact absurd h (by decide)) | (try simp only [go_sem, simprocAttr, hbk, hcl] at h)))) | omega | ((first | first | refine acall_simple hX hC hP (refGoodA_spec g hl) rfl rfl rfl (by simp only [go_sem, simprocAttr, hbk, hcl]) rfl ?_ | refine acall_simple hX hC hP (each_spec p.ord g.n ho) rfl rfl rfl (by simp only [go_sem, simprocAttr, hbk, hcl]) rfl ?_); try simp only [go_sem, simprocAttr, hbk, hcl]) | (intro h))
end Go.Ab
end
section
namespace Go.Ab
open Go.Proofs
attribute [local congr] ACall.congr
set_option maxRecDepth 10000
set_option maxHeartbeats 8000000

/-- What comes of a plan: what ends at each vertex, the row at the end; the error, its place. -/
def runRes (b : Bool) (g : Gr) (p : Pl) : (List (List It) × List It) × Int × Int :=
  if b = false then (([], []), (1, 0)) else
  match stopK g p g.n.toNat with
  | some i => (([], []), (3, (i : Int)))
  | none => ((endR g p g.n.toNat, (fK g p g.n.toNat).row), (0, 0))
theorem rep_vT {n : Nat} : List.replicate n [D.sl 3 []] = vT (List.replicate n []) := by simp [vT, sT]
theorem vT_set {ls : List (List It)} {k : Nat} {l : List It} : (vT ls).set k [sT l] = vT (ls.set k l) := by simp [vT, List.map_set]
theorem endR_next {g : Gr} {p : Pl} {k : Nat} : endR g p (k + 1) = (endR g p k).set (oAt p k).toNat (goneK g p k) := rfl
theorem refRun_spec (g : Gr) (hl : g.es.length ≤ 9223372036854775807) (p : Pl) (hp : PlLen p) (b : Bool) (hr : b = true ↔ (chkG g).1 = 0 ∧ PlanOk g p) :
    Spec Try.prog 48 (Args [eG g, ePl p]) [] (.tup [.d (.sl 1 (vT (runRes b g p).1.1)), .d (sT (runRes b g p).1.2), eN (runRes b g p).2.1, eN (runRes b g p).2.2]) [] := by
  have hO := ofR_spec g hl p hp b hr
  cases b with
  | false =>
    have hR : runRes false g p = (([], []), (1, 0)) := rfl
    rw [hR]
    (refine Spec.intro (C := T.cfg [] []) (rs := [.t 4, .t 5, .t 6, .t 7]) (T.cfg_ok _ _) Try.func48 rfl rfl Try.ntmps48 Try.results48 (by simp [AObj.isNest]) (by simp [AObj.isNest]) (by kernel_rfl) ?_; intro X hX hP hC hXn hXm vals hA; refine ⟨_, by simp, hA, ?_⟩; have hmix : X.P.follows .mixedOrders = true := (by rw [hP]; exact T.mixed); clear hXn hXm)
    repeat' (first | fail | ((first | ((with_reducible (first | apply oA | apply oB)); exact rfl; intro K hK) | (refine hK _ ?_; clear hK K) | ((with_reducible (first | apply oG | apply oH)); iterate 3 exact rfl) | ((with_reducible apply oI); (iterate 2 exact rfl); intro K hK) | (with_reducible (first | apply wI | apply wJ | apply wK))); try simp only [go_sem, simprocAttr, vT, List.map_nil]) | fail | (with_reducible (first | apply oC | apply oJ | exact oK | apply wA | apply wB | apply wC hX hC | apply wD hX hC | apply wE hX hC hmix | apply wF hX hC hmix | apply wG | apply wH | apply And.intro)) | ((with_reducible refine oD ?_ ?_); first | fail | kernel_rfl) | ((with_reducible (first | apply oE | apply oF)); (iterate 3 exact rfl); all_goals (intro h; first | (exact absurd h (by decide)) | ((try simp only [go_sem, simprocAttr, vT, List.map_nil] at h); (try with_reducible intro K hK); simp only [go_sem, simprocAttr, vT, List.map_nil]))) | ((first | ((with_reducible apply wL); exact rfl) | ((with_reducible apply wM); exact rfl)); all_goals (try ((with_reducible intro h); first | (exact absurd h (by decide)) | (try simp only [go_sem, simprocAttr, vT, List.map_nil] at h)))) | omega | ((first | first | refine acall_simple hX hC hP (hO) rfl rfl rfl (by simp only [go_sem, simprocAttr, vT, List.map_nil]) rfl ?_); try simp only [go_sem, simprocAttr, vT, List.map_nil]) | (intro h))
  | true =>
  obtain ⟨hc, hpo⟩ := hr.1 rfl
  have hm := good_may hc
  have hn := mayB_n hm
  have hle := plan_len hpo
  have hR : runRes true g p = match stopK g p g.n.toNat with
    | some i => (([], []), (3, (i : Int)))
    | none => ((endR g p g.n.toNat, (fK g p g.n.toNat).row), (0, 0)) := rfl
  generalize runRes true g p = R at hR
  (refine Spec.intro (C := T.cfg [] []) (rs := [.t 4, .t 5, .t 6, .t 7]) (T.cfg_ok _ _) Try.func48 rfl rfl Try.ntmps48 Try.results48 (by simp [AObj.isNest]) (by simp [AObj.isNest]) (by kernel_rfl) ?_; intro X hX hP hC hXn hXm vals hA; refine ⟨_, by simp, hA, ?_⟩; have hmix : X.P.follows .mixedOrders = true := (by rw [hP]; exact T.mixed); clear hXn hXm)
  repeat' (first | fail | ((first | ((with_reducible (first | apply oA | apply oB)); exact rfl; intro K hK) | (refine hK _ ?_; clear hK K) | ((with_reducible (first | apply oG | apply oH)); iterate 3 exact rfl) | ((with_reducible apply oI); (iterate 2 exact rfl); intro K hK) | (with_reducible (first | apply wI | apply wJ | apply wK))); try simp only [go_sem, simprocAttr]) | (show awp _ (.seq (.region 4 _ _) _) _ _; (refine awp_nilD 20 2 3 rfl rfl rfl ?_; simp only [LA.app, ASt.put, ASt.kill, putM, rml, List.set_cons_zero, List.set_cons_succ, go_sem, simprocAttr]); (refine awp_nilD 20 3 1 rfl rfl rfl ?_; simp only [LA.app, ASt.put, ASt.kill, putM, rml, List.set_cons_zero, List.set_cons_succ, go_sem, simprocAttr])) | (with_reducible (first | apply oC | apply oJ | exact oK | apply wA | apply wB | apply wC hX hC | apply wD hX hC | apply wE hX hC hmix | apply wF hX hC hmix | apply wG | apply wH | apply And.intro)) | ((with_reducible refine oD ?_ ?_); first | fail | kernel_rfl) | ((with_reducible (first | apply oE | apply oF)); (iterate 3 exact rfl); all_goals (intro h; first | (exact absurd h (by decide)) | ((try simp only [go_sem, simprocAttr] at h); (try with_reducible intro K hK); simp only [go_sem, simprocAttr]))) | ((first | ((with_reducible apply wL); exact rfl) | ((with_reducible apply wM); exact rfl)); all_goals (try ((with_reducible intro h); first | (exact absurd h (by decide)) | (try simp only [go_sem, simprocAttr] at h)))) | omega | ((first | first | refine acall_simple hX hC hP (hO) rfl rfl rfl (by simp only [go_sem, simprocAttr]) rfl ?_); try simp only [go_sem, simprocAttr]) | (intro h))
  rw [rep_vT]
  refine awp_loopP (fun k : Nat => k ≤ g.n.toNat ∧ ∀ j, j < k → okK g p j = true) (fun k => ⟨[(2, .ptr 2 0), (3, .ptr 3 0), (8, .ptr 20 0), (9, .ref 23), (10, eN k)], [(23, .own 55 1 (vT (endR g p k))), (20, .box (rfC g (fK g p k))), (3, .box [.d (sI p.ord), .d (.sl 1 (vI p.outs))]), (2, .box [eN g.n, .d (sE g.es)])]⟩) (fun k => g.n.toNat - k) 0 (by simp) ?_ ?_
  · refine Le.of ?_ ?_ <;> simp [go_sem, simprocAttr, rfC, fK, endR]
  rintro k ⟨hk, hok⟩
  obtain ⟨hi, _, hrl⟩ := run_inv hm hpo hk hok
  have hel := endR_len (g := g) (p := p) (k := k)
  rcases Nat.lt_or_ge k g.n.toNat with hlt | hge
  · have hb : decide ((k : Int) < (p.ord.length : Int)) = true := decide_eq_true (by omega)
    have hxm := oAt_mem hpo hlt
    have hnx := endR_next (g := g) (p := p) (k := k)
    have hfx : fK g p (k + 1) = (succF g (fK g p k) (oAt p k) (lAt p (oAt p k))).2 := rfl
    have hgx : goneK g p k = (succF g (fK g p k) (oAt p k) (lAt p (oAt p k))).1.1 := rfl
    have hpk := place_ok hpo hlt
    have hpn := place_no (g := g) (p := p) (k := k)
    have hsk : okK g p k = false → R = (([], []), (3, (k : Int))) := fun h => by
      rw [hR, stopK_some.2 ⟨hlt, h, hok⟩]
    have hmul : k * (g.es.length + 1) ≤ 64 * 129 := Nat.mul_le_mul (by omega) (by omega)
    have hll := lAt_len hpo hxm.1 hxm.2
    have hxo : p.ord.getD k 0 = oAt p k := rfl
    have hplen : (fK g p k).pl.length ≤ 64 := by
      rcases pl_le hi.toFrInv with h | h
      · omega
      · rw [h]; simp
    obtain ⟨x, hx⟩ : ∃ x : Nat, oAt p k = x := ⟨(oAt p k).toNat, by omega⟩
    rw [hx] at hxo hfx hgx hpk hpn hxm hll hnx
    have hxl : x < p.outs.length := by have := hpo.1; omega
    have hv := vI_getD hxl
    have hla : lAt p (x : Int) = p.outs.getD x [] := by unfold lAt; rw [Int.toNat_natCast]
    rw [hla] at hfx hgx hpk hpn hll
    rw [Int.toNat_natCast] at hnx
    have hPl := rPlace_spec g (by omega) (fK g p k) (x : Int) (p.outs.getD x []) (by omega) (by omega) (by omega)
    have hset := vT_set (ls := endR g p k) (k := x) (l := goneK g p k)
    generalize p.outs.getD x [] = o at hv hfx hgx hpk hpn hPl
    rw [← hnx] at hset
    generalize fK g p k = f at hfx hgx hpk hpn hPl hi hrl hplen
    cases hok1 : okK g p k with
    | false =>
      rw [hpn hok1] at hPl
      have hRk := hsk hok1
      subst hRk
      repeat' (first | fail | ((first | ((with_reducible (first | apply oA | apply oB)); exact rfl; intro K hK) | (refine hK _ ?_; clear hK K) | ((with_reducible (first | apply oG | apply oH)); iterate 3 exact rfl) | ((with_reducible apply oI); (iterate 2 exact rfl); intro K hK) | (with_reducible (first | apply wI | apply wJ | apply wK))); try simp only [go_sem, simprocAttr, hb, hxo, hv, rfC, vT, List.map_nil]) | fail | (with_reducible (first | apply oC | apply oJ | exact oK | apply wA | apply wB | apply wC hX hC | apply wD hX hC | apply wE hX hC hmix | apply wF hX hC hmix | apply wG | apply wH | apply And.intro)) | ((with_reducible refine oD ?_ ?_); first | fail | kernel_rfl) | ((with_reducible (first | apply oE | apply oF)); (iterate 3 exact rfl); all_goals (intro h; first | (exact absurd h (by decide)) | ((try simp only [go_sem, simprocAttr, hb, hxo, hv, rfC, vT, List.map_nil] at h); (try with_reducible intro K hK); simp only [go_sem, simprocAttr, hb, hxo, hv, rfC, vT, List.map_nil]))) | ((first | ((with_reducible apply wL); exact rfl) | ((with_reducible apply wM); exact rfl)); all_goals (try ((with_reducible intro h); first | (exact absurd h (by decide)) | (try simp only [go_sem, simprocAttr, hb, hxo, hv, rfC, vT, List.map_nil] at h)))) | omega | ((first | first | (refine acall_gen hX hC hP [(10000, 20)] (hPl) rfl rfl rfl ?_ ?_ ?_ ?_ ?_ ?_ ?_ ?_ ?_ ?_ ?_ ?_ ?_ ?_; (focus (simp only [go_sem, simprocAttr, hb, hxo, hv, rfC, vT, List.map_nil]; done)); (iterate 12 (focus (simp [go_sem, simprocAttr, hb, hxo, hv, rfC, vT, List.map_nil]; done))); simp only [go_sem, simprocAttr, hb, hxo, hv, rfC, vT, List.map_nil, List.map_cons, List.map_nil])); try simp only [go_sem, simprocAttr, hb, hxo, hv, rfC, vT, List.map_nil]) | (intro h))
    | true =>
      rw [hpk hok1] at hPl
      have hcode : (succF g f (x : Int) o).1.2 = 0 := rfl
      rw [hgx] at hset
      generalize succF g f (x : Int) o = su at hfx hgx hPl hcode hset
      have hxe : x < (endR g p k).length := by omega
      generalize hEk : endR g p k = E at hset hxe hel
      have hvl : (vT E).length = E.length := vT_length
      have hvd := fun d => vT_getD hxe d
      repeat' (first | fail | ((first | ((with_reducible (first | apply oA | apply oB)); exact rfl; intro K hK) | (refine hK _ ?_; clear hK K) | ((with_reducible (first | apply oG | apply oH)); iterate 3 exact rfl) | ((with_reducible apply oI); (iterate 2 exact rfl); intro K hK) | (with_reducible (first | apply wI | apply wJ | apply wK))); try simp only [go_sem, simprocAttr, hb, hxo, hv, rfC, hcode, hset, hvd, List.drop_succ_cons, List.drop_zero]) | fail | (with_reducible (first | apply oC | apply oJ | exact oK | apply wA | apply wB | apply wC hX hC | apply wD hX hC | apply wE hX hC hmix | apply wF hX hC hmix | apply wG | apply wH | apply And.intro)) | ((with_reducible refine oD ?_ ?_); first | fail | kernel_rfl) | ((with_reducible (first | apply oE | apply oF)); (iterate 3 exact rfl); all_goals (intro h; first | (exact absurd h (by decide)) | ((try simp only [go_sem, simprocAttr, hb, hxo, hv, rfC, hcode, hset, hvd, List.drop_succ_cons, List.drop_zero] at h); (try with_reducible intro K hK); simp only [go_sem, simprocAttr, hb, hxo, hv, rfC, hcode, hset, hvd, List.drop_succ_cons, List.drop_zero]))) | ((first | ((with_reducible apply wL); exact rfl) | ((with_reducible apply wM); exact rfl)); all_goals (try ((with_reducible intro h); first | (exact absurd h (by decide)) | (try simp only [go_sem, simprocAttr, hb, hxo, hv, rfC, hcode, hset, hvd, List.drop_succ_cons, List.drop_zero] at h)))) | omega | ((first | first | (refine acall_gen hX hC hP [(10000, 20)] (hPl) rfl rfl rfl ?_ ?_ ?_ ?_ ?_ ?_ ?_ ?_ ?_ ?_ ?_ ?_ ?_ ?_; (focus (simp only [go_sem, simprocAttr, hb, hxo, hv, rfC, hcode, hset, hvd, List.drop_succ_cons, List.drop_zero]; done)); (iterate 12 (focus (simp [go_sem, simprocAttr, hb, hxo, hv, rfC, hcode, hset, hvd, List.drop_succ_cons, List.drop_zero]; done))); simp only [go_sem, simprocAttr, hb, hxo, hv, rfC, hcode, hset, hvd, List.drop_succ_cons, List.drop_zero, List.map_cons, List.map_nil])); try simp only [go_sem, simprocAttr, hb, hxo, hv, rfC, hcode, hset, hvd, List.drop_succ_cons, List.drop_zero]) | (intro h))
      refine ⟨k + 1, ⟨by omega, fun j hj => ?_⟩, ?_, by omega⟩
      · by_cases e : j = k
        · subst e; exact hok1
        · exact hok j (by omega)
      · rw [hfx]
        have hset2 : (vT E).set x [D.sl 3 (List.map rT su.1.1)] = vT (endR g p (k + 1)) := hset
        refine Le.of ?_ ?_ <;> simp [go_sem, simprocAttr, hb, hxo, hv, rfC, hcode, hset, hvd, List.drop_succ_cons, List.drop_zero, hset2]
  have hb : decide ((k : Int) < (p.ord.length : Int)) = false := decide_eq_false (by omega)
  obtain rfl : k = g.n.toNat := by omega
  rw [stopK_none.2 hok] at hR
  subst hR
  repeat' (first | fail | ((first | ((with_reducible (first | apply oA | apply oB)); exact rfl; intro K hK) | (refine hK _ ?_; clear hK K) | ((with_reducible (first | apply oG | apply oH)); iterate 3 exact rfl) | ((with_reducible apply oI); (iterate 2 exact rfl); intro K hK) | (with_reducible (first | apply wI | apply wJ | apply wK))); try simp only [go_sem, simprocAttr, hb, rfC]) | fail | (with_reducible (first | apply oC | apply oJ | exact oK | apply wA | apply wB | apply wC hX hC | apply wD hX hC | apply wE hX hC hmix | apply wF hX hC hmix | apply wG | apply wH | apply And.intro)) | ((with_reducible refine oD ?_ ?_); first | fail | kernel_rfl) | ((with_reducible (first | apply oE | apply oF)); (iterate 3 exact rfl); all_goals (intro h; first | (exact absurd h (by decide)) | ((try simp only [go_sem, simprocAttr, hb, rfC] at h); (try with_reducible intro K hK); simp only [go_sem, simprocAttr, hb, rfC]))) | ((first | ((with_reducible apply wL); exact rfl) | ((with_reducible apply wM); exact rfl)); all_goals (try ((with_reducible intro h); first | (exact absurd h (by decide)) | (try simp only [go_sem, simprocAttr, hb, rfC] at h)))) | omega | ((first | fail); try simp only [go_sem, simprocAttr, hb, rfC]) | (intro h))
end Go.Ab
end
section
namespace Go.Ab
open Go.Proofs
attribute [local congr] ACall.congr
set_option maxRecDepth 10000
set_option maxHeartbeats 8000000

theorem sweepRun_spec (g : Gr) (hl : g.es.length ≤ 1000) (p : Pl) (hp : PlLen p) (b : Bool) (hr : b = true ↔ (chkG g).1 = 0 ∧ PlanOk g p) :
    Spec Try.prog 25 (Args [eG g, ePl p]) [] (.tup [.d (.sl 1 (vT (runRes b g p).1.1)), .d (sT (runRes b g p).1.2), eF ((runRes b g p).2.1, (runRes b g p).2.2, [])]) [] := by
  by_cases hc : (chkG g).1 = 0
  rotate_left
  · obtain rfl : b = false := by
      rw [← Bool.not_eq_true, hr]
      exact fun h => hc h.1
    have hR : runRes false g p = (([], []), (1, 0)) := rfl
    rw [hR]
    (refine Spec.intro (C := T.cfg [] []) (rs := [.t 4, .t 5, .c 6 34]) (T.cfg_ok _ _) Try.func25 rfl rfl Try.ntmps25 Try.results25 (by simp [AObj.isNest]) (by simp [AObj.isNest]) (by kernel_rfl) ?_; intro X hX hP hC hXn hXm vals hA; refine ⟨_, by simp, hA, ?_⟩; have hmix : X.P.follows .mixedOrders = true := (by rw [hP]; exact T.mixed); clear hXn hXm)
    repeat' (first | fail | ((first | ((with_reducible (first | apply oA | apply oB)); exact rfl; intro K hK) | (refine hK _ ?_; clear hK K) | ((with_reducible (first | apply oG | apply oH)); iterate 3 exact rfl) | ((with_reducible apply oI); (iterate 2 exact rfl); intro K hK) | (with_reducible (first | apply wI | apply wJ | apply wK))); try simp only [go_sem, simprocAttr, vT, List.map_nil]) | fail | (with_reducible (first | apply oC | apply oJ | exact oK | apply wA | apply wB | apply wC hX hC | apply wD hX hC | apply wE hX hC hmix | apply wF hX hC hmix | apply wG | apply wH | apply And.intro)) | ((with_reducible refine oD ?_ ?_); first | fail | kernel_rfl) | ((with_reducible (first | apply oE | apply oF)); (iterate 3 exact rfl); all_goals (intro h; first | (exact absurd h (by decide)) | ((try simp only [go_sem, simprocAttr, vT, List.map_nil] at h); (try with_reducible intro K hK); simp only [go_sem, simprocAttr, vT, List.map_nil]))) | ((first | ((with_reducible apply wL); exact rfl) | ((with_reducible apply wM); exact rfl)); all_goals (try ((with_reducible intro h); first | (exact absurd h (by decide)) | (try simp only [go_sem, simprocAttr, vT, List.map_nil] at h)))) | omega | ((first | first | refine acall_simple hX hC hP (newN_spec g hl hc) rfl rfl rfl (by simp only [go_sem, simprocAttr, vT, List.map_nil]) rfl ?_); try simp only [go_sem, simprocAttr, vT, List.map_nil]) | (intro h))
  have hm := good_may hc
  have hn := mayB_n hm
  have hr : b = true ↔ PlanOk g p := by rw [hr]; exact ⟨fun h => h.2, fun h => ⟨hc, h⟩⟩
  have hO := ofS_spec g hm p hp b hr
  cases b with
  | false =>
    have hR : runRes false g p = (([], []), (1, 0)) := rfl
    rw [hR]
    (refine Spec.intro (C := T.cfg [] []) (rs := [.t 4, .t 5, .c 6 34]) (T.cfg_ok _ _) Try.func25 rfl rfl Try.ntmps25 Try.results25 (by simp [AObj.isNest]) (by simp [AObj.isNest]) (by kernel_rfl) ?_; intro X hX hP hC hXn hXm vals hA; refine ⟨_, by simp, hA, ?_⟩; have hmix : X.P.follows .mixedOrders = true := (by rw [hP]; exact T.mixed); clear hXn hXm)
    repeat' (first | fail | ((first | ((with_reducible (first | apply oA | apply oB)); exact rfl; intro K hK) | (refine hK _ ?_; clear hK K) | ((with_reducible (first | apply oG | apply oH)); iterate 3 exact rfl) | ((with_reducible apply oI); (iterate 2 exact rfl); intro K hK) | (with_reducible (first | apply wI | apply wJ | apply wK))); try simp only [go_sem, simprocAttr, vT, List.map_nil]) | fail | (with_reducible (first | apply oC | apply oJ | exact oK | apply wA | apply wB | apply wC hX hC | apply wD hX hC | apply wE hX hC hmix | apply wF hX hC hmix | apply wG | apply wH | apply And.intro)) | ((with_reducible refine oD ?_ ?_); first | fail | kernel_rfl) | ((with_reducible (first | apply oE | apply oF)); (iterate 3 exact rfl); all_goals (intro h; first | (exact absurd h (by decide)) | ((try simp only [go_sem, simprocAttr, vT, List.map_nil] at h); (try with_reducible intro K hK); simp only [go_sem, simprocAttr, vT, List.map_nil]))) | ((first | ((with_reducible apply wL); exact rfl) | ((with_reducible apply wM); exact rfl)); all_goals (try ((with_reducible intro h); first | (exact absurd h (by decide)) | (try simp only [go_sem, simprocAttr, vT, List.map_nil] at h)))) | omega | ((first | first | (refine acall_genC hX hC hP [(10000, 13)] (newF_spec g hl hc hm) rfl rfl rfl ?_ ?_ ?_ ?_ ?_ ?_ ?_ ?_ ?_ ?_ ?_ ?_ ?_ ?_; (focus (simp only [go_sem, simprocAttr, vT, List.map_nil]; done)); (iterate 12 (focus (simp [go_sem, simprocAttr, vT, List.map_nil]; done))); simp only [go_sem, simprocAttr, vT, List.map_nil, List.map_cons, List.map_nil]) | refine acall_simple hX hC hP (of_spec g hm) rfl rfl rfl (by simp only [go_sem, simprocAttr, vT, List.map_nil]) rfl ?_ | refine acall_simple hX hC hP (hO) rfl rfl rfl (by simp only [go_sem, simprocAttr, vT, List.map_nil]) rfl ?_); try simp only [go_sem, simprocAttr, vT, List.map_nil]) | (intro h))
  | true =>
  have hpo := hr.1 rfl
  have hle := plan_len hpo
  have hR : runRes true g p = match stopK g p g.n.toNat with
    | some i => (([], []), (3, (i : Int)))
    | none => ((endR g p g.n.toNat, (fK g p g.n.toNat).row), (0, 0)) := rfl
  generalize runRes true g p = R at hR
  (refine Spec.intro (C := T.cfg [] []) (rs := [.t 4, .t 5, .c 6 34]) (T.cfg_ok _ _) Try.func25 rfl rfl Try.ntmps25 Try.results25 (by simp [AObj.isNest]) (by simp [AObj.isNest]) (by kernel_rfl) ?_; intro X hX hP hC hXn hXm vals hA; refine ⟨_, by simp, hA, ?_⟩; have hmix : X.P.follows .mixedOrders = true := (by rw [hP]; exact T.mixed); clear hXn hXm)
  repeat' (first | fail | ((first | ((with_reducible (first | apply oA | apply oB)); exact rfl; intro K hK) | (refine hK _ ?_; clear hK K) | ((with_reducible (first | apply oG | apply oH)); iterate 3 exact rfl) | ((with_reducible apply oI); (iterate 2 exact rfl); intro K hK) | (with_reducible (first | apply wI | apply wJ | apply wK))); try simp only [go_sem, simprocAttr]) | (show awp _ (.seq (.region 5 _ _) _) _ _; (refine awp_nilD 13 0 3 rfl rfl rfl ?_; simp only [LA.app, ASt.put, ASt.kill, putM, rml, List.set_cons_zero, List.set_cons_succ, go_sem, simprocAttr]); (refine awp_newB hX 13 2 100 (.tip 3 1 []) rfl rfl rfl (by simp only [go_sem, simprocAttr]) (by decide) (by simp [go_sem, simprocAttr]) ⟨3, 1, by decide, .inr rfl⟩ ?_; simp only [LA.app, ASt.put, ASt.kill, subT, rmk, putM, rml, kl, AV.sub, AV.subs, AObj.sub, List.set_cons_zero, List.set_cons_succ, go_sem, simprocAttr])) | (with_reducible (first | apply oC | apply oJ | exact oK | apply wA | apply wB | apply wC hX hC | apply wD hX hC | apply wE hX hC hmix | apply wF hX hC hmix | apply wG | apply wH | apply And.intro)) | ((with_reducible refine oD ?_ ?_); first | fail | kernel_rfl) | ((with_reducible (first | apply oE | apply oF)); (iterate 3 exact rfl); all_goals (intro h; first | (exact absurd h (by decide)) | ((try simp only [go_sem, simprocAttr] at h); (try with_reducible intro K hK); simp only [go_sem, simprocAttr]))) | ((first | ((with_reducible apply wL); exact rfl) | ((with_reducible apply wM); exact rfl)); all_goals (try ((with_reducible intro h); first | (exact absurd h (by decide)) | (try simp only [go_sem, simprocAttr] at h)))) | omega | ((first | first | (refine acall_genC hX hC hP [(10000, 13)] (newF_spec g hl hc hm) rfl rfl rfl ?_ ?_ ?_ ?_ ?_ ?_ ?_ ?_ ?_ ?_ ?_ ?_ ?_ ?_; (focus (simp only [go_sem, simprocAttr]; done)); (iterate 12 (focus (simp [go_sem, simprocAttr]; done))); simp only [go_sem, simprocAttr, List.map_cons, List.map_nil]) | refine acall_simple hX hC hP (of_spec g hm) rfl rfl rfl (by simp only [go_sem, simprocAttr]) rfl ?_ | refine acall_simple hX hC hP (hO) rfl rfl rfl (by simp only [go_sem, simprocAttr]) rfl ?_); try simp only [go_sem, simprocAttr]) | (intro h))
  rw [rep_vT]
  refine awp_loopP (fun k : Nat => k ≤ g.n.toNat ∧ ∀ j, j < k → okK g p j = true) (fun k => ⟨[(3, .ptr 3 0), (4, .ref 28), (6, .ptr 6 0), (7, .ptr 13 0), (30, .d (sI p.ord)), (31, eN p.ord.length), (32, eN k)], [(28, .own 55 1 (vT (endR g p k))), (13, .box [.d (sT (fK g p k).row), .d (vw g), .ref 100]), (100, .tip 3 1 ((fK g p k).pl.map rI)), (6, .box [eN 0, eN 0, .nil 3]), (3, .box [.d (sI p.ord), .d (.sl 1 (vI p.outs))])]⟩) (fun k => g.n.toNat - k) 0 (by simp) ?_ ?_
  · refine Le.of ?_ ?_ <;> simp [go_sem, simprocAttr, rfC, fK, endR]
  rintro k ⟨hk, hok⟩
  obtain ⟨hi, _, hrl⟩ := run_inv hm hpo hk hok
  have hel := endR_len (g := g) (p := p) (k := k)
  have hmul : k * (g.es.length + 1) ≤ 64 * 129 := Nat.mul_le_mul (by omega) (by omega)
  rcases Nat.lt_or_ge k g.n.toNat with hlt | hge
  · have hb : decide ((k : Int) < (p.ord.length : Int)) = true := decide_eq_true (by omega)
    have hxm := oAt_mem hpo hlt
    have hnx := endR_next (g := g) (p := p) (k := k)
    have hfx : fK g p (k + 1) = (succF g (fK g p k) (oAt p k) (lAt p (oAt p k))).2 := rfl
    have hgx : goneK g p k = (succF g (fK g p k) (oAt p k) (lAt p (oAt p k))).1.1 := rfl
    have hpk := place_ok hpo hlt
    have hpn := place_no (g := g) (p := p) (k := k)
    have hsk : okK g p k = false → R = (([], []), (3, (k : Int))) := fun h => by
      rw [hR, stopK_some.2 ⟨hlt, h, hok⟩]
    have hll := lAt_len hpo hxm.1 hxm.2
    have hxo : p.ord.getD k 0 = oAt p k := rfl
    have hplen : (fK g p k).pl.length ≤ 64 := by
      rcases pl_le hi.toFrInv with h | h
      · omega
      · rw [h]; simp
    obtain ⟨x, hx⟩ : ∃ x : Nat, oAt p k = x := ⟨(oAt p k).toNat, by omega⟩
    rw [hx] at hxo hfx hgx hpk hpn hxm hll hnx
    have hxl : x < p.outs.length := by have := hpo.1; omega
    have hv := vI_getD hxl
    have hla : lAt p (x : Int) = p.outs.getD x [] := by unfold lAt; rw [Int.toNat_natCast]
    rw [hla] at hfx hgx hpk hpn hll
    rw [Int.toNat_natCast] at hnx
    have hPl := placeA_spec g hm (fK g p k) hi (x : Int) (p.outs.getD x []) (by omega) (by omega) (by omega)
    have hset := vT_set (ls := endR g p k) (k := x) (l := goneK g p k)
    generalize p.outs.getD x [] = o at hv hfx hgx hpk hpn hPl
    rw [← hnx] at hset
    generalize fK g p k = f at hfx hgx hpk hpn hPl hi hrl hplen
    have hxe : x < (endR g p k).length := by omega
    have hvl : (vT (endR g p k)).length = (endR g p k).length := vT_length
    cases hok1 : okK g p k with
    | false =>
      rw [hpn hok1] at hPl
      simp only at hPl
      have hRk := hsk hok1
      subst hRk
      repeat' (first | fail | ((first | ((with_reducible (first | apply oA | apply oB)); exact rfl; intro K hK) | (refine hK _ ?_; clear hK K) | ((with_reducible (first | apply oG | apply oH)); iterate 3 exact rfl) | ((with_reducible apply oI); (iterate 2 exact rfl); intro K hK) | (with_reducible (first | apply wI | apply wJ | apply wK))); try simp only [go_sem, simprocAttr, hb, hxo, hv, frO, frN, List.map_nil]) | fail | (with_reducible (first | apply oC | apply oJ | exact oK | apply wA | apply wB | apply wC hX hC | apply wD hX hC | apply wE hX hC hmix | apply wF hX hC hmix | apply wG | apply wH | apply And.intro)) | ((with_reducible refine oD ?_ ?_); first | fail | kernel_rfl) | ((with_reducible (first | apply oE | apply oF)); (iterate 3 exact rfl); all_goals (intro h; first | (exact absurd h (by decide)) | ((try simp only [go_sem, simprocAttr, hb, hxo, hv, frO, frN, List.map_nil] at h); (try with_reducible intro K hK); simp only [go_sem, simprocAttr, hb, hxo, hv, frO, frN, List.map_nil]))) | ((first | ((with_reducible apply wL); exact rfl) | ((with_reducible apply wM); exact rfl)); all_goals (try ((with_reducible intro h); first | (exact absurd h (by decide)) | (try simp only [go_sem, simprocAttr, hb, hxo, hv, frO, frN, List.map_nil] at h)))) | omega | ((first | first | (refine acall_gen hX hC hP [(10000, 13), (10001, 100), (10002, 101)] (hPl) rfl rfl rfl ?_ ?_ ?_ ?_ ?_ ?_ ?_ ?_ ?_ ?_ ?_ ?_ ?_ ?_; (focus (simp only [go_sem, simprocAttr, hb, hxo, hv, frO, frN, List.map_nil]; done)); (iterate 12 (focus (simp [go_sem, simprocAttr, hb, hxo, hv, frO, frN, List.map_nil]; done))); simp only [go_sem, simprocAttr, hb, hxo, hv, frO, frN, List.map_nil, List.map_cons, List.map_nil])); try simp only [go_sem, simprocAttr, hb, hxo, hv, frO, frN, List.map_nil]) | (intro h))
      all_goals rfl
    | true =>
      rw [hpk hok1] at hPl
      have hcode : (succF g f (x : Int) o).1.2 = 0 := rfl
      rw [hgx] at hset
      generalize succF g f (x : Int) o = su at hfx hgx hPl hcode hset
      generalize hEk : endR g p k = E at hset hxe hel hvl
      have hvd := fun d => vT_getD hxe d
      repeat' (first | fail | ((first | ((with_reducible (first | apply oA | apply oB)); exact rfl; intro K hK) | (refine hK _ ?_; clear hK K) | ((with_reducible (first | apply oG | apply oH)); iterate 3 exact rfl) | ((with_reducible apply oI); (iterate 2 exact rfl); intro K hK) | (with_reducible (first | apply wI | apply wJ | apply wK))); try simp only [go_sem, simprocAttr, hb, hxo, hv, frO, frN, hcode, hset, hvd, List.drop_succ_cons, List.drop_zero]) | (show awp _ (.region 11 _ _) _ _; (refine awp_mvB hX 13 2 101 100 rfl rfl rfl (by first | exact .inl rfl | exact .inr rfl) (by decide) (by decide) ?_; simp only [LA.app, ASt.put, ASt.kill, subT, rmk, putM, rml, kl, AV.sub, AV.subs, AObj.sub, List.set_cons_zero, List.set_cons_succ, go_sem, simprocAttr, hb, hxo, hv, frO, frN, hcode, hset, hvd, List.drop_succ_cons, List.drop_zero])) | (with_reducible (first | apply oC | apply oJ | exact oK | apply wA | apply wB | apply wC hX hC | apply wD hX hC | apply wE hX hC hmix | apply wF hX hC hmix | apply wG | apply wH | apply And.intro)) | ((with_reducible refine oD ?_ ?_); first | fail | kernel_rfl) | ((with_reducible (first | apply oE | apply oF)); (iterate 3 exact rfl); all_goals (intro h; first | (exact absurd h (by decide)) | ((try simp only [go_sem, simprocAttr, hb, hxo, hv, frO, frN, hcode, hset, hvd, List.drop_succ_cons, List.drop_zero] at h); (try with_reducible intro K hK); simp only [go_sem, simprocAttr, hb, hxo, hv, frO, frN, hcode, hset, hvd, List.drop_succ_cons, List.drop_zero]))) | ((first | ((with_reducible apply wL); exact rfl) | ((with_reducible apply wM); exact rfl)); all_goals (try ((with_reducible intro h); first | (exact absurd h (by decide)) | (try simp only [go_sem, simprocAttr, hb, hxo, hv, frO, frN, hcode, hset, hvd, List.drop_succ_cons, List.drop_zero] at h)))) | omega | ((first | first | (refine acall_gen hX hC hP [(10000, 13), (10001, 100), (10002, 101)] (hPl) rfl rfl rfl ?_ ?_ ?_ ?_ ?_ ?_ ?_ ?_ ?_ ?_ ?_ ?_ ?_ ?_; (focus (simp only [go_sem, simprocAttr, hb, hxo, hv, frO, frN, hcode, hset, hvd, List.drop_succ_cons, List.drop_zero]; done)); (iterate 12 (focus (simp [go_sem, simprocAttr, hb, hxo, hv, frO, frN, hcode, hset, hvd, List.drop_succ_cons, List.drop_zero]; done))); simp only [go_sem, simprocAttr, hb, hxo, hv, frO, frN, hcode, hset, hvd, List.drop_succ_cons, List.drop_zero, List.map_cons, List.map_nil])); try simp only [go_sem, simprocAttr, hb, hxo, hv, frO, frN, hcode, hset, hvd, List.drop_succ_cons, List.drop_zero]) | (intro h))
      refine ⟨k + 1, ⟨by omega, fun j hj => ?_⟩, ?_, by omega⟩
      · by_cases e : j = k
        · subst e; exact hok1
        · exact hok j (by omega)
      · rw [hfx]
        have hset2 : (vT E).set x [D.sl 3 (List.map rT su.1.1)] = vT (endR g p (k + 1)) := hset
        refine Le.of ?_ ?_ <;> simp [go_sem, simprocAttr, hb, hxo, hv, frO, frN, hcode, hset, hvd, List.drop_succ_cons, List.drop_zero, hset2]
  have hb : decide ((k : Int) < (p.ord.length : Int)) = false := decide_eq_false (by omega)
  obtain rfl : k = g.n.toNat := by omega
  rw [stopK_none.2 hok] at hR
  subst hR
  repeat' (first | fail | ((first | ((with_reducible (first | apply oA | apply oB)); exact rfl; intro K hK) | (refine hK _ ?_; clear hK K) | ((with_reducible (first | apply oG | apply oH)); iterate 3 exact rfl) | ((with_reducible apply oI); (iterate 2 exact rfl); intro K hK) | (with_reducible (first | apply wI | apply wJ | apply wK))); try simp only [go_sem, simprocAttr, hb]) | fail | (with_reducible (first | apply oC | apply oJ | exact oK | apply wA | apply wB | apply wC hX hC | apply wD hX hC | apply wE hX hC hmix | apply wF hX hC hmix | apply wG | apply wH | apply And.intro)) | ((with_reducible refine oD ?_ ?_); first | fail | kernel_rfl) | ((with_reducible (first | apply oE | apply oF)); (iterate 3 exact rfl); all_goals (intro h; first | (exact absurd h (by decide)) | ((try simp only [go_sem, simprocAttr, hb] at h); (try with_reducible intro K hK); simp only [go_sem, simprocAttr, hb]))) | ((first | ((with_reducible apply wL); exact rfl) | ((with_reducible apply wM); exact rfl)); all_goals (try ((with_reducible intro h); first | (exact absurd h (by decide)) | (try simp only [go_sem, simprocAttr, hb] at h)))) | omega | ((first | first | (refine acall_lend1 hX hC hP 60 (rowT_spec [vw g, sI (fK g p g.n.toNat).pl] (fK g p g.n.toNat).row (by omega)) rfl rfl rfl ?_ ?_ (by first | exact ⟨_, _, _, rfl, flatI⟩ | exact ⟨_, _, _, rfl, flatT⟩) rfl (by decide) ?_; (iterate 2 (focus (simp only [go_sem, simprocAttr, hb]; done))); simp only [go_sem, simprocAttr, hb])); try simp only [go_sem, simprocAttr, hb]) | (intro h))
end Go.Ab
end
section
namespace Go.Ab
open Go.Proofs
attribute [local congr] ACall.congr
set_option maxRecDepth 10000
set_option maxHeartbeats 8000000

/-- A builder. -/
def buO (n : Int) (es : List Edge) (ord : List Int) (O : List (List Int)) : List (Nat × AObj) := [(10000, .box [eN n, .ref 10001, .ref 10002, .ref 10003]), (10001, .tip 53 2 (es.map rE)), (10002, .tip 3 1 (ord.map rI)), (10003, .own 32 1 (vI O))]
def buN (n : Int) (es : List Edge) (ord : List Int) (O : List (List Int)) : List (Nat × AObj) := [(10000, .box [eN n, .ref 10004, .ref 10002, .ref 10003]), (10004, .tip 53 2 (es.map rE)), (10002, .tip 3 1 (ord.map rI)), (10003, .own 32 1 (vI O))]
/-- What items lay: edges from their sinks. -/
def layE (x : Int) (items : List It) : List Edge := (loose items).map fun v => (v, x)
theorem layE_app {x : Int} {a b : List It} : layE x (a ++ b) = layE x a ++ layE x b := by simp [layE, loose_app]
theorem vI_set {ls : List (List Int)} {k : Nat} {l : List Int} : (vI ls).set k [sI l] = vI (ls.set k l) := by simp [vI, List.map_set]
theorem loose_len {items : List It} : (loose items).length ≤ items.length := by
  unfold loose
  rw [List.length_map]
  exact List.length_filter_le _ _
theorem lay_spec (n : Int) (es : List Edge) (ord : List Int) (O : List (List Int)) (x : Int) (items : List It) (hl : es.length + items.length ≤ 100000) (hO : ∀ v ∈ loose items, 0 ≤ v ∧ v < O.length) :
    Spec Try.prog 47 (Args [.ptr 10000 0, eN x, .d (sT items)]) (buO n es ord O) (.tup []) (buN n (es ++ layE x items) ord (layO es.length (layE x items) O)) := by
  unfold buO buN
  (refine Spec.introR (C := T.cfg [] []) (rs := []) [(10004, 50)] (T.cfg_ok _ _) Try.func47 rfl rfl Try.ntmps47 Try.results47 (by simp [AObj.isNest]) (by simp [AObj.isNest]) (by first | (simp [look]; done) | (simp [asN]; done) | (intro l hl; simp only [asN]; repeat (rw [if_neg (fun e => by subst e; simp [look] at hl)]))) (by first | (simp [look]; done) | (simp [asN]; done) | (intro l hl; simp only [asN]; repeat (rw [if_neg (fun e => by subst e; simp [look] at hl)]))) (by kernel_rfl) ?_; intro X hX hP hC hXn hXm vals hA; refine ⟨_, by simp, hA, ?_⟩; have hmix : X.P.follows .mixedOrders = true := (by rw [hP]; exact T.mixed); clear hXn hXm)
  repeat' (first | fail | ((first | ((with_reducible (first | apply oA | apply oB)); exact rfl; intro K hK) | (refine hK _ ?_; clear hK K) | ((with_reducible (first | apply oG | apply oH)); iterate 3 exact rfl) | ((with_reducible apply oI); (iterate 2 exact rfl); intro K hK) | (with_reducible (first | apply wI | apply wJ | apply wK))); try simp only [go_sem, simprocAttr]) | fail | (with_reducible (first | apply oC | apply oJ | exact oK | apply wA | apply wB | apply wC hX hC | apply wD hX hC | apply wE hX hC hmix | apply wF hX hC hmix | apply wG | apply wH | apply And.intro)) | ((with_reducible refine oD ?_ ?_); first | fail | kernel_rfl) | ((with_reducible (first | apply oE | apply oF)); (iterate 3 exact rfl); all_goals (intro h; first | (exact absurd h (by decide)) | ((try simp only [go_sem, simprocAttr] at h); (try with_reducible intro K hK); simp only [go_sem, simprocAttr]))) | ((first | ((with_reducible apply wL); exact rfl) | ((with_reducible apply wM); exact rfl)); all_goals (try ((with_reducible intro h); first | (exact absurd h (by decide)) | (try simp only [go_sem, simprocAttr] at h)))) | omega | ((first | fail); try simp only [go_sem, simprocAttr]) | (intro h))
  (refine awp_mvB hX 10000 1 10001 50 rfl rfl rfl (by first | exact .inl rfl | exact .inr rfl) (by decide) (by decide) ?_; simp only [LA.app, ASt.put, ASt.kill, subT, rmk, putM, rml, kl, AV.sub, AV.subs, AObj.sub, List.set_cons_zero, List.set_cons_succ, go_sem, simprocAttr])
  refine awp_loopP (fun k : Nat => k ≤ items.length) (fun k => ⟨[(0, .ptr 10000 0), (1, eN x), (8, .d (sT items)), (9, eN items.length), (10, eN k)], [(10000, .box [eN n, .ref 50, .ref 10002, .ref 10003]), (50, .tip 53 2 ((es ++ layE x (items.take k)).map rE)), (10002, .tip 3 1 (ord.map rI)), (10003, .own 32 1 (vI (layO es.length (layE x (items.take k)) O)))]⟩) (fun k => items.length - k) 0 (by simp) ?_ ?_
  · refine Le.of ?_ ?_ <;> simp [go_sem, simprocAttr, layE, loose, layO]
  rintro k hk
  rcases Nat.lt_or_ge k items.length with hlt | hge
  · have hb : decide ((k : Int) < (items.length : Int)) = true := decide_eq_true (by omega)
    have htk : items.take (k + 1) = items.take k ++ [items.getD k (0, 0, 0)] := take_getD hlt
    have hmt := getD_memX (d := (0, 0, 0)) hlt
    have hsn : layE x (items.take (k + 1)) = layE x (items.take k) ++ layE x [items.getD k (0, 0, 0)] := by rw [htk, layE_app]
    have hvO : (items.getD k (0, 0, 0)).1 < 0 → 0 ≤ (items.getD k (0, 0, 0)).2.1 ∧ (items.getD k (0, 0, 0)).2.1 < O.length := fun h => hO _ (by
      unfold loose
      exact List.mem_map.2 ⟨_, List.mem_filter.2 ⟨hmt, decide_eq_true h⟩, rfl⟩)
    have hll : (layE x (items.take k)).length ≤ k := by
      unfold layE
      rw [List.length_map]
      refine Nat.le_trans loose_len ?_
      rw [List.length_take]; omega
    have hLO := layO_app (m := es.length) (N := layE x (items.take k)) (M := layE x [items.getD k (0, 0, 0)]) (O := O)
    have hOl : (layO es.length (layE x (items.take k)) O).length = O.length := layO_len
    rw [← hsn] at hLO
    generalize hti : items.getD k (0, 0, 0) = t at hsn hvO hLO
    generalize layO es.length (layE x (items.take k)) O = O' at hLO hOl
    generalize layE x (items.take k) = N at hsn hll hLO
    by_cases h0 : 0 ≤ t.1
    · have hb1 : decide (0 ≤ t.1) = true := decide_eq_true h0
      have he : layE x [t] = [] := by
        have : ¬ t.1 < 0 := by omega
        simp [layE, loose, this]
      rw [he] at hsn hLO
      rw [List.append_nil] at hsn
      repeat' (first | fail | ((first | ((with_reducible (first | apply oA | apply oB)); exact rfl; intro K hK) | (refine hK _ ?_; clear hK K) | ((with_reducible (first | apply oG | apply oH)); iterate 3 exact rfl) | ((with_reducible apply oI); (iterate 2 exact rfl); intro K hK) | (with_reducible (first | apply wI | apply wJ | apply wK))); try simp only [go_sem, simprocAttr, hb, hb1, hti]) | fail | (with_reducible (first | apply oC | apply oJ | exact oK | apply wA | apply wB | apply wC hX hC | apply wD hX hC | apply wE hX hC hmix | apply wF hX hC hmix | apply wG | apply wH | apply And.intro)) | ((with_reducible refine oD ?_ ?_); first | fail | kernel_rfl) | ((with_reducible (first | apply oE | apply oF)); (iterate 3 exact rfl); all_goals (intro h; first | (exact absurd h (by decide)) | ((try simp only [go_sem, simprocAttr, hb, hb1, hti] at h); (try with_reducible intro K hK); simp only [go_sem, simprocAttr, hb, hb1, hti]))) | ((first | ((with_reducible apply wL); exact rfl) | ((with_reducible apply wM); exact rfl)); all_goals (try ((with_reducible intro h); first | (exact absurd h (by decide)) | (try simp only [go_sem, simprocAttr, hb, hb1, hti] at h)))) | omega | ((first | fail); try simp only [go_sem, simprocAttr, hb, hb1, hti]) | (intro h))
      refine ⟨k + 1, by omega, ?_, by omega⟩
      rw [hLO, hsn]
      refine Le.of ?_ ?_ <;> simp [go_sem, simprocAttr, hb, hb1, hti, layO]
    · have hb1 : decide (0 ≤ t.1) = false := decide_eq_false h0
      have he : layE x [t] = [(t.2.1, x)] := by
        have : t.1 < 0 := by omega
        simp [layE, loose, this]
      rw [he] at hsn hLO
      obtain ⟨hv0, hv1⟩ := hvO (by omega)
      obtain ⟨vn, hvn⟩ : ∃ vn : Nat, t.2.1 = vn := ⟨t.2.1.toNat, by omega⟩
      have hvl : vn < O'.length := by omega
      have hvd := fun d => vI_getD hvl d
      have hLO2 : layO es.length (layE x (items.take (k + 1))) O = O'.set vn [((es.length + N.length : Nat) : Int)] := by
        rw [hLO, hvn]
        show O'.set ((vn : Int).toNat) _ = _
        rw [Int.toNat_natCast]
      rw [hvn] at hsn
      have hrow : rI ((es.length : Int) + (N.length : Int)) = [D.sc (.int .i64 ((es.length : Int) + (N.length : Int)))] := rfl
      have hset := vI_set (ls := O') (k := vn) (l := [((es.length + N.length : Nat) : Int)])
      repeat' (first | fail | ((first | ((with_reducible (first | apply oA | apply oB)); exact rfl; intro K hK) | (refine hK _ ?_; clear hK K) | ((with_reducible (first | apply oG | apply oH)); iterate 3 exact rfl) | ((with_reducible apply oI); (iterate 2 exact rfl); intro K hK) | (with_reducible (first | apply wI | apply wJ | apply wK))); try simp only [go_sem, simprocAttr, hb, hb1, hti, hvn, hvd, List.drop_succ_cons, List.drop_zero, List.length_append]) | (show awp _ (.region 6 _ _) _ _; (refine awp_mvB hX 10000 1 43 50 rfl rfl rfl (by first | exact .inl rfl | exact .inr rfl) (by decide) (by decide) ?_; simp only [LA.app, ASt.put, ASt.kill, subT, rmk, putM, rml, kl, AV.sub, AV.subs, AObj.sub, List.set_cons_zero, List.set_cons_succ, go_sem, simprocAttr, hb, hb1, hti, hvn, hvd, List.drop_succ_cons, List.drop_zero, List.length_append])) | (with_reducible (first | apply oC | apply oJ | exact oK | apply wA | apply wB | apply wC hX hC | apply wD hX hC | apply wE hX hC hmix | apply wF hX hC hmix | apply wG | apply wH | apply And.intro)) | ((with_reducible refine oD ?_ ?_); first | fail | kernel_rfl) | ((with_reducible (first | apply oE | apply oF)); (iterate 3 exact rfl); all_goals (intro h; first | (exact absurd h (by decide)) | ((try simp only [go_sem, simprocAttr, hb, hb1, hti, hvn, hvd, List.drop_succ_cons, List.drop_zero, List.length_append] at h); (try with_reducible intro K hK); simp only [go_sem, simprocAttr, hb, hb1, hti, hvn, hvd, List.drop_succ_cons, List.drop_zero, List.length_append]))) | ((first | ((with_reducible apply wL); exact rfl) | ((with_reducible apply wM); exact rfl)); all_goals (try ((with_reducible intro h); first | (exact absurd h (by decide)) | (try simp only [go_sem, simprocAttr, hb, hb1, hti, hvn, hvd, List.drop_succ_cons, List.drop_zero, List.length_append] at h)))) | omega | ((first | fail); try simp only [go_sem, simprocAttr, hb, hb1, hti, hvn, hvd, List.drop_succ_cons, List.drop_zero, List.length_append]) | (intro h))
      refine ⟨k + 1, by omega, ?_, by omega⟩
      rw [hLO2, hsn]
      refine Le.of ?_ ?_ <;> simp [go_sem, simprocAttr, hb, hb1, hti, hvn, hvd, List.drop_succ_cons, List.drop_zero, List.length_append]
      refine ⟨rfl, ?_⟩
      simp only [Int.natCast_add] at hset
      exact hset
  · have hb : decide ((k : Int) < (items.length : Int)) = false := decide_eq_false (by omega)
    obtain rfl : k = items.length := by omega
    have ht : items.take items.length = items := List.take_length
    repeat' (first | fail | ((first | ((with_reducible (first | apply oA | apply oB)); exact rfl; intro K hK) | (refine hK _ ?_; clear hK K) | ((with_reducible (first | apply oG | apply oH)); iterate 3 exact rfl) | ((with_reducible apply oI); (iterate 2 exact rfl); intro K hK) | (with_reducible (first | apply wI | apply wJ | apply wK))); try simp only [go_sem, simprocAttr, hb, ht]) | fail | (with_reducible (first | apply oC | apply oJ | exact oK | apply wA | apply wB | apply wC hX hC | apply wD hX hC | apply wE hX hC hmix | apply wF hX hC hmix | apply wG | apply wH | apply And.intro)) | ((with_reducible refine oD ?_ ?_); first | fail | kernel_rfl) | ((with_reducible (first | apply oE | apply oF)); (iterate 3 exact rfl); all_goals (intro h; first | (exact absurd h (by decide)) | ((try simp only [go_sem, simprocAttr, hb, ht] at h); (try with_reducible intro K hK); simp only [go_sem, simprocAttr, hb, ht]))) | ((first | ((with_reducible apply wL); exact rfl) | ((with_reducible apply wM); exact rfl)); all_goals (try ((with_reducible intro h); first | (exact absurd h (by decide)) | (try simp only [go_sem, simprocAttr, hb, ht] at h)))) | omega | ((first | fail); try simp only [go_sem, simprocAttr, hb, ht]) | (intro h))
end Go.Ab
end
section
namespace Go.Ab
open Go.Proofs
attribute [local congr] ACall.congr
set_option maxRecDepth 10000
set_option maxHeartbeats 16000000

theorem cloneEt_spec (ps : List Edge) (hl : ps.length ≤ 1000000) :
    Spec Try.prog 45 (Args [.d (sE ps)]) [] (.ref 10000) [(10000, .tip 53 2 (ps.map rE))] := by
  (refine Spec.introR (C := T.cfg [] []) (rs := [.t 2]) [(10000, 7)] (T.cfg_ok _ _) Try.func45 rfl rfl Try.ntmps45 Try.results45 (by simp [AObj.isNest]) (by simp [AObj.isNest]) (by first | (simp [look]; done) | (simp [asN]; done) | (intro l hl; simp only [asN]; repeat (rw [if_neg (fun e => by subst e; simp [look] at hl)]))) (by first | (simp [look]; done) | (simp [asN]; done) | (intro l hl; simp only [asN]; repeat (rw [if_neg (fun e => by subst e; simp [look] at hl)]))) (by kernel_rfl) ?_; intro X hX hP hC hXn hXm vals hA; refine ⟨_, by simp, hA, ?_⟩; have hmix : X.P.follows .mixedOrders = true := (by rw [hP]; exact T.mixed); clear hXn hXm)
  repeat' (first | (show awp _ .ret _ _; (try simp only [go_sem, simprocAttr]); refine awp_new hX 2 7 (.tip 53 2 []) ?_ ?_ (by decide) ⟨53, 2, by decide, .inr rfl⟩ ?_; (iterate 2 (focus (simp only [go_sem, simprocAttr]; done))); simp only [go_sem, simprocAttr]) | ((first | ((with_reducible (first | apply oA | apply oB)); exact rfl; intro K hK) | (refine hK _ ?_; clear hK K) | ((with_reducible (first | apply oG | apply oH)); iterate 3 exact rfl) | ((with_reducible apply oI); (iterate 2 exact rfl); intro K hK) | (with_reducible (first | apply wI | apply wJ | apply wK))); try simp only [go_sem, simprocAttr]) | fail | (with_reducible (first | apply oC | apply oJ | exact oK | apply wA | apply wB | apply wC hX hC | apply wD hX hC | apply wE hX hC hmix | apply wF hX hC hmix | apply wG | apply wH | apply And.intro)) | ((with_reducible refine oD ?_ ?_); first | fail | kernel_rfl) | ((with_reducible (first | apply oE | apply oF)); (iterate 3 exact rfl); all_goals (intro h; first | (exact absurd h (by decide)) | ((try simp only [go_sem, simprocAttr] at h); (try with_reducible intro K hK); simp only [go_sem, simprocAttr]))) | ((first | ((with_reducible apply wL); exact rfl) | ((with_reducible apply wM); exact rfl)); all_goals (try ((with_reducible intro h); first | (exact absurd h (by decide)) | (try simp only [go_sem, simprocAttr] at h)))) | omega | ((first | fail); try simp only [go_sem, simprocAttr]) | (intro h))
  exact h.symm
def pz : Pl := ⟨[], []⟩
def augR (b : Bool) (g : Gr) (p : Pl) : Gr × Pl × Int :=
  if (runRes b g p).2.1 ≠ 0 then (gz, pz, 1) else if 64 < (augG g p).n ∨ 128 < (augG g p).es.length then (gz, pz, 10) else (augG g p, augP g p, 0)
theorem runRes_ok {b : Bool} {g : Gr} {p : Pl} (hr : b = true ↔ (chkG g).1 = 0 ∧ PlanOk g p) (h : (runRes b g p).2.1 = 0) : RunsP g p ∧ runRes b g p = ((endR g p g.n.toNat, lastR g p), (0, 0)) := by
  cases b with
  | false => simp [runRes] at h
  | true =>
    have hR : runRes true g p = match stopK g p g.n.toNat with
      | some i => (([], []), (3, (i : Int)))
      | none => ((endR g p g.n.toNat, (fK g p g.n.toNat).row), (0, 0)) := rfl
    cases hs : stopK g p g.n.toNat with
    | some i => rw [hR, hs] at h; simp at h
    | none =>
      obtain ⟨h1, h2⟩ := hr.1 rfl
      exact ⟨⟨h1, h2, stopK_none.1 hs⟩, by rw [hR, hs]; rfl⟩
theorem newK_next {g : Gr} {p : Pl} {k : Nat} : newK g p (k + 1) = newK g p k ++ layE (oAt p k) (goneK g p k) := rfl
theorem newK_ok {g : Gr} {p : Pl} (hr : RunsP g p) {k : Nat} (hk : k ≤ g.n.toNat) : (newK g p k).length ≤ g.n.toNat ∧ ∀ e ∈ newK g p k, 0 ≤ e.1 ∧ e.1 < g.n := by
  obtain ⟨hc, h, hok⟩ := hr
  have hm := good_may hc
  obtain ⟨h1, h2⟩ := loose_inv hm h hk fun j hj => hok j (by omega)
  obtain ⟨hi, _⟩ := run_inv hm h hk fun j hj => hok j (by omega)
  have hv : ∀ v ∈ (newK g p k).map (·.1), 0 ≤ v ∧ v < g.n := fun v hv => hi.rng v (h2 v (List.mem_append_left _ hv)).1
  refine ⟨?_, fun e he => hv _ (List.mem_map.2 ⟨e, he, rfl⟩)⟩
  have := nodup_lenX (List.nodup_append.1 h1).1 (m := allN g.n.toNat) fun v hv' => allN_mem.2 (by have := hv v hv'; omega)
  rw [allN_len, List.length_map] at this
  exact this
theorem augment_spec (g : Gr) (hl : g.es.length ≤ 1000) (p : Pl) (hp : PlLen p) (hp1 : p.ord.length ≤ 1000) (hp2 : p.outs.length ≤ 1000) (hp3 : ∀ l ∈ p.outs, l.length ≤ 1000) (b : Bool) (hr : b = true ↔ (chkG g).1 = 0 ∧ PlanOk g p) :
    Spec Try.prog 17 (Args [eG g, ePl p]) [] (.tup [eG (augR b g p).1, ePl (augR b g p).2.1, eN (augR b g p).2.2]) [] := by
  have hO := sweepRun_spec g hl p hp b hr
  by_cases h0 : (runRes b g p).2.1 = 0
  rotate_left
  · have hAr : augR b g p = (gz, pz, 1) := if_pos h0
    rw [hAr]
    have hb1 : decide ((runRes b g p).2.1 = 0) = false := decide_eq_false h0
    (refine Spec.intro (C := T.cfg [] []) (rs := [.c 4 24, .c 5 43, .t 6]) (T.cfg_ok _ _) Try.func17 rfl rfl Try.ntmps17 Try.results17 (by simp [AObj.isNest]) (by simp [AObj.isNest]) (by kernel_rfl) ?_; intro X hX hP hC hXn hXm vals hA; refine ⟨_, by simp, hA, ?_⟩; have hmix : X.P.follows .mixedOrders = true := (by rw [hP]; exact T.mixed); clear hXn hXm)
    repeat' (first | fail | ((first | ((with_reducible (first | apply oA | apply oB)); exact rfl; intro K hK) | (refine hK _ ?_; clear hK K) | ((with_reducible (first | apply oG | apply oH)); iterate 3 exact rfl) | ((with_reducible apply oI); (iterate 2 exact rfl); intro K hK) | (with_reducible (first | apply wI | apply wJ | apply wK))); try simp only [go_sem, simprocAttr, hb1, gz, pz, vI, List.map_nil]) | fail | (with_reducible (first | apply oC | apply oJ | exact oK | apply wA | apply wB | apply wC hX hC | apply wD hX hC | apply wE hX hC hmix | apply wF hX hC hmix | apply wG | apply wH | apply And.intro)) | ((with_reducible refine oD ?_ ?_); first | fail | kernel_rfl) | ((with_reducible (first | apply oE | apply oF)); (iterate 3 exact rfl); all_goals (intro h; first | (exact absurd h (by decide)) | ((try simp only [go_sem, simprocAttr, hb1, gz, pz, vI, List.map_nil] at h); (try with_reducible intro K hK); simp only [go_sem, simprocAttr, hb1, gz, pz, vI, List.map_nil]))) | ((first | ((with_reducible apply wL); exact rfl) | ((with_reducible apply wM); exact rfl)); all_goals (try ((with_reducible intro h); first | (exact absurd h (by decide)) | (try simp only [go_sem, simprocAttr, hb1, gz, pz, vI, List.map_nil] at h)))) | omega | ((first | first | refine acall_simple hX hC hP (hO) rfl rfl rfl (by simp only [go_sem, simprocAttr, hb1, gz, pz, vI, List.map_nil]) rfl ?_); try simp only [go_sem, simprocAttr, hb1, gz, pz, vI, List.map_nil]) | (intro h))
  obtain ⟨hrun, hR⟩ := runRes_ok hr h0
  rw [hR] at hO
  simp only at hO
  have hAr : augR b g p = if 64 < (augG g p).n ∨ 128 < (augG g p).es.length then (gz, pz, 10) else (augG g p, augP g p, 0) := by
    unfold augR; rw [if_neg (by rw [h0]; simp)]
  generalize augR b g p = AR at hAr
  have hm := good_may hrun.1
  have hn := mayB_n hm
  have hpo := hrun.2.1
  have hle := plan_len hpo
  have hol := hpo.1
  (refine Spec.intro (C := T.cfg [55, 98] []) (rs := [.c 4 24, .c 5 43, .t 6]) (T.cfg_ok _ _) Try.func17 rfl rfl Try.ntmps17 Try.results17 (by simp [AObj.isNest]) (by simp [AObj.isNest]) (by kernel_rfl) ?_; intro X hX hP hC hXn hXm vals hA; refine ⟨_, by simp, hA, ?_⟩; have hmix : X.P.follows .mixedOrders = true := (by rw [hP]; exact T.mixed); clear hXn hXm)
  repeat' (first | fail | ((first | ((with_reducible (first | apply oA | apply oB)); exact rfl; intro K hK) | (refine hK _ ?_; clear hK K) | ((with_reducible (first | apply oG | apply oH)); iterate 3 exact rfl) | ((with_reducible apply oI); (iterate 2 exact rfl); intro K hK) | (with_reducible (first | apply wI | apply wJ | apply wK))); try simp only [go_sem, simprocAttr]) | (show awp _ (.seq (.region 5 _ _) _) _ _; (refine awp_mvB hX 38 1 31 200 rfl rfl rfl (by first | exact .inl rfl | exact .inr rfl) (by decide) (by decide) ?_; simp only [LA.app, ASt.put, ASt.kill, subT, rmk, putM, rml, kl, AV.sub, AV.subs, AObj.sub, List.set_cons_zero, List.set_cons_succ, go_sem, simprocAttr]); (refine awp_newB hX 38 3 201 (.own 32 1 []) rfl rfl rfl (by simp only [go_sem, simprocAttr]) (by decide) (by simp [go_sem, simprocAttr]) ⟨32, 1, by decide, .inl rfl⟩ ?_; simp only [LA.app, ASt.put, ASt.kill, subT, rmk, putM, rml, kl, AV.sub, AV.subs, AObj.sub, List.set_cons_zero, List.set_cons_succ, go_sem, simprocAttr])) | (with_reducible (first | apply oC | apply oJ | exact oK | apply wA | apply wB | apply wC hX hC | apply wD hX hC | apply wE hX hC hmix | apply wF hX hC hmix | apply wG | apply wH | apply And.intro)) | ((with_reducible refine oD ?_ ?_); first | fail | kernel_rfl) | ((with_reducible (first | apply oE | apply oF)); (iterate 3 exact rfl); all_goals (intro h; first | (exact absurd h (by decide)) | ((try simp only [go_sem, simprocAttr] at h); (try with_reducible intro K hK); simp only [go_sem, simprocAttr]))) | ((first | ((with_reducible apply wL); exact rfl) | ((with_reducible apply wM); exact rfl)); all_goals (try ((with_reducible intro h); first | (exact absurd h (by decide)) | (try simp only [go_sem, simprocAttr] at h)))) | omega | ((first | first | refine acall_simple hX hC hP (hO) rfl rfl rfl (by simp only [go_sem, simprocAttr]) rfl ?_ | (refine acall_genC hX hC hP [(10000, 31)] (cloneEt_spec g.es (by omega)) rfl rfl rfl ?_ ?_ ?_ ?_ ?_ ?_ ?_ ?_ ?_ ?_ ?_ ?_ ?_ ?_; (focus (simp only [go_sem, simprocAttr]; done)); (iterate 12 (focus (simp [go_sem, simprocAttr]; done))); simp only [go_sem, simprocAttr, List.map_cons, List.map_nil]) | (refine acall_genC hX hC hP [(10000, 35)] (cloneIt_spec p.ord (by omega)) rfl rfl rfl ?_ ?_ ?_ ?_ ?_ ?_ ?_ ?_ ?_ ?_ ?_ ?_ ?_ ?_; (focus (simp only [go_sem, simprocAttr]; done)); (iterate 12 (focus (simp [go_sem, simprocAttr]; done))); simp only [go_sem, simprocAttr, List.map_cons, List.map_nil])); try simp only [go_sem, simprocAttr]) | (intro h))
  refine awp_loopP (fun x : Nat => x ≤ p.outs.length) (fun x => ⟨[(2, .ptr 2 0), (3, .ptr 3 0), (4, .ptr 4 0), (5, .ptr 5 0), (7, .d (.sl 1 (vT (endR g p g.n.toNat)))), (8, .d (sT (lastR g p))), (10, .ptr 38 0), (40, .d (.sl 1 (vI p.outs))), (41, eN p.outs.length), (42, eN x)], [(2, .box [eN g.n, .d (sE g.es)]), (3, .box [.d (sI p.ord), .d (.sl 1 (vI p.outs))]), (4, .box [eN 0, .nil 53]), (5, .box [.nil 3, .nil 32]), (38, .box [eN g.n, .ref 200, .ref 35, .ref 201]), (200, .tip 53 2 (g.es.map rE)), (35, .tip 3 1 (p.ord.map rI)), (201, .own 32 1 (vI (p.outs.take x)))]⟩) (fun x => p.outs.length - x) 0 (by simp) ?_ ?_
  · refine Le.of ?_ ?_ <;> simp [go_sem, simprocAttr, vI]
  rintro x hx
  rcases Nat.lt_or_ge x p.outs.length with hxl | hxg
  · have hb : decide ((x : Int) < (p.outs.length : Int)) = true := decide_eq_true (by omega)
    have hv := vI_getD hxl
    have hll := hp3 _ (getD_memX (d := []) hxl)
    have htk : vI (p.outs.take (x + 1)) = vI (p.outs.take x) ++ [[sI (p.outs.getD x [])]] := by
      unfold vI
      rw [take_nextX (d := []) hxl]
    have htl : (p.outs.take x).length = x := by rw [List.length_take]; omega
    have hCl := cloneI_spec (p.outs.getD x []) (by omega)
    generalize p.outs.getD x [] = l at hv hll htk hCl
    repeat' (first | fail | ((first | ((with_reducible (first | apply oA | apply oB)); exact rfl; intro K hK) | (refine hK _ ?_; clear hK K) | ((with_reducible (first | apply oG | apply oH)); iterate 3 exact rfl) | ((with_reducible apply oI); (iterate 2 exact rfl); intro K hK) | (with_reducible (first | apply wI | apply wJ | apply wK))); try simp only [go_sem, simprocAttr, hb, hv, htl]) | (show awp _ (.region 9 _ _) _ _; (refine awp_mvB hX 38 3 55 201 rfl rfl rfl (by first | exact .inl rfl | exact .inr rfl) (by decide) (by decide) ?_; simp only [LA.app, ASt.put, ASt.kill, subT, rmk, putM, rml, kl, AV.sub, AV.subs, AObj.sub, List.set_cons_zero, List.set_cons_succ, go_sem, simprocAttr, hb, hv, htl])) | (with_reducible (first | apply oC | apply oJ | exact oK | apply wA | apply wB | apply wC hX hC | apply wD hX hC | apply wE hX hC hmix | apply wF hX hC hmix | apply wG | apply wH | apply And.intro)) | ((with_reducible refine oD ?_ ?_); first | fail | kernel_rfl) | ((with_reducible (first | apply oE | apply oF)); (iterate 3 exact rfl); all_goals (intro h; first | (exact absurd h (by decide)) | ((try simp only [go_sem, simprocAttr, hb, hv, htl] at h); (try with_reducible intro K hK); simp only [go_sem, simprocAttr, hb, hv, htl]))) | ((first | ((with_reducible apply wL); exact rfl) | ((with_reducible apply wM); exact rfl)); all_goals (try ((with_reducible intro h); first | (exact absurd h (by decide)) | (try simp only [go_sem, simprocAttr, hb, hv, htl] at h)))) | omega | ((first | first | refine acall_simple hX hC hP (hCl) rfl rfl rfl (by simp only [go_sem, simprocAttr, hb, hv, htl]) rfl ?_); try simp only [go_sem, simprocAttr, hb, hv, htl]) | (intro h))
    refine ⟨x + 1, by omega, ?_, by omega⟩
    rw [htk]
    refine Le.of ?_ ?_ <;> simp [go_sem, simprocAttr, hb, hv, htl]
  have hb : decide ((x : Int) < (p.outs.length : Int)) = false := decide_eq_false (by omega)
  obtain rfl : x = p.outs.length := by omega
  repeat' (first | fail | ((first | ((with_reducible (first | apply oA | apply oB)); exact rfl; intro K hK) | (refine hK _ ?_; clear hK K) | ((with_reducible (first | apply oG | apply oH)); iterate 3 exact rfl) | ((with_reducible apply oI); (iterate 2 exact rfl); intro K hK) | (with_reducible (first | apply wI | apply wJ | apply wK))); try simp only [go_sem, simprocAttr, hb, List.take_length]) | fail | (with_reducible (first | apply oC | apply oJ | exact oK | apply wA | apply wB | apply wC hX hC | apply wD hX hC | apply wE hX hC hmix | apply wF hX hC hmix | apply wG | apply wH | apply And.intro)) | ((with_reducible refine oD ?_ ?_); first | fail | kernel_rfl) | ((with_reducible (first | apply oE | apply oF)); (iterate 3 exact rfl); all_goals (intro h; first | (exact absurd h (by decide)) | ((try simp only [go_sem, simprocAttr, hb, List.take_length] at h); (try with_reducible intro K hK); simp only [go_sem, simprocAttr, hb, List.take_length]))) | ((first | ((with_reducible apply wL); exact rfl) | ((with_reducible apply wM); exact rfl)); all_goals (try ((with_reducible intro h); first | (exact absurd h (by decide)) | (try simp only [go_sem, simprocAttr, hb, List.take_length] at h)))) | omega | ((first | first | refine acall_simple hX hC hP (hCl) rfl rfl rfl (by simp only [go_sem, simprocAttr, hb, List.take_length]) rfl ?_); try simp only [go_sem, simprocAttr, hb, List.take_length]) | (intro h))
  clear hb hx
  refine awp_loopP (fun k : Nat => k ≤ g.n.toNat) (fun k => ⟨[(2, .ptr 2 0), (4, .ptr 4 0), (5, .ptr 5 0), (7, .d (.sl 1 (vT (endR g p g.n.toNat)))), (8, .d (sT (lastR g p))), (10, .ptr 38 0), (61, .d (sI p.ord)), (62, eN p.ord.length), (63, eN k)], [(2, .box [eN g.n, .d (sE g.es)]), (4, .box [eN 0, .nil 53]), (5, .box [.nil 3, .nil 32]), (38, .box [eN g.n, .ref 200, .ref 35, .ref 201]), (200, .tip 53 2 ((g.es ++ newK g p k).map rE)), (35, .tip 3 1 (p.ord.map rI)), (201, .own 32 1 (vI (layO g.es.length (newK g p k) p.outs)))]⟩) (fun k => g.n.toNat - k) 0 (by simp) ?_ ?_
  · refine Le.of ?_ ?_ <;> simp [go_sem, simprocAttr, newK, layO]
  rintro k hk
  obtain ⟨hnl, hnr⟩ := newK_ok hrun hk
  have hOl : (layO g.es.length (newK g p k) p.outs).length = p.outs.length := layO_len
  rcases Nat.lt_or_ge k g.n.toNat with hkl | hkg
  · have hb : decide ((k : Int) < (p.ord.length : Int)) = true := decide_eq_true (by omega)
    have hxm := oAt_mem hpo hkl
    have hea := ends_at hpo (k := g.n.toNat) (Nat.le_refl _) hkl
    have hxo : p.ord.getD k 0 = oAt p k := rfl
    have hnx := newK_next (g := g) (p := p) (k := k)
    obtain ⟨hnl2, hnr2⟩ := newK_ok hrun (k := k + 1) (by omega)
    have hgl : (goneK g p k).length ≤ (fK g p k).row.length := by unfold goneK succF; simp; omega
    obtain ⟨_, _, hrl⟩ := run_inv hm hpo (k := k) (by omega) fun j hj => hrun.2.2 j (by omega)
    have hmul : k * (g.es.length + 1) ≤ 64 * 129 := Nat.mul_le_mul (by omega) (by omega)
    have hLO : layO g.es.length (newK g p (k + 1)) p.outs = layO (g.es ++ newK g p k).length (layE (oAt p k) (goneK g p k)) (layO g.es.length (newK g p k) p.outs) := by
      rw [hnx, layO_app, List.length_append]
    have hLs := lay_spec g.n (g.es ++ newK g p k) p.ord (layO g.es.length (newK g p k) p.outs) (oAt p k) (goneK g p k) (by rw [List.length_append]; omega) (fun v hv => by
      have := hnr2 (v, oAt p k) (by rw [hnx]; exact List.mem_append_right _ (List.mem_map.2 ⟨v, hv, rfl⟩))
      simp only at this
      omega)
    rw [← hLO] at hLs
    have hes : g.es ++ newK g p k ++ layE (oAt p k) (goneK g p k) = g.es ++ newK g p (k + 1) := by rw [hnx, List.append_assoc]
    rw [hes] at hLs
    obtain ⟨x, hx⟩ : ∃ x : Nat, oAt p k = x := ⟨(oAt p k).toNat, by omega⟩
    rw [hx] at hxo hea hLs hxm
    rw [Int.toNat_natCast] at hea
    have hel := endR_len (g := g) (p := p) (k := g.n.toNat)
    have hxe : x < (endR g p g.n.toNat).length := by omega
    have hve := vT_getD hxe
    rw [hea] at hve
    have hvl : (vT (endR g p g.n.toNat)).length = (endR g p g.n.toNat).length := vT_length
    repeat' (first | fail | ((first | ((with_reducible (first | apply oA | apply oB)); exact rfl; intro K hK) | (refine hK _ ?_; clear hK K) | ((with_reducible (first | apply oG | apply oH)); iterate 3 exact rfl) | ((with_reducible apply oI); (iterate 2 exact rfl); intro K hK) | (with_reducible (first | apply wI | apply wJ | apply wK))); try simp only [go_sem, simprocAttr, hb, hxo, hve, hvl, buO, buN]) | (show awp _ (.region 14 _ _) _ _; (refine awp_mvB hX 38 1 202 200 rfl rfl rfl (by first | exact .inl rfl | exact .inr rfl) (by decide) (by decide) ?_; simp only [LA.app, ASt.put, ASt.kill, subT, rmk, putM, rml, kl, AV.sub, AV.subs, AObj.sub, List.set_cons_zero, List.set_cons_succ, go_sem, simprocAttr, hb, hxo, hve, hvl, buO, buN])) | (with_reducible (first | apply oC | apply oJ | exact oK | apply wA | apply wB | apply wC hX hC | apply wD hX hC | apply wE hX hC hmix | apply wF hX hC hmix | apply wG | apply wH | apply And.intro)) | ((with_reducible refine oD ?_ ?_); first | fail | kernel_rfl) | ((with_reducible (first | apply oE | apply oF)); (iterate 3 exact rfl); all_goals (intro h; first | (exact absurd h (by decide)) | ((try simp only [go_sem, simprocAttr, hb, hxo, hve, hvl, buO, buN] at h); (try with_reducible intro K hK); simp only [go_sem, simprocAttr, hb, hxo, hve, hvl, buO, buN]))) | ((first | ((with_reducible apply wL); exact rfl) | ((with_reducible apply wM); exact rfl)); all_goals (try ((with_reducible intro h); first | (exact absurd h (by decide)) | (try simp only [go_sem, simprocAttr, hb, hxo, hve, hvl, buO, buN] at h)))) | omega | ((first | first | (refine acall_gen hX hC hP [(10000, 38), (10001, 200), (10002, 35), (10003, 201), (10004, 202)] (hLs) rfl rfl rfl ?_ ?_ ?_ ?_ ?_ ?_ ?_ ?_ ?_ ?_ ?_ ?_ ?_ ?_; (focus (simp only [go_sem, simprocAttr, hb, hxo, hve, hvl, buO, buN]; done)); (iterate 12 (focus (simp [go_sem, simprocAttr, hb, hxo, hve, hvl, buO, buN]; done))); simp only [go_sem, simprocAttr, hb, hxo, hve, hvl, buO, buN, List.map_cons, List.map_nil])); try simp only [go_sem, simprocAttr, hb, hxo, hve, hvl, buO, buN]) | (intro h))
    refine ⟨k + 1, by omega, ?_, by omega⟩
    refine Le.of ?_ ?_ <;> simp [go_sem, simprocAttr, hb, hxo, hve, hvl, buO, buN]
  have hb : decide ((k : Int) < (p.ord.length : Int)) = false := decide_eq_false (by omega)
  obtain rfl : k = g.n.toNat := by omega
  by_cases h1 : 1 < (lastR g p).length
  · have hb1 : decide ((1 : Int) < ((lastR g p).length : Int)) = true := decide_eq_true (by omega)
    obtain ⟨_, _, hrl⟩ := run_inv hm hpo (k := g.n.toNat) (Nat.le_refl _) hrun.2.2
    have hmul : g.n.toNat * (g.es.length + 1) ≤ 64 * 129 := Nat.mul_le_mul (by omega) (by omega)
    have hrl : (lastR g p).length ≤ g.n.toNat * (g.es.length + 1) := hrl
    obtain ⟨hN1, hN2⟩ := newA_ok hrun
    have hnl2 : newL g p = layE g.n (lastR g p) := if_pos h1
    have hLs := lay_spec (g.n + 1) (g.es ++ newK g p g.n.toNat) (p.ord ++ [g.n]) (layO g.es.length (newK g p g.n.toNat) p.outs ++ [[]]) g.n (lastR g p) (by rw [List.length_append]; omega) (fun v hv => by
      have := (hN2 (v, g.n) (by unfold newA; rw [hnl2]; exact List.mem_append_right _ (List.mem_map.2 ⟨v, hv, rfl⟩))).1
      simp only at this
      rw [List.length_append, layO_len]; omega)
    have hq : layO (g.es ++ newK g p g.n.toNat).length (layE g.n (lastR g p)) (layO g.es.length (newK g p g.n.toNat) p.outs ++ [[]]) = (augP g p).outs := by
      show _ = layO g.es.length (newA g p) (if 1 < (lastR g p).length then p.outs ++ [[]] else p.outs)
      have hsn := layO_snoc (m := g.es.length) (N := newK g p g.n.toNat) (O := p.outs) (fun e he => by
        have := hnr e he
        omega)
      rw [if_pos h1, newA, hnl2, layO_app, List.length_append, hsn]
    have he : g.es ++ newK g p g.n.toNat ++ layE g.n (lastR g p) = (augG g p).es := by
      show _ = g.es ++ newA g p
      rw [newA, hnl2, List.append_assoc]
    have ho : p.ord ++ [g.n] = (augP g p).ord := (if_pos h1).symm
    have hg : g.n + 1 = (augG g p).n := (if_pos h1).symm
    have hvs : vI (layO g.es.length (newK g p g.n.toNat) p.outs) ++ [[D.sl 1 []]] = vI (layO g.es.length (newK g p g.n.toNat) p.outs ++ [[]]) := by simp [vI, sI]
    have hos : p.ord.map rI ++ [[D.sc (.int .i64 g.n)]] = (p.ord ++ [g.n]).map rI := by simp [rI]
    rw [hq, he] at hLs
    have hal : (augG g p).es.length ≤ 1000 := by
      rw [← he, List.length_append, List.length_append]
      have : (layE g.n (lastR g p)).length ≤ g.n.toNat := by
        have := nodup_lenX (List.nodup_append.1 (by rw [newA, List.map_append] at hN1; exact hN1)).2.1 (m := allN g.n.toNat) fun v hv' => allN_mem.2 (by
          obtain ⟨e, he, rfl⟩ := List.mem_map.1 hv'
          have := (hN2 e (List.mem_append_right _ he)).1
          omega)
        rw [allN_len, List.length_map, hnl2] at this
        exact this
      omega
    have hA2 : AR = if 64 < (augG g p).n ∨ 128 < (augG g p).es.length then (gz, pz, 10) else (augG g p, augP g p, 0) := hAr
    clear hAr
    have hql : (augP g p).outs.length = (augP g p).outs.length := rfl
    have hpp : augP g p = ⟨(augP g p).ord, (augP g p).outs⟩ := rfl
    generalize augG g p = G at he hg hLs hA2 hal
    rw [ho] at hLs hos
    generalize augP g p = Q at hq ho hLs hA2 hos
    by_cases h2 : 64 < G.n
    · have hb2 : decide (64 < G.n) = true := decide_eq_true h2
      rw [if_pos (.inl h2)] at hA2
      subst hA2
      repeat' (first | fail | ((first | ((with_reducible (first | apply oA | apply oB)); exact rfl; intro K hK) | (refine hK _ ?_; clear hK K) | ((with_reducible (first | apply oG | apply oH)); iterate 3 exact rfl) | ((with_reducible apply oI); (iterate 2 exact rfl); intro K hK) | (with_reducible (first | apply wI | apply wJ | apply wK))); try simp only [go_sem, simprocAttr, hb, hb1, hb2, buO, buN, hvs, hos, hg, gz, pz, vI, List.map_nil]) | fail | (with_reducible (first | apply oC | apply oJ | exact oK | apply wA | apply wB | apply wC hX hC | apply wD hX hC | apply wE hX hC hmix | apply wF hX hC hmix | apply wG | apply wH | apply And.intro)) | ((with_reducible refine oD ?_ ?_); first | fail | kernel_rfl) | ((with_reducible (first | apply oE | apply oF)); (iterate 3 exact rfl); all_goals (intro h; first | (exact absurd h (by decide)) | ((try simp only [go_sem, simprocAttr, hb, hb1, hb2, buO, buN, hvs, hos, hg, gz, pz, vI, List.map_nil] at h); (try with_reducible intro K hK); simp only [go_sem, simprocAttr, hb, hb1, hb2, buO, buN, hvs, hos, hg, gz, pz, vI, List.map_nil]))) | ((first | ((with_reducible apply wL); exact rfl) | ((with_reducible apply wM); exact rfl)); all_goals (try ((with_reducible intro h); first | (exact absurd h (by decide)) | (try simp only [go_sem, simprocAttr, hb, hb1, hb2, buO, buN, hvs, hos, hg, gz, pz, vI, List.map_nil] at h)))) | omega | ((first | first | (refine acall_gen hX hC hP [(10000, 38), (10001, 200), (10002, 87), (10003, 98), (10004, 203)] (hLs) rfl rfl rfl ?_ ?_ ?_ ?_ ?_ ?_ ?_ ?_ ?_ ?_ ?_ ?_ ?_ ?_; (focus (simp only [go_sem, simprocAttr, hb, hb1, hb2, buO, buN, hvs, hos, hg, gz, pz, vI, List.map_nil]; done)); (iterate 12 (focus (simp [go_sem, simprocAttr, hb, hb1, hb2, buO, buN, hvs, hos, hg, gz, pz, vI, List.map_nil]; done))); simp only [go_sem, simprocAttr, hb, hb1, hb2, buO, buN, hvs, hos, hg, gz, pz, vI, List.map_nil, List.map_cons, List.map_nil])); try simp only [go_sem, simprocAttr, hb, hb1, hb2, buO, buN, hvs, hos, hg, gz, pz, vI, List.map_nil]) | (intro h))
    · have hb2 : decide (64 < G.n) = false := decide_eq_false h2
      by_cases h3 : 128 < G.es.length
      · have hb3 : decide (128 < (G.es.length : Int)) = true := decide_eq_true (by omega)
        rw [if_pos (.inr h3)] at hA2
        subst hA2
        repeat' (first | fail | ((first | ((with_reducible (first | apply oA | apply oB)); exact rfl; intro K hK) | (refine hK _ ?_; clear hK K) | ((with_reducible (first | apply oG | apply oH)); iterate 3 exact rfl) | ((with_reducible apply oI); (iterate 2 exact rfl); intro K hK) | (with_reducible (first | apply wI | apply wJ | apply wK))); try simp only [go_sem, simprocAttr, hb, hb1, hb2, hb3, buO, buN, hvs, hos, hg, gz, pz]) | fail | (with_reducible (first | apply oC | apply oJ | exact oK | apply wA | apply wB | apply wC hX hC | apply wD hX hC | apply wE hX hC hmix | apply wF hX hC hmix | apply wG | apply wH | apply And.intro)) | ((with_reducible refine oD ?_ ?_); first | fail | kernel_rfl) | ((with_reducible (first | apply oE | apply oF)); (iterate 3 exact rfl); all_goals (intro h; first | (exact absurd h (by decide)) | ((try simp only [go_sem, simprocAttr, hb, hb1, hb2, hb3, buO, buN, hvs, hos, hg, gz, pz] at h); (try with_reducible intro K hK); simp only [go_sem, simprocAttr, hb, hb1, hb2, hb3, buO, buN, hvs, hos, hg, gz, pz]))) | ((first | ((with_reducible apply wL); exact rfl) | ((with_reducible apply wM); exact rfl)); all_goals (try ((with_reducible intro h); first | (exact absurd h (by decide)) | (try simp only [go_sem, simprocAttr, hb, hb1, hb2, hb3, buO, buN, hvs, hos, hg, gz, pz] at h)))) | omega | ((first | first | (refine acall_gen hX hC hP [(10000, 38), (10001, 200), (10002, 87), (10003, 98), (10004, 203)] (hLs) rfl rfl rfl ?_ ?_ ?_ ?_ ?_ ?_ ?_ ?_ ?_ ?_ ?_ ?_ ?_ ?_; (focus (simp only [go_sem, simprocAttr, hb, hb1, hb2, hb3, buO, buN, hvs, hos, hg, gz, pz]; done)); (iterate 12 (focus (simp [go_sem, simprocAttr, hb, hb1, hb2, hb3, buO, buN, hvs, hos, hg, gz, pz]; done))); simp only [go_sem, simprocAttr, hb, hb1, hb2, hb3, buO, buN, hvs, hos, hg, gz, pz, List.map_cons, List.map_nil])); try simp only [go_sem, simprocAttr, hb, hb1, hb2, hb3, buO, buN, hvs, hos, hg, gz, pz]) | (intro h))
        all_goals rfl
      · have hb3 : decide (128 < (G.es.length : Int)) = false := decide_eq_false (by omega)
        rw [if_neg (by rintro (h | h); exact h2 h; exact h3 h)] at hA2
        subst hA2
        repeat' (first | fail | ((first | ((with_reducible (first | apply oA | apply oB)); exact rfl; intro K hK) | (refine hK _ ?_; clear hK K) | ((with_reducible (first | apply oG | apply oH)); iterate 3 exact rfl) | ((with_reducible apply oI); (iterate 2 exact rfl); intro K hK) | (with_reducible (first | apply wI | apply wJ | apply wK))); try simp only [go_sem, simprocAttr, hb, hb1, hb2, hb3, buO, buN, hvs, hos, hg]) | fail | (with_reducible (first | apply oC | apply oJ | exact oK | apply wA | apply wB | apply wC hX hC | apply wD hX hC | apply wE hX hC hmix | apply wF hX hC hmix | apply wG | apply wH | apply And.intro)) | ((with_reducible refine oD ?_ ?_); first | fail | kernel_rfl) | ((with_reducible (first | apply oE | apply oF)); (iterate 3 exact rfl); all_goals (intro h; first | (exact absurd h (by decide)) | ((try simp only [go_sem, simprocAttr, hb, hb1, hb2, hb3, buO, buN, hvs, hos, hg] at h); (try with_reducible intro K hK); simp only [go_sem, simprocAttr, hb, hb1, hb2, hb3, buO, buN, hvs, hos, hg]))) | ((first | ((with_reducible apply wL); exact rfl) | ((with_reducible apply wM); exact rfl)); all_goals (try ((with_reducible intro h); first | (exact absurd h (by decide)) | (try simp only [go_sem, simprocAttr, hb, hb1, hb2, hb3, buO, buN, hvs, hos, hg] at h)))) | omega | ((first | first | (refine acall_gen hX hC hP [(10000, 38), (10001, 200), (10002, 87), (10003, 98), (10004, 203)] (hLs) rfl rfl rfl ?_ ?_ ?_ ?_ ?_ ?_ ?_ ?_ ?_ ?_ ?_ ?_ ?_ ?_; (focus (simp only [go_sem, simprocAttr, hb, hb1, hb2, hb3, buO, buN, hvs, hos, hg]; done)); (iterate 12 (focus (simp [go_sem, simprocAttr, hb, hb1, hb2, hb3, buO, buN, hvs, hos, hg]; done))); simp only [go_sem, simprocAttr, hb, hb1, hb2, hb3, buO, buN, hvs, hos, hg, List.map_cons, List.map_nil])); try simp only [go_sem, simprocAttr, hb, hb1, hb2, hb3, buO, buN, hvs, hos, hg]) | (intro h))
  · have hb1 : decide ((1 : Int) < ((lastR g p).length : Int)) = false := decide_eq_false (by omega)
    have hnl2 : newL g p = [] := if_neg h1
    have he : g.es ++ newK g p g.n.toNat = (augG g p).es := by
      show _ = g.es ++ newA g p
      rw [newA, hnl2, List.append_nil]
    have hq : layO g.es.length (newK g p g.n.toNat) p.outs = (augP g p).outs := by
      show _ = layO g.es.length (newA g p) (if 1 < (lastR g p).length then p.outs ++ [[]] else p.outs)
      rw [if_neg h1, newA, hnl2, List.append_nil]
    have ho : p.ord = (augP g p).ord := (if_neg h1).symm
    have hg : g.n = (augG g p).n := (if_neg h1).symm
    have hml : (g.es ++ newK g p g.n.toNat).map rE = (augG g p).es.map rE := by rw [he]
    have hel2 : (augG g p).es.length = g.es.length + (newK g p g.n.toNat).length := by rw [← he, List.length_append]
    have hov : p.ord.map rI = (augP g p).ord.map rI := by rw [← ho]
    generalize augG g p = G at he hg hAr hml hel2
    generalize augP g p = Q at hq ho hAr hov
    by_cases h2 : 64 < G.n
    · omega
    · have hb2 : decide (64 < G.n) = false := decide_eq_false h2
      by_cases h3 : 128 < G.es.length
      · have hb3 : decide (128 < (G.es.length : Int)) = true := decide_eq_true (by omega)
        rw [if_pos (.inr h3)] at hAr
        subst hAr
        rw [he]
        repeat' (first | fail | ((first | ((with_reducible (first | apply oA | apply oB)); exact rfl; intro K hK) | (refine hK _ ?_; clear hK K) | ((with_reducible (first | apply oG | apply oH)); iterate 3 exact rfl) | ((with_reducible apply oI); (iterate 2 exact rfl); intro K hK) | (with_reducible (first | apply wI | apply wJ | apply wK))); try simp only [go_sem, simprocAttr, hb, hb1, hb2, hb3, hg, gz, pz]) | fail | (with_reducible (first | apply oC | apply oJ | exact oK | apply wA | apply wB | apply wC hX hC | apply wD hX hC | apply wE hX hC hmix | apply wF hX hC hmix | apply wG | apply wH | apply And.intro)) | ((with_reducible refine oD ?_ ?_); first | fail | kernel_rfl) | ((with_reducible (first | apply oE | apply oF)); (iterate 3 exact rfl); all_goals (intro h; first | (exact absurd h (by decide)) | ((try simp only [go_sem, simprocAttr, hb, hb1, hb2, hb3, hg, gz, pz] at h); (try with_reducible intro K hK); simp only [go_sem, simprocAttr, hb, hb1, hb2, hb3, hg, gz, pz]))) | ((first | ((with_reducible apply wL); exact rfl) | ((with_reducible apply wM); exact rfl)); all_goals (try ((with_reducible intro h); first | (exact absurd h (by decide)) | (try simp only [go_sem, simprocAttr, hb, hb1, hb2, hb3, hg, gz, pz] at h)))) | omega | ((first | fail); try simp only [go_sem, simprocAttr, hb, hb1, hb2, hb3, hg, gz, pz]) | (intro h))
        all_goals rfl
      · have hb3 : decide (128 < (G.es.length : Int)) = false := decide_eq_false (by omega)
        rw [if_neg (by rintro (h | h); exact h2 h; exact h3 h)] at hAr
        subst hAr
        rw [he, hq]
        have hov2 := hov.symm
        have hg2 := hg.symm
        rw [hg2] at hb2
        repeat' (first | fail | ((first | ((with_reducible (first | apply oA | apply oB)); exact rfl; intro K hK) | (refine hK _ ?_; clear hK K) | ((with_reducible (first | apply oG | apply oH)); iterate 3 exact rfl) | ((with_reducible apply oI); (iterate 2 exact rfl); intro K hK) | (with_reducible (first | apply wI | apply wJ | apply wK))); try simp only [go_sem, simprocAttr, hb, hb1, hb2, hb3, hg2, hov2]) | fail | (with_reducible (first | apply oC | apply oJ | exact oK | apply wA | apply wB | apply wC hX hC | apply wD hX hC | apply wE hX hC hmix | apply wF hX hC hmix | apply wG | apply wH | apply And.intro)) | ((with_reducible refine oD ?_ ?_); first | fail | kernel_rfl) | ((with_reducible (first | apply oE | apply oF)); (iterate 3 exact rfl); all_goals (intro h; first | (exact absurd h (by decide)) | ((try simp only [go_sem, simprocAttr, hb, hb1, hb2, hb3, hg2, hov2] at h); (try with_reducible intro K hK); simp only [go_sem, simprocAttr, hb, hb1, hb2, hb3, hg2, hov2]))) | ((first | ((with_reducible apply wL); exact rfl) | ((with_reducible apply wM); exact rfl)); all_goals (try ((with_reducible intro h); first | (exact absurd h (by decide)) | (try simp only [go_sem, simprocAttr, hb, hb1, hb2, hb3, hg2, hov2] at h)))) | omega | ((first | fail); try simp only [go_sem, simprocAttr, hb, hb1, hb2, hb3, hg2, hov2]) | (intro h))
end Go.Ab
end
section
namespace Go.Ab
open Go.Proofs
attribute [local congr] ACall.congr
set_option maxRecDepth 10000
set_option maxHeartbeats 16000000

def docK (p : Pl) (x : Gr) (k : Nat) : List (List Int) := (List.range k).map fun v => if 0 < (p.outs.getD v []).length then p.outs.getD v [] else outZ x (v : Int)
theorem docK_next {p : Pl} {x : Gr} {k : Nat} : docK p x (k + 1) = docK p x k ++ [if 0 < (p.outs.getD k []).length then p.outs.getD k [] else outZ x (k : Int)] := by
  simp [docK, List.range_succ]
theorem docK_len {p : Pl} {x : Gr} {k : Nat} : (docK p x k).length = k := by simp [docK]
theorem head_loose {g : Gr} (hm : mayB g = true) {t : It} (h : ItOk g t) : t.2.2 < 0 ↔ t.1 < 0 := by
  have := h.head hm
  omega
theorem gone_mem {g : Gr} {p : Pl} {k : Nat} {t : It} (h : t ∈ goneK g p k) : t ∈ (fK g p k).row := by
  unfold goneK succF at h
  exact List.mem_of_mem_take (List.mem_of_mem_drop h)
/-- At the end all that stands in the row is loose. -/
theorem last_loose {g : Gr} {p : Pl} (hr : RunsP g p) : ∀ t ∈ lastR g p, t.1 < 0 := by
  obtain ⟨hc, h, hok⟩ := hr
  have hm := good_may hc
  have hn := mayB_n hm
  obtain ⟨hi, hpl, _⟩ := run_inv hm h (k := g.n.toNat) (Nat.le_refl _) hok
  intro t ht
  refine Decidable.byContradiction fun h0 => ?_
  rcases hi.it t ht with ⟨h1, _⟩ | ⟨h1, h2, _, h4⟩
  · omega
  · have hrg := (mayB_e hm (k := t.1.toNat) (by omega)).2
    rw [← h4] at hrg
    refine hi.head t ht h1 (full_none hi.toFrInv ?_ hrg)
    rw [hpl, List.length_take, plan_len h]; omega
theorem take_all {es : List Edge} {l : List It} {x : Int} {j : Nat} (h : ∀ t ∈ l, t.1 < 0) (hj : j < l.length) : layE x (l.take (j + 1)) = layE x (l.take j) ++ [((l.getD j (0, 0, 0)).2.1, x)] := by
  rw [take_getD hj, layE_app]
  congr 1
  have := h _ (getD_memX (d := (0, 0, 0)) hj)
  simp only [layE, loose, List.filter_cons, this, decide_true, if_true, List.filter_nil, List.map_cons, List.map_nil]
theorem refAugment_spec (g : Gr) (hl : g.es.length ≤ 1000) (p : Pl) (hp : PlLen p) (hp1 : p.ord.length ≤ 1000) (hp2 : p.outs.length ≤ 1000) (hp3 : ∀ l ∈ p.outs, l.length ≤ 1000) (b : Bool) (hr : b = true ↔ (chkG g).1 = 0 ∧ PlanOk g p) :
    Spec Try.prog 18 (Args [eG g, ePl p]) [] (.tup [eG (augR b g p).1, ePl (augR b g p).2.1, eN (augR b g p).2.2]) [] := by
  have hO := refRun_spec g (by omega) p hp b hr
  by_cases h0 : (runRes b g p).2.1 = 0
  rotate_left
  · have hA : augR b g p = (gz, pz, 1) := if_pos h0
    rw [hA]
    have hb1 : decide ((runRes b g p).2.1 = 0) = false := decide_eq_false h0
    (refine Spec.intro (C := T.cfg [] []) (rs := [.c 4 24, .c 5 43, .t 6]) (T.cfg_ok _ _) Try.func18 rfl rfl Try.ntmps18 Try.results18 (by simp [AObj.isNest]) (by simp [AObj.isNest]) (by kernel_rfl) ?_; intro X hX hP hC hXn hXm vals hA; refine ⟨_, by simp, hA, ?_⟩; have hmix : X.P.follows .mixedOrders = true := (by rw [hP]; exact T.mixed); clear hXn hXm)
    repeat' (first | fail | ((first | ((with_reducible (first | apply oA | apply oB)); exact rfl; intro K hK) | (refine hK _ ?_; clear hK K) | ((with_reducible (first | apply oG | apply oH)); iterate 3 exact rfl) | ((with_reducible apply oI); (iterate 2 exact rfl); intro K hK) | (with_reducible (first | apply wI | apply wJ | apply wK))); try simp only [go_sem, simprocAttr, hb1, gz, pz, vI, List.map_nil]) | fail | (with_reducible (first | apply oC | apply oJ | exact oK | apply wA | apply wB | apply wC hX hC | apply wD hX hC | apply wE hX hC hmix | apply wF hX hC hmix | apply wG | apply wH | apply And.intro)) | ((with_reducible refine oD ?_ ?_); first | fail | kernel_rfl) | ((with_reducible (first | apply oE | apply oF)); (iterate 3 exact rfl); all_goals (intro h; first | (exact absurd h (by decide)) | ((try simp only [go_sem, simprocAttr, hb1, gz, pz, vI, List.map_nil] at h); (try with_reducible intro K hK); simp only [go_sem, simprocAttr, hb1, gz, pz, vI, List.map_nil]))) | ((first | ((with_reducible apply wL); exact rfl) | ((with_reducible apply wM); exact rfl)); all_goals (try ((with_reducible intro h); first | (exact absurd h (by decide)) | (try simp only [go_sem, simprocAttr, hb1, gz, pz, vI, List.map_nil] at h)))) | omega | ((first | first | refine acall_simple hX hC hP (hO) rfl rfl rfl (by simp only [go_sem, simprocAttr, hb1, gz, pz, vI, List.map_nil]) rfl ?_); try simp only [go_sem, simprocAttr, hb1, gz, pz, vI, List.map_nil]) | (intro h))
  obtain ⟨hrun, hR⟩ := runRes_ok hr h0
  rw [hR] at hO
  simp only at hO
  have hAr : augR b g p = if 64 < (augG g p).n ∨ 128 < (augG g p).es.length then (gz, pz, 10) else (augG g p, augP g p, 0) := by
    unfold augR; rw [if_neg (by rw [h0]; simp)]
  generalize augR b g p = AR at hAr
  have hm := good_may hrun.1
  have hn := mayB_n hm
  have hpo := hrun.2.1
  have hle := plan_len hpo
  have hol := hpo.1
  have hdo : docK p (augG g p) (augG g p).n.toNat = (augP g p).outs := (aug_outs hrun).symm
  (refine Spec.intro (C := T.cfg [] []) (rs := [.c 4 24, .c 5 43, .t 6]) (T.cfg_ok _ _) Try.func18 rfl rfl Try.ntmps18 Try.results18 (by simp [AObj.isNest]) (by simp [AObj.isNest]) (by kernel_rfl) ?_; intro X hX hP hC hXn hXm vals hA; refine ⟨_, by simp, hA, ?_⟩; have hmix : X.P.follows .mixedOrders = true := (by rw [hP]; exact T.mixed); clear hXn hXm)
  repeat' (first | fail | ((first | ((with_reducible (first | apply oA | apply oB)); exact rfl; intro K hK) | (refine hK _ ?_; clear hK K) | ((with_reducible (first | apply oG | apply oH)); iterate 3 exact rfl) | ((with_reducible apply oI); (iterate 2 exact rfl); intro K hK) | (with_reducible (first | apply wI | apply wJ | apply wK))); try simp only [go_sem, simprocAttr]) | (show awp _ (.seq (.region 5 _ _) _) _ _; (refine awp_mvB hX 11 1 35 210 rfl rfl rfl (by first | exact .inl rfl | exact .inr rfl) (by decide) (by decide) ?_; simp only [LA.app, ASt.put, ASt.kill, subT, rmk, putM, rml, kl, AV.sub, AV.subs, AObj.sub, List.set_cons_zero, List.set_cons_succ, go_sem, simprocAttr])) | (with_reducible (first | apply oC | apply oJ | exact oK | apply wA | apply wB | apply wC hX hC | apply wD hX hC | apply wE hX hC hmix | apply wF hX hC hmix | apply wG | apply wH | apply And.intro)) | ((with_reducible refine oD ?_ ?_); first | fail | kernel_rfl) | ((with_reducible (first | apply oE | apply oF)); (iterate 3 exact rfl); all_goals (intro h; first | (exact absurd h (by decide)) | ((try simp only [go_sem, simprocAttr] at h); (try with_reducible intro K hK); simp only [go_sem, simprocAttr]))) | ((first | ((with_reducible apply wL); exact rfl) | ((with_reducible apply wM); exact rfl)); all_goals (try ((with_reducible intro h); first | (exact absurd h (by decide)) | (try simp only [go_sem, simprocAttr] at h)))) | omega | ((first | first | refine acall_simple hX hC hP (hO) rfl rfl rfl (by simp only [go_sem, simprocAttr]) rfl ?_); try simp only [go_sem, simprocAttr]) | (intro h))
  refine awp_loopP (fun k : Nat => k ≤ g.n.toNat) (fun k => ⟨[(2, .ptr 2 0), (3, .ptr 3 0), (4, .ptr 4 0), (5, .ptr 5 0), (11, .ptr 11 0), (7, .d (.sl 1 (vT (endR g p g.n.toNat)))), (8, .d (sT (lastR g p))), (12, eN k)], [(2, .box [eN g.n, .d (sE g.es)]), (3, .box [.d (sI p.ord), .d (.sl 1 (vI p.outs))]), (4, .box [eN 0, .nil 53]), (5, .box [.nil 3, .nil 32]), (11, .box [eN g.n, .ref 210]), (210, .tip 53 2 ((g.es ++ newK g p k).map rE))]⟩) (fun k => g.n.toNat - k) 0 (by simp) ?_ ?_
  · refine Le.of ?_ ?_ <;> simp [go_sem, simprocAttr, List.take_length, newK]
  rintro k hk
  obtain ⟨hnl, hnr⟩ := newK_ok hrun hk
  rcases Nat.lt_or_ge k g.n.toNat with hkl | hkg
  · have hb : decide ((k : Int) < (p.ord.length : Int)) = true := decide_eq_true (by omega)
    have hxm := oAt_mem hpo hkl
    have hea := ends_at hpo (k := g.n.toNat) (Nat.le_refl _) hkl
    have hxo : p.ord.getD k 0 = oAt p k := rfl
    have hnx := newK_next (g := g) (p := p) (k := k)
    have hgl : (goneK g p k).length ≤ (fK g p k).row.length := by unfold goneK succF; simp; omega
    obtain ⟨hi, _, hrl⟩ := run_inv hm hpo (k := k) (by omega) fun j hj => hrun.2.2 j (by omega)
    have hmul : k * (g.es.length + 1) ≤ 64 * 129 := Nat.mul_le_mul (by omega) (by omega)
    have hgm : ∀ t ∈ goneK g p k, (t.2.2 < 0 ↔ t.1 < 0) := fun t ht => head_loose hm (hi.it t (gone_mem ht))
    obtain ⟨x, hx⟩ : ∃ x : Nat, oAt p k = x := ⟨(oAt p k).toNat, by omega⟩
    rw [hx] at hxo hea hxm hnx
    rw [Int.toNat_natCast] at hea
    have hel := endR_len (g := g) (p := p) (k := g.n.toNat)
    have hxe : x < (endR g p g.n.toNat).length := by omega
    have hve := vT_getD hxe
    rw [hea] at hve
    have hvl : (vT (endR g p g.n.toNat)).length = (endR g p g.n.toNat).length := vT_length
    generalize goneK g p k = items at hve hnx hgl hgm
    generalize hNN : newK g p (k + 1) = N' at hnx
    generalize newK g p k = N at hnl hnr hnx
    repeat' (first | fail | ((first | ((with_reducible (first | apply oA | apply oB)); exact rfl; intro K hK) | (refine hK _ ?_; clear hK K) | ((with_reducible (first | apply oG | apply oH)); iterate 3 exact rfl) | ((with_reducible apply oI); (iterate 2 exact rfl); intro K hK) | (with_reducible (first | apply wI | apply wJ | apply wK))); try simp only [go_sem, simprocAttr, hb, hxo, hve, hvl]) | fail | (with_reducible (first | apply oC | apply oJ | exact oK | apply wA | apply wB | apply wC hX hC | apply wD hX hC | apply wE hX hC hmix | apply wF hX hC hmix | apply wG | apply wH | apply And.intro)) | ((with_reducible refine oD ?_ ?_); first | fail | kernel_rfl) | ((with_reducible (first | apply oE | apply oF)); (iterate 3 exact rfl); all_goals (intro h; first | (exact absurd h (by decide)) | ((try simp only [go_sem, simprocAttr, hb, hxo, hve, hvl] at h); (try with_reducible intro K hK); simp only [go_sem, simprocAttr, hb, hxo, hve, hvl]))) | ((first | ((with_reducible apply wL); exact rfl) | ((with_reducible apply wM); exact rfl)); all_goals (try ((with_reducible intro h); first | (exact absurd h (by decide)) | (try simp only [go_sem, simprocAttr, hb, hxo, hve, hvl] at h)))) | omega | ((first | first | refine acall_simple hX hC hP (hO) rfl rfl rfl (by simp only [go_sem, simprocAttr, hb, hxo, hve, hvl]) rfl ?_); try simp only [go_sem, simprocAttr, hb, hxo, hve, hvl]) | (intro h))
    refine awp_loopP (fun j : Nat => j ≤ items.length) (fun j => ⟨[(2, .ptr 2 0), (3, .ptr 3 0), (4, .ptr 4 0), (5, .ptr 5 0), (11, .ptr 11 0), (7, .d (.sl 1 (vT (endR g p g.n.toNat)))), (8, .d (sT (lastR g p))), (12, eN k), (13, .d (sT items)), (14, eN j)], [(2, .box [eN g.n, .d (sE g.es)]), (3, .box [.d (sI p.ord), .d (.sl 1 (vI p.outs))]), (4, .box [eN 0, .nil 53]), (5, .box [.nil 3, .nil 32]), (11, .box [eN g.n, .ref 210]), (210, .tip 53 2 ((g.es ++ N ++ layE (x : Int) (items.take j)).map rE))]⟩) (fun j => items.length - j) 0 (by simp) ?_ ?_
    · refine Le.of ?_ ?_ <;> simp [go_sem, simprocAttr, layE, loose]
    rintro j hj
    rcases Nat.lt_or_ge j items.length with hjl | hjg
    · have hbj : decide ((j : Int) < (items.length : Int)) = true := decide_eq_true (by omega)
      have hgt := hgm _ (getD_memX (d := (0, 0, 0)) hjl)
      have hsn : layE (x : Int) (items.take (j + 1)) = layE (x : Int) (items.take j) ++ layE (x : Int) [items.getD j (0, 0, 0)] := by rw [take_getD hjl, layE_app]
      have hll : (layE (x : Int) (items.take j)).length ≤ j := by
        unfold layE
        rw [List.length_map]
        refine Nat.le_trans loose_len ?_
        rw [List.length_take]; omega
      generalize hti : items.getD j (0, 0, 0) = t at hgt hsn
      generalize layE (x : Int) (items.take j) = M at hsn hll
      by_cases h1 : t.2.2 < 0
      · have hb1 : decide (t.2.2 < 0) = true := decide_eq_true h1
        have he : layE (x : Int) [t] = [(t.2.1, (x : Int))] := by
          simp only [layE, loose, List.filter_cons, hgt.1 h1, decide_true, if_true, List.filter_nil, List.map_cons, List.map_nil]
        rw [he] at hsn
        repeat' (first | fail | ((first | ((with_reducible (first | apply oA | apply oB)); exact rfl; intro K hK) | (refine hK _ ?_; clear hK K) | ((with_reducible (first | apply oG | apply oH)); iterate 3 exact rfl) | ((with_reducible apply oI); (iterate 2 exact rfl); intro K hK) | (with_reducible (first | apply wI | apply wJ | apply wK))); try simp only [go_sem, simprocAttr, hb, hxo, hbj, hti, hb1, List.length_append]) | (show awp _ (.region 11 _ _) _ _; (refine awp_mvB hX 11 1 78 210 rfl rfl rfl (by first | exact .inl rfl | exact .inr rfl) (by decide) (by decide) ?_; simp only [LA.app, ASt.put, ASt.kill, subT, rmk, putM, rml, kl, AV.sub, AV.subs, AObj.sub, List.set_cons_zero, List.set_cons_succ, go_sem, simprocAttr, hb, hxo, hbj, hti, hb1, List.length_append])) | (with_reducible (first | apply oC | apply oJ | exact oK | apply wA | apply wB | apply wC hX hC | apply wD hX hC | apply wE hX hC hmix | apply wF hX hC hmix | apply wG | apply wH | apply And.intro)) | ((with_reducible refine oD ?_ ?_); first | fail | kernel_rfl) | ((with_reducible (first | apply oE | apply oF)); (iterate 3 exact rfl); all_goals (intro h; first | (exact absurd h (by decide)) | ((try simp only [go_sem, simprocAttr, hb, hxo, hbj, hti, hb1, List.length_append] at h); (try with_reducible intro K hK); simp only [go_sem, simprocAttr, hb, hxo, hbj, hti, hb1, List.length_append]))) | ((first | ((with_reducible apply wL); exact rfl) | ((with_reducible apply wM); exact rfl)); all_goals (try ((with_reducible intro h); first | (exact absurd h (by decide)) | (try simp only [go_sem, simprocAttr, hb, hxo, hbj, hti, hb1, List.length_append] at h)))) | omega | ((first | first | refine acall_simple hX hC hP (hO) rfl rfl rfl (by simp only [go_sem, simprocAttr, hb, hxo, hbj, hti, hb1, List.length_append]) rfl ?_); try simp only [go_sem, simprocAttr, hb, hxo, hbj, hti, hb1, List.length_append]) | (intro h))
        refine ⟨j + 1, by omega, ?_, by omega⟩
        rw [hsn]
        refine Le.of ?_ ?_ <;> simp [go_sem, simprocAttr, hb, hxo, hbj, hti, hb1, List.length_append]
        rfl
      · have hb1 : decide (t.2.2 < 0) = false := decide_eq_false h1
        have he : layE (x : Int) [t] = [] := by
          have : ¬ t.1 < 0 := fun h => h1 (hgt.2 h)
          simp only [layE, loose, List.filter_cons, this, decide_false, List.filter_nil, List.map_nil, Bool.false_eq_true, if_false]
        rw [he, List.append_nil] at hsn
        repeat' (first | fail | ((first | ((with_reducible (first | apply oA | apply oB)); exact rfl; intro K hK) | (refine hK _ ?_; clear hK K) | ((with_reducible (first | apply oG | apply oH)); iterate 3 exact rfl) | ((with_reducible apply oI); (iterate 2 exact rfl); intro K hK) | (with_reducible (first | apply wI | apply wJ | apply wK))); try simp only [go_sem, simprocAttr, hb, hxo, hbj, hti, hb1]) | fail | (with_reducible (first | apply oC | apply oJ | exact oK | apply wA | apply wB | apply wC hX hC | apply wD hX hC | apply wE hX hC hmix | apply wF hX hC hmix | apply wG | apply wH | apply And.intro)) | ((with_reducible refine oD ?_ ?_); first | fail | kernel_rfl) | ((with_reducible (first | apply oE | apply oF)); (iterate 3 exact rfl); all_goals (intro h; first | (exact absurd h (by decide)) | ((try simp only [go_sem, simprocAttr, hb, hxo, hbj, hti, hb1] at h); (try with_reducible intro K hK); simp only [go_sem, simprocAttr, hb, hxo, hbj, hti, hb1]))) | ((first | ((with_reducible apply wL); exact rfl) | ((with_reducible apply wM); exact rfl)); all_goals (try ((with_reducible intro h); first | (exact absurd h (by decide)) | (try simp only [go_sem, simprocAttr, hb, hxo, hbj, hti, hb1] at h)))) | omega | ((first | first | refine acall_simple hX hC hP (hO) rfl rfl rfl (by simp only [go_sem, simprocAttr, hb, hxo, hbj, hti, hb1]) rfl ?_); try simp only [go_sem, simprocAttr, hb, hxo, hbj, hti, hb1]) | (intro h))
        refine ⟨j + 1, by omega, ?_, by omega⟩
        rw [hsn]
        refine Le.of ?_ ?_ <;> simp [go_sem, simprocAttr, hb, hxo, hbj, hti, hb1]
    · have hbj : decide ((j : Int) < (items.length : Int)) = false := decide_eq_false (by omega)
      obtain rfl : j = items.length := by omega
      have hN' : g.es ++ N ++ layE (x : Int) items = g.es ++ N' := by rw [hnx, List.append_assoc]
      rw [List.take_length, hN']
      repeat' (first | fail | ((first | ((with_reducible (first | apply oA | apply oB)); exact rfl; intro K hK) | (refine hK _ ?_; clear hK K) | ((with_reducible (first | apply oG | apply oH)); iterate 3 exact rfl) | ((with_reducible apply oI); (iterate 2 exact rfl); intro K hK) | (with_reducible (first | apply wI | apply wJ | apply wK))); try simp only [go_sem, simprocAttr, hbj]) | fail | (with_reducible (first | apply oC | apply oJ | exact oK | apply wA | apply wB | apply wC hX hC | apply wD hX hC | apply wE hX hC hmix | apply wF hX hC hmix | apply wG | apply wH | apply And.intro)) | ((with_reducible refine oD ?_ ?_); first | fail | kernel_rfl) | ((with_reducible (first | apply oE | apply oF)); (iterate 3 exact rfl); all_goals (intro h; first | (exact absurd h (by decide)) | ((try simp only [go_sem, simprocAttr, hbj] at h); (try with_reducible intro K hK); simp only [go_sem, simprocAttr, hbj]))) | ((first | ((with_reducible apply wL); exact rfl) | ((with_reducible apply wM); exact rfl)); all_goals (try ((with_reducible intro h); first | (exact absurd h (by decide)) | (try simp only [go_sem, simprocAttr, hbj] at h)))) | omega | ((first | first | refine acall_simple hX hC hP (hO) rfl rfl rfl (by simp only [go_sem, simprocAttr, hbj]) rfl ?_); try simp only [go_sem, simprocAttr, hbj]) | (intro h))
      refine ⟨k + 1, by omega, ?_, by omega⟩
      rw [hNN]
      refine Le.of ?_ ?_ <;> simp [go_sem, simprocAttr, hbj]
  have hb : decide ((k : Int) < (p.ord.length : Int)) = false := decide_eq_false (by omega)
  obtain rfl : k = g.n.toNat := by omega
  have hll := last_loose hrun
  obtain ⟨_, _, hrl⟩ := run_inv hm hpo (k := g.n.toNat) (Nat.le_refl _) hrun.2.2
  have hrl : (lastR g p).length ≤ g.n.toNat * (g.es.length + 1) := hrl
  have hmul : g.n.toNat * (g.es.length + 1) ≤ 64 * 129 := Nat.mul_le_mul (by omega) (by omega)
  obtain ⟨hN1, hN2⟩ := newA_ok hrun
  have hal : (augG g p).es.length ≤ 1000 := by
    show (g.es ++ newA g p).length ≤ 1000
    have := nodup_lenX hN1 (m := allN g.n.toNat) fun v hv' => allN_mem.2 (by
      obtain ⟨e, he, rfl⟩ := List.mem_map.1 hv'
      have := (hN2 e he).1
      omega)
    rw [allN_len, List.length_map] at this
    rw [List.length_append]; omega
  by_cases h1 : 1 < (lastR g p).length
  · have hb1 : decide ((1 : Int) < ((lastR g p).length : Int)) = true := decide_eq_true (by omega)
    have hnl2 : newL g p = layE g.n (lastR g p) := if_pos h1
    have he : g.es ++ newK g p g.n.toNat ++ layE g.n (lastR g p) = (augG g p).es := by
      show _ = g.es ++ newA g p
      rw [newA, hnl2, List.append_assoc]
    have ho : p.ord ++ [g.n] = (augP g p).ord := (if_pos h1).symm
    have hg : g.n + 1 = (augG g p).n := (if_pos h1).symm
    generalize augG g p = G at he hg hAr hal hdo
    generalize augP g p = Q at ho hAr hdo
    have hgg : True := trivial
    repeat' (first | fail | ((first | ((with_reducible (first | apply oA | apply oB)); exact rfl; intro K hK) | (refine hK _ ?_; clear hK K) | ((with_reducible (first | apply oG | apply oH)); iterate 3 exact rfl) | ((with_reducible apply oI); (iterate 2 exact rfl); intro K hK) | (with_reducible (first | apply wI | apply wJ | apply wK))); try simp only [go_sem, simprocAttr, hb, hb1, List.take_length]) | fail | (with_reducible (first | apply oC | apply oJ | exact oK | apply wA | apply wB | apply wC hX hC | apply wD hX hC | apply wE hX hC hmix | apply wF hX hC hmix | apply wG | apply wH | apply And.intro)) | ((with_reducible refine oD ?_ ?_); first | fail | kernel_rfl) | ((with_reducible (first | apply oE | apply oF)); (iterate 3 exact rfl); all_goals (intro h; first | (exact absurd h (by decide)) | ((try simp only [go_sem, simprocAttr, hb, hb1, List.take_length] at h); (try with_reducible intro K hK); simp only [go_sem, simprocAttr, hb, hb1, List.take_length]))) | ((first | ((with_reducible apply wL); exact rfl) | ((with_reducible apply wM); exact rfl)); all_goals (try ((with_reducible intro h); first | (exact absurd h (by decide)) | (try simp only [go_sem, simprocAttr, hb, hb1, List.take_length] at h)))) | omega | ((first | first | refine acall_simple hX hC hP (hO) rfl rfl rfl (by simp only [go_sem, simprocAttr, hb, hb1, List.take_length]) rfl ?_); try simp only [go_sem, simprocAttr, hb, hb1, List.take_length]) | (intro h))
    clear hb hb1
    generalize newK g p g.n.toNat = N at hnl hnr he
    generalize lastR g p = last at hll hrl h1 he
    refine awp_loopP (fun j : Nat => j ≤ last.length) (fun j => ⟨[(2, .ptr 2 0), (3, .ptr 3 0), (4, .ptr 4 0), (5, .ptr 5 0), (11, .ptr 11 0), (15, .ptr 15 0), (8, .d (sT last)), (16, eN j)], [(2, .box [eN g.n, .d (sE g.es)]), (3, .box [.d (sI p.ord), .d (.sl 1 (vI p.outs))]), (4, .box [eN 0, .nil 53]), (5, .box [.nil 3, .nil 32]), (11, .box [eN g.n, .ref 210]), (210, .tip 53 2 ((g.es ++ N ++ layE g.n (last.take j)).map rE)), (15, .box [.ref 93, .nil 32]), (93, .tip 3 1 ((p.ord ++ [g.n]).map rI))]⟩) (fun j => last.length - j) 0 (by simp) ?_ ?_
    · refine Le.of ?_ ?_ <;> simp [go_sem, simprocAttr, layE, loose, rI]
    rintro j hj
    rcases Nat.lt_or_ge j last.length with hjl | hjg
    · have hbj : decide ((j : Int) < (last.length : Int)) = true := decide_eq_true (by omega)
      have hsn := take_all (x := g.n) (es := g.es) hll hjl
      have hml : (layE g.n (last.take j)).length ≤ j := by
        unfold layE
        rw [List.length_map]
        refine Nat.le_trans loose_len ?_
        rw [List.length_take]; omega
      generalize hti : last.getD j (0, 0, 0) = t at hsn
      generalize layE g.n (last.take j) = M at hsn hml
      repeat' (first | fail | ((first | ((with_reducible (first | apply oA | apply oB)); exact rfl; intro K hK) | (refine hK _ ?_; clear hK K) | ((with_reducible (first | apply oG | apply oH)); iterate 3 exact rfl) | ((with_reducible apply oI); (iterate 2 exact rfl); intro K hK) | (with_reducible (first | apply wI | apply wJ | apply wK))); try simp only [go_sem, simprocAttr, hbj, hti, List.length_append]) | (show awp _ (.region 19 _ _) _ _; (refine awp_mvB hX 11 1 112 210 rfl rfl rfl (by first | exact .inl rfl | exact .inr rfl) (by decide) (by decide) ?_; simp only [LA.app, ASt.put, ASt.kill, subT, rmk, putM, rml, kl, AV.sub, AV.subs, AObj.sub, List.set_cons_zero, List.set_cons_succ, go_sem, simprocAttr, hbj, hti, List.length_append])) | (with_reducible (first | apply oC | apply oJ | exact oK | apply wA | apply wB | apply wC hX hC | apply wD hX hC | apply wE hX hC hmix | apply wF hX hC hmix | apply wG | apply wH | apply And.intro)) | ((with_reducible refine oD ?_ ?_); first | fail | kernel_rfl) | ((with_reducible (first | apply oE | apply oF)); (iterate 3 exact rfl); all_goals (intro h; first | (exact absurd h (by decide)) | ((try simp only [go_sem, simprocAttr, hbj, hti, List.length_append] at h); (try with_reducible intro K hK); simp only [go_sem, simprocAttr, hbj, hti, List.length_append]))) | ((first | ((with_reducible apply wL); exact rfl) | ((with_reducible apply wM); exact rfl)); all_goals (try ((with_reducible intro h); first | (exact absurd h (by decide)) | (try simp only [go_sem, simprocAttr, hbj, hti, List.length_append] at h)))) | omega | ((first | first | refine acall_simple hX hC hP (hO) rfl rfl rfl (by simp only [go_sem, simprocAttr, hbj, hti, List.length_append]) rfl ?_); try simp only [go_sem, simprocAttr, hbj, hti, List.length_append]) | (intro h))
      refine ⟨j + 1, by omega, ?_, by omega⟩
      rw [hsn]
      refine Le.of ?_ ?_ <;> simp [go_sem, simprocAttr, hbj, hti, List.length_append]
      rfl
    have hbj : decide ((j : Int) < (last.length : Int)) = false := decide_eq_false (by omega)
    obtain rfl : j = last.length := by omega
    rw [List.take_length, he]
    by_cases h2 : 64 < G.n
    · have hb2 : decide (64 < G.n) = true := decide_eq_true h2
      rw [if_pos (.inl h2)] at hAr
      subst hAr
      repeat' (first | fail | ((first | ((with_reducible (first | apply oA | apply oB)); exact rfl; intro K hK) | (refine hK _ ?_; clear hK K) | ((with_reducible (first | apply oG | apply oH)); iterate 3 exact rfl) | ((with_reducible apply oI); (iterate 2 exact rfl); intro K hK) | (with_reducible (first | apply wI | apply wJ | apply wK))); try simp only [go_sem, simprocAttr, hbj, hg, hb2, gz, pz]) | fail | (with_reducible (first | apply oC | apply oJ | exact oK | apply wA | apply wB | apply wC hX hC | apply wD hX hC | apply wE hX hC hmix | apply wF hX hC hmix | apply wG | apply wH | apply And.intro)) | ((with_reducible refine oD ?_ ?_); first | fail | kernel_rfl) | ((with_reducible (first | apply oE | apply oF)); (iterate 3 exact rfl); all_goals (intro h; first | (exact absurd h (by decide)) | ((try simp only [go_sem, simprocAttr, hbj, hg, hb2, gz, pz] at h); (try with_reducible intro K hK); simp only [go_sem, simprocAttr, hbj, hg, hb2, gz, pz]))) | ((first | ((with_reducible apply wL); exact rfl) | ((with_reducible apply wM); exact rfl)); all_goals (try ((with_reducible intro h); first | (exact absurd h (by decide)) | (try simp only [go_sem, simprocAttr, hbj, hg, hb2, gz, pz] at h)))) | omega | ((first | first | refine acall_simple hX hC hP (hO) rfl rfl rfl (by simp only [go_sem, simprocAttr, hbj, hg, hb2, gz, pz]) rfl ?_); try simp only [go_sem, simprocAttr, hbj, hg, hb2, gz, pz]) | (intro h))
      all_goals rfl
    have hb2 : decide (64 < G.n) = false := decide_eq_false h2
    by_cases h3 : 128 < G.es.length
    · have hb3 : decide (128 < (G.es.length : Int)) = true := decide_eq_true (by omega)
      rw [if_pos (.inr h3)] at hAr
      subst hAr
      repeat' (first | fail | ((first | ((with_reducible (first | apply oA | apply oB)); exact rfl; intro K hK) | (refine hK _ ?_; clear hK K) | ((with_reducible (first | apply oG | apply oH)); iterate 3 exact rfl) | ((with_reducible apply oI); (iterate 2 exact rfl); intro K hK) | (with_reducible (first | apply wI | apply wJ | apply wK))); try simp only [go_sem, simprocAttr, hbj, hg, hb2, hb3, gz, pz]) | fail | (with_reducible (first | apply oC | apply oJ | exact oK | apply wA | apply wB | apply wC hX hC | apply wD hX hC | apply wE hX hC hmix | apply wF hX hC hmix | apply wG | apply wH | apply And.intro)) | ((with_reducible refine oD ?_ ?_); first | fail | kernel_rfl) | ((with_reducible (first | apply oE | apply oF)); (iterate 3 exact rfl); all_goals (intro h; first | (exact absurd h (by decide)) | ((try simp only [go_sem, simprocAttr, hbj, hg, hb2, hb3, gz, pz] at h); (try with_reducible intro K hK); simp only [go_sem, simprocAttr, hbj, hg, hb2, hb3, gz, pz]))) | ((first | ((with_reducible apply wL); exact rfl) | ((with_reducible apply wM); exact rfl)); all_goals (try ((with_reducible intro h); first | (exact absurd h (by decide)) | (try simp only [go_sem, simprocAttr, hbj, hg, hb2, hb3, gz, pz] at h)))) | omega | ((first | first | refine acall_simple hX hC hP (hO) rfl rfl rfl (by simp only [go_sem, simprocAttr, hbj, hg, hb2, hb3, gz, pz]) rfl ?_); try simp only [go_sem, simprocAttr, hbj, hg, hb2, hb3, gz, pz]) | (intro h))
      all_goals rfl
    have hb3 : decide (128 < (G.es.length : Int)) = false := decide_eq_false (by omega)
    rw [if_neg (by rintro (h | h); exact h2 h; exact h3 h)] at hAr
    subst hAr
    have hG2 : G.es.length ≤ 1000 := hal
    repeat' (first | fail | ((first | ((with_reducible (first | apply oA | apply oB)); exact rfl; intro K hK) | (refine hK _ ?_; clear hK K) | ((with_reducible (first | apply oG | apply oH)); iterate 3 exact rfl) | ((with_reducible apply oI); (iterate 2 exact rfl); intro K hK) | (with_reducible (first | apply wI | apply wJ | apply wK))); try simp only [go_sem, simprocAttr, hbj, hg, hb2, hb3]) | (show awp _ (.seq (.region 24 _ _) _) _ _; (refine awp_mvB hX 15 0 93 211 rfl rfl rfl (by first | exact .inl rfl | exact .inr rfl) (by decide) (by decide) ?_; simp only [LA.app, ASt.put, ASt.kill, subT, rmk, putM, rml, kl, AV.sub, AV.subs, AObj.sub, List.set_cons_zero, List.set_cons_succ, go_sem, simprocAttr, hbj, hg, hb2, hb3]); (refine awp_newB hX 15 1 212 (.tip 32 1 []) rfl rfl rfl (by simp only [go_sem, simprocAttr, hbj, hg, hb2, hb3]) (by decide) (by simp [go_sem, simprocAttr, hbj, hg, hb2, hb3]) ⟨32, 1, by decide, .inr rfl⟩ ?_; simp only [LA.app, ASt.put, ASt.kill, subT, rmk, putM, rml, kl, AV.sub, AV.subs, AObj.sub, List.set_cons_zero, List.set_cons_succ, go_sem, simprocAttr, hbj, hg, hb2, hb3])) | (with_reducible (first | apply oC | apply oJ | exact oK | apply wA | apply wB | apply wC hX hC | apply wD hX hC | apply wE hX hC hmix | apply wF hX hC hmix | apply wG | apply wH | apply And.intro)) | ((with_reducible refine oD ?_ ?_); first | fail | kernel_rfl) | ((with_reducible (first | apply oE | apply oF)); (iterate 3 exact rfl); all_goals (intro h; first | (exact absurd h (by decide)) | ((try simp only [go_sem, simprocAttr, hbj, hg, hb2, hb3] at h); (try with_reducible intro K hK); simp only [go_sem, simprocAttr, hbj, hg, hb2, hb3]))) | ((first | ((with_reducible apply wL); exact rfl) | ((with_reducible apply wM); exact rfl)); all_goals (try ((with_reducible intro h); first | (exact absurd h (by decide)) | (try simp only [go_sem, simprocAttr, hbj, hg, hb2, hb3] at h)))) | omega | ((first | first | refine acall_simple hX hC hP (hO) rfl rfl rfl (by simp only [go_sem, simprocAttr, hbj, hg, hb2, hb3]) rfl ?_); try simp only [go_sem, simprocAttr, hbj, hg, hb2, hb3]) | (intro h))
    rw [ho]
    refine awp_loopP (fun v : Nat => v ≤ G.n.toNat) (fun v => ⟨[(2, .ptr 2 0), (3, .ptr 3 0), (4, .ptr 4 0), (5, .ptr 5 0), (11, .ptr 11 0), (15, .ptr 15 0), (17, eN v)], [(2, .box [eN g.n, .d (sE g.es)]), (3, .box [.d (sI p.ord), .d (.sl 1 (vI p.outs))]), (4, .box [eN 0, .nil 53]), (5, .box [.nil 3, .nil 32]), (11, .box [eN G.n, .ref 210]), (210, .tip 53 2 (G.es.map rE)), (15, .box [.ref 211, .ref 212]), (211, .tip 3 1 (Q.ord.map rI)), (212, .tip 32 1 (vI (docK p G v)))]⟩) (fun v => G.n.toNat - v) 0 (by simp) ?_ ?_
    · refine Le.of ?_ ?_ <;> simp [go_sem, simprocAttr, hgg, docK, vI]
    rintro v hv
    rcases Nat.lt_or_ge v G.n.toNat with hvl | hvg
    · have hb : decide ((v : Int) < G.n) = true := decide_eq_true (by omega)
      have hnx := docK_next (p := p) (x := G) (k := v)
      have hEn := ends_spec G (v : Int) true hG2
      have hoe : endsZ (fun e => e.1) G.es G.es.length (v : Int) = outZ G (v : Int) := rfl
      have hkl : (docK p G v).length = v := docK_len
      have hzl := outZ_len (g := G) (x := (v : Int))
      by_cases hvo : v < p.outs.length
      · have hb2 : decide ((v : Int) < (p.outs.length : Int)) = true := decide_eq_true (by omega)
        have hvv := vI_getD hvo
        have hl3 := hp3 _ (getD_memX (d := []) hvo)
        generalize p.outs.getD v [] = l at hvv hnx hl3
        by_cases hl0 : 0 < l.length
        · have hb3 : decide ((0 : Int) < (l.length : Int)) = true := decide_eq_true (by omega)
          rw [if_pos hl0] at hnx
          have hnx2 : vI (docK p G (v + 1)) = vI (docK p G v) ++ [[sI l]] := by rw [hnx]; simp [vI]
          repeat' (first | fail | ((first | ((with_reducible (first | apply oA | apply oB)); exact rfl; intro K hK) | (refine hK _ ?_; clear hK K) | ((with_reducible (first | apply oG | apply oH)); iterate 3 exact rfl) | ((with_reducible apply oI); (iterate 2 exact rfl); intro K hK) | (with_reducible (first | apply wI | apply wJ | apply wK))); try simp only [go_sem, simprocAttr, hgg, hb, hb2, hvv, hb3, hkl, List.take_length]) | (show awp _ (.region 26 _ _) _ _; (refine awp_mvB hX 15 1 159 212 rfl rfl rfl (by first | exact .inl rfl | exact .inr rfl) (by decide) (by decide) ?_; simp only [LA.app, ASt.put, ASt.kill, subT, rmk, putM, rml, kl, AV.sub, AV.subs, AObj.sub, List.set_cons_zero, List.set_cons_succ, go_sem, simprocAttr, hgg, hb, hb2, hvv, hb3, hkl, List.take_length])) | (with_reducible (first | apply oC | apply oJ | exact oK | apply wA | apply wB | apply wC hX hC | apply wD hX hC | apply wE hX hC hmix | apply wF hX hC hmix | apply wG | apply wH | apply And.intro)) | ((with_reducible refine oD ?_ ?_); first | fail | kernel_rfl) | ((with_reducible (first | apply oE | apply oF)); (iterate 3 exact rfl); all_goals (intro h; first | (exact absurd h (by decide)) | ((try simp only [go_sem, simprocAttr, hgg, hb, hb2, hvv, hb3, hkl, List.take_length] at h); (try with_reducible intro K hK); simp only [go_sem, simprocAttr, hgg, hb, hb2, hvv, hb3, hkl, List.take_length]))) | ((first | ((with_reducible apply wL); exact rfl) | ((with_reducible apply wM); exact rfl)); all_goals (try ((with_reducible intro h); first | (exact absurd h (by decide)) | (try simp only [go_sem, simprocAttr, hgg, hb, hb2, hvv, hb3, hkl, List.take_length] at h)))) | omega | ((first | fail); try simp only [go_sem, simprocAttr, hgg, hb, hb2, hvv, hb3, hkl, List.take_length]) | (intro h))
          refine ⟨v + 1, by omega, ?_, by omega⟩
          rw [hnx2]
          refine Le.of ?_ ?_ <;> simp [go_sem, simprocAttr, hgg, hb, hb2, hvv, hb3, hkl, List.take_length]
        · have hb3 : decide ((0 : Int) < (l.length : Int)) = false := decide_eq_false (by omega)
          rw [if_neg hl0] at hnx
          have hnx2 : vI (docK p G (v + 1)) = vI (docK p G v) ++ [[sI (outZ G (v : Int))]] := by rw [hnx]; simp [vI]
          repeat' (first | fail | ((first | ((with_reducible (first | apply oA | apply oB)); exact rfl; intro K hK) | (refine hK _ ?_; clear hK K) | ((with_reducible (first | apply oG | apply oH)); iterate 3 exact rfl) | ((with_reducible apply oI); (iterate 2 exact rfl); intro K hK) | (with_reducible (first | apply wI | apply wJ | apply wK))); try simp only [go_sem, simprocAttr, hgg, hb, hb2, hvv, hb3, hkl, endF1, hoe]) | (show awp _ (.region 26 _ _) _ _; (refine awp_mvB hX 15 1 167 212 rfl rfl rfl (by first | exact .inl rfl | exact .inr rfl) (by decide) (by decide) ?_; simp only [LA.app, ASt.put, ASt.kill, subT, rmk, putM, rml, kl, AV.sub, AV.subs, AObj.sub, List.set_cons_zero, List.set_cons_succ, go_sem, simprocAttr, hgg, hb, hb2, hvv, hb3, hkl, endF1, hoe])) | (with_reducible (first | apply oC | apply oJ | exact oK | apply wA | apply wB | apply wC hX hC | apply wD hX hC | apply wE hX hC hmix | apply wF hX hC hmix | apply wG | apply wH | apply And.intro)) | ((with_reducible refine oD ?_ ?_); first | fail | kernel_rfl) | ((with_reducible (first | apply oE | apply oF)); (iterate 3 exact rfl); all_goals (intro h; first | (exact absurd h (by decide)) | ((try simp only [go_sem, simprocAttr, hgg, hb, hb2, hvv, hb3, hkl, endF1, hoe] at h); (try with_reducible intro K hK); simp only [go_sem, simprocAttr, hgg, hb, hb2, hvv, hb3, hkl, endF1, hoe]))) | ((first | ((with_reducible apply wL); exact rfl) | ((with_reducible apply wM); exact rfl)); all_goals (try ((with_reducible intro h); first | (exact absurd h (by decide)) | (try simp only [go_sem, simprocAttr, hgg, hb, hb2, hvv, hb3, hkl, endF1, hoe] at h)))) | omega | ((first | first | (refine acall_look hX hC hP (hEn) rfl rfl rfl ?_ ?_ rfl ?_; iterate 2 (focus (simp only [go_sem, simprocAttr, hgg, hb, hb2, hvv, hb3, hkl, endF1, hoe]; done)))); try simp only [go_sem, simprocAttr, hgg, hb, hb2, hvv, hb3, hkl, endF1, hoe]) | (intro h))
          refine ⟨v + 1, by omega, ?_, by omega⟩
          rw [hnx2]
          refine Le.of ?_ ?_ <;> simp [go_sem, simprocAttr, hgg, hb, hb2, hvv, hb3, hkl, endF1, hoe]
      · have hb2 : decide ((v : Int) < (p.outs.length : Int)) = false := decide_eq_false (by omega)
        have hle0 : p.outs.getD v [] = [] := by rw [List.getD_eq_getElem?_getD, List.getElem?_eq_none (by omega)]; rfl
        rw [hle0, if_neg (by simp)] at hnx
        have hnx2 : vI (docK p G (v + 1)) = vI (docK p G v) ++ [[sI (outZ G (v : Int))]] := by rw [hnx]; simp [vI]
        repeat' (first | fail | ((first | ((with_reducible (first | apply oA | apply oB)); exact rfl; intro K hK) | (refine hK _ ?_; clear hK K) | ((with_reducible (first | apply oG | apply oH)); iterate 3 exact rfl) | ((with_reducible apply oI); (iterate 2 exact rfl); intro K hK) | (with_reducible (first | apply wI | apply wJ | apply wK))); try simp only [go_sem, simprocAttr, hgg, hb, hb2, hkl, endF1, hoe]) | (show awp _ (.region 26 _ _) _ _; (refine awp_mvB hX 15 1 167 212 rfl rfl rfl (by first | exact .inl rfl | exact .inr rfl) (by decide) (by decide) ?_; simp only [LA.app, ASt.put, ASt.kill, subT, rmk, putM, rml, kl, AV.sub, AV.subs, AObj.sub, List.set_cons_zero, List.set_cons_succ, go_sem, simprocAttr, hgg, hb, hb2, hkl, endF1, hoe])) | (with_reducible (first | apply oC | apply oJ | exact oK | apply wA | apply wB | apply wC hX hC | apply wD hX hC | apply wE hX hC hmix | apply wF hX hC hmix | apply wG | apply wH | apply And.intro)) | ((with_reducible refine oD ?_ ?_); first | fail | kernel_rfl) | ((with_reducible (first | apply oE | apply oF)); (iterate 3 exact rfl); all_goals (intro h; first | (exact absurd h (by decide)) | ((try simp only [go_sem, simprocAttr, hgg, hb, hb2, hkl, endF1, hoe] at h); (try with_reducible intro K hK); simp only [go_sem, simprocAttr, hgg, hb, hb2, hkl, endF1, hoe]))) | ((first | ((with_reducible apply wL); exact rfl) | ((with_reducible apply wM); exact rfl)); all_goals (try ((with_reducible intro h); first | (exact absurd h (by decide)) | (try simp only [go_sem, simprocAttr, hgg, hb, hb2, hkl, endF1, hoe] at h)))) | omega | ((first | first | (refine acall_look hX hC hP (hEn) rfl rfl rfl ?_ ?_ rfl ?_; iterate 2 (focus (simp only [go_sem, simprocAttr, hgg, hb, hb2, hkl, endF1, hoe]; done)))); try simp only [go_sem, simprocAttr, hgg, hb, hb2, hkl, endF1, hoe]) | (intro h))
        all_goals (refine ⟨v + 1, by omega, ?_, by omega⟩; rw [hnx2]; (refine Le.of ?_ ?_ <;> simp [go_sem, simprocAttr, hgg, hb, hb2, hkl, endF1, hoe]))
    · have hb : decide ((v : Int) < G.n) = false := decide_eq_false (by omega)
      obtain rfl : v = G.n.toNat := by omega
      have hdk : docK p G G.n.toNat = Q.outs := hdo
      rw [hdk]
      repeat' (first | fail | ((first | ((with_reducible (first | apply oA | apply oB)); exact rfl; intro K hK) | (refine hK _ ?_; clear hK K) | ((with_reducible (first | apply oG | apply oH)); iterate 3 exact rfl) | ((with_reducible apply oI); (iterate 2 exact rfl); intro K hK) | (with_reducible (first | apply wI | apply wJ | apply wK))); try simp only [go_sem, simprocAttr, hgg, hb]) | fail | (with_reducible (first | apply oC | apply oJ | exact oK | apply wA | apply wB | apply wC hX hC | apply wD hX hC | apply wE hX hC hmix | apply wF hX hC hmix | apply wG | apply wH | apply And.intro)) | ((with_reducible refine oD ?_ ?_); first | fail | kernel_rfl) | ((with_reducible (first | apply oE | apply oF)); (iterate 3 exact rfl); all_goals (intro h; first | (exact absurd h (by decide)) | ((try simp only [go_sem, simprocAttr, hgg, hb] at h); (try with_reducible intro K hK); simp only [go_sem, simprocAttr, hgg, hb]))) | ((first | ((with_reducible apply wL); exact rfl) | ((with_reducible apply wM); exact rfl)); all_goals (try ((with_reducible intro h); first | (exact absurd h (by decide)) | (try simp only [go_sem, simprocAttr, hgg, hb] at h)))) | omega | ((first | fail); try simp only [go_sem, simprocAttr, hgg, hb]) | (intro h))
  · have hb1 : decide ((1 : Int) < ((lastR g p).length : Int)) = false := decide_eq_false (by omega)
    have hnl2 : newL g p = [] := if_neg h1
    have he : g.es ++ newK g p g.n.toNat = (augG g p).es := by
      show _ = g.es ++ newA g p
      rw [newA, hnl2, List.append_nil]
    have ho : p.ord = (augP g p).ord := (if_neg h1).symm
    have hg : (augG g p).n = g.n := if_neg h1
    generalize augG g p = G at he hg hAr hal hdo
    generalize augP g p = Q at ho hAr hdo
    have hgg := hg
    rw [he]
    have h2 : ¬ 64 < G.n := by omega
    have hb2 : decide (64 < g.n) = false := decide_eq_false (by omega)
    by_cases h3 : 128 < G.es.length
    · have hb3 : decide (128 < (G.es.length : Int)) = true := decide_eq_true (by omega)
      rw [if_pos (.inr h3)] at hAr
      subst hAr
      repeat' (first | fail | ((first | ((with_reducible (first | apply oA | apply oB)); exact rfl; intro K hK) | (refine hK _ ?_; clear hK K) | ((with_reducible (first | apply oG | apply oH)); iterate 3 exact rfl) | ((with_reducible apply oI); (iterate 2 exact rfl); intro K hK) | (with_reducible (first | apply wI | apply wJ | apply wK))); try simp only [go_sem, simprocAttr, hb, hb1, hb2, hb3, gz, pz]) | fail | (with_reducible (first | apply oC | apply oJ | exact oK | apply wA | apply wB | apply wC hX hC | apply wD hX hC | apply wE hX hC hmix | apply wF hX hC hmix | apply wG | apply wH | apply And.intro)) | ((with_reducible refine oD ?_ ?_); first | fail | kernel_rfl) | ((with_reducible (first | apply oE | apply oF)); (iterate 3 exact rfl); all_goals (intro h; first | (exact absurd h (by decide)) | ((try simp only [go_sem, simprocAttr, hb, hb1, hb2, hb3, gz, pz] at h); (try with_reducible intro K hK); simp only [go_sem, simprocAttr, hb, hb1, hb2, hb3, gz, pz]))) | ((first | ((with_reducible apply wL); exact rfl) | ((with_reducible apply wM); exact rfl)); all_goals (try ((with_reducible intro h); first | (exact absurd h (by decide)) | (try simp only [go_sem, simprocAttr, hb, hb1, hb2, hb3, gz, pz] at h)))) | omega | ((first | fail); try simp only [go_sem, simprocAttr, hb, hb1, hb2, hb3, gz, pz]) | (intro h))
      all_goals rfl
    have hb3 : decide (128 < (G.es.length : Int)) = false := decide_eq_false (by omega)
    rw [if_neg (by rintro (h | h); exact h2 h; exact h3 h)] at hAr
    subst hAr
    have hG2 : G.es.length ≤ 1000 := hal
    repeat' (first | fail | ((first | ((with_reducible (first | apply oA | apply oB)); exact rfl; intro K hK) | (refine hK _ ?_; clear hK K) | ((with_reducible (first | apply oG | apply oH)); iterate 3 exact rfl) | ((with_reducible apply oI); (iterate 2 exact rfl); intro K hK) | (with_reducible (first | apply wI | apply wJ | apply wK))); try simp only [go_sem, simprocAttr, hb, hb1, hb2, hb3]) | (show awp _ (.seq (.region 24 _ _) _) _ _; (refine awp_mvB hX 15 0 83 211 rfl rfl rfl (by first | exact .inl rfl | exact .inr rfl) (by decide) (by decide) ?_; simp only [LA.app, ASt.put, ASt.kill, subT, rmk, putM, rml, kl, AV.sub, AV.subs, AObj.sub, List.set_cons_zero, List.set_cons_succ, go_sem, simprocAttr, hb, hb1, hb2, hb3]); (refine awp_newB hX 15 1 212 (.tip 32 1 []) rfl rfl rfl (by simp only [go_sem, simprocAttr, hb, hb1, hb2, hb3]) (by decide) (by simp [go_sem, simprocAttr, hb, hb1, hb2, hb3]) ⟨32, 1, by decide, .inr rfl⟩ ?_; simp only [LA.app, ASt.put, ASt.kill, subT, rmk, putM, rml, kl, AV.sub, AV.subs, AObj.sub, List.set_cons_zero, List.set_cons_succ, go_sem, simprocAttr, hb, hb1, hb2, hb3])) | (with_reducible (first | apply oC | apply oJ | exact oK | apply wA | apply wB | apply wC hX hC | apply wD hX hC | apply wE hX hC hmix | apply wF hX hC hmix | apply wG | apply wH | apply And.intro)) | ((with_reducible refine oD ?_ ?_); first | fail | kernel_rfl) | ((with_reducible (first | apply oE | apply oF)); (iterate 3 exact rfl); all_goals (intro h; first | (exact absurd h (by decide)) | ((try simp only [go_sem, simprocAttr, hb, hb1, hb2, hb3] at h); (try with_reducible intro K hK); simp only [go_sem, simprocAttr, hb, hb1, hb2, hb3]))) | ((first | ((with_reducible apply wL); exact rfl) | ((with_reducible apply wM); exact rfl)); all_goals (try ((with_reducible intro h); first | (exact absurd h (by decide)) | (try simp only [go_sem, simprocAttr, hb, hb1, hb2, hb3] at h)))) | omega | ((first | fail); try simp only [go_sem, simprocAttr, hb, hb1, hb2, hb3]) | (intro h))
    rw [← hg] at hb2
    have hoq : Q.ord.map rI = p.ord.map rI := by rw [ho]
    refine awp_loopP (fun v : Nat => v ≤ G.n.toNat) (fun v => ⟨[(2, .ptr 2 0), (3, .ptr 3 0), (4, .ptr 4 0), (5, .ptr 5 0), (11, .ptr 11 0), (15, .ptr 15 0), (17, eN v)], [(2, .box [eN g.n, .d (sE g.es)]), (3, .box [.d (sI p.ord), .d (.sl 1 (vI p.outs))]), (4, .box [eN 0, .nil 53]), (5, .box [.nil 3, .nil 32]), (11, .box [eN G.n, .ref 210]), (210, .tip 53 2 (G.es.map rE)), (15, .box [.ref 211, .ref 212]), (211, .tip 3 1 (p.ord.map rI)), (212, .tip 32 1 (vI (docK p G v)))]⟩) (fun v => G.n.toNat - v) 0 (by simp) ?_ ?_
    · refine Le.of ?_ ?_ <;> simp [go_sem, simprocAttr, hgg, docK, vI]
    rintro v hv
    rcases Nat.lt_or_ge v G.n.toNat with hvl | hvg
    · have hb : decide ((v : Int) < g.n) = true := decide_eq_true (by omega)
      have hnx := docK_next (p := p) (x := G) (k := v)
      have hEn := ends_spec G (v : Int) true hG2
      have hoe : endsZ (fun e => e.1) G.es G.es.length (v : Int) = outZ G (v : Int) := rfl
      have hkl : (docK p G v).length = v := docK_len
      have hzl := outZ_len (g := G) (x := (v : Int))
      by_cases hvo : v < p.outs.length
      · have hb2 : decide ((v : Int) < (p.outs.length : Int)) = true := decide_eq_true (by omega)
        have hvv := vI_getD hvo
        have hl3 := hp3 _ (getD_memX (d := []) hvo)
        generalize p.outs.getD v [] = l at hvv hnx hl3
        by_cases hl0 : 0 < l.length
        · have hb3 : decide ((0 : Int) < (l.length : Int)) = true := decide_eq_true (by omega)
          rw [if_pos hl0] at hnx
          have hnx2 : vI (docK p G (v + 1)) = vI (docK p G v) ++ [[sI l]] := by rw [hnx]; simp [vI]
          repeat' (first | fail | ((first | ((with_reducible (first | apply oA | apply oB)); exact rfl; intro K hK) | (refine hK _ ?_; clear hK K) | ((with_reducible (first | apply oG | apply oH)); iterate 3 exact rfl) | ((with_reducible apply oI); (iterate 2 exact rfl); intro K hK) | (with_reducible (first | apply wI | apply wJ | apply wK))); try simp only [go_sem, simprocAttr, hgg, hb, hb2, hvv, hb3, hkl, List.take_length]) | (show awp _ (.region 26 _ _) _ _; (refine awp_mvB hX 15 1 159 212 rfl rfl rfl (by first | exact .inl rfl | exact .inr rfl) (by decide) (by decide) ?_; simp only [LA.app, ASt.put, ASt.kill, subT, rmk, putM, rml, kl, AV.sub, AV.subs, AObj.sub, List.set_cons_zero, List.set_cons_succ, go_sem, simprocAttr, hgg, hb, hb2, hvv, hb3, hkl, List.take_length])) | (with_reducible (first | apply oC | apply oJ | exact oK | apply wA | apply wB | apply wC hX hC | apply wD hX hC | apply wE hX hC hmix | apply wF hX hC hmix | apply wG | apply wH | apply And.intro)) | ((with_reducible refine oD ?_ ?_); first | fail | kernel_rfl) | ((with_reducible (first | apply oE | apply oF)); (iterate 3 exact rfl); all_goals (intro h; first | (exact absurd h (by decide)) | ((try simp only [go_sem, simprocAttr, hgg, hb, hb2, hvv, hb3, hkl, List.take_length] at h); (try with_reducible intro K hK); simp only [go_sem, simprocAttr, hgg, hb, hb2, hvv, hb3, hkl, List.take_length]))) | ((first | ((with_reducible apply wL); exact rfl) | ((with_reducible apply wM); exact rfl)); all_goals (try ((with_reducible intro h); first | (exact absurd h (by decide)) | (try simp only [go_sem, simprocAttr, hgg, hb, hb2, hvv, hb3, hkl, List.take_length] at h)))) | omega | ((first | fail); try simp only [go_sem, simprocAttr, hgg, hb, hb2, hvv, hb3, hkl, List.take_length]) | (intro h))
          refine ⟨v + 1, by omega, ?_, by omega⟩
          rw [hnx2]
          refine Le.of ?_ ?_ <;> simp [go_sem, simprocAttr, hgg, hb, hb2, hvv, hb3, hkl, List.take_length]
        · have hb3 : decide ((0 : Int) < (l.length : Int)) = false := decide_eq_false (by omega)
          rw [if_neg hl0] at hnx
          have hnx2 : vI (docK p G (v + 1)) = vI (docK p G v) ++ [[sI (outZ G (v : Int))]] := by rw [hnx]; simp [vI]
          repeat' (first | fail | ((first | ((with_reducible (first | apply oA | apply oB)); exact rfl; intro K hK) | (refine hK _ ?_; clear hK K) | ((with_reducible (first | apply oG | apply oH)); iterate 3 exact rfl) | ((with_reducible apply oI); (iterate 2 exact rfl); intro K hK) | (with_reducible (first | apply wI | apply wJ | apply wK))); try simp only [go_sem, simprocAttr, hgg, hb, hb2, hvv, hb3, hkl, endF1, hoe]) | (show awp _ (.region 26 _ _) _ _; (refine awp_mvB hX 15 1 167 212 rfl rfl rfl (by first | exact .inl rfl | exact .inr rfl) (by decide) (by decide) ?_; simp only [LA.app, ASt.put, ASt.kill, subT, rmk, putM, rml, kl, AV.sub, AV.subs, AObj.sub, List.set_cons_zero, List.set_cons_succ, go_sem, simprocAttr, hgg, hb, hb2, hvv, hb3, hkl, endF1, hoe])) | (with_reducible (first | apply oC | apply oJ | exact oK | apply wA | apply wB | apply wC hX hC | apply wD hX hC | apply wE hX hC hmix | apply wF hX hC hmix | apply wG | apply wH | apply And.intro)) | ((with_reducible refine oD ?_ ?_); first | fail | kernel_rfl) | ((with_reducible (first | apply oE | apply oF)); (iterate 3 exact rfl); all_goals (intro h; first | (exact absurd h (by decide)) | ((try simp only [go_sem, simprocAttr, hgg, hb, hb2, hvv, hb3, hkl, endF1, hoe] at h); (try with_reducible intro K hK); simp only [go_sem, simprocAttr, hgg, hb, hb2, hvv, hb3, hkl, endF1, hoe]))) | ((first | ((with_reducible apply wL); exact rfl) | ((with_reducible apply wM); exact rfl)); all_goals (try ((with_reducible intro h); first | (exact absurd h (by decide)) | (try simp only [go_sem, simprocAttr, hgg, hb, hb2, hvv, hb3, hkl, endF1, hoe] at h)))) | omega | ((first | first | (refine acall_look hX hC hP (hEn) rfl rfl rfl ?_ ?_ rfl ?_; iterate 2 (focus (simp only [go_sem, simprocAttr, hgg, hb, hb2, hvv, hb3, hkl, endF1, hoe]; done)))); try simp only [go_sem, simprocAttr, hgg, hb, hb2, hvv, hb3, hkl, endF1, hoe]) | (intro h))
          refine ⟨v + 1, by omega, ?_, by omega⟩
          rw [hnx2]
          refine Le.of ?_ ?_ <;> simp [go_sem, simprocAttr, hgg, hb, hb2, hvv, hb3, hkl, endF1, hoe]
      · have hb2 : decide ((v : Int) < (p.outs.length : Int)) = false := decide_eq_false (by omega)
        have hle0 : p.outs.getD v [] = [] := by rw [List.getD_eq_getElem?_getD, List.getElem?_eq_none (by omega)]; rfl
        rw [hle0, if_neg (by simp)] at hnx
        have hnx2 : vI (docK p G (v + 1)) = vI (docK p G v) ++ [[sI (outZ G (v : Int))]] := by rw [hnx]; simp [vI]
        repeat' (first | fail | ((first | ((with_reducible (first | apply oA | apply oB)); exact rfl; intro K hK) | (refine hK _ ?_; clear hK K) | ((with_reducible (first | apply oG | apply oH)); iterate 3 exact rfl) | ((with_reducible apply oI); (iterate 2 exact rfl); intro K hK) | (with_reducible (first | apply wI | apply wJ | apply wK))); try simp only [go_sem, simprocAttr, hgg, hb, hb2, hkl, endF1, hoe]) | (show awp _ (.region 26 _ _) _ _; (refine awp_mvB hX 15 1 167 212 rfl rfl rfl (by first | exact .inl rfl | exact .inr rfl) (by decide) (by decide) ?_; simp only [LA.app, ASt.put, ASt.kill, subT, rmk, putM, rml, kl, AV.sub, AV.subs, AObj.sub, List.set_cons_zero, List.set_cons_succ, go_sem, simprocAttr, hgg, hb, hb2, hkl, endF1, hoe])) | (with_reducible (first | apply oC | apply oJ | exact oK | apply wA | apply wB | apply wC hX hC | apply wD hX hC | apply wE hX hC hmix | apply wF hX hC hmix | apply wG | apply wH | apply And.intro)) | ((with_reducible refine oD ?_ ?_); first | fail | kernel_rfl) | ((with_reducible (first | apply oE | apply oF)); (iterate 3 exact rfl); all_goals (intro h; first | (exact absurd h (by decide)) | ((try simp only [go_sem, simprocAttr, hgg, hb, hb2, hkl, endF1, hoe] at h); (try with_reducible intro K hK); simp only [go_sem, simprocAttr, hgg, hb, hb2, hkl, endF1, hoe]))) | ((first | ((with_reducible apply wL); exact rfl) | ((with_reducible apply wM); exact rfl)); all_goals (try ((with_reducible intro h); first | (exact absurd h (by decide)) | (try simp only [go_sem, simprocAttr, hgg, hb, hb2, hkl, endF1, hoe] at h)))) | omega | ((first | first | (refine acall_look hX hC hP (hEn) rfl rfl rfl ?_ ?_ rfl ?_; iterate 2 (focus (simp only [go_sem, simprocAttr, hgg, hb, hb2, hkl, endF1, hoe]; done)))); try simp only [go_sem, simprocAttr, hgg, hb, hb2, hkl, endF1, hoe]) | (intro h))
        all_goals (refine ⟨v + 1, by omega, ?_, by omega⟩; rw [hnx2]; (refine Le.of ?_ ?_ <;> simp [go_sem, simprocAttr, hgg, hb, hb2, hkl, endF1, hoe]))
    · have hb : decide ((v : Int) < g.n) = false := decide_eq_false (by omega)
      obtain rfl : v = G.n.toNat := by omega
      have hdk : docK p G G.n.toNat = Q.outs := hdo
      rw [hdk]
      repeat' (first | fail | ((first | ((with_reducible (first | apply oA | apply oB)); exact rfl; intro K hK) | (refine hK _ ?_; clear hK K) | ((with_reducible (first | apply oG | apply oH)); iterate 3 exact rfl) | ((with_reducible apply oI); (iterate 2 exact rfl); intro K hK) | (with_reducible (first | apply wI | apply wJ | apply wK))); try simp only [go_sem, simprocAttr, hgg, hb, hoq]) | fail | (with_reducible (first | apply oC | apply oJ | exact oK | apply wA | apply wB | apply wC hX hC | apply wD hX hC | apply wE hX hC hmix | apply wF hX hC hmix | apply wG | apply wH | apply And.intro)) | ((with_reducible refine oD ?_ ?_); first | fail | kernel_rfl) | ((with_reducible (first | apply oE | apply oF)); (iterate 3 exact rfl); all_goals (intro h; first | (exact absurd h (by decide)) | ((try simp only [go_sem, simprocAttr, hgg, hb, hoq] at h); (try with_reducible intro K hK); simp only [go_sem, simprocAttr, hgg, hb, hoq]))) | ((first | ((with_reducible apply wL); exact rfl) | ((with_reducible apply wM); exact rfl)); all_goals (try ((with_reducible intro h); first | (exact absurd h (by decide)) | (try simp only [go_sem, simprocAttr, hgg, hb, hoq] at h)))) | omega | ((first | fail); try simp only [go_sem, simprocAttr, hgg, hb, hoq]) | (intro h))
end Go.Ab
end
section
namespace Go.Ab
open Go.Proofs
attribute [local congr] ACall.congr
set_option maxRecDepth 10000
set_option maxHeartbeats 8000000

def bigB (g : Gr) (p : Pl) : Bool := decide (200 < g.es.length) || decide (100 < p.ord.length) || decide (100 < p.outs.length) || p.outs.any fun l => decide (200 < l.length)
theorem big_not {g : Gr} {p : Pl} (h : bigB g p = false) : g.es.length ≤ 200 ∧ p.ord.length ≤ 100 ∧ p.outs.length ≤ 100 ∧ ∀ l ∈ p.outs, l.length ≤ 200 := by
  simp only [bigB, Bool.or_eq_false_iff, decide_eq_false_iff_not, List.any_eq_false, decide_eq_true_eq] at h
  obtain ⟨⟨⟨h1, h2⟩, h3⟩, h4⟩ := h
  exact ⟨by omega, by omega, by omega, fun l hl => by have := h4 l hl; omega⟩
theorem plLen_of {g : Gr} {p : Pl} (h : bigB g p = false) : PlLen p := by
  obtain ⟨_, h1, h2, h3⟩ := big_not h
  exact ⟨by omega, by omega, fun l hl => by have := h3 l hl; omega⟩
structure PlMax (p : Pl) : Prop where
  ord : p.ord.length ≤ 9223372036854775807
  outs : p.outs.length ≤ 9223372036854775807
  each : ∀ l ∈ p.outs, l.length ≤ 9223372036854775807
theorem great10_spec (g : Gr) (p : Pl) (hl : g.es.length ≤ 9223372036854775807) (hp : PlMax p) : Spec Try.prog 16 (Args [eG g, ePl p]) [] (eB (bigB g p)) [] := by
  have ho := hp.ord
  have hu := hp.outs
  (refine Spec.intro (C := T.cfg [] []) (rs := [.t 4]) (T.cfg_ok _ _) Try.func16 rfl rfl Try.ntmps16 Try.results16 (by simp [AObj.isNest]) (by simp [AObj.isNest]) (by kernel_rfl) ?_; intro X hX hP hC hXn hXm vals hA; refine ⟨_, by simp, hA, ?_⟩; have hmix : X.P.follows .mixedOrders = true := (by rw [hP]; exact T.mixed); clear hXn hXm)
  generalize hB : bigB g p = B
  by_cases h1 : 200 < g.es.length
  · have hb1 : decide (200 < (g.es.length : Int)) = true := decide_eq_true (by omega)
    have : B = true := by rw [← hB, bigB, decide_eq_true h1]; rfl
    subst this
    repeat' (first | fail | ((first | ((with_reducible (first | apply oA | apply oB)); exact rfl; intro K hK) | (refine hK _ ?_; clear hK K) | ((with_reducible (first | apply oG | apply oH)); iterate 3 exact rfl) | ((with_reducible apply oI); (iterate 2 exact rfl); intro K hK) | (with_reducible (first | apply wI | apply wJ | apply wK))); try simp only [go_sem, simprocAttr, hb1]) | fail | (with_reducible (first | apply oC | apply oJ | exact oK | apply wA | apply wB | apply wC hX hC | apply wD hX hC | apply wE hX hC hmix | apply wF hX hC hmix | apply wG | apply wH | apply And.intro)) | ((with_reducible refine oD ?_ ?_); first | fail | kernel_rfl) | ((with_reducible (first | apply oE | apply oF)); (iterate 3 exact rfl); all_goals (intro h; first | (exact absurd h (by decide)) | ((try simp only [go_sem, simprocAttr, hb1] at h); (try with_reducible intro K hK); simp only [go_sem, simprocAttr, hb1]))) | ((first | ((with_reducible apply wL); exact rfl) | ((with_reducible apply wM); exact rfl)); all_goals (try ((with_reducible intro h); first | (exact absurd h (by decide)) | (try simp only [go_sem, simprocAttr, hb1] at h)))) | omega | ((first | fail); try simp only [go_sem, simprocAttr, hb1]) | (intro h))
  have hb1 : decide (200 < (g.es.length : Int)) = false := decide_eq_false (by omega)
  by_cases h2 : 100 < p.ord.length
  · have hb2 : decide (100 < (p.ord.length : Int)) = true := decide_eq_true (by omega)
    have : B = true := by rw [← hB, bigB, decide_eq_true h2]; simp
    subst this
    repeat' (first | fail | ((first | ((with_reducible (first | apply oA | apply oB)); exact rfl; intro K hK) | (refine hK _ ?_; clear hK K) | ((with_reducible (first | apply oG | apply oH)); iterate 3 exact rfl) | ((with_reducible apply oI); (iterate 2 exact rfl); intro K hK) | (with_reducible (first | apply wI | apply wJ | apply wK))); try simp only [go_sem, simprocAttr, hb1, hb2]) | fail | (with_reducible (first | apply oC | apply oJ | exact oK | apply wA | apply wB | apply wC hX hC | apply wD hX hC | apply wE hX hC hmix | apply wF hX hC hmix | apply wG | apply wH | apply And.intro)) | ((with_reducible refine oD ?_ ?_); first | fail | kernel_rfl) | ((with_reducible (first | apply oE | apply oF)); (iterate 3 exact rfl); all_goals (intro h; first | (exact absurd h (by decide)) | ((try simp only [go_sem, simprocAttr, hb1, hb2] at h); (try with_reducible intro K hK); simp only [go_sem, simprocAttr, hb1, hb2]))) | ((first | ((with_reducible apply wL); exact rfl) | ((with_reducible apply wM); exact rfl)); all_goals (try ((with_reducible intro h); first | (exact absurd h (by decide)) | (try simp only [go_sem, simprocAttr, hb1, hb2] at h)))) | omega | ((first | fail); try simp only [go_sem, simprocAttr, hb1, hb2]) | (intro h))
  have hb2 : decide (100 < (p.ord.length : Int)) = false := decide_eq_false (by omega)
  by_cases h3 : 100 < p.outs.length
  · have hb3 : decide (100 < (p.outs.length : Int)) = true := decide_eq_true (by omega)
    have : B = true := by rw [← hB, bigB, decide_eq_true h3]; simp
    subst this
    repeat' (first | fail | ((first | ((with_reducible (first | apply oA | apply oB)); exact rfl; intro K hK) | (refine hK _ ?_; clear hK K) | ((with_reducible (first | apply oG | apply oH)); iterate 3 exact rfl) | ((with_reducible apply oI); (iterate 2 exact rfl); intro K hK) | (with_reducible (first | apply wI | apply wJ | apply wK))); try simp only [go_sem, simprocAttr, hb1, hb2, hb3]) | fail | (with_reducible (first | apply oC | apply oJ | exact oK | apply wA | apply wB | apply wC hX hC | apply wD hX hC | apply wE hX hC hmix | apply wF hX hC hmix | apply wG | apply wH | apply And.intro)) | ((with_reducible refine oD ?_ ?_); first | fail | kernel_rfl) | ((with_reducible (first | apply oE | apply oF)); (iterate 3 exact rfl); all_goals (intro h; first | (exact absurd h (by decide)) | ((try simp only [go_sem, simprocAttr, hb1, hb2, hb3] at h); (try with_reducible intro K hK); simp only [go_sem, simprocAttr, hb1, hb2, hb3]))) | ((first | ((with_reducible apply wL); exact rfl) | ((with_reducible apply wM); exact rfl)); all_goals (try ((with_reducible intro h); first | (exact absurd h (by decide)) | (try simp only [go_sem, simprocAttr, hb1, hb2, hb3] at h)))) | omega | ((first | fail); try simp only [go_sem, simprocAttr, hb1, hb2, hb3]) | (intro h))
  have hb3 : decide (100 < (p.outs.length : Int)) = false := decide_eq_false (by omega)
  have hB2 : B = p.outs.any fun l => decide (200 < l.length) := by rw [← hB, bigB, decide_eq_false h1, decide_eq_false h2, decide_eq_false h3]; simp
  clear hB
  repeat' (first | fail | ((first | ((with_reducible (first | apply oA | apply oB)); exact rfl; intro K hK) | (refine hK _ ?_; clear hK K) | ((with_reducible (first | apply oG | apply oH)); iterate 3 exact rfl) | ((with_reducible apply oI); (iterate 2 exact rfl); intro K hK) | (with_reducible (first | apply wI | apply wJ | apply wK))); try simp only [go_sem, simprocAttr, hb1, hb2, hb3]) | fail | (with_reducible (first | apply oC | apply oJ | exact oK | apply wA | apply wB | apply wC hX hC | apply wD hX hC | apply wE hX hC hmix | apply wF hX hC hmix | apply wG | apply wH | apply And.intro)) | ((with_reducible refine oD ?_ ?_); first | fail | kernel_rfl) | ((with_reducible (first | apply oE | apply oF)); (iterate 3 exact rfl); all_goals (intro h; first | (exact absurd h (by decide)) | ((try simp only [go_sem, simprocAttr, hb1, hb2, hb3] at h); (try with_reducible intro K hK); simp only [go_sem, simprocAttr, hb1, hb2, hb3]))) | ((first | ((with_reducible apply wL); exact rfl) | ((with_reducible apply wM); exact rfl)); all_goals (try ((with_reducible intro h); first | (exact absurd h (by decide)) | (try simp only [go_sem, simprocAttr, hb1, hb2, hb3] at h)))) | omega | ((first | fail); try simp only [go_sem, simprocAttr, hb1, hb2, hb3]) | (intro h))
  refine awp_loopP (fun k : Nat => k ≤ p.outs.length ∧ ∀ j, j < k → (p.outs.getD j []).length ≤ 200) (fun k => ⟨[(24, .d (.sl 1 (vI p.outs))), (25, eN p.outs.length), (26, eN k)], []⟩) (fun k => p.outs.length - k) 0 (by simp) ?_ ?_
  · (refine Le.of ?_ ?_ <;> simp [go_sem, simprocAttr])
  rintro k ⟨hk, hg⟩
  rcases Nat.lt_or_ge k p.outs.length with hkl | hkg
  · have hb : decide ((k : Int) < (p.outs.length : Int)) = true := decide_eq_true (by omega)
    have hv := vI_getD hkl
    have hm := getD_memX (d := []) hkl
    have hll := hp.each _ hm
    by_cases h4 : 200 < (p.outs.getD k []).length
    · have hb4 : decide (200 < ((p.outs.getD k []).length : Int)) = true := decide_eq_true (by omega)
      have : B = true := by rw [hB2, List.any_eq_true]; exact ⟨_, hm, decide_eq_true h4⟩
      subst this
      repeat' (first | fail | ((first | ((with_reducible (first | apply oA | apply oB)); exact rfl; intro K hK) | (refine hK _ ?_; clear hK K) | ((with_reducible (first | apply oG | apply oH)); iterate 3 exact rfl) | ((with_reducible apply oI); (iterate 2 exact rfl); intro K hK) | (with_reducible (first | apply wI | apply wJ | apply wK))); try simp only [go_sem, simprocAttr, hb, hv, hb4]) | fail | (with_reducible (first | apply oC | apply oJ | exact oK | apply wA | apply wB | apply wC hX hC | apply wD hX hC | apply wE hX hC hmix | apply wF hX hC hmix | apply wG | apply wH | apply And.intro)) | ((with_reducible refine oD ?_ ?_); first | fail | kernel_rfl) | ((with_reducible (first | apply oE | apply oF)); (iterate 3 exact rfl); all_goals (intro h; first | (exact absurd h (by decide)) | ((try simp only [go_sem, simprocAttr, hb, hv, hb4] at h); (try with_reducible intro K hK); simp only [go_sem, simprocAttr, hb, hv, hb4]))) | ((first | ((with_reducible apply wL); exact rfl) | ((with_reducible apply wM); exact rfl)); all_goals (try ((with_reducible intro h); first | (exact absurd h (by decide)) | (try simp only [go_sem, simprocAttr, hb, hv, hb4] at h)))) | omega | ((first | fail); try simp only [go_sem, simprocAttr, hb, hv, hb4]) | (intro h))
    · have hb4 : decide (200 < ((p.outs.getD k []).length : Int)) = false := decide_eq_false (by omega)
      repeat' (first | fail | ((first | ((with_reducible (first | apply oA | apply oB)); exact rfl; intro K hK) | (refine hK _ ?_; clear hK K) | ((with_reducible (first | apply oG | apply oH)); iterate 3 exact rfl) | ((with_reducible apply oI); (iterate 2 exact rfl); intro K hK) | (with_reducible (first | apply wI | apply wJ | apply wK))); try simp only [go_sem, simprocAttr, hb, hv, hb4]) | fail | (with_reducible (first | apply oC | apply oJ | exact oK | apply wA | apply wB | apply wC hX hC | apply wD hX hC | apply wE hX hC hmix | apply wF hX hC hmix | apply wG | apply wH | apply And.intro)) | ((with_reducible refine oD ?_ ?_); first | fail | kernel_rfl) | ((with_reducible (first | apply oE | apply oF)); (iterate 3 exact rfl); all_goals (intro h; first | (exact absurd h (by decide)) | ((try simp only [go_sem, simprocAttr, hb, hv, hb4] at h); (try with_reducible intro K hK); simp only [go_sem, simprocAttr, hb, hv, hb4]))) | ((first | ((with_reducible apply wL); exact rfl) | ((with_reducible apply wM); exact rfl)); all_goals (try ((with_reducible intro h); first | (exact absurd h (by decide)) | (try simp only [go_sem, simprocAttr, hb, hv, hb4] at h)))) | omega | ((first | fail); try simp only [go_sem, simprocAttr, hb, hv, hb4]) | (intro h))
      refine ⟨k + 1, ⟨by omega, fun j hj => ?_⟩, ?_, by omega⟩
      · by_cases e : j = k
        · subst e; omega
        · exact hg j (by omega)
      · (refine Le.of ?_ ?_ <;> simp [go_sem, simprocAttr, hb, hv, hb4])
  · have hb : decide ((k : Int) < (p.outs.length : Int)) = false := decide_eq_false (by omega)
    have : B = false := by
      rw [hB2, List.any_eq_false]
      intro l hl
      obtain ⟨j, hj, rfl⟩ := List.mem_iff_getElem.1 hl
      have := hg j (by omega)
      rw [List.getD_eq_getElem?_getD, List.getElem?_eq_getElem hj, Option.getD_some] at this
      simp; omega
    subst this
    repeat' (first | fail | ((first | ((with_reducible (first | apply oA | apply oB)); exact rfl; intro K hK) | (refine hK _ ?_; clear hK K) | ((with_reducible (first | apply oG | apply oH)); iterate 3 exact rfl) | ((with_reducible apply oI); (iterate 2 exact rfl); intro K hK) | (with_reducible (first | apply wI | apply wJ | apply wK))); try simp only [go_sem, simprocAttr, hb]) | fail | (with_reducible (first | apply oC | apply oJ | exact oK | apply wA | apply wB | apply wC hX hC | apply wD hX hC | apply wE hX hC hmix | apply wF hX hC hmix | apply wG | apply wH | apply And.intro)) | ((with_reducible refine oD ?_ ?_); first | fail | kernel_rfl) | ((with_reducible (first | apply oE | apply oF)); (iterate 3 exact rfl); all_goals (intro h; first | (exact absurd h (by decide)) | ((try simp only [go_sem, simprocAttr, hb] at h); (try with_reducible intro K hK); simp only [go_sem, simprocAttr, hb]))) | ((first | ((with_reducible apply wL); exact rfl) | ((with_reducible apply wM); exact rfl)); all_goals (try ((with_reducible intro h); first | (exact absurd h (by decide)) | (try simp only [go_sem, simprocAttr, hb] at h)))) | omega | ((first | fail); try simp only [go_sem, simprocAttr, hb]) | (intro h))
/-- A plan is the same as itself. -/
theorem samePlan_spec (p : Pl) (hp : PlMax p) : Spec Try.prog 20 (Args [ePl p, ePl p]) [] (eB true) [] := by
  have ho := hp.ord
  have hu := hp.outs
  (refine Spec.intro (C := T.cfg [] []) (rs := [.t 4]) (T.cfg_ok _ _) Try.func20 rfl rfl Try.ntmps20 Try.results20 (by simp [AObj.isNest]) (by simp [AObj.isNest]) (by kernel_rfl) ?_; intro X hX hP hC hXn hXm vals hA; refine ⟨_, by simp, hA, ?_⟩; have hmix : X.P.follows .mixedOrders = true := (by rw [hP]; exact T.mixed); clear hXn hXm)
  repeat' (first | fail | ((first | ((with_reducible (first | apply oA | apply oB)); exact rfl; intro K hK) | (refine hK _ ?_; clear hK K) | ((with_reducible (first | apply oG | apply oH)); iterate 3 exact rfl) | ((with_reducible apply oI); (iterate 2 exact rfl); intro K hK) | (with_reducible (first | apply wI | apply wJ | apply wK))); try simp only [go_sem, simprocAttr, decide_true]) | fail | (with_reducible (first | apply oC | apply oJ | exact oK | apply wA | apply wB | apply wC hX hC | apply wD hX hC | apply wE hX hC hmix | apply wF hX hC hmix | apply wG | apply wH | apply And.intro)) | ((with_reducible refine oD ?_ ?_); first | fail | kernel_rfl) | ((with_reducible (first | apply oE | apply oF)); (iterate 3 exact rfl); all_goals (intro h; first | (exact absurd h (by decide)) | ((try simp only [go_sem, simprocAttr, decide_true] at h); (try with_reducible intro K hK); simp only [go_sem, simprocAttr, decide_true]))) | ((first | ((with_reducible apply wL); exact rfl) | ((with_reducible apply wM); exact rfl)); all_goals (try ((with_reducible intro h); first | (exact absurd h (by decide)) | (try simp only [go_sem, simprocAttr, decide_true] at h)))) | omega | ((first | fail); try simp only [go_sem, simprocAttr, decide_true]) | (intro h))
  refine awp_loopP (fun k : Nat => k ≤ p.ord.length) (fun k => ⟨[(2, .ptr 2 0), (3, .ptr 3 0), (5, eN k)], [(2, .box [.d (sI p.ord), .d (.sl 1 (vI p.outs))]), (3, .box [.d (sI p.ord), .d (.sl 1 (vI p.outs))])]⟩) (fun k => p.ord.length - k) 0 (by simp) ?_ ?_
  · (refine Le.of ?_ ?_ <;> simp [go_sem, simprocAttr, decide_true])
  rintro k hk
  rcases Nat.lt_or_ge k p.ord.length with hkl | hkg
  · have hb : decide ((k : Int) < (p.ord.length : Int)) = true := decide_eq_true (by omega)
    repeat' (first | fail | ((first | ((with_reducible (first | apply oA | apply oB)); exact rfl; intro K hK) | (refine hK _ ?_; clear hK K) | ((with_reducible (first | apply oG | apply oH)); iterate 3 exact rfl) | ((with_reducible apply oI); (iterate 2 exact rfl); intro K hK) | (with_reducible (first | apply wI | apply wJ | apply wK))); try simp only [go_sem, simprocAttr, decide_true, hb]) | fail | (with_reducible (first | apply oC | apply oJ | exact oK | apply wA | apply wB | apply wC hX hC | apply wD hX hC | apply wE hX hC hmix | apply wF hX hC hmix | apply wG | apply wH | apply And.intro)) | ((with_reducible refine oD ?_ ?_); first | fail | kernel_rfl) | ((with_reducible (first | apply oE | apply oF)); (iterate 3 exact rfl); all_goals (intro h; first | (exact absurd h (by decide)) | ((try simp only [go_sem, simprocAttr, decide_true, hb] at h); (try with_reducible intro K hK); simp only [go_sem, simprocAttr, decide_true, hb]))) | ((first | ((with_reducible apply wL); exact rfl) | ((with_reducible apply wM); exact rfl)); all_goals (try ((with_reducible intro h); first | (exact absurd h (by decide)) | (try simp only [go_sem, simprocAttr, decide_true, hb] at h)))) | omega | ((first | fail); try simp only [go_sem, simprocAttr, decide_true, hb]) | (intro h))
    refine ⟨k + 1, by omega, ?_, by omega⟩
    (refine Le.of ?_ ?_ <;> simp [go_sem, simprocAttr, decide_true, hb])
  have hb : decide ((k : Int) < (p.ord.length : Int)) = false := decide_eq_false (by omega)
  repeat' (first | fail | ((first | ((with_reducible (first | apply oA | apply oB)); exact rfl; intro K hK) | (refine hK _ ?_; clear hK K) | ((with_reducible (first | apply oG | apply oH)); iterate 3 exact rfl) | ((with_reducible apply oI); (iterate 2 exact rfl); intro K hK) | (with_reducible (first | apply wI | apply wJ | apply wK))); try simp only [go_sem, simprocAttr, decide_true, hb]) | fail | (with_reducible (first | apply oC | apply oJ | exact oK | apply wA | apply wB | apply wC hX hC | apply wD hX hC | apply wE hX hC hmix | apply wF hX hC hmix | apply wG | apply wH | apply And.intro)) | ((with_reducible refine oD ?_ ?_); first | fail | kernel_rfl) | ((with_reducible (first | apply oE | apply oF)); (iterate 3 exact rfl); all_goals (intro h; first | (exact absurd h (by decide)) | ((try simp only [go_sem, simprocAttr, decide_true, hb] at h); (try with_reducible intro K hK); simp only [go_sem, simprocAttr, decide_true, hb]))) | ((first | ((with_reducible apply wL); exact rfl) | ((with_reducible apply wM); exact rfl)); all_goals (try ((with_reducible intro h); first | (exact absurd h (by decide)) | (try simp only [go_sem, simprocAttr, decide_true, hb] at h)))) | omega | ((first | fail); try simp only [go_sem, simprocAttr, decide_true, hb]) | (intro h))
  clear hb hk hkg
  refine awp_loopP (fun k : Nat => k ≤ p.outs.length) (fun k => ⟨[(2, .ptr 2 0), (3, .ptr 3 0), (6, eN k)], [(2, .box [.d (sI p.ord), .d (.sl 1 (vI p.outs))]), (3, .box [.d (sI p.ord), .d (.sl 1 (vI p.outs))])]⟩) (fun k => p.outs.length - k) 0 (by simp) ?_ ?_
  · (refine Le.of ?_ ?_ <;> simp [go_sem, simprocAttr])
  rintro k hk
  rcases Nat.lt_or_ge k p.outs.length with hkl | hkg
  · have hb : decide ((k : Int) < (p.outs.length : Int)) = true := decide_eq_true (by omega)
    have hv := vI_getD hkl
    have hll := hp.each _ (getD_memX (d := []) hkl)
    generalize p.outs.getD k [] = l at hv hll
    repeat' (first | fail | ((first | ((with_reducible (first | apply oA | apply oB)); exact rfl; intro K hK) | (refine hK _ ?_; clear hK K) | ((with_reducible (first | apply oG | apply oH)); iterate 3 exact rfl) | ((with_reducible apply oI); (iterate 2 exact rfl); intro K hK) | (with_reducible (first | apply wI | apply wJ | apply wK))); try simp only [go_sem, simprocAttr, decide_true, hb, hv]) | fail | (with_reducible (first | apply oC | apply oJ | exact oK | apply wA | apply wB | apply wC hX hC | apply wD hX hC | apply wE hX hC hmix | apply wF hX hC hmix | apply wG | apply wH | apply And.intro)) | ((with_reducible refine oD ?_ ?_); first | fail | kernel_rfl) | ((with_reducible (first | apply oE | apply oF)); (iterate 3 exact rfl); all_goals (intro h; first | (exact absurd h (by decide)) | ((try simp only [go_sem, simprocAttr, decide_true, hb, hv] at h); (try with_reducible intro K hK); simp only [go_sem, simprocAttr, decide_true, hb, hv]))) | ((first | ((with_reducible apply wL); exact rfl) | ((with_reducible apply wM); exact rfl)); all_goals (try ((with_reducible intro h); first | (exact absurd h (by decide)) | (try simp only [go_sem, simprocAttr, decide_true, hb, hv] at h)))) | omega | ((first | fail); try simp only [go_sem, simprocAttr, decide_true, hb, hv]) | (intro h))
    refine awp_loopP (fun j : Nat => j ≤ l.length) (fun j => ⟨[(2, .ptr 2 0), (3, .ptr 3 0), (6, eN k), (7, eN j)], [(2, .box [.d (sI p.ord), .d (.sl 1 (vI p.outs))]), (3, .box [.d (sI p.ord), .d (.sl 1 (vI p.outs))])]⟩) (fun j => l.length - j) 0 (by simp) ?_ ?_
    · (refine Le.of ?_ ?_ <;> simp [go_sem, simprocAttr])
    rintro j hj
    rcases Nat.lt_or_ge j l.length with hjl | hjg
    · have hbj : decide ((j : Int) < (l.length : Int)) = true := decide_eq_true (by omega)
      repeat' (first | fail | ((first | ((with_reducible (first | apply oA | apply oB)); exact rfl; intro K hK) | (refine hK _ ?_; clear hK K) | ((with_reducible (first | apply oG | apply oH)); iterate 3 exact rfl) | ((with_reducible apply oI); (iterate 2 exact rfl); intro K hK) | (with_reducible (first | apply wI | apply wJ | apply wK))); try simp only [go_sem, simprocAttr, decide_true, hbj, hv]) | fail | (with_reducible (first | apply oC | apply oJ | exact oK | apply wA | apply wB | apply wC hX hC | apply wD hX hC | apply wE hX hC hmix | apply wF hX hC hmix | apply wG | apply wH | apply And.intro)) | ((with_reducible refine oD ?_ ?_); first | fail | kernel_rfl) | ((with_reducible (first | apply oE | apply oF)); (iterate 3 exact rfl); all_goals (intro h; first | (exact absurd h (by decide)) | ((try simp only [go_sem, simprocAttr, decide_true, hbj, hv] at h); (try with_reducible intro K hK); simp only [go_sem, simprocAttr, decide_true, hbj, hv]))) | ((first | ((with_reducible apply wL); exact rfl) | ((with_reducible apply wM); exact rfl)); all_goals (try ((with_reducible intro h); first | (exact absurd h (by decide)) | (try simp only [go_sem, simprocAttr, decide_true, hbj, hv] at h)))) | omega | ((first | fail); try simp only [go_sem, simprocAttr, decide_true, hbj, hv]) | (intro h))
      refine ⟨j + 1, by omega, ?_, by omega⟩
      (refine Le.of ?_ ?_ <;> simp [go_sem, simprocAttr, decide_true, hbj, hv])
    · have hbj : decide ((j : Int) < (l.length : Int)) = false := decide_eq_false (by omega)
      repeat' (first | fail | ((first | ((with_reducible (first | apply oA | apply oB)); exact rfl; intro K hK) | (refine hK _ ?_; clear hK K) | ((with_reducible (first | apply oG | apply oH)); iterate 3 exact rfl) | ((with_reducible apply oI); (iterate 2 exact rfl); intro K hK) | (with_reducible (first | apply wI | apply wJ | apply wK))); try simp only [go_sem, simprocAttr, decide_true, hbj, hv]) | fail | (with_reducible (first | apply oC | apply oJ | exact oK | apply wA | apply wB | apply wC hX hC | apply wD hX hC | apply wE hX hC hmix | apply wF hX hC hmix | apply wG | apply wH | apply And.intro)) | ((with_reducible refine oD ?_ ?_); first | fail | kernel_rfl) | ((with_reducible (first | apply oE | apply oF)); (iterate 3 exact rfl); all_goals (intro h; first | (exact absurd h (by decide)) | ((try simp only [go_sem, simprocAttr, decide_true, hbj, hv] at h); (try with_reducible intro K hK); simp only [go_sem, simprocAttr, decide_true, hbj, hv]))) | ((first | ((with_reducible apply wL); exact rfl) | ((with_reducible apply wM); exact rfl)); all_goals (try ((with_reducible intro h); first | (exact absurd h (by decide)) | (try simp only [go_sem, simprocAttr, decide_true, hbj, hv] at h)))) | omega | ((first | fail); try simp only [go_sem, simprocAttr, decide_true, hbj, hv]) | (intro h))
      refine ⟨k + 1, by omega, ?_, by omega⟩
      (refine Le.of ?_ ?_ <;> simp [go_sem, simprocAttr, decide_true, hbj, hv])
  · have hb : decide ((k : Int) < (p.outs.length : Int)) = false := decide_eq_false (by omega)
    repeat' (first | fail | ((first | ((with_reducible (first | apply oA | apply oB)); exact rfl; intro K hK) | (refine hK _ ?_; clear hK K) | ((with_reducible (first | apply oG | apply oH)); iterate 3 exact rfl) | ((with_reducible apply oI); (iterate 2 exact rfl); intro K hK) | (with_reducible (first | apply wI | apply wJ | apply wK))); try simp only [go_sem, simprocAttr, decide_true, hb]) | fail | (with_reducible (first | apply oC | apply oJ | exact oK | apply wA | apply wB | apply wC hX hC | apply wD hX hC | apply wE hX hC hmix | apply wF hX hC hmix | apply wG | apply wH | apply And.intro)) | ((with_reducible refine oD ?_ ?_); first | fail | kernel_rfl) | ((with_reducible (first | apply oE | apply oF)); (iterate 3 exact rfl); all_goals (intro h; first | (exact absurd h (by decide)) | ((try simp only [go_sem, simprocAttr, decide_true, hb] at h); (try with_reducible intro K hK); simp only [go_sem, simprocAttr, decide_true, hb]))) | ((first | ((with_reducible apply wL); exact rfl) | ((with_reducible apply wM); exact rfl)); all_goals (try ((with_reducible intro h); first | (exact absurd h (by decide)) | (try simp only [go_sem, simprocAttr, decide_true, hb] at h)))) | omega | ((first | fail); try simp only [go_sem, simprocAttr, decide_true, hb]) | (intro h))
def isB (g : Gr) : Bool := decide ((chkG g).1 = 0) && decide ((bareG (·.1) g).length = 1)
theorem augIs_spec (g : Gr) (hl : g.es.length ≤ 1000) : Spec Try.prog 21 (Args [eG g]) [] (eB (isB g)) [] := by
  by_cases hc : (chkG g).1 = 0
  · have hm := good_may hc
    have hb1 : decide ((chkG g).1 = 0) = true := decide_eq_true hc
    have hI : isB g = decide (((bareG (·.1) g).length : Int) = 1) := by
      unfold isB; rw [hb1, Bool.true_and, decide_eq_decide]; omega
    rw [hI]
    generalize hbl : bareG (·.1) g = bl
    have hS := sinks_spec g hm
    rw [hbl] at hS
    (refine Spec.intro (C := T.cfg [] []) (rs := [.t 2]) (T.cfg_ok _ _) Try.func21 rfl rfl Try.ntmps21 Try.results21 (by simp [AObj.isNest]) (by simp [AObj.isNest]) (by kernel_rfl) ?_; intro X hX hP hC hXn hXm vals hA; refine ⟨_, by simp, hA, ?_⟩; have hmix : X.P.follows .mixedOrders = true := (by rw [hP]; exact T.mixed); clear hXn hXm)
    repeat' (first | fail | ((first | ((with_reducible (first | apply oA | apply oB)); exact rfl; intro K hK) | (refine hK _ ?_; clear hK K) | ((with_reducible (first | apply oG | apply oH)); iterate 3 exact rfl) | ((with_reducible apply oI); (iterate 2 exact rfl); intro K hK) | (with_reducible (first | apply wI | apply wJ | apply wK))); try simp only [go_sem, simprocAttr, hb1]) | fail | (with_reducible (first | apply oC | apply oJ | exact oK | apply wA | apply wB | apply wC hX hC | apply wD hX hC | apply wE hX hC hmix | apply wF hX hC hmix | apply wG | apply wH | apply And.intro)) | ((with_reducible refine oD ?_ ?_); first | fail | kernel_rfl) | ((with_reducible (first | apply oE | apply oF)); (iterate 3 exact rfl); all_goals (intro h; first | (exact absurd h (by decide)) | ((try simp only [go_sem, simprocAttr, hb1] at h); (try with_reducible intro K hK); simp only [go_sem, simprocAttr, hb1]))) | ((first | ((with_reducible apply wL); exact rfl) | ((with_reducible apply wM); exact rfl)); all_goals (try ((with_reducible intro h); first | (exact absurd h (by decide)) | (try simp only [go_sem, simprocAttr, hb1] at h)))) | omega | ((first | first | refine acall_simple hX hC hP (check_spec g hl) rfl rfl rfl (by simp only [go_sem, simprocAttr, hb1]) rfl ?_ | refine acall_simple hX hC hP (of_spec g hm) rfl rfl rfl (by simp only [go_sem, simprocAttr, hb1]) rfl ?_ | refine acall_simple hX hC hP (hS) rfl rfl rfl (by simp only [go_sem, simprocAttr, hb1]) rfl ?_); try simp only [go_sem, simprocAttr, hb1]) | (intro h))
  · have hb1 : decide ((chkG g).1 = 0) = false := decide_eq_false hc
    have hI : isB g = false := by unfold isB; rw [hb1]; rfl
    rw [hI]
    (refine Spec.intro (C := T.cfg [] []) (rs := [.t 2]) (T.cfg_ok _ _) Try.func21 rfl rfl Try.ntmps21 Try.results21 (by simp [AObj.isNest]) (by simp [AObj.isNest]) (by kernel_rfl) ?_; intro X hX hP hC hXn hXm vals hA; refine ⟨_, by simp, hA, ?_⟩; have hmix : X.P.follows .mixedOrders = true := (by rw [hP]; exact T.mixed); clear hXn hXm)
    repeat' (first | fail | ((first | ((with_reducible (first | apply oA | apply oB)); exact rfl; intro K hK) | (refine hK _ ?_; clear hK K) | ((with_reducible (first | apply oG | apply oH)); iterate 3 exact rfl) | ((with_reducible apply oI); (iterate 2 exact rfl); intro K hK) | (with_reducible (first | apply wI | apply wJ | apply wK))); try simp only [go_sem, simprocAttr, hb1]) | fail | (with_reducible (first | apply oC | apply oJ | exact oK | apply wA | apply wB | apply wC hX hC | apply wD hX hC | apply wE hX hC hmix | apply wF hX hC hmix | apply wG | apply wH | apply And.intro)) | ((with_reducible refine oD ?_ ?_); first | fail | kernel_rfl) | ((with_reducible (first | apply oE | apply oF)); (iterate 3 exact rfl); all_goals (intro h; first | (exact absurd h (by decide)) | ((try simp only [go_sem, simprocAttr, hb1] at h); (try with_reducible intro K hK); simp only [go_sem, simprocAttr, hb1]))) | ((first | ((with_reducible apply wL); exact rfl) | ((with_reducible apply wM); exact rfl)); all_goals (try ((with_reducible intro h); first | (exact absurd h (by decide)) | (try simp only [go_sem, simprocAttr, hb1] at h)))) | omega | ((first | first | refine acall_simple hX hC hP (check_spec g hl) rfl rfl rfl (by simp only [go_sem, simprocAttr, hb1]) rfl ?_); try simp only [go_sem, simprocAttr, hb1]) | (intro h))
theorem refIs_spec (g : Gr) (hl : g.es.length ≤ 1000) : Spec Try.prog 22 (Args [eG g]) [] (eB (isB g)) [] := by
  by_cases hc : (chkG g).1 = 0
  · have hm := good_may hc
    have hn := mayB_n hm
    have hb1 : decide ((chkG g).1 = 0) = true := decide_eq_true hc
    have hI : isB g = decide (((bareG (·.1) g).length : Int) = 1) := by
      unfold isB; rw [hb1, Bool.true_and, decide_eq_decide]; omega
    rw [hI]
    have hS := refBare_spec g false hl (by omega)
    rw [show endF (!false) = (·.1) from rfl] at hS
    generalize bareG (·.1) g = bl at hS
    (refine Spec.intro (C := T.cfg [] []) (rs := [.t 2]) (T.cfg_ok _ _) Try.func22 rfl rfl Try.ntmps22 Try.results22 (by simp [AObj.isNest]) (by simp [AObj.isNest]) (by kernel_rfl) ?_; intro X hX hP hC hXn hXm vals hA; refine ⟨_, by simp, hA, ?_⟩; have hmix : X.P.follows .mixedOrders = true := (by rw [hP]; exact T.mixed); clear hXn hXm)
    repeat' (first | fail | ((first | ((with_reducible (first | apply oA | apply oB)); exact rfl; intro K hK) | (refine hK _ ?_; clear hK K) | ((with_reducible (first | apply oG | apply oH)); iterate 3 exact rfl) | ((with_reducible apply oI); (iterate 2 exact rfl); intro K hK) | (with_reducible (first | apply wI | apply wJ | apply wK))); try simp only [go_sem, simprocAttr, hb1]) | fail | (with_reducible (first | apply oC | apply oJ | exact oK | apply wA | apply wB | apply wC hX hC | apply wD hX hC | apply wE hX hC hmix | apply wF hX hC hmix | apply wG | apply wH | apply And.intro)) | ((with_reducible refine oD ?_ ?_); first | fail | kernel_rfl) | ((with_reducible (first | apply oE | apply oF)); (iterate 3 exact rfl); all_goals (intro h; first | (exact absurd h (by decide)) | ((try simp only [go_sem, simprocAttr, hb1] at h); (try with_reducible intro K hK); simp only [go_sem, simprocAttr, hb1]))) | ((first | ((with_reducible apply wL); exact rfl) | ((with_reducible apply wM); exact rfl)); all_goals (try ((with_reducible intro h); first | (exact absurd h (by decide)) | (try simp only [go_sem, simprocAttr, hb1] at h)))) | omega | ((first | first | refine acall_simple hX hC hP (refGoodA_spec g (by omega)) rfl rfl rfl (by simp only [go_sem, simprocAttr, hb1]) rfl ?_ | refine acall_simple hX hC hP (hS) rfl rfl rfl (by simp only [go_sem, simprocAttr, hb1]) rfl ?_); try simp only [go_sem, simprocAttr, hb1]) | (intro h))
  · have hb1 : decide ((chkG g).1 = 0) = false := decide_eq_false hc
    have hI : isB g = false := by unfold isB; rw [hb1]; rfl
    rw [hI]
    (refine Spec.intro (C := T.cfg [] []) (rs := [.t 2]) (T.cfg_ok _ _) Try.func22 rfl rfl Try.ntmps22 Try.results22 (by simp [AObj.isNest]) (by simp [AObj.isNest]) (by kernel_rfl) ?_; intro X hX hP hC hXn hXm vals hA; refine ⟨_, by simp, hA, ?_⟩; have hmix : X.P.follows .mixedOrders = true := (by rw [hP]; exact T.mixed); clear hXn hXm)
    repeat' (first | fail | ((first | ((with_reducible (first | apply oA | apply oB)); exact rfl; intro K hK) | (refine hK _ ?_; clear hK K) | ((with_reducible (first | apply oG | apply oH)); iterate 3 exact rfl) | ((with_reducible apply oI); (iterate 2 exact rfl); intro K hK) | (with_reducible (first | apply wI | apply wJ | apply wK))); try simp only [go_sem, simprocAttr, hb1]) | fail | (with_reducible (first | apply oC | apply oJ | exact oK | apply wA | apply wB | apply wC hX hC | apply wD hX hC | apply wE hX hC hmix | apply wF hX hC hmix | apply wG | apply wH | apply And.intro)) | ((with_reducible refine oD ?_ ?_); first | fail | kernel_rfl) | ((with_reducible (first | apply oE | apply oF)); (iterate 3 exact rfl); all_goals (intro h; first | (exact absurd h (by decide)) | ((try simp only [go_sem, simprocAttr, hb1] at h); (try with_reducible intro K hK); simp only [go_sem, simprocAttr, hb1]))) | ((first | ((with_reducible apply wL); exact rfl) | ((with_reducible apply wM); exact rfl)); all_goals (try ((with_reducible intro h); first | (exact absurd h (by decide)) | (try simp only [go_sem, simprocAttr, hb1] at h)))) | omega | ((first | first | refine acall_simple hX hC hP (refGoodA_spec g (by omega)) rfl rfl rfl (by simp only [go_sem, simprocAttr, hb1]) rfl ?_); try simp only [go_sem, simprocAttr, hb1]) | (intro h))
end Go.Ab
end
