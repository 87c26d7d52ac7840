/- A part of the proof. -/
import Derived.Test.YtilamojcledkaaaGreatL1P14
set_option linter.unusedSimpArgs false
set_option linter.unusedVariables false
section
namespace Go.Ab
def nm (names : List Int) (v : Int) : Int := names.getD v.toNat 0
structure RenOk (g : Gr) (names order : List Int) : Prop where
 may : mayB g = true
 nms : eachB names g.n = true
 ord : eachB order (g.es.length : Int) = true
section
variable {g : Gr} {names order : List Int} (h : RenOk g names order)
include h
theorem RenOk.len : (renG g names order).es.length = g.es.length := by
 have := (eachB_iff.1 h.ord).1
 simp only [renG, renK_length]; omega
theorem RenOk.edge {i : Nat} (hi : i < g.es.length) : ∃ j, j < g.es.length ∧ order.getD i 0 = (j : Int) ∧ (renG g names order).es.getD i (0, 0) = (nm names (tl g j), nm names (hd g j)) := by
 have hol := (eachB_iff.1 h.ord).1
 have := eachB_lo h.ord _ (getD_mem (l := order) (m := i) (by omega))
 refine ⟨(order.getD i 0).toNat, by omega, by omega, ?_⟩
 simp only [renG, renK, nm, tl, hd]
 rw [List.getD_eq_getElem?_getD, List.getElem?_map, List.getElem?_range (by omega)]
 rfl
theorem RenOk.back {j : Nat} (hj : j < g.es.length) : ∃ i, i < g.es.length ∧ order.getD i 0 = (j : Int) ∧ (renG g names order).es.getD i (0, 0) = (nm names (tl g j), nm names (hd g j)) := by
 obtain ⟨hol, hall⟩ := eachB_iff.1 h.ord
 obtain ⟨i, hi, hil, he⟩ := idxI_mem (hall (j : Int) (allN_mem.2 (by omega)))
 obtain ⟨j', _, h2, h3⟩ := h.edge (i := i) (by omega)
 have : j' = j := by omega
 subst this
 exact ⟨i, by omega, he, h3⟩
theorem RenOk.inj {a b : Int} (ha : 0 ≤ a ∧ a < g.n) (hb : 0 ≤ b ∧ b < g.n) (e : nm names a = nm names b) : a = b := by
 have hnl := (eachB_iff.1 h.nms).1
 have := eachB_once h.nms (i := a.toNat) (j := b.toNat) (by omega) (by omega) e
 omega
theorem RenOk.range {a : Int} (ha : 0 ≤ a ∧ a < g.n) : 0 ≤ nm names a ∧ nm names a < g.n := by
 have hnl := (eachB_iff.1 h.nms).1
 exact eachB_lo h.nms _ (getD_mem (by omega))
theorem RenOk.inv {a : Int} (ha : 0 ≤ a ∧ a < g.n) : idxI names (nm names a) = a := by
 have hnl := (eachB_iff.1 h.nms).1
 obtain ⟨k, hk, hkl, he⟩ := idxI_mem (getD_mem (l := names) (m := a.toNat) (by omega))
 have h2 := eachB_once h.nms hkl (j := a.toNat) (by omega) he
 have h3 : idxI names (nm names a) = k := hk
 omega
theorem RenOk.of {v : Int} (hv : 0 ≤ v ∧ v < g.n) : ∃ a, (0 ≤ a ∧ a < g.n) ∧ nm names a = v := by
 obtain ⟨hnl, hall⟩ := eachB_iff.1 h.nms
 obtain ⟨k, hk, hkl, he⟩ := idxI_mem (hall v (allN_mem.2 (by omega)))
 exact ⟨k, by omega, he⟩
theorem RenOk.may' : mayB (renG g names order) = true := by
 have hn := mayB_n h.may
 have hlen := h.len
 have hall : (renG g names order).es.any (outE (renG g names order)) = false := by
  rw [List.any_eq_false]
  intro e he
  obtain ⟨i, hi, rfl⟩ := List.getElem_of_mem he
  obtain ⟨j, hj, _, h3⟩ := h.edge (i := i) (by omega)
  rw [List.getD_eq_getElem?_getD, List.getElem?_eq_getElem hi, Option.getD_some] at h3
  rw [h3]
  have h4 := h.range (tl_range h.may hj)
  have h5 := h.range (hd_range h.may hj)
  have e1 : (renG g names order).n = g.n := rfl
  simp only [outE, outB, e1, Bool.or_eq_true, decide_eq_true_eq]
  omega
 have e1 : (renG g names order).n = g.n := rfl
 simp only [mayB, hall, e1, Bool.not_false, Bool.and_true, Bool.and_eq_true, decide_eq_true_eq]
 omega
omit h in
theorem ren_tl {i j : Nat} (e : (renG g names order).es.getD i (0, 0) = (nm names (tl g j), nm names (hd g j))) : tl (renG g names order) i = nm names (tl g j) ∧ hd (renG g names order) i = nm names (hd g j) := ⟨congrArg Prod.fst e, congrArg Prod.snd e⟩
theorem RenOk.loop : (0 ≤ loopI (renG g names order)) ↔ 0 ≤ loopI g := by
 have key : ∀ g : Gr, (0 ≤ loopI g) ↔ ∃ i, i < g.es.length ∧ tl g i = hd g i := by
  intro g
  have := findI_any (fun e : Edge => decide (e.1 = e.2)) g.es
  rw [show (0 ≤ loopI g) ↔ g.es.any (fun e : Edge => decide (e.1 = e.2)) = true from by rw [← this]; simp [loopI], List.any_eq_true]
  constructor
  ·rintro ⟨e, he, h2⟩
   obtain ⟨i, hi, rfl⟩ := List.getElem_of_mem he
   refine ⟨i, hi, ?_⟩
   simpa [tl, hd, List.getD_eq_getElem?_getD, List.getElem?_eq_getElem hi] using h2
  ·rintro ⟨i, hi, h2⟩
   refine ⟨_, List.getElem_mem hi, ?_⟩
   simpa [tl, hd, List.getD_eq_getElem?_getD, List.getElem?_eq_getElem hi] using h2
 rw [key, key, h.len]
 constructor
 ·rintro ⟨i, hi, e⟩
  obtain ⟨j, hj, _, h3⟩ := h.edge hi
  obtain ⟨e1, e2⟩ := ren_tl h3
  exact ⟨j, hj, h.inj (tl_range h.may hj) (hd_range h.may hj) (by rw [← e1, ← e2, e])⟩
 ·rintro ⟨j, hj, e⟩
  obtain ⟨i, hi, _, h3⟩ := h.back hj
  obtain ⟨e1, e2⟩ := ren_tl h3
  exact ⟨i, hi, by rw [e1, e2, e]⟩
omit h in
theorem twice_iff (g : Gr) : (0 ≤ twiceI g) ↔ ∃ i k, i < g.es.length ∧ k < g.es.length ∧ i ≠ k ∧ g.es.getD i (0, 0) = g.es.getD k (0, 0) := by
 have := findI_any (twiceB g) (List.range g.es.length)
 rw [show (0 ≤ twiceI g) ↔ (List.range g.es.length).any (twiceB g) = true from by rw [← this]; simp [twiceI], List.any_eq_true]
 constructor
 ·rintro ⟨i, hi, h2⟩
  have hil := List.mem_range.1 hi
  have h3 := of_decide_eq_true h2
  rw [List.mem_iff_getElem?] at h3
  obtain ⟨k, hk⟩ := h3
  rw [List.getElem?_take] at hk
  split at hk
  ·rename_i hki
   exact ⟨i, k, hil, by omega, by omega, by rw [List.getD_eq_getElem?_getD (i := k), hk]; rfl⟩
  ·cases hk
 ·rintro ⟨i, k, hi, hk, hne, e⟩
  have main : ∀ i k, k < i → i < g.es.length → g.es.getD i (0, 0) = g.es.getD k (0, 0) → twiceB g i = true := by
   intro i k hki hi e
   refine decide_eq_true ?_
   rw [e, List.mem_iff_getElem?]
   refine ⟨k, ?_⟩
   rw [List.getElem?_take, if_pos hki, List.getD_eq_getElem?_getD, List.getElem?_eq_getElem (by omega)]; rfl
  rcases Nat.lt_or_gt_of_ne hne with hlt | hgt
  ·exact ⟨k, List.mem_range.2 hk, main k i hlt hk e.symm⟩
  ·exact ⟨i, List.mem_range.2 hi, main i k hgt hi e⟩
theorem RenOk.twice : (0 ≤ twiceI (renG g names order)) ↔ 0 ≤ twiceI g := by
 have hol := (eachB_iff.1 h.ord).1
 rw [twice_iff, twice_iff, h.len]
 constructor
 ·rintro ⟨i, k, hi, hk, hne, e⟩
  obtain ⟨j, hj, ho, h3⟩ := h.edge hi
  obtain ⟨j', hj', ho', h3'⟩ := h.edge hk
  refine ⟨j, j', hj, hj', fun e' => ?_, ?_⟩
  ·subst e'
   exact hne (eachB_once h.ord (by omega) (by omega) (by rw [ho, ho']))
  ·rw [h3, h3', Prod.mk.injEq] at e
   have e1 := h.inj (tl_range h.may hj) (tl_range h.may hj') e.1
   have e2 := h.inj (hd_range h.may hj) (hd_range h.may hj') e.2
   exact Prod.ext e1 e2
 ·rintro ⟨j, j', hj, hj', hne, e⟩
  obtain ⟨i, hi, ho, h3⟩ := h.back hj
  obtain ⟨k, hk, ho', h3'⟩ := h.back hj'
  refine ⟨i, k, hi, hk, fun e' => ?_, ?_⟩
  ·subst e'; omega
  ·have e1 : tl g j = tl g j' := congrArg Prod.fst e
   have e2 : hd g j = hd g j' := congrArg Prod.snd e
   rw [h3, h3', e1, e2]
theorem RenOk.acyc : okG (renG g names order) = okG g := by
 rw [Bool.eq_iff_iff, okG_iff h.may', okG_iff h.may]
 constructor
 ·rintro ⟨r, hr⟩
  refine ⟨fun v => r (nm names v), fun j hj => ?_⟩
  obtain ⟨i, hi, _, h3⟩ := h.back hj
  obtain ⟨e1, e2⟩ := ren_tl h3
  have := hr i (by rw [h.len]; exact hi)
  rwa [e1, e2] at this
 ·rintro ⟨r, hr⟩
  refine ⟨fun v => r (idxI names v), fun i hi => ?_⟩
  rw [h.len] at hi
  obtain ⟨j, hj, _, h3⟩ := h.edge hi
  obtain ⟨e1, e2⟩ := ren_tl h3
  have := hr j hj
  rw [e1, e2]; simp only; rw [h.inv (tl_range h.may hj), h.inv (hd_range h.may hj)]
  exact this
omit h in
theorem bare_mem {g : Gr} {y : Int} : y ∈ bareG (·.2) g ↔ (0 ≤ y ∧ y < g.n) ∧ ∀ i, i < g.es.length → hd g i ≠ y := by
 simp only [bareG, bareK, List.mem_map, List.mem_filter, List.mem_range, decide_eq_true_eq]
 have he : ∀ x : Nat, x < g.n.toNat → (((endsL (·.2) g).getD x []).length = 0 ↔ ∀ i, i < g.es.length → hd g i ≠ (x : Int)) := by
  intro x hx
  have e : (endsL (·.2) g).getD x [] = endsZ (·.2) g.es g.es.length (x : Int) := by
   simp [endsL, List.getD_eq_getElem?_getD, List.getElem?_range hx, endsK_eq]
  rw [e, List.length_eq_zero_iff]
  simp only [endsZ, List.map_eq_nil_iff, List.filter_eq_nil_iff, List.mem_range, decide_eq_true_eq]
  rfl
 constructor
 ·rintro ⟨x, ⟨hx, h0⟩, rfl⟩
  refine ⟨by simp; omega, (he x hx).1 h0⟩
 ·rintro ⟨⟨h1, h2⟩, h3⟩
  have e : ((y.toNat : Nat) : Int) = y := by omega
  exact ⟨y.toNat, ⟨by omega, (he _ (by omega)).2 (by rw [e]; exact h3)⟩, e⟩
omit h in
theorem bare_nodup {f : Edge → Int} {g : Gr} : (bareG f g).Nodup := by
 unfold bareG bareK
 refine List.Pairwise.map _ (fun a b h e => h (Int.ofNat.inj e)) (List.Pairwise.filter _ List.nodup_range)
theorem RenOk.bare : (bareG (·.2) (renG g names order)).length = (bareG (·.2) g).length := by
 have e1 : (renG g names order).n = g.n := rfl
 have h1 : ((bareG (·.2) g).map (nm names)).length ≤ (bareG (·.2) (renG g names order)).length := by
  refine Nat.le_trans (count_le _ (bareG (·.2) (renG g names order)) ?_ ?_) List.countP_le_length
  ·rw [List.nodup_iff_pairwise_ne]
   refine List.Pairwise.map _ (fun a b h => h) ?_
   refine List.Pairwise.imp_of_mem ?_ bare_nodup
   intro a b ha hb hab e
   exact hab (h.inj (bare_mem.1 ha).1 (bare_mem.1 hb).1 e)
  ·intro v hv
   obtain ⟨y, hy, rfl⟩ := List.mem_map.1 hv
   obtain ⟨hy1, hy2⟩ := bare_mem.1 hy
   refine bare_mem.2 ⟨h.range hy1, fun i hi e => ?_⟩
   rw [h.len] at hi
   obtain ⟨j, hj, _, h3⟩ := h.edge hi
   rw [(ren_tl h3).2] at e
   exact hy2 j hj (h.inj (hd_range h.may hj) hy1 e)
 have h2 : ((bareG (·.2) (renG g names order)).map (idxI names)).length ≤ (bareG (·.2) g).length := by
  have hsplit : ∀ v ∈ bareG (·.2) (renG g names order), ∃ a, (0 ≤ a ∧ a < g.n) ∧ nm names a = v := fun v hv => h.of (bare_mem.1 hv).1
  refine Nat.le_trans (count_le _ (bareG (·.2) g) ?_ ?_) List.countP_le_length
  ·rw [List.nodup_iff_pairwise_ne]
   refine List.Pairwise.map _ (fun a b h => h) ?_
   refine List.Pairwise.imp_of_mem ?_ bare_nodup
   intro a b ha hb hab e
   obtain ⟨a', ha', rfl⟩ := hsplit a ha
   obtain ⟨b', hb', rfl⟩ := hsplit b hb
   rw [h.inv ha', h.inv hb'] at e
   exact hab (by rw [e])
  ·intro v hv
   obtain ⟨y, hy, rfl⟩ := List.mem_map.1 hv
   obtain ⟨a, ha, rfl⟩ := hsplit y hy
   rw [h.inv ha]
   refine bare_mem.2 ⟨ha, fun j hj e => ?_⟩
   obtain ⟨i, hi, _, h3⟩ := h.back hj
   refine (bare_mem.1 hy).2 i (by rw [h.len]; exact hi) ?_
   rw [(ren_tl h3).2, e]
 simp only [List.length_map] at h1 h2
 omega
theorem RenOk.kind : (chkG (renG g names order)).1 = (chkG g).1 := by
 have hm := h.may'
 have hc : (0 < (cycG (renG g names order)).length) ↔ 0 < (cycG g).length := by
  have key : ∀ g : Gr, mayB g = true → ((0 < (cycG g).length) ↔ okG g = false) := by
   intro g hm
   cases ho : okG g with
   | true => rw [cycG_ok hm ho]; simp
   | false => simp [(cycG_not hm ho).1]
  rw [key _ hm, key _ h.may, h.acyc]
 have h1 := h.loop
 have h2 := h.twice
 have h3 := h.bare
 simp only [chkG, chkOf, hm, h.may]
 simp only [Bool.true_eq_false, if_false, h1, h2, hc, h3]
 split
 ·rfl
 split
 ·rfl
 split
 ·rfl
 split <;> rfl
end
end Go.Ab
end
section
namespace Go.Ab
open Go.Proofs
set_option maxRecDepth 10000
def nxt : Nat → List Edge → Int → Option (Int × Int)
 | _, [], _ => none
 | m, e :: N, v => if e.1 = v then some ((m : Int), e.2) else nxt (m + 1) N v
def phi (m : Nat) (N : List Edge) (t : It) : It := if 0 ≤ t.1 then t else match nxt m N t.2.1 with
 | some (i, h) => (i, t.2.1, h)
 | none => t
structure AugOk (g : Gr) (p : Pl) : Prop where
 run : RunsP g p
 n : (augG g p).n ≤ 64
 es : (augG g p).es.length ≤ 128
variable {g : Gr} {p : Pl}
end Go.Ab
end
section
namespace Go.Ab
open Go.Proofs
set_option maxRecDepth 10000
variable {g : Gr} {p : Pl}
end Go.Ab
end
section
namespace Go.Ab
open Go.Proofs
set_option maxRecDepth 10000
variable {g : Gr} {p : Pl}
end Go.Ab
end
section
namespace Go.Ab
open Go.Proofs
attribute [local congr] ACall.congr
set_option maxRecDepth 10000
set_option maxHeartbeats 8000000
theorem exB (g : Gr) (p : Pl) : ∃ b : Bool, (b = true ↔ (chkG g).1 = 0 ∧ PlanOk g p) := by
 by_cases h : (chkG g).1 = 0 ∧ PlanOk g p
 ·exact ⟨true, by simp [h]⟩
 ·exact ⟨false, by simp [h]⟩
end Go.Ab
end
section
namespace Go.Ab
open Go.Proofs
attribute [local congr] ACall.congr
set_option maxRecDepth 10000
set_option maxHeartbeats 16000000
theorem runs_spec (g : Gr) (hl : g.es.length ≤ 9223372036854775807) (p : Pl) (hp : PlLen p) (b : Bool) (hr : b = true ↔ (chkG g).1 = 0 ∧ PlanOk g p) : Spec Tryz.prog 11 (Args [eG g, ePl p]) [] (eB (decide ((runRes b g p).2.1 = 0))) [] := by
 have hO := refRun_spec g hl p hp b hr
 generalize runRes b g p = R at hO
 (refine Spec.intro (C := T.cfg [] []) (rs := [.t 4]) (T.cfg_ok _ _) Tryz.func11 rfl rfl Tryz.ntmps11 Tryz.results11 (by simp [AObj.isNest]) (by simp [AObj.isNest]) (by kernel_rfl) ?_; intro X hX hP hC hXn hXm vals hA; refine ⟨_, by simp, hA, ?_⟩; have hmix : X.P.follows .mixedOrders = true := (by rw [hP]; exact T.mixed); clear hXn hXm)
 repeat' (first | fail | ((first | ((with_reducible (first | apply oA | apply oB)); exact rfl; intro K hK) | (refine hK _ ?_; clear hK K) | ((with_reducible (first | apply oG | apply oH)); iterate 3 exact rfl) | ((with_reducible apply oI); (iterate 2 exact rfl); intro K hK) | (with_reducible (first | apply wI | apply wJ | apply wK))); try simp only [go_sem, simprocAttr]) | fail | (with_reducible (first | apply oC | apply oJ | exact oK | apply wA | apply wB | apply wC hX hC | apply wD hX hC | apply wE hX hC hmix | apply wF hX hC hmix | apply wG | apply wH | apply And.intro)) | ((with_reducible refine oD ?_ ?_); first | fail | kernel_rfl) | ((with_reducible (first | apply oE | apply oF)); (iterate 3 exact rfl); all_goals (intro h; first | (exact absurd h (by decide)) | ((try simp only [go_sem, simprocAttr] at h); (try with_reducible intro K hK); simp only [go_sem, simprocAttr]))) | ((first | ((with_reducible apply wL); exact rfl) | ((with_reducible apply wM); exact rfl)); all_goals (try ((with_reducible intro h); first | (exact absurd h (by decide)) | (try simp only [go_sem, simprocAttr] at h)))) | omega | ((first | first | refine acall_simple hX hC hP (hO) rfl rfl rfl (by simp only [go_sem, simprocAttr]) rfl ?_); try simp only [go_sem, simprocAttr]) | (intro h))
end Go.Ab
end
section
namespace Go.Ab
open Go.Proofs
attribute [local congr] ACall.congr
set_option maxRecDepth 10000
set_option maxHeartbeats 8000000
theorem rankTells_spec (g : Gr) (p : Pl) (hl : g.es.length ≤ 9223372036854775807) (hp : PlMax p) : Spec Tryz.prog 3 (Args [eG g, ePl p]) [] (eB true) [] := by
 have hG := great10_spec g p hl hp
 (refine Spec.intro (C := T.cfg [] []) (rs := [.t 4]) (T.cfg_ok _ _) Tryz.func3 rfl rfl Tryz.ntmps3 Tryz.results3 (by simp [AObj.isNest]) (by simp [AObj.isNest]) (by kernel_rfl) ?_; intro X hX hP hC hXn hXm vals hA; refine ⟨_, by simp, hA, ?_⟩; have hmix : X.P.follows .mixedOrders = true := (by rw [hP]; exact T.mixed); clear hXn hXm)
 cases hB : bigB g p with
 | true =>
  rw [hB] at hG
  repeat' (first | fail | ((first | ((with_reducible (first | apply oA | apply oB)); exact rfl; intro K hK) | (refine hK _ ?_; clear hK K) | ((with_reducible (first | apply oG | apply oH)); iterate 3 exact rfl) | ((with_reducible apply oI); (iterate 2 exact rfl); intro K hK) | (with_reducible (first | apply wI | apply wJ | apply wK))); try simp only [go_sem, simprocAttr]) | fail | (with_reducible (first | apply oC | apply oJ | exact oK | apply wA | apply wB | apply wC hX hC | apply wD hX hC | apply wE hX hC hmix | apply wF hX hC hmix | apply wG | apply wH | apply And.intro)) | ((with_reducible refine oD ?_ ?_); first | fail | kernel_rfl) | ((with_reducible (first | apply oE | apply oF)); (iterate 3 exact rfl); all_goals (intro h; first | (exact absurd h (by decide)) | ((try simp only [go_sem, simprocAttr] at h); (try with_reducible intro K hK); simp only [go_sem, simprocAttr]))) | ((first | ((with_reducible apply wL); exact rfl) | ((with_reducible apply wM); exact rfl)); all_goals (try ((with_reducible intro h); first | (exact absurd h (by decide)) | (try simp only [go_sem, simprocAttr] at h)))) | omega | ((first | first | refine acall_simple hX hC hP (speaks20_spec) rfl rfl rfl (by simp only [go_sem, simprocAttr]) rfl ?_ | refine acall_simple hX hC hP (hG) rfl rfl rfl (by simp only [go_sem, simprocAttr]) rfl ?_); try simp only [go_sem, simprocAttr]) | (intro h))
 | false =>
  rw [hB] at hG
  obtain ⟨b1, b2, b3, b4⟩ := big_not hB
  obtain ⟨b, hr⟩ := exB g p
  have hRk := ranks_spec g (by omega) p (plLen_of hB) b hr
  have hI := refIs_spec g (by omega)
  have hRn := runs_spec g (by omega) p (plLen_of hB) b hr
  by_cases hK : (runRes b g p).2.1 = 0 ∧ isB g = true
  ·have hrk : rkR b g p = (rankL g p false g.n.toNat, rankL g p true g.n.toNat, 0) := if_pos hK
   rw [hrk] at hRk
   rw [hK.2] at hI
   have hb1 : decide ((runRes b g p).2.1 = 0) = true := decide_eq_true hK.1
   rw [hb1] at hRn
   obtain ⟨hrun, _⟩ := runRes_ok hr hK.1
   have hn := mayB_n (good_may hrun.1)
   have hF0 := refRank_spec g p hrun false
   have hF1 := refRank_spec g p hrun true
   have hS0 := sameInts_spec (rankL g p false g.n.toNat) (rankL g p false g.n.toNat) (by rw [rankL_len]; omega)
   have hS1 := sameInts_spec (rankL g p true g.n.toNat) (rankL g p true g.n.toNat) (by rw [rankL_len]; omega)
   generalize rankL g p false g.n.toNat = R0 at *
   generalize rankL g p true g.n.toNat = R1 at *
   repeat' (first | fail | ((first | ((with_reducible (first | apply oA | apply oB)); exact rfl; intro K hK) | (refine hK _ ?_; clear hK K) | ((with_reducible (first | apply oG | apply oH)); iterate 3 exact rfl) | ((with_reducible apply oI); (iterate 2 exact rfl); intro K hK) | (with_reducible (first | apply wI | apply wJ | apply wK))); try simp only [go_sem, simprocAttr, decide_true, Bool.and_self]) | fail | (with_reducible (first | apply oC | apply oJ | exact oK | apply wA | apply wB | apply wC hX hC | apply wD hX hC | apply wE hX hC hmix | apply wF hX hC hmix | apply wG | apply wH | apply And.intro)) | ((with_reducible refine oD ?_ ?_); first | fail | kernel_rfl) | ((with_reducible (first | apply oE | apply oF)); (iterate 3 exact rfl); all_goals (intro h; first | (exact absurd h (by decide)) | ((try simp only [go_sem, simprocAttr, decide_true, Bool.and_self] at h); (try with_reducible intro K hK); simp only [go_sem, simprocAttr, decide_true, Bool.and_self]))) | ((first | ((with_reducible apply wL); exact rfl) | ((with_reducible apply wM); exact rfl)); all_goals (try ((with_reducible intro h); first | (exact absurd h (by decide)) | (try simp only [go_sem, simprocAttr, decide_true, Bool.and_self] at h)))) | omega | ((first | first | refine acall_simple hX hC hP (speaks20_spec) rfl rfl rfl (by simp only [go_sem, simprocAttr, decide_true, Bool.and_self]) rfl ?_ | refine acall_simple hX hC hP (hG) rfl rfl rfl (by simp only [go_sem, simprocAttr, decide_true, Bool.and_self]) rfl ?_ | refine acall_simple hX hC hP (hRk) rfl rfl rfl (by simp only [go_sem, simprocAttr, decide_true, Bool.and_self]) rfl ?_ | refine acall_simple hX hC hP (hI) rfl rfl rfl (by simp only [go_sem, simprocAttr, decide_true, Bool.and_self]) rfl ?_ | refine acall_simple hX hC hP (hRn) rfl rfl rfl (by simp only [go_sem, simprocAttr, decide_true, Bool.and_self]) rfl ?_ | refine acall_simple hX hC hP (hF0) rfl rfl rfl (by simp only [go_sem, simprocAttr, decide_true, Bool.and_self]) rfl ?_ | refine acall_simple hX hC hP (hF1) rfl rfl rfl (by simp only [go_sem, simprocAttr, decide_true, Bool.and_self]) rfl ?_ | refine acall_simple hX hC hP (hS0) rfl rfl rfl (by simp only [go_sem, simprocAttr, decide_true, Bool.and_self]) rfl ?_ | refine acall_simple hX hC hP (hS1) rfl rfl rfl (by simp only [go_sem, simprocAttr, decide_true, Bool.and_self]) rfl ?_); try simp only [go_sem, simprocAttr, decide_true, Bool.and_self]) | (intro h))
  ·have hrk : rkR b g p = ([], [], 1) := if_neg hK
   rw [hrk] at hRk
   cases hi : isB g with
   | false =>
    rw [hi] at hI
    repeat' (first | fail | ((first | ((with_reducible (first | apply oA | apply oB)); exact rfl; intro K hK) | (refine hK _ ?_; clear hK K) | ((with_reducible (first | apply oG | apply oH)); iterate 3 exact rfl) | ((with_reducible apply oI); (iterate 2 exact rfl); intro K hK) | (with_reducible (first | apply wI | apply wJ | apply wK))); try simp only [go_sem, simprocAttr, decide_true, Bool.and_self]) | fail | (with_reducible (first | apply oC | apply oJ | exact oK | apply wA | apply wB | apply wC hX hC | apply wD hX hC | apply wE hX hC hmix | apply wF hX hC hmix | apply wG | apply wH | apply And.intro)) | ((with_reducible refine oD ?_ ?_); first | fail | kernel_rfl) | ((with_reducible (first | apply oE | apply oF)); (iterate 3 exact rfl); all_goals (intro h; first | (exact absurd h (by decide)) | ((try simp only [go_sem, simprocAttr, decide_true, Bool.and_self] at h); (try with_reducible intro K hK); simp only [go_sem, simprocAttr, decide_true, Bool.and_self]))) | ((first | ((with_reducible apply wL); exact rfl) | ((with_reducible apply wM); exact rfl)); all_goals (try ((with_reducible intro h); first | (exact absurd h (by decide)) | (try simp only [go_sem, simprocAttr, decide_true, Bool.and_self] at h)))) | omega | ((first | first | refine acall_simple hX hC hP (speaks20_spec) rfl rfl rfl (by simp only [go_sem, simprocAttr, decide_true, Bool.and_self]) rfl ?_ | refine acall_simple hX hC hP (hG) rfl rfl rfl (by simp only [go_sem, simprocAttr, decide_true, Bool.and_self]) rfl ?_ | refine acall_simple hX hC hP (hRk) rfl rfl rfl (by simp only [go_sem, simprocAttr, decide_true, Bool.and_self]) rfl ?_ | refine acall_simple hX hC hP (hI) rfl rfl rfl (by simp only [go_sem, simprocAttr, decide_true, Bool.and_self]) rfl ?_ | refine acall_simple hX hC hP (hRn) rfl rfl rfl (by simp only [go_sem, simprocAttr, decide_true, Bool.and_self]) rfl ?_ | refine acall_simple hX hC hP (hF0) rfl rfl rfl (by simp only [go_sem, simprocAttr, decide_true, Bool.and_self]) rfl ?_ | refine acall_simple hX hC hP (hF1) rfl rfl rfl (by simp only [go_sem, simprocAttr, decide_true, Bool.and_self]) rfl ?_ | refine acall_simple hX hC hP (hS0) rfl rfl rfl (by simp only [go_sem, simprocAttr, decide_true, Bool.and_self]) rfl ?_ | refine acall_simple hX hC hP (hS1) rfl rfl rfl (by simp only [go_sem, simprocAttr, decide_true, Bool.and_self]) rfl ?_); try simp only [go_sem, simprocAttr, decide_true, Bool.and_self]) | (intro h))
   | true =>
    rw [hi] at hI
    have hb1 : decide ((runRes b g p).2.1 = 0) = false := decide_eq_false fun h => hK ⟨h, hi⟩
    rw [hb1] at hRn
    repeat' (first | fail | ((first | ((with_reducible (first | apply oA | apply oB)); exact rfl; intro K hK) | (refine hK _ ?_; clear hK K) | ((with_reducible (first | apply oG | apply oH)); iterate 3 exact rfl) | ((with_reducible apply oI); (iterate 2 exact rfl); intro K hK) | (with_reducible (first | apply wI | apply wJ | apply wK))); try simp only [go_sem, simprocAttr, decide_true, Bool.and_self]) | fail | (with_reducible (first | apply oC | apply oJ | exact oK | apply wA | apply wB | apply wC hX hC | apply wD hX hC | apply wE hX hC hmix | apply wF hX hC hmix | apply wG | apply wH | apply And.intro)) | ((with_reducible refine oD ?_ ?_); first | fail | kernel_rfl) | ((with_reducible (first | apply oE | apply oF)); (iterate 3 exact rfl); all_goals (intro h; first | (exact absurd h (by decide)) | ((try simp only [go_sem, simprocAttr, decide_true, Bool.and_self] at h); (try with_reducible intro K hK); simp only [go_sem, simprocAttr, decide_true, Bool.and_self]))) | ((first | ((with_reducible apply wL); exact rfl) | ((with_reducible apply wM); exact rfl)); all_goals (try ((with_reducible intro h); first | (exact absurd h (by decide)) | (try simp only [go_sem, simprocAttr, decide_true, Bool.and_self] at h)))) | omega | ((first | first | refine acall_simple hX hC hP (speaks20_spec) rfl rfl rfl (by simp only [go_sem, simprocAttr, decide_true, Bool.and_self]) rfl ?_ | refine acall_simple hX hC hP (hG) rfl rfl rfl (by simp only [go_sem, simprocAttr, decide_true, Bool.and_self]) rfl ?_ | refine acall_simple hX hC hP (hRk) rfl rfl rfl (by simp only [go_sem, simprocAttr, decide_true, Bool.and_self]) rfl ?_ | refine acall_simple hX hC hP (hI) rfl rfl rfl (by simp only [go_sem, simprocAttr, decide_true, Bool.and_self]) rfl ?_ | refine acall_simple hX hC hP (hRn) rfl rfl rfl (by simp only [go_sem, simprocAttr, decide_true, Bool.and_self]) rfl ?_ | refine acall_simple hX hC hP (hF0) rfl rfl rfl (by simp only [go_sem, simprocAttr, decide_true, Bool.and_self]) rfl ?_ | refine acall_simple hX hC hP (hF1) rfl rfl rfl (by simp only [go_sem, simprocAttr, decide_true, Bool.and_self]) rfl ?_ | refine acall_simple hX hC hP (hS0) rfl rfl rfl (by simp only [go_sem, simprocAttr, decide_true, Bool.and_self]) rfl ?_ | refine acall_simple hX hC hP (hS1) rfl rfl rfl (by simp only [go_sem, simprocAttr, decide_true, Bool.and_self]) rfl ?_); try simp only [go_sem, simprocAttr, decide_true, Bool.and_self]) | (intro h))
end Go.Ab
end
