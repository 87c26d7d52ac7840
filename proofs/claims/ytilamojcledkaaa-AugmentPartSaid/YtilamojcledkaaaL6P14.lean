/- A part of the proof. -/
import Derived.Test.YtilamojcledkaaaL6P13
set_option linter.unusedSimpArgs false
set_option linter.unusedVariables false
section
namespace Go.Ab
open Go.Proofs
attribute [local congr] ACall.congr
set_option maxRecDepth 10000
set_option maxHeartbeats 8000000

/-- What comes of a plan: what ends at each vertex, the row at the end; the error, its place. -/
def runRes (b : Bool) (g : Gr) (p : Pl) : (List (List It) × List It) × Int × Int :=
  if b = false then (([], []), (1, 0)) else
  match stopK g p g.n.toNat with
  | some i => (([], []), (3, (i : Int)))
  | none => ((endR g p g.n.toNat, (fK g p g.n.toNat).row), (0, 0))
theorem rep_vT {n : Nat} : List.replicate n [D.sl 3 []] = vT (List.replicate n []) := by simp [vT, sT]
theorem vT_set {ls : List (List It)} {k : Nat} {l : List It} : (vT ls).set k [sT l] = vT (ls.set k l) := by simp [vT, List.map_set]
theorem endR_next {g : Gr} {p : Pl} {k : Nat} : endR g p (k + 1) = (endR g p k).set (oAt p k).toNat (goneK g p k) := rfl
theorem refRun_spec (g : Gr) (hl : g.es.length ≤ 9223372036854775807) (p : Pl) (hp : PlLen p) (b : Bool) (hr : b = true ↔ (chkG g).1 = 0 ∧ PlanOk g p) :
    Spec Try.prog 48 (Args [eG g, ePl p]) [] (.tup [.d (.sl 1 (vT (runRes b g p).1.1)), .d (sT (runRes b g p).1.2), eN (runRes b g p).2.1, eN (runRes b g p).2.2]) [] := by
  have hO := ofR_spec g hl p hp b hr
  cases b with
  | false =>
    have hR : runRes false g p = (([], []), (1, 0)) := rfl
    rw [hR]
    (refine Spec.intro (C := T.cfg [] []) (rs := [.t 4, .t 5, .t 6, .t 7]) (T.cfg_ok _ _) Try.func48 rfl rfl Try.ntmps48 Try.results48 (by simp [AObj.isNest]) (by simp [AObj.isNest]) (by kernel_rfl) ?_; intro X hX hP hC hXn hXm vals hA; refine ⟨_, by simp, hA, ?_⟩; have hmix : X.P.follows .mixedOrders = true := (by rw [hP]; exact T.mixed); clear hXn hXm)
    repeat' (first | fail | ((first | ((with_reducible (first | apply oA | apply oB)); exact rfl; intro K hK) | (refine hK _ ?_; clear hK K) | ((with_reducible (first | apply oG | apply oH)); iterate 3 exact rfl) | ((with_reducible apply oI); (iterate 2 exact rfl); intro K hK) | (with_reducible (first | apply wI | apply wJ | apply wK))); try simp only [go_sem, simprocAttr, vT, List.map_nil]) | fail | (with_reducible (first | apply oC | apply oJ | exact oK | apply wA | apply wB | apply wC hX hC | apply wD hX hC | apply wE hX hC hmix | apply wF hX hC hmix | apply wG | apply wH | apply And.intro)) | ((with_reducible refine oD ?_ ?_); first | fail | kernel_rfl) | ((with_reducible (first | apply oE | apply oF)); (iterate 3 exact rfl); all_goals (intro h; first | (exact absurd h (by decide)) | ((try simp only [go_sem, simprocAttr, vT, List.map_nil] at h); (try with_reducible intro K hK); simp only [go_sem, simprocAttr, vT, List.map_nil]))) | ((first | ((with_reducible apply wL); exact rfl) | ((with_reducible apply wM); exact rfl)); all_goals (try ((with_reducible intro h); first | (exact absurd h (by decide)) | (try simp only [go_sem, simprocAttr, vT, List.map_nil] at h)))) | omega | ((first | first | refine acall_simple hX hC hP (hO) rfl rfl rfl (by simp only [go_sem, simprocAttr, vT, List.map_nil]) rfl ?_); try simp only [go_sem, simprocAttr, vT, List.map_nil]) | (intro h))
  | true =>
  obtain ⟨hc, hpo⟩ := hr.1 rfl
  have hm := good_may hc
  have hn := mayB_n hm
  have hle := plan_len hpo
  have hR : runRes true g p = match stopK g p g.n.toNat with
    | some i => (([], []), (3, (i : Int)))
    | none => ((endR g p g.n.toNat, (fK g p g.n.toNat).row), (0, 0)) := rfl
  generalize runRes true g p = R at hR
  (refine Spec.intro (C := T.cfg [] []) (rs := [.t 4, .t 5, .t 6, .t 7]) (T.cfg_ok _ _) Try.func48 rfl rfl Try.ntmps48 Try.results48 (by simp [AObj.isNest]) (by simp [AObj.isNest]) (by kernel_rfl) ?_; intro X hX hP hC hXn hXm vals hA; refine ⟨_, by simp, hA, ?_⟩; have hmix : X.P.follows .mixedOrders = true := (by rw [hP]; exact T.mixed); clear hXn hXm)
  repeat' (first | fail | ((first | ((with_reducible (first | apply oA | apply oB)); exact rfl; intro K hK) | (refine hK _ ?_; clear hK K) | ((with_reducible (first | apply oG | apply oH)); iterate 3 exact rfl) | ((with_reducible apply oI); (iterate 2 exact rfl); intro K hK) | (with_reducible (first | apply wI | apply wJ | apply wK))); try simp only [go_sem, simprocAttr]) | (show awp _ (.seq (.region 4 _ _) _) _ _; (refine awp_nilD 20 2 3 rfl rfl rfl ?_; simp only [LA.app, ASt.put, ASt.kill, putM, rml, List.set_cons_zero, List.set_cons_succ, go_sem, simprocAttr]); (refine awp_nilD 20 3 1 rfl rfl rfl ?_; simp only [LA.app, ASt.put, ASt.kill, putM, rml, List.set_cons_zero, List.set_cons_succ, go_sem, simprocAttr])) | (with_reducible (first | apply oC | apply oJ | exact oK | apply wA | apply wB | apply wC hX hC | apply wD hX hC | apply wE hX hC hmix | apply wF hX hC hmix | apply wG | apply wH | apply And.intro)) | ((with_reducible refine oD ?_ ?_); first | fail | kernel_rfl) | ((with_reducible (first | apply oE | apply oF)); (iterate 3 exact rfl); all_goals (intro h; first | (exact absurd h (by decide)) | ((try simp only [go_sem, simprocAttr] at h); (try with_reducible intro K hK); simp only [go_sem, simprocAttr]))) | ((first | ((with_reducible apply wL); exact rfl) | ((with_reducible apply wM); exact rfl)); all_goals (try ((with_reducible intro h); first | (exact absurd h (by decide)) | (try simp only [go_sem, simprocAttr] at h)))) | omega | ((first | first | refine acall_simple hX hC hP (hO) rfl rfl rfl (by simp only [go_sem, simprocAttr]) rfl ?_); try simp only [go_sem, simprocAttr]) | (intro h))
  rw [rep_vT]
  refine awp_loopP (fun k : Nat => k ≤ g.n.toNat ∧ ∀ j, j < k → okK g p j = true) (fun k => ⟨[(2, .ptr 2 0), (3, .ptr 3 0), (8, .ptr 20 0), (9, .ref 23), (10, eN k)], [(23, .own 55 1 (vT (endR g p k))), (20, .box (rfC g (fK g p k))), (3, .box [.d (sI p.ord), .d (.sl 1 (vI p.outs))]), (2, .box [eN g.n, .d (sE g.es)])]⟩) (fun k => g.n.toNat - k) 0 (by simp) ?_ ?_
  · refine Le.of ?_ ?_ <;> simp [go_sem, simprocAttr, rfC, fK, endR]
  rintro k ⟨hk, hok⟩
  obtain ⟨hi, _, hrl⟩ := run_inv hm hpo hk hok
  have hel := endR_len (g := g) (p := p) (k := k)
  rcases Nat.lt_or_ge k g.n.toNat with hlt | hge
  · have hb : decide ((k : Int) < (p.ord.length : Int)) = true := decide_eq_true (by omega)
    have hxm := oAt_mem hpo hlt
    have hnx := endR_next (g := g) (p := p) (k := k)
    have hfx : fK g p (k + 1) = (succF g (fK g p k) (oAt p k) (lAt p (oAt p k))).2 := rfl
    have hgx : goneK g p k = (succF g (fK g p k) (oAt p k) (lAt p (oAt p k))).1.1 := rfl
    have hpk := place_ok hpo hlt
    have hpn := place_no (g := g) (p := p) (k := k)
    have hsk : okK g p k = false → R = (([], []), (3, (k : Int))) := fun h => by
      rw [hR, stopK_some.2 ⟨hlt, h, hok⟩]
    have hmul : k * (g.es.length + 1) ≤ 64 * 129 := Nat.mul_le_mul (by omega) (by omega)
    have hll := lAt_len hpo hxm.1 hxm.2
    have hxo : p.ord.getD k 0 = oAt p k := rfl
    have hplen : (fK g p k).pl.length ≤ 64 := by
      rcases pl_le hi.toFrInv with h | h
      · omega
      · rw [h]; simp
    obtain ⟨x, hx⟩ : ∃ x : Nat, oAt p k = x := ⟨(oAt p k).toNat, by omega⟩
    rw [hx] at hxo hfx hgx hpk hpn hxm hll hnx
    have hxl : x < p.outs.length := by have := hpo.1; omega
    have hv := vI_getD hxl
    have hla : lAt p (x : Int) = p.outs.getD x [] := by unfold lAt; rw [Int.toNat_natCast]
    rw [hla] at hfx hgx hpk hpn hll
    rw [Int.toNat_natCast] at hnx
    have hPl := rPlace_spec g (by omega) (fK g p k) (x : Int) (p.outs.getD x []) (by omega) (by omega) (by omega)
    have hset := vT_set (ls := endR g p k) (k := x) (l := goneK g p k)
    generalize p.outs.getD x [] = o at hv hfx hgx hpk hpn hPl
    rw [← hnx] at hset
    generalize fK g p k = f at hfx hgx hpk hpn hPl hi hrl hplen
    cases hok1 : okK g p k with
    | false =>
      rw [hpn hok1] at hPl
      have hRk := hsk hok1
      subst hRk
      repeat' (first | fail | ((first | ((with_reducible (first | apply oA | apply oB)); exact rfl; intro K hK) | (refine hK _ ?_; clear hK K) | ((with_reducible (first | apply oG | apply oH)); iterate 3 exact rfl) | ((with_reducible apply oI); (iterate 2 exact rfl); intro K hK) | (with_reducible (first | apply wI | apply wJ | apply wK))); try simp only [go_sem, simprocAttr, hb, hxo, hv, rfC, vT, List.map_nil]) | fail | (with_reducible (first | apply oC | apply oJ | exact oK | apply wA | apply wB | apply wC hX hC | apply wD hX hC | apply wE hX hC hmix | apply wF hX hC hmix | apply wG | apply wH | apply And.intro)) | ((with_reducible refine oD ?_ ?_); first | fail | kernel_rfl) | ((with_reducible (first | apply oE | apply oF)); (iterate 3 exact rfl); all_goals (intro h; first | (exact absurd h (by decide)) | ((try simp only [go_sem, simprocAttr, hb, hxo, hv, rfC, vT, List.map_nil] at h); (try with_reducible intro K hK); simp only [go_sem, simprocAttr, hb, hxo, hv, rfC, vT, List.map_nil]))) | ((first | ((with_reducible apply wL); exact rfl) | ((with_reducible apply wM); exact rfl)); all_goals (try ((with_reducible intro h); first | (exact absurd h (by decide)) | (try simp only [go_sem, simprocAttr, hb, hxo, hv, rfC, vT, List.map_nil] at h)))) | omega | ((first | first | (refine acall_gen hX hC hP [(10000, 20)] (hPl) rfl rfl rfl ?_ ?_ ?_ ?_ ?_ ?_ ?_ ?_ ?_ ?_ ?_ ?_ ?_ ?_; (focus (simp only [go_sem, simprocAttr, hb, hxo, hv, rfC, vT, List.map_nil]; done)); (iterate 12 (focus (simp [go_sem, simprocAttr, hb, hxo, hv, rfC, vT, List.map_nil]; done))); simp only [go_sem, simprocAttr, hb, hxo, hv, rfC, vT, List.map_nil, List.map_cons, List.map_nil])); try simp only [go_sem, simprocAttr, hb, hxo, hv, rfC, vT, List.map_nil]) | (intro h))
    | true =>
      rw [hpk hok1] at hPl
      have hcode : (succF g f (x : Int) o).1.2 = 0 := rfl
      rw [hgx] at hset
      generalize succF g f (x : Int) o = su at hfx hgx hPl hcode hset
      have hxe : x < (endR g p k).length := by omega
      generalize hEk : endR g p k = E at hset hxe hel
      have hvl : (vT E).length = E.length := vT_length
      have hvd := fun d => vT_getD hxe d
      repeat' (first | fail | ((first | ((with_reducible (first | apply oA | apply oB)); exact rfl; intro K hK) | (refine hK _ ?_; clear hK K) | ((with_reducible (first | apply oG | apply oH)); iterate 3 exact rfl) | ((with_reducible apply oI); (iterate 2 exact rfl); intro K hK) | (with_reducible (first | apply wI | apply wJ | apply wK))); try simp only [go_sem, simprocAttr, hb, hxo, hv, rfC, hcode, hset, hvd, List.drop_succ_cons, List.drop_zero]) | fail | (with_reducible (first | apply oC | apply oJ | exact oK | apply wA | apply wB | apply wC hX hC | apply wD hX hC | apply wE hX hC hmix | apply wF hX hC hmix | apply wG | apply wH | apply And.intro)) | ((with_reducible refine oD ?_ ?_); first | fail | kernel_rfl) | ((with_reducible (first | apply oE | apply oF)); (iterate 3 exact rfl); all_goals (intro h; first | (exact absurd h (by decide)) | ((try simp only [go_sem, simprocAttr, hb, hxo, hv, rfC, hcode, hset, hvd, List.drop_succ_cons, List.drop_zero] at h); (try with_reducible intro K hK); simp only [go_sem, simprocAttr, hb, hxo, hv, rfC, hcode, hset, hvd, List.drop_succ_cons, List.drop_zero]))) | ((first | ((with_reducible apply wL); exact rfl) | ((with_reducible apply wM); exact rfl)); all_goals (try ((with_reducible intro h); first | (exact absurd h (by decide)) | (try simp only [go_sem, simprocAttr, hb, hxo, hv, rfC, hcode, hset, hvd, List.drop_succ_cons, List.drop_zero] at h)))) | omega | ((first | first | (refine acall_gen hX hC hP [(10000, 20)] (hPl) rfl rfl rfl ?_ ?_ ?_ ?_ ?_ ?_ ?_ ?_ ?_ ?_ ?_ ?_ ?_ ?_; (focus (simp only [go_sem, simprocAttr, hb, hxo, hv, rfC, hcode, hset, hvd, List.drop_succ_cons, List.drop_zero]; done)); (iterate 12 (focus (simp [go_sem, simprocAttr, hb, hxo, hv, rfC, hcode, hset, hvd, List.drop_succ_cons, List.drop_zero]; done))); simp only [go_sem, simprocAttr, hb, hxo, hv, rfC, hcode, hset, hvd, List.drop_succ_cons, List.drop_zero, List.map_cons, List.map_nil])); try simp only [go_sem, simprocAttr, hb, hxo, hv, rfC, hcode, hset, hvd, List.drop_succ_cons, List.drop_zero]) | (intro h))
      refine ⟨k + 1, ⟨by omega, fun j hj => ?_⟩, ?_, by omega⟩
      · by_cases e : j = k
        · subst e; exact hok1
        · exact hok j (by omega)
      · rw [hfx]
        have hset2 : (vT E).set x [D.sl 3 (List.map rT su.1.1)] = vT (endR g p (k + 1)) := hset
        refine Le.of ?_ ?_ <;> simp [go_sem, simprocAttr, hb, hxo, hv, rfC, hcode, hset, hvd, List.drop_succ_cons, List.drop_zero, hset2]
  have hb : decide ((k : Int) < (p.ord.length : Int)) = false := decide_eq_false (by omega)
  obtain rfl : k = g.n.toNat := by omega
  rw [stopK_none.2 hok] at hR
  subst hR
  repeat' (first | fail | ((first | ((with_reducible (first | apply oA | apply oB)); exact rfl; intro K hK) | (refine hK _ ?_; clear hK K) | ((with_reducible (first | apply oG | apply oH)); iterate 3 exact rfl) | ((with_reducible apply oI); (iterate 2 exact rfl); intro K hK) | (with_reducible (first | apply wI | apply wJ | apply wK))); try simp only [go_sem, simprocAttr, hb, rfC]) | fail | (with_reducible (first | apply oC | apply oJ | exact oK | apply wA | apply wB | apply wC hX hC | apply wD hX hC | apply wE hX hC hmix | apply wF hX hC hmix | apply wG | apply wH | apply And.intro)) | ((with_reducible refine oD ?_ ?_); first | fail | kernel_rfl) | ((with_reducible (first | apply oE | apply oF)); (iterate 3 exact rfl); all_goals (intro h; first | (exact absurd h (by decide)) | ((try simp only [go_sem, simprocAttr, hb, rfC] at h); (try with_reducible intro K hK); simp only [go_sem, simprocAttr, hb, rfC]))) | ((first | ((with_reducible apply wL); exact rfl) | ((with_reducible apply wM); exact rfl)); all_goals (try ((with_reducible intro h); first | (exact absurd h (by decide)) | (try simp only [go_sem, simprocAttr, hb, rfC] at h)))) | omega | ((first | fail); try simp only [go_sem, simprocAttr, hb, rfC]) | (intro h))
end Go.Ab
end
section
namespace Go.Ab
open Go.Proofs
attribute [local congr] ACall.congr
set_option maxRecDepth 10000
set_option maxHeartbeats 8000000

theorem sweepRun_spec (g : Gr) (hl : g.es.length ≤ 1000) (p : Pl) (hp : PlLen p) (b : Bool) (hr : b = true ↔ (chkG g).1 = 0 ∧ PlanOk g p) :
    Spec Try.prog 25 (Args [eG g, ePl p]) [] (.tup [.d (.sl 1 (vT (runRes b g p).1.1)), .d (sT (runRes b g p).1.2), eF ((runRes b g p).2.1, (runRes b g p).2.2, [])]) [] := by
  by_cases hc : (chkG g).1 = 0
  rotate_left
  · obtain rfl : b = false := by
      rw [← Bool.not_eq_true, hr]
      exact fun h => hc h.1
    have hR : runRes false g p = (([], []), (1, 0)) := rfl
    rw [hR]
    (refine Spec.intro (C := T.cfg [] []) (rs := [.t 4, .t 5, .c 6 34]) (T.cfg_ok _ _) Try.func25 rfl rfl Try.ntmps25 Try.results25 (by simp [AObj.isNest]) (by simp [AObj.isNest]) (by kernel_rfl) ?_; intro X hX hP hC hXn hXm vals hA; refine ⟨_, by simp, hA, ?_⟩; have hmix : X.P.follows .mixedOrders = true := (by rw [hP]; exact T.mixed); clear hXn hXm)
    repeat' (first | fail | ((first | ((with_reducible (first | apply oA | apply oB)); exact rfl; intro K hK) | (refine hK _ ?_; clear hK K) | ((with_reducible (first | apply oG | apply oH)); iterate 3 exact rfl) | ((with_reducible apply oI); (iterate 2 exact rfl); intro K hK) | (with_reducible (first | apply wI | apply wJ | apply wK))); try simp only [go_sem, simprocAttr, vT, List.map_nil]) | fail | (with_reducible (first | apply oC | apply oJ | exact oK | apply wA | apply wB | apply wC hX hC | apply wD hX hC | apply wE hX hC hmix | apply wF hX hC hmix | apply wG | apply wH | apply And.intro)) | ((with_reducible refine oD ?_ ?_); first | fail | kernel_rfl) | ((with_reducible (first | apply oE | apply oF)); (iterate 3 exact rfl); all_goals (intro h; first | (exact absurd h (by decide)) | ((try simp only [go_sem, simprocAttr, vT, List.map_nil] at h); (try with_reducible intro K hK); simp only [go_sem, simprocAttr, vT, List.map_nil]))) | ((first | ((with_reducible apply wL); exact rfl) | ((with_reducible apply wM); exact rfl)); all_goals (try ((with_reducible intro h); first | (exact absurd h (by decide)) | (try simp only [go_sem, simprocAttr, vT, List.map_nil] at h)))) | omega | ((first | first | refine acall_simple hX hC hP (newN_spec g hl hc) rfl rfl rfl (by simp only [go_sem, simprocAttr, vT, List.map_nil]) rfl ?_); try simp only [go_sem, simprocAttr, vT, List.map_nil]) | (intro h))
  have hm := good_may hc
  have hn := mayB_n hm
  have hr : b = true ↔ PlanOk g p := by rw [hr]; exact ⟨fun h => h.2, fun h => ⟨hc, h⟩⟩
  have hO := ofS_spec g hm p hp b hr
  cases b with
  | false =>
    have hR : runRes false g p = (([], []), (1, 0)) := rfl
    rw [hR]
    (refine Spec.intro (C := T.cfg [] []) (rs := [.t 4, .t 5, .c 6 34]) (T.cfg_ok _ _) Try.func25 rfl rfl Try.ntmps25 Try.results25 (by simp [AObj.isNest]) (by simp [AObj.isNest]) (by kernel_rfl) ?_; intro X hX hP hC hXn hXm vals hA; refine ⟨_, by simp, hA, ?_⟩; have hmix : X.P.follows .mixedOrders = true := (by rw [hP]; exact T.mixed); clear hXn hXm)
    repeat' (first | fail | ((first | ((with_reducible (first | apply oA | apply oB)); exact rfl; intro K hK) | (refine hK _ ?_; clear hK K) | ((with_reducible (first | apply oG | apply oH)); iterate 3 exact rfl) | ((with_reducible apply oI); (iterate 2 exact rfl); intro K hK) | (with_reducible (first | apply wI | apply wJ | apply wK))); try simp only [go_sem, simprocAttr, vT, List.map_nil]) | fail | (with_reducible (first | apply oC | apply oJ | exact oK | apply wA | apply wB | apply wC hX hC | apply wD hX hC | apply wE hX hC hmix | apply wF hX hC hmix | apply wG | apply wH | apply And.intro)) | ((with_reducible refine oD ?_ ?_); first | fail | kernel_rfl) | ((with_reducible (first | apply oE | apply oF)); (iterate 3 exact rfl); all_goals (intro h; first | (exact absurd h (by decide)) | ((try simp only [go_sem, simprocAttr, vT, List.map_nil] at h); (try with_reducible intro K hK); simp only [go_sem, simprocAttr, vT, List.map_nil]))) | ((first | ((with_reducible apply wL); exact rfl) | ((with_reducible apply wM); exact rfl)); all_goals (try ((with_reducible intro h); first | (exact absurd h (by decide)) | (try simp only [go_sem, simprocAttr, vT, List.map_nil] at h)))) | omega | ((first | first | (refine acall_genC hX hC hP [(10000, 13)] (newF_spec g hl hc hm) rfl rfl rfl ?_ ?_ ?_ ?_ ?_ ?_ ?_ ?_ ?_ ?_ ?_ ?_ ?_ ?_; (focus (simp only [go_sem, simprocAttr, vT, List.map_nil]; done)); (iterate 12 (focus (simp [go_sem, simprocAttr, vT, List.map_nil]; done))); simp only [go_sem, simprocAttr, vT, List.map_nil, List.map_cons, List.map_nil]) | refine acall_simple hX hC hP (of_spec g hm) rfl rfl rfl (by simp only [go_sem, simprocAttr, vT, List.map_nil]) rfl ?_ | refine acall_simple hX hC hP (hO) rfl rfl rfl (by simp only [go_sem, simprocAttr, vT, List.map_nil]) rfl ?_); try simp only [go_sem, simprocAttr, vT, List.map_nil]) | (intro h))
  | true =>
  have hpo := hr.1 rfl
  have hle := plan_len hpo
  have hR : runRes true g p = match stopK g p g.n.toNat with
    | some i => (([], []), (3, (i : Int)))
    | none => ((endR g p g.n.toNat, (fK g p g.n.toNat).row), (0, 0)) := rfl
  generalize runRes true g p = R at hR
  (refine Spec.intro (C := T.cfg [] []) (rs := [.t 4, .t 5, .c 6 34]) (T.cfg_ok _ _) Try.func25 rfl rfl Try.ntmps25 Try.results25 (by simp [AObj.isNest]) (by simp [AObj.isNest]) (by kernel_rfl) ?_; intro X hX hP hC hXn hXm vals hA; refine ⟨_, by simp, hA, ?_⟩; have hmix : X.P.follows .mixedOrders = true := (by rw [hP]; exact T.mixed); clear hXn hXm)
  repeat' (first | fail | ((first | ((with_reducible (first | apply oA | apply oB)); exact rfl; intro K hK) | (refine hK _ ?_; clear hK K) | ((with_reducible (first | apply oG | apply oH)); iterate 3 exact rfl) | ((with_reducible apply oI); (iterate 2 exact rfl); intro K hK) | (with_reducible (first | apply wI | apply wJ | apply wK))); try simp only [go_sem, simprocAttr]) | (show awp _ (.seq (.region 5 _ _) _) _ _; (refine awp_nilD 13 0 3 rfl rfl rfl ?_; simp only [LA.app, ASt.put, ASt.kill, putM, rml, List.set_cons_zero, List.set_cons_succ, go_sem, simprocAttr]); (refine awp_newB hX 13 2 100 (.tip 3 1 []) rfl rfl rfl (by simp only [go_sem, simprocAttr]) (by decide) (by simp [go_sem, simprocAttr]) ⟨3, 1, by decide, .inr rfl⟩ ?_; simp only [LA.app, ASt.put, ASt.kill, subT, rmk, putM, rml, kl, AV.sub, AV.subs, AObj.sub, List.set_cons_zero, List.set_cons_succ, go_sem, simprocAttr])) | (with_reducible (first | apply oC | apply oJ | exact oK | apply wA | apply wB | apply wC hX hC | apply wD hX hC | apply wE hX hC hmix | apply wF hX hC hmix | apply wG | apply wH | apply And.intro)) | ((with_reducible refine oD ?_ ?_); first | fail | kernel_rfl) | ((with_reducible (first | apply oE | apply oF)); (iterate 3 exact rfl); all_goals (intro h; first | (exact absurd h (by decide)) | ((try simp only [go_sem, simprocAttr] at h); (try with_reducible intro K hK); simp only [go_sem, simprocAttr]))) | ((first | ((with_reducible apply wL); exact rfl) | ((with_reducible apply wM); exact rfl)); all_goals (try ((with_reducible intro h); first | (exact absurd h (by decide)) | (try simp only [go_sem, simprocAttr] at h)))) | omega | ((first | first | (refine acall_genC hX hC hP [(10000, 13)] (newF_spec g hl hc hm) rfl rfl rfl ?_ ?_ ?_ ?_ ?_ ?_ ?_ ?_ ?_ ?_ ?_ ?_ ?_ ?_; (focus (simp only [go_sem, simprocAttr]; done)); (iterate 12 (focus (simp [go_sem, simprocAttr]; done))); simp only [go_sem, simprocAttr, List.map_cons, List.map_nil]) | refine acall_simple hX hC hP (of_spec g hm) rfl rfl rfl (by simp only [go_sem, simprocAttr]) rfl ?_ | refine acall_simple hX hC hP (hO) rfl rfl rfl (by simp only [go_sem, simprocAttr]) rfl ?_); try simp only [go_sem, simprocAttr]) | (intro h))
  rw [rep_vT]
  refine awp_loopP (fun k : Nat => k ≤ g.n.toNat ∧ ∀ j, j < k → okK g p j = true) (fun k => ⟨[(3, .ptr 3 0), (4, .ref 28), (6, .ptr 6 0), (7, .ptr 13 0), (30, .d (sI p.ord)), (31, eN p.ord.length), (32, eN k)], [(28, .own 55 1 (vT (endR g p k))), (13, .box [.d (sT (fK g p k).row), .d (vw g), .ref 100]), (100, .tip 3 1 ((fK g p k).pl.map rI)), (6, .box [eN 0, eN 0, .nil 3]), (3, .box [.d (sI p.ord), .d (.sl 1 (vI p.outs))])]⟩) (fun k => g.n.toNat - k) 0 (by simp) ?_ ?_
  · refine Le.of ?_ ?_ <;> simp [go_sem, simprocAttr, rfC, fK, endR]
  rintro k ⟨hk, hok⟩
  obtain ⟨hi, _, hrl⟩ := run_inv hm hpo hk hok
  have hel := endR_len (g := g) (p := p) (k := k)
  have hmul : k * (g.es.length + 1) ≤ 64 * 129 := Nat.mul_le_mul (by omega) (by omega)
  rcases Nat.lt_or_ge k g.n.toNat with hlt | hge
  · have hb : decide ((k : Int) < (p.ord.length : Int)) = true := decide_eq_true (by omega)
    have hxm := oAt_mem hpo hlt
    have hnx := endR_next (g := g) (p := p) (k := k)
    have hfx : fK g p (k + 1) = (succF g (fK g p k) (oAt p k) (lAt p (oAt p k))).2 := rfl
    have hgx : goneK g p k = (succF g (fK g p k) (oAt p k) (lAt p (oAt p k))).1.1 := rfl
    have hpk := place_ok hpo hlt
    have hpn := place_no (g := g) (p := p) (k := k)
    have hsk : okK g p k = false → R = (([], []), (3, (k : Int))) := fun h => by
      rw [hR, stopK_some.2 ⟨hlt, h, hok⟩]
    have hll := lAt_len hpo hxm.1 hxm.2
    have hxo : p.ord.getD k 0 = oAt p k := rfl
    have hplen : (fK g p k).pl.length ≤ 64 := by
      rcases pl_le hi.toFrInv with h | h
      · omega
      · rw [h]; simp
    obtain ⟨x, hx⟩ : ∃ x : Nat, oAt p k = x := ⟨(oAt p k).toNat, by omega⟩
    rw [hx] at hxo hfx hgx hpk hpn hxm hll hnx
    have hxl : x < p.outs.length := by have := hpo.1; omega
    have hv := vI_getD hxl
    have hla : lAt p (x : Int) = p.outs.getD x [] := by unfold lAt; rw [Int.toNat_natCast]
    rw [hla] at hfx hgx hpk hpn hll
    rw [Int.toNat_natCast] at hnx
    have hPl := placeA_spec g hm (fK g p k) hi (x : Int) (p.outs.getD x []) (by omega) (by omega) (by omega)
    have hset := vT_set (ls := endR g p k) (k := x) (l := goneK g p k)
    generalize p.outs.getD x [] = o at hv hfx hgx hpk hpn hPl
    rw [← hnx] at hset
    generalize fK g p k = f at hfx hgx hpk hpn hPl hi hrl hplen
    have hxe : x < (endR g p k).length := by omega
    have hvl : (vT (endR g p k)).length = (endR g p k).length := vT_length
    cases hok1 : okK g p k with
    | false =>
      rw [hpn hok1] at hPl
      simp only at hPl
      have hRk := hsk hok1
      subst hRk
      repeat' (first | fail | ((first | ((with_reducible (first | apply oA | apply oB)); exact rfl; intro K hK) | (refine hK _ ?_; clear hK K) | ((with_reducible (first | apply oG | apply oH)); iterate 3 exact rfl) | ((with_reducible apply oI); (iterate 2 exact rfl); intro K hK) | (with_reducible (first | apply wI | apply wJ | apply wK))); try simp only [go_sem, simprocAttr, hb, hxo, hv, frO, frN, List.map_nil]) | fail | (with_reducible (first | apply oC | apply oJ | exact oK | apply wA | apply wB | apply wC hX hC | apply wD hX hC | apply wE hX hC hmix | apply wF hX hC hmix | apply wG | apply wH | apply And.intro)) | ((with_reducible refine oD ?_ ?_); first | fail | kernel_rfl) | ((with_reducible (first | apply oE | apply oF)); (iterate 3 exact rfl); all_goals (intro h; first | (exact absurd h (by decide)) | ((try simp only [go_sem, simprocAttr, hb, hxo, hv, frO, frN, List.map_nil] at h); (try with_reducible intro K hK); simp only [go_sem, simprocAttr, hb, hxo, hv, frO, frN, List.map_nil]))) | ((first | ((with_reducible apply wL); exact rfl) | ((with_reducible apply wM); exact rfl)); all_goals (try ((with_reducible intro h); first | (exact absurd h (by decide)) | (try simp only [go_sem, simprocAttr, hb, hxo, hv, frO, frN, List.map_nil] at h)))) | omega | ((first | first | (refine acall_gen hX hC hP [(10000, 13), (10001, 100), (10002, 101)] (hPl) rfl rfl rfl ?_ ?_ ?_ ?_ ?_ ?_ ?_ ?_ ?_ ?_ ?_ ?_ ?_ ?_; (focus (simp only [go_sem, simprocAttr, hb, hxo, hv, frO, frN, List.map_nil]; done)); (iterate 12 (focus (simp [go_sem, simprocAttr, hb, hxo, hv, frO, frN, List.map_nil]; done))); simp only [go_sem, simprocAttr, hb, hxo, hv, frO, frN, List.map_nil, List.map_cons, List.map_nil])); try simp only [go_sem, simprocAttr, hb, hxo, hv, frO, frN, List.map_nil]) | (intro h))
      all_goals rfl
    | true =>
      rw [hpk hok1] at hPl
      have hcode : (succF g f (x : Int) o).1.2 = 0 := rfl
      rw [hgx] at hset
      generalize succF g f (x : Int) o = su at hfx hgx hPl hcode hset
      generalize hEk : endR g p k = E at hset hxe hel hvl
      have hvd := fun d => vT_getD hxe d
      repeat' (first | fail | ((first | ((with_reducible (first | apply oA | apply oB)); exact rfl; intro K hK) | (refine hK _ ?_; clear hK K) | ((with_reducible (first | apply oG | apply oH)); iterate 3 exact rfl) | ((with_reducible apply oI); (iterate 2 exact rfl); intro K hK) | (with_reducible (first | apply wI | apply wJ | apply wK))); try simp only [go_sem, simprocAttr, hb, hxo, hv, frO, frN, hcode, hset, hvd, List.drop_succ_cons, List.drop_zero]) | (show awp _ (.region 11 _ _) _ _; (refine awp_mvB hX 13 2 101 100 rfl rfl rfl (by first | exact .inl rfl | exact .inr rfl) (by decide) (by decide) ?_; simp only [LA.app, ASt.put, ASt.kill, subT, rmk, putM, rml, kl, AV.sub, AV.subs, AObj.sub, List.set_cons_zero, List.set_cons_succ, go_sem, simprocAttr, hb, hxo, hv, frO, frN, hcode, hset, hvd, List.drop_succ_cons, List.drop_zero])) | (with_reducible (first | apply oC | apply oJ | exact oK | apply wA | apply wB | apply wC hX hC | apply wD hX hC | apply wE hX hC hmix | apply wF hX hC hmix | apply wG | apply wH | apply And.intro)) | ((with_reducible refine oD ?_ ?_); first | fail | kernel_rfl) | ((with_reducible (first | apply oE | apply oF)); (iterate 3 exact rfl); all_goals (intro h; first | (exact absurd h (by decide)) | ((try simp only [go_sem, simprocAttr, hb, hxo, hv, frO, frN, hcode, hset, hvd, List.drop_succ_cons, List.drop_zero] at h); (try with_reducible intro K hK); simp only [go_sem, simprocAttr, hb, hxo, hv, frO, frN, hcode, hset, hvd, List.drop_succ_cons, List.drop_zero]))) | ((first | ((with_reducible apply wL); exact rfl) | ((with_reducible apply wM); exact rfl)); all_goals (try ((with_reducible intro h); first | (exact absurd h (by decide)) | (try simp only [go_sem, simprocAttr, hb, hxo, hv, frO, frN, hcode, hset, hvd, List.drop_succ_cons, List.drop_zero] at h)))) | omega | ((first | first | (refine acall_gen hX hC hP [(10000, 13), (10001, 100), (10002, 101)] (hPl) rfl rfl rfl ?_ ?_ ?_ ?_ ?_ ?_ ?_ ?_ ?_ ?_ ?_ ?_ ?_ ?_; (focus (simp only [go_sem, simprocAttr, hb, hxo, hv, frO, frN, hcode, hset, hvd, List.drop_succ_cons, List.drop_zero]; done)); (iterate 12 (focus (simp [go_sem, simprocAttr, hb, hxo, hv, frO, frN, hcode, hset, hvd, List.drop_succ_cons, List.drop_zero]; done))); simp only [go_sem, simprocAttr, hb, hxo, hv, frO, frN, hcode, hset, hvd, List.drop_succ_cons, List.drop_zero, List.map_cons, List.map_nil])); try simp only [go_sem, simprocAttr, hb, hxo, hv, frO, frN, hcode, hset, hvd, List.drop_succ_cons, List.drop_zero]) | (intro h))
      refine ⟨k + 1, ⟨by omega, fun j hj => ?_⟩, ?_, by omega⟩
      · by_cases e : j = k
        · subst e; exact hok1
        · exact hok j (by omega)
      · rw [hfx]
        have hset2 : (vT E).set x [D.sl 3 (List.map rT su.1.1)] = vT (endR g p (k + 1)) := hset
        refine Le.of ?_ ?_ <;> simp [go_sem, simprocAttr, hb, hxo, hv, frO, frN, hcode, hset, hvd, List.drop_succ_cons, List.drop_zero, hset2]
  have hb : decide ((k : Int) < (p.ord.length : Int)) = false := decide_eq_false (by omega)
  obtain rfl : k = g.n.toNat := by omega
  rw [stopK_none.2 hok] at hR
  subst hR
  repeat' (first | fail | ((first | ((with_reducible (first | apply oA | apply oB)); exact rfl; intro K hK) | (refine hK _ ?_; clear hK K) | ((with_reducible (first | apply oG | apply oH)); iterate 3 exact rfl) | ((with_reducible apply oI); (iterate 2 exact rfl); intro K hK) | (with_reducible (first | apply wI | apply wJ | apply wK))); try simp only [go_sem, simprocAttr, hb]) | fail | (with_reducible (first | apply oC | apply oJ | exact oK | apply wA | apply wB | apply wC hX hC | apply wD hX hC | apply wE hX hC hmix | apply wF hX hC hmix | apply wG | apply wH | apply And.intro)) | ((with_reducible refine oD ?_ ?_); first | fail | kernel_rfl) | ((with_reducible (first | apply oE | apply oF)); (iterate 3 exact rfl); all_goals (intro h; first | (exact absurd h (by decide)) | ((try simp only [go_sem, simprocAttr, hb] at h); (try with_reducible intro K hK); simp only [go_sem, simprocAttr, hb]))) | ((first | ((with_reducible apply wL); exact rfl) | ((with_reducible apply wM); exact rfl)); all_goals (try ((with_reducible intro h); first | (exact absurd h (by decide)) | (try simp only [go_sem, simprocAttr, hb] at h)))) | omega | ((first | first | (refine acall_lend1 hX hC hP 60 (rowT_spec [vw g, sI (fK g p g.n.toNat).pl] (fK g p g.n.toNat).row (by omega)) rfl rfl rfl ?_ ?_ (by first | exact ⟨_, _, _, rfl, flatI⟩ | exact ⟨_, _, _, rfl, flatT⟩) rfl (by decide) ?_; (iterate 2 (focus (simp only [go_sem, simprocAttr, hb]; done))); simp only [go_sem, simprocAttr, hb])); try simp only [go_sem, simprocAttr, hb]) | (intro h))
end Go.Ab
end
section
namespace Go.Ab
open Go.Proofs
attribute [local congr] ACall.congr
set_option maxRecDepth 10000
set_option maxHeartbeats 8000000

/-- A builder. -/
def buO (n : Int) (es : List Edge) (ord : List Int) (O : List (List Int)) : List (Nat × AObj) := [(10000, .box [eN n, .ref 10001, .ref 10002, .ref 10003]), (10001, .tip 53 2 (es.map rE)), (10002, .tip 3 1 (ord.map rI)), (10003, .own 32 1 (vI O))]
def buN (n : Int) (es : List Edge) (ord : List Int) (O : List (List Int)) : List (Nat × AObj) := [(10000, .box [eN n, .ref 10004, .ref 10002, .ref 10003]), (10004, .tip 53 2 (es.map rE)), (10002, .tip 3 1 (ord.map rI)), (10003, .own 32 1 (vI O))]
/-- What items lay: edges from their sinks. -/
def layE (x : Int) (items : List It) : List Edge := (loose items).map fun v => (v, x)
theorem layE_app {x : Int} {a b : List It} : layE x (a ++ b) = layE x a ++ layE x b := by simp [layE, loose_app]
theorem vI_set {ls : List (List Int)} {k : Nat} {l : List Int} : (vI ls).set k [sI l] = vI (ls.set k l) := by simp [vI, List.map_set]
theorem loose_len {items : List It} : (loose items).length ≤ items.length := by
  unfold loose
  rw [List.length_map]
  exact List.length_filter_le _ _
theorem lay_spec (n : Int) (es : List Edge) (ord : List Int) (O : List (List Int)) (x : Int) (items : List It) (hl : es.length + items.length ≤ 100000) (hO : ∀ v ∈ loose items, 0 ≤ v ∧ v < O.length) :
    Spec Try.prog 47 (Args [.ptr 10000 0, eN x, .d (sT items)]) (buO n es ord O) (.tup []) (buN n (es ++ layE x items) ord (layO es.length (layE x items) O)) := by
  unfold buO buN
  (refine Spec.introR (C := T.cfg [] []) (rs := []) [(10004, 50)] (T.cfg_ok _ _) Try.func47 rfl rfl Try.ntmps47 Try.results47 (by simp [AObj.isNest]) (by simp [AObj.isNest]) (by first | (simp [look]; done) | (simp [asN]; done) | (intro l hl; simp only [asN]; repeat (rw [if_neg (fun e => by subst e; simp [look] at hl)]))) (by first | (simp [look]; done) | (simp [asN]; done) | (intro l hl; simp only [asN]; repeat (rw [if_neg (fun e => by subst e; simp [look] at hl)]))) (by kernel_rfl) ?_; intro X hX hP hC hXn hXm vals hA; refine ⟨_, by simp, hA, ?_⟩; have hmix : X.P.follows .mixedOrders = true := (by rw [hP]; exact T.mixed); clear hXn hXm)
  repeat' (first | fail | ((first | ((with_reducible (first | apply oA | apply oB)); exact rfl; intro K hK) | (refine hK _ ?_; clear hK K) | ((with_reducible (first | apply oG | apply oH)); iterate 3 exact rfl) | ((with_reducible apply oI); (iterate 2 exact rfl); intro K hK) | (with_reducible (first | apply wI | apply wJ | apply wK))); try simp only [go_sem, simprocAttr]) | fail | (with_reducible (first | apply oC | apply oJ | exact oK | apply wA | apply wB | apply wC hX hC | apply wD hX hC | apply wE hX hC hmix | apply wF hX hC hmix | apply wG | apply wH | apply And.intro)) | ((with_reducible refine oD ?_ ?_); first | fail | kernel_rfl) | ((with_reducible (first | apply oE | apply oF)); (iterate 3 exact rfl); all_goals (intro h; first | (exact absurd h (by decide)) | ((try simp only [go_sem, simprocAttr] at h); (try with_reducible intro K hK); simp only [go_sem, simprocAttr]))) | ((first | ((with_reducible apply wL); exact rfl) | ((with_reducible apply wM); exact rfl)); all_goals (try ((with_reducible intro h); first | (exact absurd h (by decide)) | (try simp only [go_sem, simprocAttr] at h)))) | omega | ((first | fail); try simp only [go_sem, simprocAttr]) | (intro h))
  (refine awp_mvB hX 10000 1 10001 50 rfl rfl rfl (by first | exact .inl rfl | exact .inr rfl) (by decide) (by decide) ?_; simp only [LA.app, ASt.put, ASt.kill, subT, rmk, putM, rml, kl, AV.sub, AV.subs, AObj.sub, List.set_cons_zero, List.set_cons_succ, go_sem, simprocAttr])
  refine awp_loopP (fun k : Nat => k ≤ items.length) (fun k => ⟨[(0, .ptr 10000 0), (1, eN x), (8, .d (sT items)), (9, eN items.length), (10, eN k)], [(10000, .box [eN n, .ref 50, .ref 10002, .ref 10003]), (50, .tip 53 2 ((es ++ layE x (items.take k)).map rE)), (10002, .tip 3 1 (ord.map rI)), (10003, .own 32 1 (vI (layO es.length (layE x (items.take k)) O)))]⟩) (fun k => items.length - k) 0 (by simp) ?_ ?_
  · refine Le.of ?_ ?_ <;> simp [go_sem, simprocAttr, layE, loose, layO]
  rintro k hk
  rcases Nat.lt_or_ge k items.length with hlt | hge
  · have hb : decide ((k : Int) < (items.length : Int)) = true := decide_eq_true (by omega)
    have htk : items.take (k + 1) = items.take k ++ [items.getD k (0, 0, 0)] := take_getD hlt
    have hmt := getD_memX (d := (0, 0, 0)) hlt
    have hsn : layE x (items.take (k + 1)) = layE x (items.take k) ++ layE x [items.getD k (0, 0, 0)] := by rw [htk, layE_app]
    have hvO : (items.getD k (0, 0, 0)).1 < 0 → 0 ≤ (items.getD k (0, 0, 0)).2.1 ∧ (items.getD k (0, 0, 0)).2.1 < O.length := fun h => hO _ (by
      unfold loose
      exact List.mem_map.2 ⟨_, List.mem_filter.2 ⟨hmt, decide_eq_true h⟩, rfl⟩)
    have hll : (layE x (items.take k)).length ≤ k := by
      unfold layE
      rw [List.length_map]
      refine Nat.le_trans loose_len ?_
      rw [List.length_take]; omega
    have hLO := layO_app (m := es.length) (N := layE x (items.take k)) (M := layE x [items.getD k (0, 0, 0)]) (O := O)
    have hOl : (layO es.length (layE x (items.take k)) O).length = O.length := layO_len
    rw [← hsn] at hLO
    generalize hti : items.getD k (0, 0, 0) = t at hsn hvO hLO
    generalize layO es.length (layE x (items.take k)) O = O' at hLO hOl
    generalize layE x (items.take k) = N at hsn hll hLO
    by_cases h0 : 0 ≤ t.1
    · have hb1 : decide (0 ≤ t.1) = true := decide_eq_true h0
      have he : layE x [t] = [] := by
        have : ¬ t.1 < 0 := by omega
        simp [layE, loose, this]
      rw [he] at hsn hLO
      rw [List.append_nil] at hsn
      repeat' (first | fail | ((first | ((with_reducible (first | apply oA | apply oB)); exact rfl; intro K hK) | (refine hK _ ?_; clear hK K) | ((with_reducible (first | apply oG | apply oH)); iterate 3 exact rfl) | ((with_reducible apply oI); (iterate 2 exact rfl); intro K hK) | (with_reducible (first | apply wI | apply wJ | apply wK))); try simp only [go_sem, simprocAttr, hb, hb1, hti]) | fail | (with_reducible (first | apply oC | apply oJ | exact oK | apply wA | apply wB | apply wC hX hC | apply wD hX hC | apply wE hX hC hmix | apply wF hX hC hmix | apply wG | apply wH | apply And.intro)) | ((with_reducible refine oD ?_ ?_); first | fail | kernel_rfl) | ((with_reducible (first | apply oE | apply oF)); (iterate 3 exact rfl); all_goals (intro h; first | (exact absurd h (by decide)) | ((try simp only [go_sem, simprocAttr, hb, hb1, hti] at h); (try with_reducible intro K hK); simp only [go_sem, simprocAttr, hb, hb1, hti]))) | ((first | ((with_reducible apply wL); exact rfl) | ((with_reducible apply wM); exact rfl)); all_goals (try ((with_reducible intro h); first | (exact absurd h (by decide)) | (try simp only [go_sem, simprocAttr, hb, hb1, hti] at h)))) | omega | ((first | fail); try simp only [go_sem, simprocAttr, hb, hb1, hti]) | (intro h))
      refine ⟨k + 1, by omega, ?_, by omega⟩
      rw [hLO, hsn]
      refine Le.of ?_ ?_ <;> simp [go_sem, simprocAttr, hb, hb1, hti, layO]
    · have hb1 : decide (0 ≤ t.1) = false := decide_eq_false h0
      have he : layE x [t] = [(t.2.1, x)] := by
        have : t.1 < 0 := by omega
        simp [layE, loose, this]
      rw [he] at hsn hLO
      obtain ⟨hv0, hv1⟩ := hvO (by omega)
      obtain ⟨vn, hvn⟩ : ∃ vn : Nat, t.2.1 = vn := ⟨t.2.1.toNat, by omega⟩
      have hvl : vn < O'.length := by omega
      have hvd := fun d => vI_getD hvl d
      have hLO2 : layO es.length (layE x (items.take (k + 1))) O = O'.set vn [((es.length + N.length : Nat) : Int)] := by
        rw [hLO, hvn]
        show O'.set ((vn : Int).toNat) _ = _
        rw [Int.toNat_natCast]
      rw [hvn] at hsn
      have hrow : rI ((es.length : Int) + (N.length : Int)) = [D.sc (.int .i64 ((es.length : Int) + (N.length : Int)))] := rfl
      have hset := vI_set (ls := O') (k := vn) (l := [((es.length + N.length : Nat) : Int)])
      repeat' (first | fail | ((first | ((with_reducible (first | apply oA | apply oB)); exact rfl; intro K hK) | (refine hK _ ?_; clear hK K) | ((with_reducible (first | apply oG | apply oH)); iterate 3 exact rfl) | ((with_reducible apply oI); (iterate 2 exact rfl); intro K hK) | (with_reducible (first | apply wI | apply wJ | apply wK))); try simp only [go_sem, simprocAttr, hb, hb1, hti, hvn, hvd, List.drop_succ_cons, List.drop_zero, List.length_append]) | (show awp _ (.region 6 _ _) _ _; (refine awp_mvB hX 10000 1 43 50 rfl rfl rfl (by first | exact .inl rfl | exact .inr rfl) (by decide) (by decide) ?_; simp only [LA.app, ASt.put, ASt.kill, subT, rmk, putM, rml, kl, AV.sub, AV.subs, AObj.sub, List.set_cons_zero, List.set_cons_succ, go_sem, simprocAttr, hb, hb1, hti, hvn, hvd, List.drop_succ_cons, List.drop_zero, List.length_append])) | (with_reducible (first | apply oC | apply oJ | exact oK | apply wA | apply wB | apply wC hX hC | apply wD hX hC | apply wE hX hC hmix | apply wF hX hC hmix | apply wG | apply wH | apply And.intro)) | ((with_reducible refine oD ?_ ?_); first | fail | kernel_rfl) | ((with_reducible (first | apply oE | apply oF)); (iterate 3 exact rfl); all_goals (intro h; first | (exact absurd h (by decide)) | ((try simp only [go_sem, simprocAttr, hb, hb1, hti, hvn, hvd, List.drop_succ_cons, List.drop_zero, List.length_append] at h); (try with_reducible intro K hK); simp only [go_sem, simprocAttr, hb, hb1, hti, hvn, hvd, List.drop_succ_cons, List.drop_zero, List.length_append]))) | ((first | ((with_reducible apply wL); exact rfl) | ((with_reducible apply wM); exact rfl)); all_goals (try ((with_reducible intro h); first | (exact absurd h (by decide)) | (try simp only [go_sem, simprocAttr, hb, hb1, hti, hvn, hvd, List.drop_succ_cons, List.drop_zero, List.length_append] at h)))) | omega | ((first | fail); try simp only [go_sem, simprocAttr, hb, hb1, hti, hvn, hvd, List.drop_succ_cons, List.drop_zero, List.length_append]) | (intro h))
      refine ⟨k + 1, by omega, ?_, by omega⟩
      rw [hLO2, hsn]
      refine Le.of ?_ ?_ <;> simp [go_sem, simprocAttr, hb, hb1, hti, hvn, hvd, List.drop_succ_cons, List.drop_zero, List.length_append]
      refine ⟨rfl, ?_⟩
      simp only [Int.natCast_add] at hset
      exact hset
  · have hb : decide ((k : Int) < (items.length : Int)) = false := decide_eq_false (by omega)
    obtain rfl : k = items.length := by omega
    have ht : items.take items.length = items := List.take_length
    repeat' (first | fail | ((first | ((with_reducible (first | apply oA | apply oB)); exact rfl; intro K hK) | (refine hK _ ?_; clear hK K) | ((with_reducible (first | apply oG | apply oH)); iterate 3 exact rfl) | ((with_reducible apply oI); (iterate 2 exact rfl); intro K hK) | (with_reducible (first | apply wI | apply wJ | apply wK))); try simp only [go_sem, simprocAttr, hb, ht]) | fail | (with_reducible (first | apply oC | apply oJ | exact oK | apply wA | apply wB | apply wC hX hC | apply wD hX hC | apply wE hX hC hmix | apply wF hX hC hmix | apply wG | apply wH | apply And.intro)) | ((with_reducible refine oD ?_ ?_); first | fail | kernel_rfl) | ((with_reducible (first | apply oE | apply oF)); (iterate 3 exact rfl); all_goals (intro h; first | (exact absurd h (by decide)) | ((try simp only [go_sem, simprocAttr, hb, ht] at h); (try with_reducible intro K hK); simp only [go_sem, simprocAttr, hb, ht]))) | ((first | ((with_reducible apply wL); exact rfl) | ((with_reducible apply wM); exact rfl)); all_goals (try ((with_reducible intro h); first | (exact absurd h (by decide)) | (try simp only [go_sem, simprocAttr, hb, ht] at h)))) | omega | ((first | fail); try simp only [go_sem, simprocAttr, hb, ht]) | (intro h))
end Go.Ab
end
section
namespace Go.Ab
open Go.Proofs
attribute [local congr] ACall.congr
set_option maxRecDepth 10000
set_option maxHeartbeats 16000000

theorem cloneEt_spec (ps : List Edge) (hl : ps.length ≤ 1000000) :
    Spec Try.prog 45 (Args [.d (sE ps)]) [] (.ref 10000) [(10000, .tip 53 2 (ps.map rE))] := by
  (refine Spec.introR (C := T.cfg [] []) (rs := [.t 2]) [(10000, 7)] (T.cfg_ok _ _) Try.func45 rfl rfl Try.ntmps45 Try.results45 (by simp [AObj.isNest]) (by simp [AObj.isNest]) (by first | (simp [look]; done) | (simp [asN]; done) | (intro l hl; simp only [asN]; repeat (rw [if_neg (fun e => by subst e; simp [look] at hl)]))) (by first | (simp [look]; done) | (simp [asN]; done) | (intro l hl; simp only [asN]; repeat (rw [if_neg (fun e => by subst e; simp [look] at hl)]))) (by kernel_rfl) ?_; intro X hX hP hC hXn hXm vals hA; refine ⟨_, by simp, hA, ?_⟩; have hmix : X.P.follows .mixedOrders = true := (by rw [hP]; exact T.mixed); clear hXn hXm)
  repeat' (first | (show awp _ .ret _ _; (try simp only [go_sem, simprocAttr]); refine awp_new hX 2 7 (.tip 53 2 []) ?_ ?_ (by decide) ⟨53, 2, by decide, .inr rfl⟩ ?_; (iterate 2 (focus (simp only [go_sem, simprocAttr]; done))); simp only [go_sem, simprocAttr]) | ((first | ((with_reducible (first | apply oA | apply oB)); exact rfl; intro K hK) | (refine hK _ ?_; clear hK K) | ((with_reducible (first | apply oG | apply oH)); iterate 3 exact rfl) | ((with_reducible apply oI); (iterate 2 exact rfl); intro K hK) | (with_reducible (first | apply wI | apply wJ | apply wK))); try simp only [go_sem, simprocAttr]) | fail | (with_reducible (first | apply oC | apply oJ | exact oK | apply wA | apply wB | apply wC hX hC | apply wD hX hC | apply wE hX hC hmix | apply wF hX hC hmix | apply wG | apply wH | apply And.intro)) | ((with_reducible refine oD ?_ ?_); first | fail | kernel_rfl) | ((with_reducible (first | apply oE | apply oF)); (iterate 3 exact rfl); all_goals (intro h; first | (exact absurd h (by decide)) | ((try simp only [go_sem, simprocAttr] at h); (try with_reducible intro K hK); simp only [go_sem, simprocAttr]))) | ((first | ((with_reducible apply wL); exact rfl) | ((with_reducible apply wM); exact rfl)); all_goals (try ((with_reducible intro h); first | (exact absurd h (by decide)) | (try simp only [go_sem, simprocAttr] at h)))) | omega | ((first | fail); try simp only [go_sem, simprocAttr]) | (intro h))
  exact h.symm
def pz : Pl := ⟨[], []⟩
def augR (b : Bool) (g : Gr) (p : Pl) : Gr × Pl × Int :=
  if (runRes b g p).2.1 ≠ 0 then (gz, pz, 1) else if 64 < (augG g p).n ∨ 128 < (augG g p).es.length then (gz, pz, 10) else (augG g p, augP g p, 0)
theorem runRes_ok {b : Bool} {g : Gr} {p : Pl} (hr : b = true ↔ (chkG g).1 = 0 ∧ PlanOk g p) (h : (runRes b g p).2.1 = 0) : RunsP g p ∧ runRes b g p = ((endR g p g.n.toNat, lastR g p), (0, 0)) := by
  cases b with
  | false => simp [runRes] at h
  | true =>
    have hR : runRes true g p = match stopK g p g.n.toNat with
      | some i => (([], []), (3, (i : Int)))
      | none => ((endR g p g.n.toNat, (fK g p g.n.toNat).row), (0, 0)) := rfl
    cases hs : stopK g p g.n.toNat with
    | some i => rw [hR, hs] at h; simp at h
    | none =>
      obtain ⟨h1, h2⟩ := hr.1 rfl
      exact ⟨⟨h1, h2, stopK_none.1 hs⟩, by rw [hR, hs]; rfl⟩
theorem newK_next {g : Gr} {p : Pl} {k : Nat} : newK g p (k + 1) = newK g p k ++ layE (oAt p k) (goneK g p k) := rfl
theorem newK_ok {g : Gr} {p : Pl} (hr : RunsP g p) {k : Nat} (hk : k ≤ g.n.toNat) : (newK g p k).length ≤ g.n.toNat ∧ ∀ e ∈ newK g p k, 0 ≤ e.1 ∧ e.1 < g.n := by
  obtain ⟨hc, h, hok⟩ := hr
  have hm := good_may hc
  obtain ⟨h1, h2⟩ := loose_inv hm h hk fun j hj => hok j (by omega)
  obtain ⟨hi, _⟩ := run_inv hm h hk fun j hj => hok j (by omega)
  have hv : ∀ v ∈ (newK g p k).map (·.1), 0 ≤ v ∧ v < g.n := fun v hv => hi.rng v (h2 v (List.mem_append_left _ hv)).1
  refine ⟨?_, fun e he => hv _ (List.mem_map.2 ⟨e, he, rfl⟩)⟩
  have := nodup_lenX (List.nodup_append.1 h1).1 (m := allN g.n.toNat) fun v hv' => allN_mem.2 (by have := hv v hv'; omega)
  rw [allN_len, List.length_map] at this
  exact this
theorem augment_spec (g : Gr) (hl : g.es.length ≤ 1000) (p : Pl) (hp : PlLen p) (hp1 : p.ord.length ≤ 1000) (hp2 : p.outs.length ≤ 1000) (hp3 : ∀ l ∈ p.outs, l.length ≤ 1000) (b : Bool) (hr : b = true ↔ (chkG g).1 = 0 ∧ PlanOk g p) :
    Spec Try.prog 17 (Args [eG g, ePl p]) [] (.tup [eG (augR b g p).1, ePl (augR b g p).2.1, eN (augR b g p).2.2]) [] := by
  have hO := sweepRun_spec g hl p hp b hr
  by_cases h0 : (runRes b g p).2.1 = 0
  rotate_left
  · have hAr : augR b g p = (gz, pz, 1) := if_pos h0
    rw [hAr]
    have hb1 : decide ((runRes b g p).2.1 = 0) = false := decide_eq_false h0
    (refine Spec.intro (C := T.cfg [] []) (rs := [.c 4 24, .c 5 43, .t 6]) (T.cfg_ok _ _) Try.func17 rfl rfl Try.ntmps17 Try.results17 (by simp [AObj.isNest]) (by simp [AObj.isNest]) (by kernel_rfl) ?_; intro X hX hP hC hXn hXm vals hA; refine ⟨_, by simp, hA, ?_⟩; have hmix : X.P.follows .mixedOrders = true := (by rw [hP]; exact T.mixed); clear hXn hXm)
    repeat' (first | fail | ((first | ((with_reducible (first | apply oA | apply oB)); exact rfl; intro K hK) | (refine hK _ ?_; clear hK K) | ((with_reducible (first | apply oG | apply oH)); iterate 3 exact rfl) | ((with_reducible apply oI); (iterate 2 exact rfl); intro K hK) | (with_reducible (first | apply wI | apply wJ | apply wK))); try simp only [go_sem, simprocAttr, hb1, gz, pz, vI, List.map_nil]) | fail | (with_reducible (first | apply oC | apply oJ | exact oK | apply wA | apply wB | apply wC hX hC | apply wD hX hC | apply wE hX hC hmix | apply wF hX hC hmix | apply wG | apply wH | apply And.intro)) | ((with_reducible refine oD ?_ ?_); first | fail | kernel_rfl) | ((with_reducible (first | apply oE | apply oF)); (iterate 3 exact rfl); all_goals (intro h; first | (exact absurd h (by decide)) | ((try simp only [go_sem, simprocAttr, hb1, gz, pz, vI, List.map_nil] at h); (try with_reducible intro K hK); simp only [go_sem, simprocAttr, hb1, gz, pz, vI, List.map_nil]))) | ((first | ((with_reducible apply wL); exact rfl) | ((with_reducible apply wM); exact rfl)); all_goals (try ((with_reducible intro h); first | (exact absurd h (by decide)) | (try simp only [go_sem, simprocAttr, hb1, gz, pz, vI, List.map_nil] at h)))) | omega | ((first | first | refine acall_simple hX hC hP (hO) rfl rfl rfl (by simp only [go_sem, simprocAttr, hb1, gz, pz, vI, List.map_nil]) rfl ?_); try simp only [go_sem, simprocAttr, hb1, gz, pz, vI, List.map_nil]) | (intro h))
  obtain ⟨hrun, hR⟩ := runRes_ok hr h0
  rw [hR] at hO
  simp only at hO
  have hAr : augR b g p = if 64 < (augG g p).n ∨ 128 < (augG g p).es.length then (gz, pz, 10) else (augG g p, augP g p, 0) := by
    unfold augR; rw [if_neg (by rw [h0]; simp)]
  generalize augR b g p = AR at hAr
  have hm := good_may hrun.1
  have hn := mayB_n hm
  have hpo := hrun.2.1
  have hle := plan_len hpo
  have hol := hpo.1
  (refine Spec.intro (C := T.cfg [55, 98] []) (rs := [.c 4 24, .c 5 43, .t 6]) (T.cfg_ok _ _) Try.func17 rfl rfl Try.ntmps17 Try.results17 (by simp [AObj.isNest]) (by simp [AObj.isNest]) (by kernel_rfl) ?_; intro X hX hP hC hXn hXm vals hA; refine ⟨_, by simp, hA, ?_⟩; have hmix : X.P.follows .mixedOrders = true := (by rw [hP]; exact T.mixed); clear hXn hXm)
  repeat' (first | fail | ((first | ((with_reducible (first | apply oA | apply oB)); exact rfl; intro K hK) | (refine hK _ ?_; clear hK K) | ((with_reducible (first | apply oG | apply oH)); iterate 3 exact rfl) | ((with_reducible apply oI); (iterate 2 exact rfl); intro K hK) | (with_reducible (first | apply wI | apply wJ | apply wK))); try simp only [go_sem, simprocAttr]) | (show awp _ (.seq (.region 5 _ _) _) _ _; (refine awp_mvB hX 38 1 31 200 rfl rfl rfl (by first | exact .inl rfl | exact .inr rfl) (by decide) (by decide) ?_; simp only [LA.app, ASt.put, ASt.kill, subT, rmk, putM, rml, kl, AV.sub, AV.subs, AObj.sub, List.set_cons_zero, List.set_cons_succ, go_sem, simprocAttr]); (refine awp_newB hX 38 3 201 (.own 32 1 []) rfl rfl rfl (by simp only [go_sem, simprocAttr]) (by decide) (by simp [go_sem, simprocAttr]) ⟨32, 1, by decide, .inl rfl⟩ ?_; simp only [LA.app, ASt.put, ASt.kill, subT, rmk, putM, rml, kl, AV.sub, AV.subs, AObj.sub, List.set_cons_zero, List.set_cons_succ, go_sem, simprocAttr])) | (with_reducible (first | apply oC | apply oJ | exact oK | apply wA | apply wB | apply wC hX hC | apply wD hX hC | apply wE hX hC hmix | apply wF hX hC hmix | apply wG | apply wH | apply And.intro)) | ((with_reducible refine oD ?_ ?_); first | fail | kernel_rfl) | ((with_reducible (first | apply oE | apply oF)); (iterate 3 exact rfl); all_goals (intro h; first | (exact absurd h (by decide)) | ((try simp only [go_sem, simprocAttr] at h); (try with_reducible intro K hK); simp only [go_sem, simprocAttr]))) | ((first | ((with_reducible apply wL); exact rfl) | ((with_reducible apply wM); exact rfl)); all_goals (try ((with_reducible intro h); first | (exact absurd h (by decide)) | (try simp only [go_sem, simprocAttr] at h)))) | omega | ((first | first | refine acall_simple hX hC hP (hO) rfl rfl rfl (by simp only [go_sem, simprocAttr]) rfl ?_ | (refine acall_genC hX hC hP [(10000, 31)] (cloneEt_spec g.es (by omega)) rfl rfl rfl ?_ ?_ ?_ ?_ ?_ ?_ ?_ ?_ ?_ ?_ ?_ ?_ ?_ ?_; (focus (simp only [go_sem, simprocAttr]; done)); (iterate 12 (focus (simp [go_sem, simprocAttr]; done))); simp only [go_sem, simprocAttr, List.map_cons, List.map_nil]) | (refine acall_genC hX hC hP [(10000, 35)] (cloneIt_spec p.ord (by omega)) rfl rfl rfl ?_ ?_ ?_ ?_ ?_ ?_ ?_ ?_ ?_ ?_ ?_ ?_ ?_ ?_; (focus (simp only [go_sem, simprocAttr]; done)); (iterate 12 (focus (simp [go_sem, simprocAttr]; done))); simp only [go_sem, simprocAttr, List.map_cons, List.map_nil])); try simp only [go_sem, simprocAttr]) | (intro h))
  refine awp_loopP (fun x : Nat => x ≤ p.outs.length) (fun x => ⟨[(2, .ptr 2 0), (3, .ptr 3 0), (4, .ptr 4 0), (5, .ptr 5 0), (7, .d (.sl 1 (vT (endR g p g.n.toNat)))), (8, .d (sT (lastR g p))), (10, .ptr 38 0), (40, .d (.sl 1 (vI p.outs))), (41, eN p.outs.length), (42, eN x)], [(2, .box [eN g.n, .d (sE g.es)]), (3, .box [.d (sI p.ord), .d (.sl 1 (vI p.outs))]), (4, .box [eN 0, .nil 53]), (5, .box [.nil 3, .nil 32]), (38, .box [eN g.n, .ref 200, .ref 35, .ref 201]), (200, .tip 53 2 (g.es.map rE)), (35, .tip 3 1 (p.ord.map rI)), (201, .own 32 1 (vI (p.outs.take x)))]⟩) (fun x => p.outs.length - x) 0 (by simp) ?_ ?_
  · refine Le.of ?_ ?_ <;> simp [go_sem, simprocAttr, vI]
  rintro x hx
  rcases Nat.lt_or_ge x p.outs.length with hxl | hxg
  · have hb : decide ((x : Int) < (p.outs.length : Int)) = true := decide_eq_true (by omega)
    have hv := vI_getD hxl
    have hll := hp3 _ (getD_memX (d := []) hxl)
    have htk : vI (p.outs.take (x + 1)) = vI (p.outs.take x) ++ [[sI (p.outs.getD x [])]] := by
      unfold vI
      rw [take_nextX (d := []) hxl]
    have htl : (p.outs.take x).length = x := by rw [List.length_take]; omega
    have hCl := cloneI_spec (p.outs.getD x []) (by omega)
    generalize p.outs.getD x [] = l at hv hll htk hCl
    repeat' (first | fail | ((first | ((with_reducible (first | apply oA | apply oB)); exact rfl; intro K hK) | (refine hK _ ?_; clear hK K) | ((with_reducible (first | apply oG | apply oH)); iterate 3 exact rfl) | ((with_reducible apply oI); (iterate 2 exact rfl); intro K hK) | (with_reducible (first | apply wI | apply wJ | apply wK))); try simp only [go_sem, simprocAttr, hb, hv, htl]) | (show awp _ (.region 9 _ _) _ _; (refine awp_mvB hX 38 3 55 201 rfl rfl rfl (by first | exact .inl rfl | exact .inr rfl) (by decide) (by decide) ?_; simp only [LA.app, ASt.put, ASt.kill, subT, rmk, putM, rml, kl, AV.sub, AV.subs, AObj.sub, List.set_cons_zero, List.set_cons_succ, go_sem, simprocAttr, hb, hv, htl])) | (with_reducible (first | apply oC | apply oJ | exact oK | apply wA | apply wB | apply wC hX hC | apply wD hX hC | apply wE hX hC hmix | apply wF hX hC hmix | apply wG | apply wH | apply And.intro)) | ((with_reducible refine oD ?_ ?_); first | fail | kernel_rfl) | ((with_reducible (first | apply oE | apply oF)); (iterate 3 exact rfl); all_goals (intro h; first | (exact absurd h (by decide)) | ((try simp only [go_sem, simprocAttr, hb, hv, htl] at h); (try with_reducible intro K hK); simp only [go_sem, simprocAttr, hb, hv, htl]))) | ((first | ((with_reducible apply wL); exact rfl) | ((with_reducible apply wM); exact rfl)); all_goals (try ((with_reducible intro h); first | (exact absurd h (by decide)) | (try simp only [go_sem, simprocAttr, hb, hv, htl] at h)))) | omega | ((first | first | refine acall_simple hX hC hP (hCl) rfl rfl rfl (by simp only [go_sem, simprocAttr, hb, hv, htl]) rfl ?_); try simp only [go_sem, simprocAttr, hb, hv, htl]) | (intro h))
    refine ⟨x + 1, by omega, ?_, by omega⟩
    rw [htk]
    refine Le.of ?_ ?_ <;> simp [go_sem, simprocAttr, hb, hv, htl]
  have hb : decide ((x : Int) < (p.outs.length : Int)) = false := decide_eq_false (by omega)
  obtain rfl : x = p.outs.length := by omega
  repeat' (first | fail | ((first | ((with_reducible (first | apply oA | apply oB)); exact rfl; intro K hK) | (refine hK _ ?_; clear hK K) | ((with_reducible (first | apply oG | apply oH)); iterate 3 exact rfl) | ((with_reducible apply oI); (iterate 2 exact rfl); intro K hK) | (with_reducible (first | apply wI | apply wJ | apply wK))); try simp only [go_sem, simprocAttr, hb, List.take_length]) | fail | (with_reducible (first | apply oC | apply oJ | exact oK | apply wA | apply wB | apply wC hX hC | apply wD hX hC | apply wE hX hC hmix | apply wF hX hC hmix | apply wG | apply wH | apply And.intro)) | ((with_reducible refine oD ?_ ?_); first | fail | kernel_rfl) | ((with_reducible (first | apply oE | apply oF)); (iterate 3 exact rfl); all_goals (intro h; first | (exact absurd h (by decide)) | ((try simp only [go_sem, simprocAttr, hb, List.take_length] at h); (try with_reducible intro K hK); simp only [go_sem, simprocAttr, hb, List.take_length]))) | ((first | ((with_reducible apply wL); exact rfl) | ((with_reducible apply wM); exact rfl)); all_goals (try ((with_reducible intro h); first | (exact absurd h (by decide)) | (try simp only [go_sem, simprocAttr, hb, List.take_length] at h)))) | omega | ((first | first | refine acall_simple hX hC hP (hCl) rfl rfl rfl (by simp only [go_sem, simprocAttr, hb, List.take_length]) rfl ?_); try simp only [go_sem, simprocAttr, hb, List.take_length]) | (intro h))
  clear hb hx
  refine awp_loopP (fun k : Nat => k ≤ g.n.toNat) (fun k => ⟨[(2, .ptr 2 0), (4, .ptr 4 0), (5, .ptr 5 0), (7, .d (.sl 1 (vT (endR g p g.n.toNat)))), (8, .d (sT (lastR g p))), (10, .ptr 38 0), (61, .d (sI p.ord)), (62, eN p.ord.length), (63, eN k)], [(2, .box [eN g.n, .d (sE g.es)]), (4, .box [eN 0, .nil 53]), (5, .box [.nil 3, .nil 32]), (38, .box [eN g.n, .ref 200, .ref 35, .ref 201]), (200, .tip 53 2 ((g.es ++ newK g p k).map rE)), (35, .tip 3 1 (p.ord.map rI)), (201, .own 32 1 (vI (layO g.es.length (newK g p k) p.outs)))]⟩) (fun k => g.n.toNat - k) 0 (by simp) ?_ ?_
  · refine Le.of ?_ ?_ <;> simp [go_sem, simprocAttr, newK, layO]
  rintro k hk
  obtain ⟨hnl, hnr⟩ := newK_ok hrun hk
  have hOl : (layO g.es.length (newK g p k) p.outs).length = p.outs.length := layO_len
  rcases Nat.lt_or_ge k g.n.toNat with hkl | hkg
  · have hb : decide ((k : Int) < (p.ord.length : Int)) = true := decide_eq_true (by omega)
    have hxm := oAt_mem hpo hkl
    have hea := ends_at hpo (k := g.n.toNat) (Nat.le_refl _) hkl
    have hxo : p.ord.getD k 0 = oAt p k := rfl
    have hnx := newK_next (g := g) (p := p) (k := k)
    obtain ⟨hnl2, hnr2⟩ := newK_ok hrun (k := k + 1) (by omega)
    have hgl : (goneK g p k).length ≤ (fK g p k).row.length := by unfold goneK succF; simp; omega
    obtain ⟨_, _, hrl⟩ := run_inv hm hpo (k := k) (by omega) fun j hj => hrun.2.2 j (by omega)
    have hmul : k * (g.es.length + 1) ≤ 64 * 129 := Nat.mul_le_mul (by omega) (by omega)
    have hLO : layO g.es.length (newK g p (k + 1)) p.outs = layO (g.es ++ newK g p k).length (layE (oAt p k) (goneK g p k)) (layO g.es.length (newK g p k) p.outs) := by
      rw [hnx, layO_app, List.length_append]
    have hLs := lay_spec g.n (g.es ++ newK g p k) p.ord (layO g.es.length (newK g p k) p.outs) (oAt p k) (goneK g p k) (by rw [List.length_append]; omega) (fun v hv => by
      have := hnr2 (v, oAt p k) (by rw [hnx]; exact List.mem_append_right _ (List.mem_map.2 ⟨v, hv, rfl⟩))
      simp only at this
      omega)
    rw [← hLO] at hLs
    have hes : g.es ++ newK g p k ++ layE (oAt p k) (goneK g p k) = g.es ++ newK g p (k + 1) := by rw [hnx, List.append_assoc]
    rw [hes] at hLs
    obtain ⟨x, hx⟩ : ∃ x : Nat, oAt p k = x := ⟨(oAt p k).toNat, by omega⟩
    rw [hx] at hxo hea hLs hxm
    rw [Int.toNat_natCast] at hea
    have hel := endR_len (g := g) (p := p) (k := g.n.toNat)
    have hxe : x < (endR g p g.n.toNat).length := by omega
    have hve := vT_getD hxe
    rw [hea] at hve
    have hvl : (vT (endR g p g.n.toNat)).length = (endR g p g.n.toNat).length := vT_length
    repeat' (first | fail | ((first | ((with_reducible (first | apply oA | apply oB)); exact rfl; intro K hK) | (refine hK _ ?_; clear hK K) | ((with_reducible (first | apply oG | apply oH)); iterate 3 exact rfl) | ((with_reducible apply oI); (iterate 2 exact rfl); intro K hK) | (with_reducible (first | apply wI | apply wJ | apply wK))); try simp only [go_sem, simprocAttr, hb, hxo, hve, hvl, buO, buN]) | (show awp _ (.region 14 _ _) _ _; (refine awp_mvB hX 38 1 202 200 rfl rfl rfl (by first | exact .inl rfl | exact .inr rfl) (by decide) (by decide) ?_; simp only [LA.app, ASt.put, ASt.kill, subT, rmk, putM, rml, kl, AV.sub, AV.subs, AObj.sub, List.set_cons_zero, List.set_cons_succ, go_sem, simprocAttr, hb, hxo, hve, hvl, buO, buN])) | (with_reducible (first | apply oC | apply oJ | exact oK | apply wA | apply wB | apply wC hX hC | apply wD hX hC | apply wE hX hC hmix | apply wF hX hC hmix | apply wG | apply wH | apply And.intro)) | ((with_reducible refine oD ?_ ?_); first | fail | kernel_rfl) | ((with_reducible (first | apply oE | apply oF)); (iterate 3 exact rfl); all_goals (intro h; first | (exact absurd h (by decide)) | ((try simp only [go_sem, simprocAttr, hb, hxo, hve, hvl, buO, buN] at h); (try with_reducible intro K hK); simp only [go_sem, simprocAttr, hb, hxo, hve, hvl, buO, buN]))) | ((first | ((with_reducible apply wL); exact rfl) | ((with_reducible apply wM); exact rfl)); all_goals (try ((with_reducible intro h); first | (exact absurd h (by decide)) | (try simp only [go_sem, simprocAttr, hb, hxo, hve, hvl, buO, buN] at h)))) | omega | ((first | first | (refine acall_gen hX hC hP [(10000, 38), (10001, 200), (10002, 35), (10003, 201), (10004, 202)] (hLs) rfl rfl rfl ?_ ?_ ?_ ?_ ?_ ?_ ?_ ?_ ?_ ?_ ?_ ?_ ?_ ?_; (focus (simp only [go_sem, simprocAttr, hb, hxo, hve, hvl, buO, buN]; done)); (iterate 12 (focus (simp [go_sem, simprocAttr, hb, hxo, hve, hvl, buO, buN]; done))); simp only [go_sem, simprocAttr, hb, hxo, hve, hvl, buO, buN, List.map_cons, List.map_nil])); try simp only [go_sem, simprocAttr, hb, hxo, hve, hvl, buO, buN]) | (intro h))
    refine ⟨k + 1, by omega, ?_, by omega⟩
    refine Le.of ?_ ?_ <;> simp [go_sem, simprocAttr, hb, hxo, hve, hvl, buO, buN]
  have hb : decide ((k : Int) < (p.ord.length : Int)) = false := decide_eq_false (by omega)
  obtain rfl : k = g.n.toNat := by omega
  by_cases h1 : 1 < (lastR g p).length
  · have hb1 : decide ((1 : Int) < ((lastR g p).length : Int)) = true := decide_eq_true (by omega)
    obtain ⟨_, _, hrl⟩ := run_inv hm hpo (k := g.n.toNat) (Nat.le_refl _) hrun.2.2
    have hmul : g.n.toNat * (g.es.length + 1) ≤ 64 * 129 := Nat.mul_le_mul (by omega) (by omega)
    have hrl : (lastR g p).length ≤ g.n.toNat * (g.es.length + 1) := hrl
    obtain ⟨hN1, hN2⟩ := newA_ok hrun
    have hnl2 : newL g p = layE g.n (lastR g p) := if_pos h1
    have hLs := lay_spec (g.n + 1) (g.es ++ newK g p g.n.toNat) (p.ord ++ [g.n]) (layO g.es.length (newK g p g.n.toNat) p.outs ++ [[]]) g.n (lastR g p) (by rw [List.length_append]; omega) (fun v hv => by
      have := (hN2 (v, g.n) (by unfold newA; rw [hnl2]; exact List.mem_append_right _ (List.mem_map.2 ⟨v, hv, rfl⟩))).1
      simp only at this
      rw [List.length_append, layO_len]; omega)
    have hq : layO (g.es ++ newK g p g.n.toNat).length (layE g.n (lastR g p)) (layO g.es.length (newK g p g.n.toNat) p.outs ++ [[]]) = (augP g p).outs := by
      show _ = layO g.es.length (newA g p) (if 1 < (lastR g p).length then p.outs ++ [[]] else p.outs)
      have hsn := layO_snoc (m := g.es.length) (N := newK g p g.n.toNat) (O := p.outs) (fun e he => by
        have := hnr e he
        omega)
      rw [if_pos h1, newA, hnl2, layO_app, List.length_append, hsn]
    have he : g.es ++ newK g p g.n.toNat ++ layE g.n (lastR g p) = (augG g p).es := by
      show _ = g.es ++ newA g p
      rw [newA, hnl2, List.append_assoc]
    have ho : p.ord ++ [g.n] = (augP g p).ord := (if_pos h1).symm
    have hg : g.n + 1 = (augG g p).n := (if_pos h1).symm
    have hvs : vI (layO g.es.length (newK g p g.n.toNat) p.outs) ++ [[D.sl 1 []]] = vI (layO g.es.length (newK g p g.n.toNat) p.outs ++ [[]]) := by simp [vI, sI]
    have hos : p.ord.map rI ++ [[D.sc (.int .i64 g.n)]] = (p.ord ++ [g.n]).map rI := by simp [rI]
    rw [hq, he] at hLs
    have hal : (augG g p).es.length ≤ 1000 := by
      rw [← he, List.length_append, List.length_append]
      have : (layE g.n (lastR g p)).length ≤ g.n.toNat := by
        have := nodup_lenX (List.nodup_append.1 (by rw [newA, List.map_append] at hN1; exact hN1)).2.1 (m := allN g.n.toNat) fun v hv' => allN_mem.2 (by
          obtain ⟨e, he, rfl⟩ := List.mem_map.1 hv'
          have := (hN2 e (List.mem_append_right _ he)).1
          omega)
        rw [allN_len, List.length_map, hnl2] at this
        exact this
      omega
    have hA2 : AR = if 64 < (augG g p).n ∨ 128 < (augG g p).es.length then (gz, pz, 10) else (augG g p, augP g p, 0) := hAr
    clear hAr
    have hql : (augP g p).outs.length = (augP g p).outs.length := rfl
    have hpp : augP g p = ⟨(augP g p).ord, (augP g p).outs⟩ := rfl
    generalize augG g p = G at he hg hLs hA2 hal
    rw [ho] at hLs hos
    generalize augP g p = Q at hq ho hLs hA2 hos
    by_cases h2 : 64 < G.n
    · have hb2 : decide (64 < G.n) = true := decide_eq_true h2
      rw [if_pos (.inl h2)] at hA2
      subst hA2
      repeat' (first | fail | ((first | ((with_reducible (first | apply oA | apply oB)); exact rfl; intro K hK) | (refine hK _ ?_; clear hK K) | ((with_reducible (first | apply oG | apply oH)); iterate 3 exact rfl) | ((with_reducible apply oI); (iterate 2 exact rfl); intro K hK) | (with_reducible (first | apply wI | apply wJ | apply wK))); try simp only [go_sem, simprocAttr, hb, hb1, hb2, buO, buN, hvs, hos, hg, gz, pz, vI, List.map_nil]) | fail | (with_reducible (first | apply oC | apply oJ | exact oK | apply wA | apply wB | apply wC hX hC | apply wD hX hC | apply wE hX hC hmix | apply wF hX hC hmix | apply wG | apply wH | apply And.intro)) | ((with_reducible refine oD ?_ ?_); first | fail | kernel_rfl) | ((with_reducible (first | apply oE | apply oF)); (iterate 3 exact rfl); all_goals (intro h; first | (exact absurd h (by decide)) | ((try simp only [go_sem, simprocAttr, hb, hb1, hb2, buO, buN, hvs, hos, hg, gz, pz, vI, List.map_nil] at h); (try with_reducible intro K hK); simp only [go_sem, simprocAttr, hb, hb1, hb2, buO, buN, hvs, hos, hg, gz, pz, vI, List.map_nil]))) | ((first | ((with_reducible apply wL); exact rfl) | ((with_reducible apply wM); exact rfl)); all_goals (try ((with_reducible intro h); first | (exact absurd h (by decide)) | (try simp only [go_sem, simprocAttr, hb, hb1, hb2, buO, buN, hvs, hos, hg, gz, pz, vI, List.map_nil] at h)))) | omega | ((first | first | (refine acall_gen hX hC hP [(10000, 38), (10001, 200), (10002, 87), (10003, 98), (10004, 203)] (hLs) rfl rfl rfl ?_ ?_ ?_ ?_ ?_ ?_ ?_ ?_ ?_ ?_ ?_ ?_ ?_ ?_; (focus (simp only [go_sem, simprocAttr, hb, hb1, hb2, buO, buN, hvs, hos, hg, gz, pz, vI, List.map_nil]; done)); (iterate 12 (focus (simp [go_sem, simprocAttr, hb, hb1, hb2, buO, buN, hvs, hos, hg, gz, pz, vI, List.map_nil]; done))); simp only [go_sem, simprocAttr, hb, hb1, hb2, buO, buN, hvs, hos, hg, gz, pz, vI, List.map_nil, List.map_cons, List.map_nil])); try simp only [go_sem, simprocAttr, hb, hb1, hb2, buO, buN, hvs, hos, hg, gz, pz, vI, List.map_nil]) | (intro h))
    · have hb2 : decide (64 < G.n) = false := decide_eq_false h2
      by_cases h3 : 128 < G.es.length
      · have hb3 : decide (128 < (G.es.length : Int)) = true := decide_eq_true (by omega)
        rw [if_pos (.inr h3)] at hA2
        subst hA2
        repeat' (first | fail | ((first | ((with_reducible (first | apply oA | apply oB)); exact rfl; intro K hK) | (refine hK _ ?_; clear hK K) | ((with_reducible (first | apply oG | apply oH)); iterate 3 exact rfl) | ((with_reducible apply oI); (iterate 2 exact rfl); intro K hK) | (with_reducible (first | apply wI | apply wJ | apply wK))); try simp only [go_sem, simprocAttr, hb, hb1, hb2, hb3, buO, buN, hvs, hos, hg, gz, pz]) | fail | (with_reducible (first | apply oC | apply oJ | exact oK | apply wA | apply wB | apply wC hX hC | apply wD hX hC | apply wE hX hC hmix | apply wF hX hC hmix | apply wG | apply wH | apply And.intro)) | ((with_reducible refine oD ?_ ?_); first | fail | kernel_rfl) | ((with_reducible (first | apply oE | apply oF)); (iterate 3 exact rfl); all_goals (intro h; first | (exact absurd h (by decide)) | ((try simp only [go_sem, simprocAttr, hb, hb1, hb2, hb3, buO, buN, hvs, hos, hg, gz, pz] at h); (try with_reducible intro K hK); simp only [go_sem, simprocAttr, hb, hb1, hb2, hb3, buO, buN, hvs, hos, hg, gz, pz]))) | ((first | ((with_reducible apply wL); exact rfl) | ((with_reducible apply wM); exact rfl)); all_goals (try ((with_reducible intro h); first | (exact absurd h (by decide)) | (try simp only [go_sem, simprocAttr, hb, hb1, hb2, hb3, buO, buN, hvs, hos, hg, gz, pz] at h)))) | omega | ((first | first | (refine acall_gen hX hC hP [(10000, 38), (10001, 200), (10002, 87), (10003, 98), (10004, 203)] (hLs) rfl rfl rfl ?_ ?_ ?_ ?_ ?_ ?_ ?_ ?_ ?_ ?_ ?_ ?_ ?_ ?_; (focus (simp only [go_sem, simprocAttr, hb, hb1, hb2, hb3, buO, buN, hvs, hos, hg, gz, pz]; done)); (iterate 12 (focus (simp [go_sem, simprocAttr, hb, hb1, hb2, hb3, buO, buN, hvs, hos, hg, gz, pz]; done))); simp only [go_sem, simprocAttr, hb, hb1, hb2, hb3, buO, buN, hvs, hos, hg, gz, pz, List.map_cons, List.map_nil])); try simp only [go_sem, simprocAttr, hb, hb1, hb2, hb3, buO, buN, hvs, hos, hg, gz, pz]) | (intro h))
        all_goals rfl
      · have hb3 : decide (128 < (G.es.length : Int)) = false := decide_eq_false (by omega)
        rw [if_neg (by rintro (h | h); exact h2 h; exact h3 h)] at hA2
        subst hA2
        repeat' (first | fail | ((first | ((with_reducible (first | apply oA | apply oB)); exact rfl; intro K hK) | (refine hK _ ?_; clear hK K) | ((with_reducible (first | apply oG | apply oH)); iterate 3 exact rfl) | ((with_reducible apply oI); (iterate 2 exact rfl); intro K hK) | (with_reducible (first | apply wI | apply wJ | apply wK))); try simp only [go_sem, simprocAttr, hb, hb1, hb2, hb3, buO, buN, hvs, hos, hg]) | fail | (with_reducible (first | apply oC | apply oJ | exact oK | apply wA | apply wB | apply wC hX hC | apply wD hX hC | apply wE hX hC hmix | apply wF hX hC hmix | apply wG | apply wH | apply And.intro)) | ((with_reducible refine oD ?_ ?_); first | fail | kernel_rfl) | ((with_reducible (first | apply oE | apply oF)); (iterate 3 exact rfl); all_goals (intro h; first | (exact absurd h (by decide)) | ((try simp only [go_sem, simprocAttr, hb, hb1, hb2, hb3, buO, buN, hvs, hos, hg] at h); (try with_reducible intro K hK); simp only [go_sem, simprocAttr, hb, hb1, hb2, hb3, buO, buN, hvs, hos, hg]))) | ((first | ((with_reducible apply wL); exact rfl) | ((with_reducible apply wM); exact rfl)); all_goals (try ((with_reducible intro h); first | (exact absurd h (by decide)) | (try simp only [go_sem, simprocAttr, hb, hb1, hb2, hb3, buO, buN, hvs, hos, hg] at h)))) | omega | ((first | first | (refine acall_gen hX hC hP [(10000, 38), (10001, 200), (10002, 87), (10003, 98), (10004, 203)] (hLs) rfl rfl rfl ?_ ?_ ?_ ?_ ?_ ?_ ?_ ?_ ?_ ?_ ?_ ?_ ?_ ?_; (focus (simp only [go_sem, simprocAttr, hb, hb1, hb2, hb3, buO, buN, hvs, hos, hg]; done)); (iterate 12 (focus (simp [go_sem, simprocAttr, hb, hb1, hb2, hb3, buO, buN, hvs, hos, hg]; done))); simp only [go_sem, simprocAttr, hb, hb1, hb2, hb3, buO, buN, hvs, hos, hg, List.map_cons, List.map_nil])); try simp only [go_sem, simprocAttr, hb, hb1, hb2, hb3, buO, buN, hvs, hos, hg]) | (intro h))
  · have hb1 : decide ((1 : Int) < ((lastR g p).length : Int)) = false := decide_eq_false (by omega)
    have hnl2 : newL g p = [] := if_neg h1
    have he : g.es ++ newK g p g.n.toNat = (augG g p).es := by
      show _ = g.es ++ newA g p
      rw [newA, hnl2, List.append_nil]
    have hq : layO g.es.length (newK g p g.n.toNat) p.outs = (augP g p).outs := by
      show _ = layO g.es.length (newA g p) (if 1 < (lastR g p).length then p.outs ++ [[]] else p.outs)
      rw [if_neg h1, newA, hnl2, List.append_nil]
    have ho : p.ord = (augP g p).ord := (if_neg h1).symm
    have hg : g.n = (augG g p).n := (if_neg h1).symm
    have hml : (g.es ++ newK g p g.n.toNat).map rE = (augG g p).es.map rE := by rw [he]
    have hel2 : (augG g p).es.length = g.es.length + (newK g p g.n.toNat).length := by rw [← he, List.length_append]
    have hov : p.ord.map rI = (augP g p).ord.map rI := by rw [← ho]
    generalize augG g p = G at he hg hAr hml hel2
    generalize augP g p = Q at hq ho hAr hov
    by_cases h2 : 64 < G.n
    · omega
    · have hb2 : decide (64 < G.n) = false := decide_eq_false h2
      by_cases h3 : 128 < G.es.length
      · have hb3 : decide (128 < (G.es.length : Int)) = true := decide_eq_true (by omega)
        rw [if_pos (.inr h3)] at hAr
        subst hAr
        rw [he]
        repeat' (first | fail | ((first | ((with_reducible (first | apply oA | apply oB)); exact rfl; intro K hK) | (refine hK _ ?_; clear hK K) | ((with_reducible (first | apply oG | apply oH)); iterate 3 exact rfl) | ((with_reducible apply oI); (iterate 2 exact rfl); intro K hK) | (with_reducible (first | apply wI | apply wJ | apply wK))); try simp only [go_sem, simprocAttr, hb, hb1, hb2, hb3, hg, gz, pz]) | fail | (with_reducible (first | apply oC | apply oJ | exact oK | apply wA | apply wB | apply wC hX hC | apply wD hX hC | apply wE hX hC hmix | apply wF hX hC hmix | apply wG | apply wH | apply And.intro)) | ((with_reducible refine oD ?_ ?_); first | fail | kernel_rfl) | ((with_reducible (first | apply oE | apply oF)); (iterate 3 exact rfl); all_goals (intro h; first | (exact absurd h (by decide)) | ((try simp only [go_sem, simprocAttr, hb, hb1, hb2, hb3, hg, gz, pz] at h); (try with_reducible intro K hK); simp only [go_sem, simprocAttr, hb, hb1, hb2, hb3, hg, gz, pz]))) | ((first | ((with_reducible apply wL); exact rfl) | ((with_reducible apply wM); exact rfl)); all_goals (try ((with_reducible intro h); first | (exact absurd h (by decide)) | (try simp only [go_sem, simprocAttr, hb, hb1, hb2, hb3, hg, gz, pz] at h)))) | omega | ((first | fail); try simp only [go_sem, simprocAttr, hb, hb1, hb2, hb3, hg, gz, pz]) | (intro h))
        all_goals rfl
      · have hb3 : decide (128 < (G.es.length : Int)) = false := decide_eq_false (by omega)
        rw [if_neg (by rintro (h | h); exact h2 h; exact h3 h)] at hAr
        subst hAr
        rw [he, hq]
        have hov2 := hov.symm
        have hg2 := hg.symm
        rw [hg2] at hb2
        repeat' (first | fail | ((first | ((with_reducible (first | apply oA | apply oB)); exact rfl; intro K hK) | (refine hK _ ?_; clear hK K) | ((with_reducible (first | apply oG | apply oH)); iterate 3 exact rfl) | ((with_reducible apply oI); (iterate 2 exact rfl); intro K hK) | (with_reducible (first | apply wI | apply wJ | apply wK))); try simp only [go_sem, simprocAttr, hb, hb1, hb2, hb3, hg2, hov2]) | fail | (with_reducible (first | apply oC | apply oJ | exact oK | apply wA | apply wB | apply wC hX hC | apply wD hX hC | apply wE hX hC hmix | apply wF hX hC hmix | apply wG | apply wH | apply And.intro)) | ((with_reducible refine oD ?_ ?_); first | fail | kernel_rfl) | ((with_reducible (first | apply oE | apply oF)); (iterate 3 exact rfl); all_goals (intro h; first | (exact absurd h (by decide)) | ((try simp only [go_sem, simprocAttr, hb, hb1, hb2, hb3, hg2, hov2] at h); (try with_reducible intro K hK); simp only [go_sem, simprocAttr, hb, hb1, hb2, hb3, hg2, hov2]))) | ((first | ((with_reducible apply wL); exact rfl) | ((with_reducible apply wM); exact rfl)); all_goals (try ((with_reducible intro h); first | (exact absurd h (by decide)) | (try simp only [go_sem, simprocAttr, hb, hb1, hb2, hb3, hg2, hov2] at h)))) | omega | ((first | fail); try simp only [go_sem, simprocAttr, hb, hb1, hb2, hb3, hg2, hov2]) | (intro h))
end Go.Ab
end
section
namespace Go.Ab
open Go.Proofs
attribute [local congr] ACall.congr
set_option maxRecDepth 10000
set_option maxHeartbeats 16000000

def docK (p : Pl) (x : Gr) (k : Nat) : List (List Int) := (List.range k).map fun v => if 0 < (p.outs.getD v []).length then p.outs.getD v [] else outZ x (v : Int)
end Go.Ab
end
section
namespace Go.Ab
open Go.Proofs
attribute [local congr] ACall.congr
set_option maxRecDepth 10000
set_option maxHeartbeats 8000000

def bigB (g : Gr) (p : Pl) : Bool := decide (200 < g.es.length) || decide (100 < p.ord.length) || decide (100 < p.outs.length) || p.outs.any fun l => decide (200 < l.length)
theorem big_not {g : Gr} {p : Pl} (h : bigB g p = false) : g.es.length ≤ 200 ∧ p.ord.length ≤ 100 ∧ p.outs.length ≤ 100 ∧ ∀ l ∈ p.outs, l.length ≤ 200 := by
  simp only [bigB, Bool.or_eq_false_iff, decide_eq_false_iff_not, List.any_eq_false, decide_eq_true_eq] at h
  obtain ⟨⟨⟨h1, h2⟩, h3⟩, h4⟩ := h
  exact ⟨by omega, by omega, by omega, fun l hl => by have := h4 l hl; omega⟩
theorem plLen_of {g : Gr} {p : Pl} (h : bigB g p = false) : PlLen p := by
  obtain ⟨_, h1, h2, h3⟩ := big_not h
  exact ⟨by omega, by omega, fun l hl => by have := h3 l hl; omega⟩
structure PlMax (p : Pl) : Prop where
  ord : p.ord.length ≤ 9223372036854775807
  outs : p.outs.length ≤ 9223372036854775807
  each : ∀ l ∈ p.outs, l.length ≤ 9223372036854775807
theorem great10_spec (g : Gr) (p : Pl) (hl : g.es.length ≤ 9223372036854775807) (hp : PlMax p) : Spec Try.prog 16 (Args [eG g, ePl p]) [] (eB (bigB g p)) [] := by
  have ho := hp.ord
  have hu := hp.outs
  (refine Spec.intro (C := T.cfg [] []) (rs := [.t 4]) (T.cfg_ok _ _) Try.func16 rfl rfl Try.ntmps16 Try.results16 (by simp [AObj.isNest]) (by simp [AObj.isNest]) (by kernel_rfl) ?_; intro X hX hP hC hXn hXm vals hA; refine ⟨_, by simp, hA, ?_⟩; have hmix : X.P.follows .mixedOrders = true := (by rw [hP]; exact T.mixed); clear hXn hXm)
  generalize hB : bigB g p = B
  by_cases h1 : 200 < g.es.length
  · have hb1 : decide (200 < (g.es.length : Int)) = true := decide_eq_true (by omega)
    have : B = true := by rw [← hB, bigB, decide_eq_true h1]; rfl
    subst this
    repeat' (first | fail | ((first | ((with_reducible (first | apply oA | apply oB)); exact rfl; intro K hK) | (refine hK _ ?_; clear hK K) | ((with_reducible (first | apply oG | apply oH)); iterate 3 exact rfl) | ((with_reducible apply oI); (iterate 2 exact rfl); intro K hK) | (with_reducible (first | apply wI | apply wJ | apply wK))); try simp only [go_sem, simprocAttr, hb1]) | fail | (with_reducible (first | apply oC | apply oJ | exact oK | apply wA | apply wB | apply wC hX hC | apply wD hX hC | apply wE hX hC hmix | apply wF hX hC hmix | apply wG | apply wH | apply And.intro)) | ((with_reducible refine oD ?_ ?_); first | fail | kernel_rfl) | ((with_reducible (first | apply oE | apply oF)); (iterate 3 exact rfl); all_goals (intro h; first | (exact absurd h (by decide)) | ((try simp only [go_sem, simprocAttr, hb1] at h); (try with_reducible intro K hK); simp only [go_sem, simprocAttr, hb1]))) | ((first | ((with_reducible apply wL); exact rfl) | ((with_reducible apply wM); exact rfl)); all_goals (try ((with_reducible intro h); first | (exact absurd h (by decide)) | (try simp only [go_sem, simprocAttr, hb1] at h)))) | omega | ((first | fail); try simp only [go_sem, simprocAttr, hb1]) | (intro h))
  have hb1 : decide (200 < (g.es.length : Int)) = false := decide_eq_false (by omega)
  by_cases h2 : 100 < p.ord.length
  · have hb2 : decide (100 < (p.ord.length : Int)) = true := decide_eq_true (by omega)
    have : B = true := by rw [← hB, bigB, decide_eq_true h2]; simp
    subst this
    repeat' (first | fail | ((first | ((with_reducible (first | apply oA | apply oB)); exact rfl; intro K hK) | (refine hK _ ?_; clear hK K) | ((with_reducible (first | apply oG | apply oH)); iterate 3 exact rfl) | ((with_reducible apply oI); (iterate 2 exact rfl); intro K hK) | (with_reducible (first | apply wI | apply wJ | apply wK))); try simp only [go_sem, simprocAttr, hb1, hb2]) | fail | (with_reducible (first | apply oC | apply oJ | exact oK | apply wA | apply wB | apply wC hX hC | apply wD hX hC | apply wE hX hC hmix | apply wF hX hC hmix | apply wG | apply wH | apply And.intro)) | ((with_reducible refine oD ?_ ?_); first | fail | kernel_rfl) | ((with_reducible (first | apply oE | apply oF)); (iterate 3 exact rfl); all_goals (intro h; first | (exact absurd h (by decide)) | ((try simp only [go_sem, simprocAttr, hb1, hb2] at h); (try with_reducible intro K hK); simp only [go_sem, simprocAttr, hb1, hb2]))) | ((first | ((with_reducible apply wL); exact rfl) | ((with_reducible apply wM); exact rfl)); all_goals (try ((with_reducible intro h); first | (exact absurd h (by decide)) | (try simp only [go_sem, simprocAttr, hb1, hb2] at h)))) | omega | ((first | fail); try simp only [go_sem, simprocAttr, hb1, hb2]) | (intro h))
  have hb2 : decide (100 < (p.ord.length : Int)) = false := decide_eq_false (by omega)
  by_cases h3 : 100 < p.outs.length
  · have hb3 : decide (100 < (p.outs.length : Int)) = true := decide_eq_true (by omega)
    have : B = true := by rw [← hB, bigB, decide_eq_true h3]; simp
    subst this
    repeat' (first | fail | ((first | ((with_reducible (first | apply oA | apply oB)); exact rfl; intro K hK) | (refine hK _ ?_; clear hK K) | ((with_reducible (first | apply oG | apply oH)); iterate 3 exact rfl) | ((with_reducible apply oI); (iterate 2 exact rfl); intro K hK) | (with_reducible (first | apply wI | apply wJ | apply wK))); try simp only [go_sem, simprocAttr, hb1, hb2, hb3]) | fail | (with_reducible (first | apply oC | apply oJ | exact oK | apply wA | apply wB | apply wC hX hC | apply wD hX hC | apply wE hX hC hmix | apply wF hX hC hmix | apply wG | apply wH | apply And.intro)) | ((with_reducible refine oD ?_ ?_); first | fail | kernel_rfl) | ((with_reducible (first | apply oE | apply oF)); (iterate 3 exact rfl); all_goals (intro h; first | (exact absurd h (by decide)) | ((try simp only [go_sem, simprocAttr, hb1, hb2, hb3] at h); (try with_reducible intro K hK); simp only [go_sem, simprocAttr, hb1, hb2, hb3]))) | ((first | ((with_reducible apply wL); exact rfl) | ((with_reducible apply wM); exact rfl)); all_goals (try ((with_reducible intro h); first | (exact absurd h (by decide)) | (try simp only [go_sem, simprocAttr, hb1, hb2, hb3] at h)))) | omega | ((first | fail); try simp only [go_sem, simprocAttr, hb1, hb2, hb3]) | (intro h))
  have hb3 : decide (100 < (p.outs.length : Int)) = false := decide_eq_false (by omega)
  have hB2 : B = p.outs.any fun l => decide (200 < l.length) := by rw [← hB, bigB, decide_eq_false h1, decide_eq_false h2, decide_eq_false h3]; simp
  clear hB
  repeat' (first | fail | ((first | ((with_reducible (first | apply oA | apply oB)); exact rfl; intro K hK) | (refine hK _ ?_; clear hK K) | ((with_reducible (first | apply oG | apply oH)); iterate 3 exact rfl) | ((with_reducible apply oI); (iterate 2 exact rfl); intro K hK) | (with_reducible (first | apply wI | apply wJ | apply wK))); try simp only [go_sem, simprocAttr, hb1, hb2, hb3]) | fail | (with_reducible (first | apply oC | apply oJ | exact oK | apply wA | apply wB | apply wC hX hC | apply wD hX hC | apply wE hX hC hmix | apply wF hX hC hmix | apply wG | apply wH | apply And.intro)) | ((with_reducible refine oD ?_ ?_); first | fail | kernel_rfl) | ((with_reducible (first | apply oE | apply oF)); (iterate 3 exact rfl); all_goals (intro h; first | (exact absurd h (by decide)) | ((try simp only [go_sem, simprocAttr, hb1, hb2, hb3] at h); (try with_reducible intro K hK); simp only [go_sem, simprocAttr, hb1, hb2, hb3]))) | ((first | ((with_reducible apply wL); exact rfl) | ((with_reducible apply wM); exact rfl)); all_goals (try ((with_reducible intro h); first | (exact absurd h (by decide)) | (try simp only [go_sem, simprocAttr, hb1, hb2, hb3] at h)))) | omega | ((first | fail); try simp only [go_sem, simprocAttr, hb1, hb2, hb3]) | (intro h))
  refine awp_loopP (fun k : Nat => k ≤ p.outs.length ∧ ∀ j, j < k → (p.outs.getD j []).length ≤ 200) (fun k => ⟨[(24, .d (.sl 1 (vI p.outs))), (25, eN p.outs.length), (26, eN k)], []⟩) (fun k => p.outs.length - k) 0 (by simp) ?_ ?_
  · (refine Le.of ?_ ?_ <;> simp [go_sem, simprocAttr])
  rintro k ⟨hk, hg⟩
  rcases Nat.lt_or_ge k p.outs.length with hkl | hkg
  · have hb : decide ((k : Int) < (p.outs.length : Int)) = true := decide_eq_true (by omega)
    have hv := vI_getD hkl
    have hm := getD_memX (d := []) hkl
    have hll := hp.each _ hm
    by_cases h4 : 200 < (p.outs.getD k []).length
    · have hb4 : decide (200 < ((p.outs.getD k []).length : Int)) = true := decide_eq_true (by omega)
      have : B = true := by rw [hB2, List.any_eq_true]; exact ⟨_, hm, decide_eq_true h4⟩
      subst this
      repeat' (first | fail | ((first | ((with_reducible (first | apply oA | apply oB)); exact rfl; intro K hK) | (refine hK _ ?_; clear hK K) | ((with_reducible (first | apply oG | apply oH)); iterate 3 exact rfl) | ((with_reducible apply oI); (iterate 2 exact rfl); intro K hK) | (with_reducible (first | apply wI | apply wJ | apply wK))); try simp only [go_sem, simprocAttr, hb, hv, hb4]) | fail | (with_reducible (first | apply oC | apply oJ | exact oK | apply wA | apply wB | apply wC hX hC | apply wD hX hC | apply wE hX hC hmix | apply wF hX hC hmix | apply wG | apply wH | apply And.intro)) | ((with_reducible refine oD ?_ ?_); first | fail | kernel_rfl) | ((with_reducible (first | apply oE | apply oF)); (iterate 3 exact rfl); all_goals (intro h; first | (exact absurd h (by decide)) | ((try simp only [go_sem, simprocAttr, hb, hv, hb4] at h); (try with_reducible intro K hK); simp only [go_sem, simprocAttr, hb, hv, hb4]))) | ((first | ((with_reducible apply wL); exact rfl) | ((with_reducible apply wM); exact rfl)); all_goals (try ((with_reducible intro h); first | (exact absurd h (by decide)) | (try simp only [go_sem, simprocAttr, hb, hv, hb4] at h)))) | omega | ((first | fail); try simp only [go_sem, simprocAttr, hb, hv, hb4]) | (intro h))
    · have hb4 : decide (200 < ((p.outs.getD k []).length : Int)) = false := decide_eq_false (by omega)
      repeat' (first | fail | ((first | ((with_reducible (first | apply oA | apply oB)); exact rfl; intro K hK) | (refine hK _ ?_; clear hK K) | ((with_reducible (first | apply oG | apply oH)); iterate 3 exact rfl) | ((with_reducible apply oI); (iterate 2 exact rfl); intro K hK) | (with_reducible (first | apply wI | apply wJ | apply wK))); try simp only [go_sem, simprocAttr, hb, hv, hb4]) | fail | (with_reducible (first | apply oC | apply oJ | exact oK | apply wA | apply wB | apply wC hX hC | apply wD hX hC | apply wE hX hC hmix | apply wF hX hC hmix | apply wG | apply wH | apply And.intro)) | ((with_reducible refine oD ?_ ?_); first | fail | kernel_rfl) | ((with_reducible (first | apply oE | apply oF)); (iterate 3 exact rfl); all_goals (intro h; first | (exact absurd h (by decide)) | ((try simp only [go_sem, simprocAttr, hb, hv, hb4] at h); (try with_reducible intro K hK); simp only [go_sem, simprocAttr, hb, hv, hb4]))) | ((first | ((with_reducible apply wL); exact rfl) | ((with_reducible apply wM); exact rfl)); all_goals (try ((with_reducible intro h); first | (exact absurd h (by decide)) | (try simp only [go_sem, simprocAttr, hb, hv, hb4] at h)))) | omega | ((first | fail); try simp only [go_sem, simprocAttr, hb, hv, hb4]) | (intro h))
      refine ⟨k + 1, ⟨by omega, fun j hj => ?_⟩, ?_, by omega⟩
      · by_cases e : j = k
        · subst e; omega
        · exact hg j (by omega)
      · (refine Le.of ?_ ?_ <;> simp [go_sem, simprocAttr, hb, hv, hb4])
  · have hb : decide ((k : Int) < (p.outs.length : Int)) = false := decide_eq_false (by omega)
    have : B = false := by
      rw [hB2, List.any_eq_false]
      intro l hl
      obtain ⟨j, hj, rfl⟩ := List.mem_iff_getElem.1 hl
      have := hg j (by omega)
      rw [List.getD_eq_getElem?_getD, List.getElem?_eq_getElem hj, Option.getD_some] at this
      simp; omega
    subst this
    repeat' (first | fail | ((first | ((with_reducible (first | apply oA | apply oB)); exact rfl; intro K hK) | (refine hK _ ?_; clear hK K) | ((with_reducible (first | apply oG | apply oH)); iterate 3 exact rfl) | ((with_reducible apply oI); (iterate 2 exact rfl); intro K hK) | (with_reducible (first | apply wI | apply wJ | apply wK))); try simp only [go_sem, simprocAttr, hb]) | fail | (with_reducible (first | apply oC | apply oJ | exact oK | apply wA | apply wB | apply wC hX hC | apply wD hX hC | apply wE hX hC hmix | apply wF hX hC hmix | apply wG | apply wH | apply And.intro)) | ((with_reducible refine oD ?_ ?_); first | fail | kernel_rfl) | ((with_reducible (first | apply oE | apply oF)); (iterate 3 exact rfl); all_goals (intro h; first | (exact absurd h (by decide)) | ((try simp only [go_sem, simprocAttr, hb] at h); (try with_reducible intro K hK); simp only [go_sem, simprocAttr, hb]))) | ((first | ((with_reducible apply wL); exact rfl) | ((with_reducible apply wM); exact rfl)); all_goals (try ((with_reducible intro h); first | (exact absurd h (by decide)) | (try simp only [go_sem, simprocAttr, hb] at h)))) | omega | ((first | fail); try simp only [go_sem, simprocAttr, hb]) | (intro h))
def isB (g : Gr) : Bool := decide ((chkG g).1 = 0) && decide ((bareG (·.1) g).length = 1)
theorem augIs_spec (g : Gr) (hl : g.es.length ≤ 1000) : Spec Try.prog 21 (Args [eG g]) [] (eB (isB g)) [] := by
  by_cases hc : (chkG g).1 = 0
  · have hm := good_may hc
    have hb1 : decide ((chkG g).1 = 0) = true := decide_eq_true hc
    have hI : isB g = decide (((bareG (·.1) g).length : Int) = 1) := by
      unfold isB; rw [hb1, Bool.true_and, decide_eq_decide]; omega
    rw [hI]
    generalize hbl : bareG (·.1) g = bl
    have hS := sinks_spec g hm
    rw [hbl] at hS
    (refine Spec.intro (C := T.cfg [] []) (rs := [.t 2]) (T.cfg_ok _ _) Try.func21 rfl rfl Try.ntmps21 Try.results21 (by simp [AObj.isNest]) (by simp [AObj.isNest]) (by kernel_rfl) ?_; intro X hX hP hC hXn hXm vals hA; refine ⟨_, by simp, hA, ?_⟩; have hmix : X.P.follows .mixedOrders = true := (by rw [hP]; exact T.mixed); clear hXn hXm)
    repeat' (first | fail | ((first | ((with_reducible (first | apply oA | apply oB)); exact rfl; intro K hK) | (refine hK _ ?_; clear hK K) | ((with_reducible (first | apply oG | apply oH)); iterate 3 exact rfl) | ((with_reducible apply oI); (iterate 2 exact rfl); intro K hK) | (with_reducible (first | apply wI | apply wJ | apply wK))); try simp only [go_sem, simprocAttr, hb1]) | fail | (with_reducible (first | apply oC | apply oJ | exact oK | apply wA | apply wB | apply wC hX hC | apply wD hX hC | apply wE hX hC hmix | apply wF hX hC hmix | apply wG | apply wH | apply And.intro)) | ((with_reducible refine oD ?_ ?_); first | fail | kernel_rfl) | ((with_reducible (first | apply oE | apply oF)); (iterate 3 exact rfl); all_goals (intro h; first | (exact absurd h (by decide)) | ((try simp only [go_sem, simprocAttr, hb1] at h); (try with_reducible intro K hK); simp only [go_sem, simprocAttr, hb1]))) | ((first | ((with_reducible apply wL); exact rfl) | ((with_reducible apply wM); exact rfl)); all_goals (try ((with_reducible intro h); first | (exact absurd h (by decide)) | (try simp only [go_sem, simprocAttr, hb1] at h)))) | omega | ((first | first | refine acall_simple hX hC hP (check_spec g hl) rfl rfl rfl (by simp only [go_sem, simprocAttr, hb1]) rfl ?_ | refine acall_simple hX hC hP (of_spec g hm) rfl rfl rfl (by simp only [go_sem, simprocAttr, hb1]) rfl ?_ | refine acall_simple hX hC hP (hS) rfl rfl rfl (by simp only [go_sem, simprocAttr, hb1]) rfl ?_); try simp only [go_sem, simprocAttr, hb1]) | (intro h))
  · have hb1 : decide ((chkG g).1 = 0) = false := decide_eq_false hc
    have hI : isB g = false := by unfold isB; rw [hb1]; rfl
    rw [hI]
    (refine Spec.intro (C := T.cfg [] []) (rs := [.t 2]) (T.cfg_ok _ _) Try.func21 rfl rfl Try.ntmps21 Try.results21 (by simp [AObj.isNest]) (by simp [AObj.isNest]) (by kernel_rfl) ?_; intro X hX hP hC hXn hXm vals hA; refine ⟨_, by simp, hA, ?_⟩; have hmix : X.P.follows .mixedOrders = true := (by rw [hP]; exact T.mixed); clear hXn hXm)
    repeat' (first | fail | ((first | ((with_reducible (first | apply oA | apply oB)); exact rfl; intro K hK) | (refine hK _ ?_; clear hK K) | ((with_reducible (first | apply oG | apply oH)); iterate 3 exact rfl) | ((with_reducible apply oI); (iterate 2 exact rfl); intro K hK) | (with_reducible (first | apply wI | apply wJ | apply wK))); try simp only [go_sem, simprocAttr, hb1]) | fail | (with_reducible (first | apply oC | apply oJ | exact oK | apply wA | apply wB | apply wC hX hC | apply wD hX hC | apply wE hX hC hmix | apply wF hX hC hmix | apply wG | apply wH | apply And.intro)) | ((with_reducible refine oD ?_ ?_); first | fail | kernel_rfl) | ((with_reducible (first | apply oE | apply oF)); (iterate 3 exact rfl); all_goals (intro h; first | (exact absurd h (by decide)) | ((try simp only [go_sem, simprocAttr, hb1] at h); (try with_reducible intro K hK); simp only [go_sem, simprocAttr, hb1]))) | ((first | ((with_reducible apply wL); exact rfl) | ((with_reducible apply wM); exact rfl)); all_goals (try ((with_reducible intro h); first | (exact absurd h (by decide)) | (try simp only [go_sem, simprocAttr, hb1] at h)))) | omega | ((first | first | refine acall_simple hX hC hP (check_spec g hl) rfl rfl rfl (by simp only [go_sem, simprocAttr, hb1]) rfl ?_); try simp only [go_sem, simprocAttr, hb1]) | (intro h))
end Go.Ab
end
section
namespace Go.Ab
open Go.Proofs
attribute [local congr] ACall.congr
set_option maxRecDepth 10000
set_option maxHeartbeats 8000000

def g16 : Gr := ⟨3, [(0, 1), (0, 2)]⟩
def p16 : Pl := ⟨[0, 1, 2], [[0, 1], [], []]⟩
def x16 : Gr := ⟨4, [(0, 1), (0, 2), (1, 3), (2, 3)]⟩
def q16 : Pl := ⟨[0, 1, 2, 3], [[0, 1], [2], [3], []]⟩
theorem ok16 : (true = true) ↔ (chkG g16).1 = 0 ∧ PlanOk g16 p16 := ⟨fun _ => ⟨by decide, ⟨rfl, by decide, by decide⟩⟩, fun _ => rfl⟩
theorem aug16 : augR true g16 p16 = (x16, q16, 0) := rfl
theorem is16 : isB x16 = true := by decide
theorem is16' : isB g16 = false := by decide
theorem speaks16_spec : Spec Try.prog 15 (Args []) [] (eB true) [] := by
  have hAu := augment_spec g16 (by decide) p16 ⟨by decide, by decide, by decide⟩ (by decide) (by decide) (by decide) true ok16
  rw [aug16] at hAu
  simp only at hAu
  have h1 := is16
  have h2 := is16'
  have e1 : g16.es.map rE = [[.sc (.int .i64 0), .sc (.int .i64 1)], [.sc (.int .i64 0), .sc (.int .i64 2)]] := rfl
  have e2 : p16.ord.map rI = [[.sc (.int .i64 0)], [.sc (.int .i64 1)], [.sc (.int .i64 2)]] := rfl
  have e3 : vI p16.outs = [[.sl 1 [[.sc (.int .i64 0)], [.sc (.int .i64 1)]]], [.sl 1 []], [.sl 1 []]] := rfl
  have e4 : g16.n = 3 := rfl
  have e5 : x16.n = 4 := rfl
  have e6 : x16.es.map rE = [[.sc (.int .i64 0), .sc (.int .i64 1)], [.sc (.int .i64 0), .sc (.int .i64 2)], [.sc (.int .i64 1), .sc (.int .i64 3)], [.sc (.int .i64 2), .sc (.int .i64 3)]] := rfl
  have e7 : q16.ord.map rI = [[.sc (.int .i64 0)], [.sc (.int .i64 1)], [.sc (.int .i64 2)], [.sc (.int .i64 3)]] := rfl
  have e8 : vI q16.outs = [[.sl 1 [[.sc (.int .i64 0)], [.sc (.int .i64 1)]]], [.sl 1 [[.sc (.int .i64 2)]]], [.sl 1 [[.sc (.int .i64 3)]]], [.sl 1 []]] := rfl
  have e9 : ∀ d, [[D.sc (.int .i64 0), D.sc (.int .i64 1)], [D.sc (.int .i64 0), D.sc (.int .i64 2)], [D.sc (.int .i64 1), D.sc (.int .i64 3)], [D.sc (.int .i64 2), D.sc (.int .i64 3)]].getD 3 d = [D.sc (.int .i64 2), D.sc (.int .i64 3)] := fun d => rfl
  (refine Spec.intro (C := T.cfg [] []) (rs := [.t 0]) (T.cfg_ok _ _) Try.func15 rfl rfl Try.ntmps15 Try.results15 (by simp [AObj.isNest]) (by simp [AObj.isNest]) (by kernel_rfl) ?_; intro X hX hP hC hXn hXm vals hA; refine ⟨_, by simp, hA, ?_⟩; have hmix : X.P.follows .mixedOrders = true := (by rw [hP]; exact T.mixed); clear hXn hXm)
  repeat' (first | fail | ((first | ((with_reducible (first | apply oA | apply oB)); exact rfl; intro K hK) | (refine hK _ ?_; clear hK K) | ((with_reducible (first | apply oG | apply oH)); iterate 3 exact rfl) | ((with_reducible apply oI); (iterate 2 exact rfl); intro K hK) | (with_reducible (first | apply wI | apply wJ | apply wK))); try simp only [go_sem, simprocAttr, h1, h2, e1, e2, e3, e4, e5, e6, e7, e8, e9]) | fail | (with_reducible (first | apply oC | apply oJ | exact oK | apply wA | apply wB | apply wC hX hC | apply wD hX hC | apply wE hX hC hmix | apply wF hX hC hmix | apply wG | apply wH | apply And.intro)) | ((with_reducible refine oD ?_ ?_); first | fail | kernel_rfl) | ((with_reducible (first | apply oE | apply oF)); (iterate 3 exact rfl); all_goals (intro h; first | (exact absurd h (by decide)) | ((try simp only [go_sem, simprocAttr, h1, h2, e1, e2, e3, e4, e5, e6, e7, e8, e9] at h); (try with_reducible intro K hK); simp only [go_sem, simprocAttr, h1, h2, e1, e2, e3, e4, e5, e6, e7, e8, e9]))) | ((first | ((with_reducible apply wL); exact rfl) | ((with_reducible apply wM); exact rfl)); all_goals (try ((with_reducible intro h); first | (exact absurd h (by decide)) | (try simp only [go_sem, simprocAttr, h1, h2, e1, e2, e3, e4, e5, e6, e7, e8, e9] at h)))) | omega | ((first | first | (refine acall_look hX hC hP (hAu) rfl rfl rfl ?_ ?_ rfl ?_; iterate 2 (focus (simp only [go_sem, simprocAttr, h1, h2, e1, e2, e3, e4, e5, e6, e7, e8, e9]; done))) | refine acall_simple hX hC hP (augIs_spec x16 (by decide)) rfl rfl rfl (by simp only [go_sem, simprocAttr, h1, h2, e1, e2, e3, e4, e5, e6, e7, e8, e9]) rfl ?_ | refine acall_simple hX hC hP (augIs_spec g16 (by decide)) rfl rfl rfl (by simp only [go_sem, simprocAttr, h1, h2, e1, e2, e3, e4, e5, e6, e7, e8, e9]) rfl ?_ | (refine acall_look hX hC hP (augIs_spec x16 (by decide)) rfl rfl rfl ?_ ?_ rfl ?_; iterate 2 (focus (simp only [go_sem, simprocAttr, h1, h2, e1, e2, e3, e4, e5, e6, e7, e8, e9]; done))) | (refine acall_look hX hC hP (augIs_spec g16 (by decide)) rfl rfl rfl ?_ ?_ rfl ?_; iterate 2 (focus (simp only [go_sem, simprocAttr, h1, h2, e1, e2, e3, e4, e5, e6, e7, e8, e9]; done)))); try simp only [go_sem, simprocAttr, h1, h2, e1, e2, e3, e4, e5, e6, e7, e8, e9]) | (intro h))
end Go.Ab
end
section
namespace Go.Ab
open Go.Proofs
attribute [local congr] ACall.congr
set_option maxRecDepth 10000

/-- Numbers from 0 on, in order. -/
def upB (l : List Int) (k : Nat) : Bool := (List.range k).all fun i => decide (l.getD i 0 = (i : Int))
/-- The first k edges of the order, under the new names. -/
def renK (g : Gr) (names order : List Int) (k : Nat) : List Edge := (List.range k).map fun i => (names.getD (g.es.getD (order.getD i 0).toNat (0, 0)).1.toNat 0, names.getD (g.es.getD (order.getD i 0).toNat (0, 0)).2.toNat 0)
def renG (g : Gr) (names order : List Int) : Gr := ⟨g.n, renK g names order order.length⟩
theorem renK_length {g : Gr} {names order : List Int} {k : Nat} : (renK g names order k).length = k := by simp [renK]
def renOk (g : Gr) (names order : List Int) : Bool := mayB g && eachB names g.n && eachB order g.es.length
def renR (g : Gr) (names order : List Int) : Gr := if renOk g names order then renG g names order else ⟨0, []⟩
end Go.Ab
end
section
namespace Go.Ab

/-- An edge leads from a to b. -/
def Ed (g : Gr) (a b : Int) : Prop := ∃ i, i < g.es.length ∧ tl g i = a ∧ hd g i = b
/-- Each leads to the next one, the last one to the first. -/
def Cyc (g : Gr) (l : List Int) : Prop := ∀ i, i < l.length → Ed g (l.getD i 0) (l.getD ((i + 1) % l.length) 0)
/-- A way back: each vertex but the first has an edge to the one before. -/
def Chain' (g : Gr) (way : List Int) (at_ : Int) : Prop := ∀ p, p < way.length → Ed g ((way ++ [at_]).getD (p + 1) 0) (way.getD p 0)
theorem getD_last {l : List Int} {a : Int} : (l ++ [a]).getD l.length 0 = a := by
  rw [List.getD_eq_getElem?_getD, List.getElem?_append_right (Nat.le_refl _)]; simp
theorem wayF_chain {g : Gr} (hm : mayB g = true) : ∀ (f : Nat) (way : List Int) (a : Nat), a < g.n.toNat → (a : Int) ∉ runG g → Chain' g way a → left g way ≤ f →
    Chain' g (wayF g (wts g (runG g)) f way a).1 (wayF g (wts g (runG g)) f way a).2 ∧ 0 ≤ (wayF g (wts g (runG g)) f way a).2 ∧ (wayF g (wts g (runG g)) f way a).2 ∈ (wayF g (wts g (runG g)) f way a).1
  | f, way, a, ha, hn, hc, hl => by
    by_cases hmem : (a : Int) ∈ way
    · rw [wayF_end (.inr hmem)]
      exact ⟨hc, by simp only; omega, hmem⟩
    · have hla := left_app ha hmem
      cases f with
      | zero => omega
      | succ f =>
        obtain ⟨⟨i, hi, hhd, htl, hnr⟩, _⟩ := backG_spec hm (Q_of hm ha hn)
        have htr := tl_range hm hi
        rw [htl] at htr
        obtain ⟨b, hbe⟩ : ∃ b : Nat, backG g (wts g (runG g)) a = b := ⟨(backG g (wts g (runG g)) a).toNat, by omega⟩
        rw [hbe] at hnr htr htl
        have e1 : wayF g (wts g (runG g)) (f + 1) way a = wayF g (wts g (runG g)) f (way ++ [(a : Int)]) b := by
          simp only [wayF]; rw [if_neg (by intro h; rcases h with h | h; omega; exact hmem h), hbe]
        rw [e1]
        refine wayF_chain hm f (way ++ [(a : Int)]) b (by omega) hnr ?_ (by omega)
        intro p hp
        rw [List.length_append, List.length_singleton] at hp
        by_cases hpl : p < way.length
        · have := hc p hpl
          rw [getD_app (by simp; omega), getD_app hpl]
          exact this
        · have : p = way.length := by omega
          subst this
          have e2 := getD_last (l := way ++ [(a : Int)]) (a := (b : Int))
          rw [List.length_append, List.length_singleton] at e2
          rw [e2, getD_last]
          exact ⟨i, hi, htl, hhd⟩
theorem getD_drop {l : List Int} {k p : Nat} : (l.drop k).getD p 0 = l.getD (k + p) 0 := by
  rw [List.getD_eq_getElem?_getD, List.getElem?_drop, ← List.getD_eq_getElem?_getD]
theorem Cyc.turn {g : Gr} {l : List Int} (h : ∀ p, p < l.length → Ed g (l.getD ((p + 1) % l.length) 0) (l.getD p 0)) (h0 : 0 < l.length) : Cyc g (turnL l.reverse) := by
  have h0r : 0 < l.reverse.length := by simpa using h0
  obtain ⟨k, hk1, hk2, _⟩ := idxI_mem (minL_mem h0r)
  rw [List.length_reverse] at hk2
  have e1 : turnL l.reverse = l.reverse.drop k ++ l.reverse.take k := by simp only [turnL, hk1, Int.toNat_natCast]
  have hlen : (turnL l.reverse).length = l.length := by rw [e1]; simp; omega
  have hg : ∀ i, i < l.length → (turnL l.reverse).getD i 0 = l.getD (l.length - 1 - (i + k) % l.length) 0 := by
    intro i hi
    rw [e1, List.getD_eq_getElem?_getD]
    by_cases hik : i < l.length - k
    · rw [List.getElem?_append_left (by simp; omega), List.getElem?_drop, List.getElem?_reverse (by omega), Nat.mod_eq_of_lt (by omega), ← List.getD_eq_getElem?_getD]
      congr 1; omega
    · rw [List.getElem?_append_right (by simp; omega), List.length_drop, List.length_reverse, List.getElem?_take, if_pos (by omega), List.getElem?_reverse (by omega), ← List.getD_eq_getElem?_getD]
      have : (i + k) % l.length = i + k - l.length := by rw [Nat.mod_eq_sub_mod (by omega), Nat.mod_eq_of_lt (by omega)]
      rw [this]; congr 1; omega
  intro i hi
  rw [hlen] at hi ⊢
  rw [hg i hi, hg _ (Nat.mod_lt _ h0)]
  have hmm : ((i + 1) % l.length + k) % l.length = ((i + k) % l.length + 1) % l.length := by
    rw [Nat.mod_add_mod, Nat.mod_add_mod]; congr 1; omega
  rw [hmm]
  have hj := Nat.mod_lt (i + k) h0
  generalize (i + k) % l.length = j at hj ⊢
  by_cases hlast : j + 1 < l.length
  · rw [Nat.mod_eq_of_lt hlast]
    have := h (l.length - 1 - (j + 1)) (by omega)
    rw [Nat.mod_eq_of_lt (by omega), show l.length - 1 - (j + 1) + 1 = l.length - 1 - j from by omega] at this
    exact this
  · have : j + 1 = l.length := by omega
    rw [this, Nat.mod_self]
    have := h (l.length - 1) (by omega)
    rw [show l.length - 1 + 1 = l.length from by omega, Nat.mod_self] at this
    rw [show l.length - 1 - j = 0 from by omega]
    exact this
/-- Is there a way to number vertices so that edges rise? -/
def Acyc (g : Gr) : Prop := ∃ r : Int → Nat, ∀ i, i < g.es.length → r (tl g i) < r (hd g i)
theorem okG_iff {g : Gr} (hm : mayB g = true) : okG g = true ↔ Acyc g := by
  constructor
  · intro h
    refine ⟨fun v => ((atK g.n.toNat (runG g) (runG g).length).getD v.toNat 0).toNat, fun i hi => ?_⟩
    have h1 := rises_at (ord_right hm h) hi
    have h2 := atK_nonneg (n := g.n.toNat) (l := runG g) (k := (runG g).length) (y := (tl g i).toNat)
    simp only; omega
  · rintro ⟨r, hr⟩
    cases h : okG g with
    | true => rfl
    | false =>
      exfalso
      obtain ⟨y, hy, hn⟩ := okG_not hm h
      have key : ∀ (p : Nat) (y : Nat), y < g.n.toNat → (y : Int) ∉ runG g → r y = p → False := by
        intro p
        induction p using Nat.strongRecOn with
        | _ p ih =>
          intro y hy hn hp
          obtain ⟨t, i, hi, h1, rfl, h2⟩ := Q_of hm hy hn
          have htr := tl_range hm hi
          have hlt := hr i hi
          rw [h1, hp] at hlt
          have e : ((tl g i).toNat : Int) = tl g i := by omega
          exact ih (r (tl g i)) hlt (tl g i).toNat (by omega) (by rw [e]; exact h2) (by rw [e])
      exact key _ y hy hn rfl
theorem cycG_ok {g : Gr} (hm : mayB g = true) (h : okG g = true) : cycG g = [] := by
  have hall := (eachB_iff.1 (okG_all hm h)).2
  have hn := mayB_n hm
  rcases start_eq hm with ⟨h1, h2⟩ | ⟨a, ha, h1, h2, h3⟩
  · have : wayG g = ([], -1) := by
      unfold wayG; rw [h1]; exact wayF_end (.inl (by omega)) _
    simp only [cycG, this]
    rw [if_pos (by omega)]
  · exact absurd (hall a (allN_mem.2 (by omega))) h3
theorem cycG_not {g : Gr} (hm : mayB g = true) (h : okG g = false) : 0 < (cycG g).length ∧ Cyc g (cycG g) := by
  obtain ⟨y, hy, hny⟩ := okG_not hm h
  have hn := mayB_n hm
  rcases start_eq hm with ⟨h1, h2⟩ | ⟨a, ha, h1, h2, h3⟩
  · exfalso
    rcases findI_spec (f := fun n : Int => decide (0 < n)) (l := wts g (runG g)) 0 with ⟨_, h4⟩ | ⟨k, h4, _⟩
    · have h5 := (wt_pos hm hy).2 hny
      have h6 := h4 ((wts g (runG g)).getD y 0) (by rw [List.getD_eq_getElem?_getD, wts_get hy]; exact List.mem_of_getElem? (wts_get hy))
      rw [wts_getD hy] at h6
      exact absurd h5 (of_decide_eq_false h6)
    · omega
  · obtain ⟨h4, h5, h6⟩ := wayF_chain hm g.n.toNat [] a ha h3 (fun p hp => by simp at hp) left_gx
    have hw : wayG g = wayF g (wts g (runG g)) g.n.toNat [] a := by unfold wayG; rw [h1]
    rw [← hw] at h4 h5 h6
    obtain ⟨k, hk1, hk2, hk3⟩ := idxI_mem h6
    have hc : cycG g = turnL ((wayG g).1.drop k).reverse := by
      simp only [cycG]
      rw [if_neg (by omega), hk1, Int.toNat_natCast]
    have hlen : ((wayG g).1.drop k).length = (wayG g).1.length - k := by simp
    have h0 : 0 < ((wayG g).1.drop k).length := by omega
    refine ⟨?_, ?_⟩
    · rw [hc]
      simp only [turnL, List.length_append, List.length_drop, List.length_take, List.length_reverse]
      omega
    · rw [hc]
      refine Cyc.turn (fun p hp => ?_) h0
      rw [hlen] at hp ⊢
      have h7 := h4 (k + p) (by omega)
      rw [getD_drop (p := p)]
      by_cases hlast : p + 1 < (wayG g).1.length - k
      · rw [Nat.mod_eq_of_lt hlast, getD_drop]
        rw [getD_app (by omega)] at h7
        exact h7
      · have : p + 1 = (wayG g).1.length - k := by omega
        rw [this, Nat.mod_self, getD_drop, Nat.add_zero, hk3]
        rw [show k + p + 1 = (wayG g).1.length from by omega, getD_last] at h7
        exact h7
end Go.Ab
end
section
namespace Go.Ab

def nm (names : List Int) (v : Int) : Int := names.getD v.toNat 0
structure RenOk (g : Gr) (names order : List Int) : Prop where
  may : mayB g = true
  nms : eachB names g.n = true
  ord : eachB order (g.es.length : Int) = true
section
variable {g : Gr} {names order : List Int} (h : RenOk g names order)
include h
theorem RenOk.len : (renG g names order).es.length = g.es.length := by
  have := (eachB_iff.1 h.ord).1
  simp only [renG, renK_length]; omega
theorem RenOk.edge {i : Nat} (hi : i < g.es.length) : ∃ j, j < g.es.length ∧ order.getD i 0 = (j : Int) ∧ (renG g names order).es.getD i (0, 0) = (nm names (tl g j), nm names (hd g j)) := by
  have hol := (eachB_iff.1 h.ord).1
  have := eachB_lo h.ord _ (getD_mem (l := order) (m := i) (by omega))
  refine ⟨(order.getD i 0).toNat, by omega, by omega, ?_⟩
  simp only [renG, renK, nm, tl, hd]
  rw [List.getD_eq_getElem?_getD, List.getElem?_map, List.getElem?_range (by omega)]
  rfl
theorem RenOk.back {j : Nat} (hj : j < g.es.length) : ∃ i, i < g.es.length ∧ order.getD i 0 = (j : Int) ∧ (renG g names order).es.getD i (0, 0) = (nm names (tl g j), nm names (hd g j)) := by
  obtain ⟨hol, hall⟩ := eachB_iff.1 h.ord
  obtain ⟨i, hi, hil, he⟩ := idxI_mem (hall (j : Int) (allN_mem.2 (by omega)))
  obtain ⟨j', _, h2, h3⟩ := h.edge (i := i) (by omega)
  have : j' = j := by omega
  subst this
  exact ⟨i, by omega, he, h3⟩
theorem RenOk.inj {a b : Int} (ha : 0 ≤ a ∧ a < g.n) (hb : 0 ≤ b ∧ b < g.n) (e : nm names a = nm names b) : a = b := by
  have hnl := (eachB_iff.1 h.nms).1
  have := eachB_once h.nms (i := a.toNat) (j := b.toNat) (by omega) (by omega) e
  omega
theorem RenOk.range {a : Int} (ha : 0 ≤ a ∧ a < g.n) : 0 ≤ nm names a ∧ nm names a < g.n := by
  have hnl := (eachB_iff.1 h.nms).1
  exact eachB_lo h.nms _ (getD_mem (by omega))
theorem RenOk.inv {a : Int} (ha : 0 ≤ a ∧ a < g.n) : idxI names (nm names a) = a := by
  have hnl := (eachB_iff.1 h.nms).1
  obtain ⟨k, hk, hkl, he⟩ := idxI_mem (getD_mem (l := names) (m := a.toNat) (by omega))
  have h2 := eachB_once h.nms hkl (j := a.toNat) (by omega) he
  have h3 : idxI names (nm names a) = k := hk
  omega
theorem RenOk.of {v : Int} (hv : 0 ≤ v ∧ v < g.n) : ∃ a, (0 ≤ a ∧ a < g.n) ∧ nm names a = v := by
  obtain ⟨hnl, hall⟩ := eachB_iff.1 h.nms
  obtain ⟨k, hk, hkl, he⟩ := idxI_mem (hall v (allN_mem.2 (by omega)))
  exact ⟨k, by omega, he⟩
theorem RenOk.may' : mayB (renG g names order) = true := by
  have hn := mayB_n h.may
  have hlen := h.len
  have hall : (renG g names order).es.any (outE (renG g names order)) = false := by
    rw [List.any_eq_false]
    intro e he
    obtain ⟨i, hi, rfl⟩ := List.getElem_of_mem he
    obtain ⟨j, hj, _, h3⟩ := h.edge (i := i) (by omega)
    rw [List.getD_eq_getElem?_getD, List.getElem?_eq_getElem hi, Option.getD_some] at h3
    rw [h3]
    have h4 := h.range (tl_range h.may hj)
    have h5 := h.range (hd_range h.may hj)
    have e1 : (renG g names order).n = g.n := rfl
    simp only [outE, outB, e1, Bool.or_eq_true, decide_eq_true_eq]
    omega
  have e1 : (renG g names order).n = g.n := rfl
  simp only [mayB, hall, e1, Bool.not_false, Bool.and_true, Bool.and_eq_true, decide_eq_true_eq]
  omega
omit h in
theorem ren_tl {i j : Nat} (e : (renG g names order).es.getD i (0, 0) = (nm names (tl g j), nm names (hd g j))) : tl (renG g names order) i = nm names (tl g j) ∧ hd (renG g names order) i = nm names (hd g j) := ⟨congrArg Prod.fst e, congrArg Prod.snd e⟩
/-- Loops. -/
theorem RenOk.loop : (0 ≤ loopI (renG g names order)) ↔ 0 ≤ loopI g := by
  have key : ∀ g : Gr, (0 ≤ loopI g) ↔ ∃ i, i < g.es.length ∧ tl g i = hd g i := by
    intro g
    have := findI_any (fun e : Edge => decide (e.1 = e.2)) g.es
    rw [show (0 ≤ loopI g) ↔ g.es.any (fun e : Edge => decide (e.1 = e.2)) = true from by rw [← this]; simp [loopI], List.any_eq_true]
    constructor
    · rintro ⟨e, he, h2⟩
      obtain ⟨i, hi, rfl⟩ := List.getElem_of_mem he
      refine ⟨i, hi, ?_⟩
      simpa [tl, hd, List.getD_eq_getElem?_getD, List.getElem?_eq_getElem hi] using h2
    · rintro ⟨i, hi, h2⟩
      refine ⟨_, List.getElem_mem hi, ?_⟩
      simpa [tl, hd, List.getD_eq_getElem?_getD, List.getElem?_eq_getElem hi] using h2
  rw [key, key, h.len]
  constructor
  · rintro ⟨i, hi, e⟩
    obtain ⟨j, hj, _, h3⟩ := h.edge hi
    obtain ⟨e1, e2⟩ := ren_tl h3
    exact ⟨j, hj, h.inj (tl_range h.may hj) (hd_range h.may hj) (by rw [← e1, ← e2, e])⟩
  · rintro ⟨j, hj, e⟩
    obtain ⟨i, hi, _, h3⟩ := h.back hj
    obtain ⟨e1, e2⟩ := ren_tl h3
    exact ⟨i, hi, by rw [e1, e2, e]⟩
omit h in
theorem twice_iff (g : Gr) : (0 ≤ twiceI g) ↔ ∃ i k, i < g.es.length ∧ k < g.es.length ∧ i ≠ k ∧ g.es.getD i (0, 0) = g.es.getD k (0, 0) := by
  have := findI_any (twiceB g) (List.range g.es.length)
  rw [show (0 ≤ twiceI g) ↔ (List.range g.es.length).any (twiceB g) = true from by rw [← this]; simp [twiceI], List.any_eq_true]
  constructor
  · rintro ⟨i, hi, h2⟩
    have hil := List.mem_range.1 hi
    have h3 := of_decide_eq_true h2
    rw [List.mem_iff_getElem?] at h3
    obtain ⟨k, hk⟩ := h3
    rw [List.getElem?_take] at hk
    split at hk
    · rename_i hki
      exact ⟨i, k, hil, by omega, by omega, by rw [List.getD_eq_getElem?_getD (i := k), hk]; rfl⟩
    · cases hk
  · rintro ⟨i, k, hi, hk, hne, e⟩
    have main : ∀ i k, k < i → i < g.es.length → g.es.getD i (0, 0) = g.es.getD k (0, 0) → twiceB g i = true := by
      intro i k hki hi e
      refine decide_eq_true ?_
      rw [e, List.mem_iff_getElem?]
      refine ⟨k, ?_⟩
      rw [List.getElem?_take, if_pos hki, List.getD_eq_getElem?_getD, List.getElem?_eq_getElem (by omega)]; rfl
    rcases Nat.lt_or_gt_of_ne hne with hlt | hgt
    · exact ⟨k, List.mem_range.2 hk, main k i hlt hk e.symm⟩
    · exact ⟨i, List.mem_range.2 hi, main i k hgt hi e⟩
theorem RenOk.twice : (0 ≤ twiceI (renG g names order)) ↔ 0 ≤ twiceI g := by
  have hol := (eachB_iff.1 h.ord).1
  rw [twice_iff, twice_iff, h.len]
  constructor
  · rintro ⟨i, k, hi, hk, hne, e⟩
    obtain ⟨j, hj, ho, h3⟩ := h.edge hi
    obtain ⟨j', hj', ho', h3'⟩ := h.edge hk
    refine ⟨j, j', hj, hj', fun e' => ?_, ?_⟩
    · subst e'
      exact hne (eachB_once h.ord (by omega) (by omega) (by rw [ho, ho']))
    · rw [h3, h3', Prod.mk.injEq] at e
      have e1 := h.inj (tl_range h.may hj) (tl_range h.may hj') e.1
      have e2 := h.inj (hd_range h.may hj) (hd_range h.may hj') e.2
      exact Prod.ext e1 e2
  · rintro ⟨j, j', hj, hj', hne, e⟩
    obtain ⟨i, hi, ho, h3⟩ := h.back hj
    obtain ⟨k, hk, ho', h3'⟩ := h.back hj'
    refine ⟨i, k, hi, hk, fun e' => ?_, ?_⟩
    · subst e'; omega
    · have e1 : tl g j = tl g j' := congrArg Prod.fst e
      have e2 : hd g j = hd g j' := congrArg Prod.snd e
      rw [h3, h3', e1, e2]
theorem RenOk.acyc : okG (renG g names order) = okG g := by
  rw [Bool.eq_iff_iff, okG_iff h.may', okG_iff h.may]
  constructor
  · rintro ⟨r, hr⟩
    refine ⟨fun v => r (nm names v), fun j hj => ?_⟩
    obtain ⟨i, hi, _, h3⟩ := h.back hj
    obtain ⟨e1, e2⟩ := ren_tl h3
    have := hr i (by rw [h.len]; exact hi)
    rwa [e1, e2] at this
  · rintro ⟨r, hr⟩
    refine ⟨fun v => r (idxI names v), fun i hi => ?_⟩
    rw [h.len] at hi
    obtain ⟨j, hj, _, h3⟩ := h.edge hi
    obtain ⟨e1, e2⟩ := ren_tl h3
    have := hr j hj
    rw [e1, e2]; simp only; rw [h.inv (tl_range h.may hj), h.inv (hd_range h.may hj)]
    exact this
omit h in
theorem bare_mem {g : Gr} {y : Int} : y ∈ bareG (·.2) g ↔ (0 ≤ y ∧ y < g.n) ∧ ∀ i, i < g.es.length → hd g i ≠ y := by
  simp only [bareG, bareK, List.mem_map, List.mem_filter, List.mem_range, decide_eq_true_eq]
  have he : ∀ x : Nat, x < g.n.toNat → (((endsL (·.2) g).getD x []).length = 0 ↔ ∀ i, i < g.es.length → hd g i ≠ (x : Int)) := by
    intro x hx
    have e : (endsL (·.2) g).getD x [] = endsZ (·.2) g.es g.es.length (x : Int) := by
      simp [endsL, List.getD_eq_getElem?_getD, List.getElem?_range hx, endsK_eq]
    rw [e, List.length_eq_zero_iff]
    simp only [endsZ, List.map_eq_nil_iff, List.filter_eq_nil_iff, List.mem_range, decide_eq_true_eq]
    rfl
  constructor
  · rintro ⟨x, ⟨hx, h0⟩, rfl⟩
    refine ⟨by simp; omega, (he x hx).1 h0⟩
  · rintro ⟨⟨h1, h2⟩, h3⟩
    have e : ((y.toNat : Nat) : Int) = y := by omega
    exact ⟨y.toNat, ⟨by omega, (he _ (by omega)).2 (by rw [e]; exact h3)⟩, e⟩
omit h in
theorem bare_nodup {f : Edge → Int} {g : Gr} : (bareG f g).Nodup := by
  unfold bareG bareK
  refine List.Pairwise.map _ (fun a b h e => h (Int.ofNat.inj e)) (List.Pairwise.filter _ List.nodup_range)
theorem RenOk.bare : (bareG (·.2) (renG g names order)).length = (bareG (·.2) g).length := by
  have e1 : (renG g names order).n = g.n := rfl
  have h1 : ((bareG (·.2) g).map (nm names)).length ≤ (bareG (·.2) (renG g names order)).length := by
    refine Nat.le_trans (count_le _ (bareG (·.2) (renG g names order)) ?_ ?_) List.countP_le_length
    · rw [List.nodup_iff_pairwise_ne] 
      refine List.Pairwise.map _ (fun a b h => h) ?_
      refine List.Pairwise.imp_of_mem ?_ bare_nodup
      intro a b ha hb hab e
      exact hab (h.inj (bare_mem.1 ha).1 (bare_mem.1 hb).1 e)
    · intro v hv
      obtain ⟨y, hy, rfl⟩ := List.mem_map.1 hv
      obtain ⟨hy1, hy2⟩ := bare_mem.1 hy
      refine bare_mem.2 ⟨h.range hy1, fun i hi e => ?_⟩
      rw [h.len] at hi
      obtain ⟨j, hj, _, h3⟩ := h.edge hi
      rw [(ren_tl h3).2] at e
      exact hy2 j hj (h.inj (hd_range h.may hj) hy1 e)
  have h2 : ((bareG (·.2) (renG g names order)).map (idxI names)).length ≤ (bareG (·.2) g).length := by
    have hsplit : ∀ v ∈ bareG (·.2) (renG g names order), ∃ a, (0 ≤ a ∧ a < g.n) ∧ nm names a = v := fun v hv => h.of (bare_mem.1 hv).1
    refine Nat.le_trans (count_le _ (bareG (·.2) g) ?_ ?_) List.countP_le_length
    · rw [List.nodup_iff_pairwise_ne]
      refine List.Pairwise.map _ (fun a b h => h) ?_
      refine List.Pairwise.imp_of_mem ?_ bare_nodup
      intro a b ha hb hab e
      obtain ⟨a', ha', rfl⟩ := hsplit a ha
      obtain ⟨b', hb', rfl⟩ := hsplit b hb
      rw [h.inv ha', h.inv hb'] at e
      exact hab (by rw [e])
    · intro v hv
      obtain ⟨y, hy, rfl⟩ := List.mem_map.1 hv
      obtain ⟨a, ha, rfl⟩ := hsplit y hy
      rw [h.inv ha]
      refine bare_mem.2 ⟨ha, fun j hj e => ?_⟩
      obtain ⟨i, hi, _, h3⟩ := h.back hj
      refine (bare_mem.1 hy).2 i (by rw [h.len]; exact hi) ?_
      rw [(ren_tl h3).2, e]
  simp only [List.length_map] at h1 h2
  omega
/-- The faults are of one kind. -/
theorem RenOk.kind : (chkG (renG g names order)).1 = (chkG g).1 := by
  have hm := h.may'
  have hc : (0 < (cycG (renG g names order)).length) ↔ 0 < (cycG g).length := by
    have key : ∀ g : Gr, mayB g = true → ((0 < (cycG g).length) ↔ okG g = false) := by
      intro g hm
      cases ho : okG g with
      | true => rw [cycG_ok hm ho]; simp
      | false => simp [(cycG_not hm ho).1]
    rw [key _ hm, key _ h.may, h.acyc]
  have h1 := h.loop
  have h2 := h.twice
  have h3 := h.bare
  simp only [chkG, chkOf, hm, h.may]
  simp only [Bool.true_eq_false, if_false, h1, h2, hc, h3]
  split
  · rfl
  split
  · rfl
  split
  · rfl
  split <;> rfl
end
end Go.Ab
end
section
namespace Go.Ab
open Go.Proofs
set_option maxRecDepth 10000

/-- The number and the head of the new edge from a sink. -/
def nxt : Nat → List Edge → Int → Option (Int × Int)
  | _, [], _ => none
  | m, e :: N, v => if e.1 = v then some ((m : Int), e.2) else nxt (m + 1) N v
def phi (m : Nat) (N : List Edge) (t : It) : It := if 0 ≤ t.1 then t else match nxt m N t.2.1 with
  | some (i, h) => (i, t.2.1, h)
  | none => t
/-- What is asked of an augment that isn't too large. -/
structure AugOk (g : Gr) (p : Pl) : Prop where
  run : RunsP g p
  n : (augG g p).n ≤ 64
  es : (augG g p).es.length ≤ 128
variable {g : Gr} {p : Pl}
end Go.Ab
end
section
namespace Go.Ab
open Go.Proofs
set_option maxRecDepth 10000

variable {g : Gr} {p : Pl}
end Go.Ab
end
section
namespace Go.Ab
open Go.Proofs
set_option maxRecDepth 10000

variable {g : Gr} {p : Pl}
end Go.Ab
end
section
namespace Go.Ab
open Go.Proofs
attribute [local congr] ACall.congr
set_option maxRecDepth 10000
set_option maxHeartbeats 8000000

theorem runRes_run {b : Bool} {g : Gr} {p : Pl} (hr : b = true ↔ (chkG g).1 = 0 ∧ PlanOk g p) (h : RunsP g p) : runRes b g p = ((endR g p g.n.toNat, lastR g p), (0, 0)) := by
  obtain rfl : b = true := hr.2 ⟨h.1, h.2.1⟩
  unfold runRes
  rw [if_neg (by simp), stopK_none.2 h.2.2]
  rfl
theorem exB (g : Gr) (p : Pl) : ∃ b : Bool, (b = true ↔ (chkG g).1 = 0 ∧ PlanOk g p) := by
  by_cases h : (chkG g).1 = 0 ∧ PlanOk g p
  · exact ⟨true, by simp [h]⟩
  · exact ⟨false, by simp [h]⟩
end Go.Ab
end
section
namespace Go.Ab
open Go.Proofs
attribute [local congr] ACall.congr
set_option maxRecDepth 10000
set_option maxHeartbeats 16000000

theorem runs_spec (g : Gr) (hl : g.es.length ≤ 9223372036854775807) (p : Pl) (hp : PlLen p) (b : Bool) (hr : b = true ↔ (chkG g).1 = 0 ∧ PlanOk g p) : Spec Try.prog 23 (Args [eG g, ePl p]) [] (eB (decide ((runRes b g p).2.1 = 0))) [] := by
  have hO := refRun_spec g hl p hp b hr
  generalize runRes b g p = R at hO
  (refine Spec.intro (C := T.cfg [] []) (rs := [.t 4]) (T.cfg_ok _ _) Try.func23 rfl rfl Try.ntmps23 Try.results23 (by simp [AObj.isNest]) (by simp [AObj.isNest]) (by kernel_rfl) ?_; intro X hX hP hC hXn hXm vals hA; refine ⟨_, by simp, hA, ?_⟩; have hmix : X.P.follows .mixedOrders = true := (by rw [hP]; exact T.mixed); clear hXn hXm)
  repeat' (first | fail | ((first | ((with_reducible (first | apply oA | apply oB)); exact rfl; intro K hK) | (refine hK _ ?_; clear hK K) | ((with_reducible (first | apply oG | apply oH)); iterate 3 exact rfl) | ((with_reducible apply oI); (iterate 2 exact rfl); intro K hK) | (with_reducible (first | apply wI | apply wJ | apply wK))); try simp only [go_sem, simprocAttr]) | fail | (with_reducible (first | apply oC | apply oJ | exact oK | apply wA | apply wB | apply wC hX hC | apply wD hX hC | apply wE hX hC hmix | apply wF hX hC hmix | apply wG | apply wH | apply And.intro)) | ((with_reducible refine oD ?_ ?_); first | fail | kernel_rfl) | ((with_reducible (first | apply oE | apply oF)); (iterate 3 exact rfl); all_goals (intro h; first | (exact absurd h (by decide)) | ((try simp only [go_sem, simprocAttr] at h); (try with_reducible intro K hK); simp only [go_sem, simprocAttr]))) | ((first | ((with_reducible apply wL); exact rfl) | ((with_reducible apply wM); exact rfl)); all_goals (try ((with_reducible intro h); first | (exact absurd h (by decide)) | (try simp only [go_sem, simprocAttr] at h)))) | omega | ((first | first | refine acall_simple hX hC hP (hO) rfl rfl rfl (by simp only [go_sem, simprocAttr]) rfl ?_); try simp only [go_sem, simprocAttr]) | (intro h))
end Go.Ab
end
section
namespace Go.Ab
open Go.Proofs
set_option maxRecDepth 10000

def edR (l : List It) : List It := l.filter fun t => decide (0 ≤ t.1)
theorem edR_app {a b : List It} : edR (a ++ b) = edR a ++ edR b := by simp [edR]
theorem edR_mem {l : List It} {t : It} : t ∈ edR l ↔ t ∈ l ∧ 0 ≤ t.1 := by simp [edR]
theorem edR_noH {x : Int} {l : List It} (h : NoH x l) : NoH x (edR l) := fun t ht => h t (edR_mem.1 ht).1
def AllH (x : Int) (l : List It) : Prop := ∀ t ∈ l, t.2.2 = x
theorem edR_above {g : Gr} {x : Int} {o : List Int} (ho : ∀ i ∈ o, 0 ≤ i) : edR (aboveF g x o) = o.map (itemF g x) := by
  unfold aboveF
  split
  · rename_i h; subst h; rfl
  · refine List.filter_eq_self.2 fun t ht => ?_
    obtain ⟨i, hi, rfl⟩ := List.mem_map.1 ht
    exact decide_eq_true (ho i hi)
theorem edR_uniq2 {x : Int} : ∀ {X Y c d : List It}, AllH x X → AllH x Y → NoH x c → NoH x d → X ++ c = Y ++ d → X = Y ∧ c = d
  | [], [], c, d, _, _, _, _, e => ⟨rfl, e⟩
  | [], u :: Y, c, d, _, hY, hc, _, e => by
    simp only [List.nil_append] at e
    exact absurd (hY u (by simp)) (hc u (by rw [e]; simp))
  | t :: X, [], c, d, hX, _, _, hd, e => by
    simp only [List.nil_append] at e
    exact absurd (hX t (by simp)) (hd t (by rw [← e]; simp))
  | t :: X, u :: Y, c, d, hX, hY, hc, hd, e => by
    simp only [List.cons_append, List.cons.injEq] at e
    obtain ⟨e1, e2⟩ := edR_uniq2 (fun s hs => hX s (by simp [hs])) (fun s hs => hY s (by simp [hs])) hc hd e.2
    exact ⟨by rw [e.1, e1], e2⟩
theorem edR_uniq {x : Int} : ∀ {a b X Y c d : List It}, NoH x a → NoH x b → AllH x X → AllH x Y → NoH x c → NoH x d → X ≠ [] → Y ≠ [] → a ++ X ++ c = b ++ Y ++ d → a = b ∧ X = Y ∧ c = d
  | t :: a, [], X, u :: Y, c, d, ha, _, _, hY, _, _, _, _, e => by
    simp only [List.cons_append, List.nil_append, List.cons.injEq] at e
    exact absurd (by rw [e.1]; exact hY u (by simp)) (ha t (by simp))
  | [], t :: b, u :: X, Y, c, d, _, hb, hX, _, _, _, _, _, e => by
    simp only [List.cons_append, List.nil_append, List.cons.injEq] at e
    exact absurd (by rw [← e.1]; exact hX u (by simp)) (hb t (by simp))
  | t :: a, u :: b, X, Y, c, d, ha, hb, hX, hY, hc, hd, nX, nY, e => by
    simp only [List.cons_append, List.cons.injEq] at e
    obtain ⟨e1, e2, e3⟩ := edR_uniq (fun s hs => ha s (by simp [hs])) (fun s hs => hb s (by simp [hs])) hX hY hc hd nX nY e.2
    exact ⟨by rw [e.1, e1], e2, e3⟩
  | [], [], X, Y, c, d, _, _, hX, hY, hc, hd, _, _, e => by
    refine ⟨rfl, ?_⟩
    simp only [List.nil_append] at e
    exact edR_uniq2 hX hY hc hd e
  | [], _ :: _, [], _, _, _, _, _, _, _, _, _, h, _, _ => absurd rfl h
  | _ :: _, [], _, [], _, _, _, _, _, _, _, _, _, h, _ => absurd rfl h
theorem ed_split {g : Gr} (hm : mayB g = true) {f : Fr} (hi : FrInv g f) {x : Int} (hR : rReadyF g f x = true) (hn : needN g x ≠ 0) :
    ∃ a X c, edR f.row = a ++ X ++ c ∧ NoH x a ∧ NoH x c ∧ AllH x X ∧ X.length = needN g x ∧ ∀ o, edR (succF g f x o).2.row = a ++ edR (aboveF g x o) ++ c := by
  obtain ⟨A, X, C, hr, hA, hC, hX, cX⟩ := ready_split hm hi hR hn
  have hx := (ready_rng hR).1
  have hmem : ∀ t ∈ X, t ∈ f.row := fun t ht => by rw [hr]; simp [ht]
  have hiff : ∀ t ∈ X, (0 ≤ t.1 ↔ t.2.2 = x) := fun t ht => by
    have h1 := (hi.it t (hmem t ht)).head hm
    have h2 := hX.al t ht
    omega
  refine ⟨edR A, edR X, edR C, by rw [hr, edR_app, edR_app], edR_noH hA, edR_noH hC, fun t ht => ?_, ?_, fun o => ?_⟩
  · obtain ⟨h1, h2⟩ := edR_mem.1 ht
    exact (hiff t h1).1 h2
  · rw [← cX, edR, ← List.countP_eq_length_filter]
    refine List.countP_congr fun t ht => ?_
    simp only [isH, decide_eq_true_eq]
    exact hiff t ht
  · rw [succ_of o hr hA hC hX]
    simp only [edR_app]
theorem ed_succ {g : Gr} (hm : mayB g = true) {f : Fr} (hi : FrInv g f) {x : Int} (hR : rReadyF g f x = true) (hn : needN g x ≠ 0) {a X c : List It} (e : edR f.row = a ++ X ++ c) (ha : NoH x a) (hc : NoH x c) (hX : AllH x X) (nX : X ≠ []) (o : List Int) :
    edR (succF g f x o).2.row = a ++ edR (aboveF g x o) ++ c := by
  obtain ⟨b, Y, d, e', hb, hd, hY, lY, hs⟩ := ed_split hm hi hR hn
  have nY : Y ≠ [] := fun h => hn (by rw [← lY, h]; rfl)
  obtain ⟨e1, _, e3⟩ := edR_uniq hb ha hY hX hd hc nY nX (e'.symm.trans e)
  rw [hs o, e1, e3]
theorem ed_ready {g : Gr} (hm : mayB g = true) {f : Fr} (hi : FrInv g f) {x : Int} (h0 : 0 ≤ x) (h1 : x < g.n) (hp : x ∉ f.pl) {a X c : List It} (e : edR f.row = a ++ X ++ c) (ha : NoH x a) (hc : NoH x c) (hX : AllH x X) (nX : X ≠ []) (hl : X.length = needN g x) : rReadyF g f x = true := by
  have hmem : ∀ j, j < f.row.length → ItOk g (f.row.getD j (0, 0, 0)) := fun j hj => hi.it _ (getD_memX hj)
  have hcnt : f.row.countP (isH x) = X.length := by
    have h2 : f.row.countP (isH x) = (edR f.row).countP (isH x) := by
      rw [edR, List.countP_filter]
      refine List.countP_congr fun t ht => ?_
      have := (hi.it t ht).head hm
      simp only [isH, Bool.and_eq_true, decide_eq_true_eq]
      omega
    have c1 : a.countP (isH x) = 0 := List.countP_eq_zero.2 fun t ht => by simp [isH, ha t ht]
    have c2 : c.countP (isH x) = 0 := List.countP_eq_zero.2 fun t ht => by simp [isH, hc t ht]
    have c3 : X.countP (isH x) = X.length := List.countP_eq_length.2 fun t ht => by simp [isH, hX t ht]
    rw [h2, e, List.countP_append, List.countP_append, c1, c2, c3]
    omega
  rw [← ready_eq hm hi, readyF, if_neg (by rintro (h | h | h); omega; omega; exact hp h), thereG_in h0 h1, Bool.and_eq_true, decide_eq_true_eq]
  have hN : (endsZ (fun e => e.2) g.es g.es.length x).length = needN g x := rfl
  rw [hN]
  refine ⟨?_, ?_⟩
  · unfold spanF
    rw [span_met, metK_count (Nat.le_refl _), List.take_length, hcnt, hl]
  · rw [Bool.or_eq_true]; right
    rcases spanK_ok (row := f.row) (x := x) f.row.length with ⟨hs, hno⟩ | ⟨p, q, n, hs, hab, hbl, hc0, hcl, hpx, hqx, hlo, hhi⟩
    · have hs' : spanF f.row x = (-1, 0, 0) := hs
      rw [hs']; simp [bareF]
    · have hs' : spanF f.row x = ((p : Int), (q : Int), (n : Int)) := hs
      rw [hs']
      simp only [Int.toNat_natCast, bareF, Bool.not_eq_true']
      rw [← Bool.not_eq_true, any_slice hbl]
      rintro ⟨j, h2, h3, h4⟩
      simp only [otherI, Bool.and_eq_true, decide_eq_true_eq] at h4
      have hja : p < j := by
        refine Nat.lt_of_le_of_ne h2 fun e => ?_
        subst e; exact h4.1 hpx
      have hjb : j < q - 1 := by
        refine Nat.lt_of_le_of_ne (by omega) fun e => ?_
        subst e; exact h4.1 hqx
      have hsub := ((sub_snoc (i := j + 1) (j := q - 1) (sub_snoc (i := p + 1) (j := j) (sub_snoc (i := 0) (j := p) (List.nil_sublist _) (by omega) (by omega)) (by omega) (by omega)) (by omega) (by omega)).trans (List.take_sublist _ f.row)).filter fun t => decide (0 ≤ t.1)
      have hp1 := (hmem p (by omega)).head hm
      have hj1 := (hmem j (by omega)).head hm
      have hq1 := (hmem (q - 1) (by omega)).head hm
      generalize f.row.getD p (0, 0, 0) = s1 at hsub hp1 hpx
      generalize f.row.getD j (0, 0, 0) = s2 at hsub hj1 h4
      generalize f.row.getD (q - 1) (0, 0, 0) = s3 at hsub hq1 hqx
      have hf : ([] ++ [s1] ++ [s2] ++ [s3]).filter (fun t => decide (0 ≤ t.1)) = [s1, s2, s3] := List.filter_eq_self.2 fun t ht => by
        simp only [List.nil_append, List.cons_append, List.mem_cons, List.not_mem_nil, or_false] at ht
        rcases ht with rfl | rfl | rfl
        · exact decide_eq_true (hp1.1.2 (by omega))
        · exact decide_eq_true (hj1.1.2 h4.2)
        · exact decide_eq_true (hq1.1.2 (by omega))
      rw [hf] at hsub
      have hsub : [s1, s2, s3].Sublist (a ++ (X ++ c)) := by rw [← List.append_assoc, ← e]; exact hsub
      rw [List.sublist_append_iff] at hsub
      obtain ⟨l1, l', el, k1, k'⟩ := hsub
      rw [List.sublist_append_iff] at k'
      obtain ⟨l2, l3, rfl, k2, k3⟩ := k'
      match l1, el, k1 with
      | t :: l1, el, k1 =>
        simp only [List.cons_append, List.cons.injEq] at el
        exact ha t (k1.subset (by simp)) (by rw [← el.1]; exact hpx)
      | [], el, _ =>
        match l2, el, k2 with
        | [], el, _ =>
          simp only [List.nil_append] at el
          exact hc s1 (k3.subset (by rw [← el]; simp)) hpx
        | [t], el, _ =>
          simp only [List.nil_append, List.cons_append, List.cons.injEq] at el
          exact hc s3 (k3.subset (by rw [← el.2]; simp)) hqx
        | t :: u :: l2, el, k2 =>
          simp only [List.nil_append, List.cons_append, List.cons.injEq] at el
          exact h4.1 (by rw [el.2.1]; exact hX u (k2.subset (by simp)))
end Go.Ab
end
section
namespace Go.Ab
open Go.Proofs
set_option maxRecDepth 10000

def keepB (gone : List Int) (i : Nat) : Bool := !decide ((i : Int) ∈ gone)
def kpt (gone : List Int) (k : Nat) : List Nat := (List.range k).filter (keepB gone)
/-- The new number of an edge that is kept. -/
def atN (gone : List Int) (k : Nat) : Nat := (kpt gone k).length
def subE (gone : List Int) (es : List Edge) (k : Nat) : List Edge := (kpt gone k).map fun i => es.getD i (0, 0)
def subG (g : Gr) (gone : List Int) : Gr := ⟨g.n, subE gone g.es g.es.length⟩
def atZ (gone : List Int) (i : Int) : Int := if i ∈ gone then -1 else (atN gone i.toNat : Int)
def subL (gone : List Int) (l : List Int) : List Int := (l.filter fun i => decide (i ∉ gone)).map (atZ gone)
def subP (p : Pl) (gone : List Int) : Pl := ⟨p.ord, p.outs.map (subL gone)⟩
theorem kpt_next {gone : List Int} {k : Nat} : kpt gone (k + 1) = kpt gone k ++ if keepB gone k = true then [k] else [] := by
  simp only [kpt, List.range_succ, List.filter_append, List.filter_cons, List.filter_nil]
theorem subE_len {gone : List Int} {es : List Edge} {k : Nat} : (subE gone es k).length = atN gone k := by simp [subE, atN]
theorem kpt_split {gone : List Int} {k K : Nat} (h : k < K) (hk : keepB gone k = true) : ∃ r, kpt gone K = kpt gone k ++ k :: r := by
  obtain ⟨d, rfl⟩ : ∃ d, K = k + 1 + d := ⟨K - (k + 1), by omega⟩
  refine ⟨((List.range d).map (k + 1 + ·)).filter (keepB gone), ?_⟩
  unfold kpt
  rw [List.range_add, List.filter_append, List.range_succ, List.filter_append, List.filter_cons, if_pos hk]
  simp
theorem subE_at {gone : List Int} {es : List Edge} {k K : Nat} (h : k < K) (hk : keepB gone k = true) : (subE gone es K).getD (atN gone k) (0, 0) = es.getD k (0, 0) ∧ atN gone k < atN gone K := by
  obtain ⟨r, hr⟩ := kpt_split h hk
  constructor
  · unfold subE atN
    rw [hr, List.map_append, List.getD_eq_getElem?_getD, List.getElem?_append_right (by simp)]
    simp
  · unfold atN
    rw [hr]; simp
theorem subL_app {gone a b : List Int} : subL gone (a ++ b) = subL gone a ++ subL gone b := by simp [subL]
theorem endsZ_snoc {f : Edge → Int} {es : List Edge} {k : Nat} {v : Int} : endsZ f es (k + 1) v = endsZ f es k v ++ if f (es.getD k (0, 0)) = v then [(k : Int)] else [] := by
  simp only [endsZ, List.range_succ, List.filter_append, List.map_append, List.filter_cons, List.filter_nil, decide_eq_true_eq]
  split <;> rfl
theorem endsZ_pre {f : Edge → Int} {es es' : List Edge} {k : Nat} {v : Int} (h : ∀ i, i < k → es.getD i (0, 0) = es'.getD i (0, 0)) : endsZ f es k v = endsZ f es' k v := by
  unfold endsZ
  congr 1
  refine List.filter_congr fun i hi => ?_
  rw [h i (List.mem_range.1 hi)]
theorem endsZ_sub {f : Edge → Int} {gone : List Int} {es : List Edge} {v : Int} : ∀ {k : Nat}, endsZ f (subE gone es k) (atN gone k) v = subL gone (endsZ f es k v)
  | 0 => rfl
  | k + 1 => by
    rw [endsZ_snoc, subL_app, ← endsZ_sub (k := k)]
    by_cases hk : keepB gone k = true
    · have e1 : kpt gone (k + 1) = kpt gone k ++ [k] := by rw [kpt_next, if_pos hk]
      have e2 : atN gone (k + 1) = atN gone k + 1 := by unfold atN; rw [e1]; simp
      have e3 : subE gone es (k + 1) = subE gone es k ++ [es.getD k (0, 0)] := by unfold subE; rw [e1]; simp
      have hg : (k : Int) ∉ gone := by simpa [keepB] using hk
      rw [e2, endsZ_snoc]
      congr 1
      · refine endsZ_pre fun i hi => ?_
        rw [e3, List.getD_eq_getElem?_getD, List.getElem?_append_left (by rw [subE_len]; exact hi), ← List.getD_eq_getElem?_getD]
      · rw [(subE_at (es := es) (show k < k + 1 by omega) hk).1]
        by_cases hv : f (es.getD k (0, 0)) = v
        · rw [if_pos hv, if_pos hv]
          simp [subL, hg, atZ]
        · rw [if_neg hv, if_neg hv]; rfl
    · have e1 : kpt gone (k + 1) = kpt gone k := by rw [kpt_next, if_neg hk, List.append_nil]
      have e2 : atN gone (k + 1) = atN gone k := by unfold atN; rw [e1]
      have e3 : subE gone es (k + 1) = subE gone es k := by unfold subE; rw [e1]
      have hg : (k : Int) ∈ gone := by simpa [keepB] using hk
      rw [e2, e3]
      have : subL gone (if f (es.getD k (0, 0)) = v then [(k : Int)] else []) = [] := by
        split
        · simp [subL, hg]
        · rfl
      rw [this, List.append_nil]
variable {g : Gr} {p : Pl} {gone : List Int}
theorem outZ_sub {v : Int} : outZ (subG g gone) v = subL gone (outZ g v) := by
  show endsZ (·.1) (subE gone g.es g.es.length) (subE gone g.es g.es.length).length v = _
  rw [subE_len]
  exact endsZ_sub
theorem need_sub {v : Int} : needN (subG g gone) v = (subL gone (endsZ (·.2) g.es g.es.length v)).length := by
  show (endsZ (·.2) (subE gone g.es g.es.length) (subE gone g.es g.es.length).length v).length = _
  rw [subE_len, endsZ_sub]
theorem subL_perm {a b : List Int} (h : a.Perm b) : (subL gone a).Perm (subL gone b) := (h.filter _).map _
theorem lAt_sub {x : Int} : lAt (subP p gone) x = subL gone (lAt p x) := by
  unfold lAt subP
  simp only [List.getD_eq_getElem?_getD, List.getElem?_map]
  cases p.outs[x.toNat]? <;> rfl
theorem plan_sub (h : PlanOk g p) : PlanOk (subG g gone) (subP p gone) := by
  refine ⟨by show (p.outs.map _).length = _; rw [List.length_map]; exact h.1, h.2.1, fun x hx => ?_⟩
  have := lAt_sub (p := p) (gone := gone) (x := (x : Int))
  unfold lAt at this
  rw [Int.toNat_natCast] at this
  rw [this, outZ_sub]
  exact subL_perm (h.2.2 x hx)
def kap (gone : List Int) (t : It) : It := (atZ gone t.1, t.2.1, t.2.2)
def subR (gone : List Int) (l : List It) : List It := (l.filter fun t => decide (t.1 ∉ gone)).map (kap gone)
theorem subR_app {a b : List It} : subR gone (a ++ b) = subR gone a ++ subR gone b := by simp [subR]
theorem subR_mem {l : List It} {t : It} (h : t ∈ subR gone l) : ∃ s ∈ l, t.2.2 = s.2.2 := by
  obtain ⟨s, hs, rfl⟩ := List.mem_map.1 h
  exact ⟨s, (List.mem_filter.1 hs).1, rfl⟩
theorem sub_above {x : Int} {o : List Int} (ho : ∀ i ∈ o, i ∈ outZ g x) : edR (aboveF (subG g gone) x (subL gone o)) = subR gone (edR (aboveF g x o)) := by
  rw [edR_above, edR_above]
  · unfold subL subR
    rw [List.filter_map, List.map_map, List.map_map]
    refine List.map_congr_left fun i hi => ?_
    obtain ⟨h1, h2⟩ := List.mem_filter.1 hi
    have h2 : i ∉ gone := of_decide_eq_true h2
    obtain ⟨e, rfl, he, _⟩ := outZ_mem (ho i h1)
    have hk : keepB gone e = true := by simp [keepB, h2]
    have h3 := (subE_at (es := g.es) he hk).1
    have e0 : atZ gone (e : Int) = (atN gone e : Int) := by unfold atZ; rw [if_neg h2, Int.toNat_natCast]
    have e1 : kap gone (itemF g x (e : Int)) = ((atN gone e : Int), x, (g.es.getD e (0, 0)).2) := by
      show (atZ gone (e : Int), x, _) = _
      rw [e0]; rfl
    show itemF (subG g gone) x (atZ gone (e : Int)) = kap gone (itemF g x (e : Int))
    rw [e1, e0]
    show ((atN gone e : Int), x, ((subE gone g.es g.es.length).getD (((atN gone e : Nat) : Int)).toNat (0, 0)).2) = _
    rw [Int.toNat_natCast, h3]
  · intro i hi
    obtain ⟨e, rfl, _⟩ := outZ_mem (ho i hi)
    omega
  · intro i hi
    obtain ⟨j, hj, rfl⟩ := List.mem_map.1 hi
    have h2 : j ∉ gone := of_decide_eq_true (List.mem_filter.1 hj).2
    unfold atZ
    rw [if_neg h2]; omega
theorem in_perm (hm : mayB g = true) {f : Fr} (hi : FrI g f) {x : Int} (h0 : 0 ≤ x) {a X c : List It} (e : edR f.row = a ++ X ++ c) (hX : AllH x X) (hl : X.length = needN g x) : (X.map (·.1)).Perm (endsZ (·.2) g.es g.es.length x) := by
  have hmem : ∀ t ∈ X, t ∈ edR f.row := fun t ht => by rw [e]; simp [ht]
  refine (pigeonP (ms := X.map (·.1)) (os := endsZ (·.2) g.es g.es.length x) ?_ ?_ ?_).symm
  · have h1 : (edR f.row).Pairwise fun s t => 0 ≤ s.1 → s.1 ≠ t.1 := hi.once.sublist List.filter_sublist
    rw [e, List.pairwise_append, List.pairwise_append] at h1
    rw [List.Nodup, List.pairwise_map]
    exact h1.1.2.1.imp_of_mem fun {s t} hs _ h => h (edR_mem.1 (hmem s hs)).2
  · intro i hi'
    obtain ⟨t, ht, rfl⟩ := List.mem_map.1 hi'
    obtain ⟨h1, h2⟩ := edR_mem.1 (hmem t ht)
    rcases hi.it t h1 with ⟨h3, _⟩ | ⟨_, h3, _, h4⟩
    · omega
    · simp only [endsZ, List.mem_map, List.mem_filter, List.mem_range, decide_eq_true_eq]
      exact ⟨t.1.toNat, ⟨by omega, by rw [← h4]; exact hX t ht⟩, by simp; omega⟩
  · rw [List.length_map, hl]; rfl
theorem pigeon_sub (hm : mayB g = true) {f : Fr} (hi : FrI g f) {x : Int} (h0 : 0 ≤ x) {a X c : List It} (e : edR f.row = a ++ X ++ c) (hX : AllH x X) (hl : X.length = needN g x) : (subR gone X).length = needN (subG g gone) x := by
  have hp := in_perm hm hi h0 e hX hl
  rw [need_sub]
  unfold subR subL
  rw [List.length_map, List.length_map, ← (hp.filter _).length_eq, List.filter_map, List.length_map]
  rfl
/-- The source is placed first. -/
theorem first_src (hr : RunsP g p) : needN g (oAt p 0) = 0 := by
  have hm := good_may hr.1
  have hn := mayB_n hm
  refine Decidable.byContradiction fun hnz => ?_
  obtain ⟨A, X, C, hrw, _, _, hX, _⟩ := ready_split hm (frI_new g).toFrInv (hr.2.2 0 (by omega)) hnz
  obtain ⟨q, X0, e1, _⟩ := hX.fst
  rw [e1] at hrw
  simp at hrw
theorem sub_sim (hr : RunsP g p) (hc : (chkG (subG g gone)).1 = 0) : ∀ {k : Nat}, k ≤ g.n.toNat → (∀ j, j < k → okK (subG g gone) (subP p gone) j = true) ∧ edR (fK (subG g gone) (subP p gone) k).row = subR gone (edR (fK g p k).row)
  | 0, _ => ⟨fun j hj => by omega, rfl⟩
  | k + 1, hk => by
    have hpo := hr.2.1
    have hm := good_may hr.1
    have hn := mayB_n hm
    have hmX := good_may hc
    have hQ := plan_sub (gone := gone) hpo
    obtain ⟨oks, hrow⟩ := sub_sim hr hc (k := k) (by omega)
    obtain ⟨hi, _, _⟩ := run_inv hm hpo (k := k) (by omega) fun j hj => hr.2.2 j (by omega)
    obtain ⟨hiX, hplX, _⟩ := run_inv hmX hQ (k := k) (by show k ≤ g.n.toNat; omega) oks
    have hR : rReadyF g (fK g p k) (oAt p k) = true := hr.2.2 k (by omega)
    have hx := oAt_mem hpo (k := k) (by omega)
    have hnot : oAt p k ∉ (fK (subG g gone) (subP p gone) k).pl := by
      rw [hplX]
      intro hin
      obtain ⟨j, hj, e⟩ := List.mem_iff_getElem.1 hin
      simp only [List.length_take] at hj
      have hpl : (subP p gone).ord = p.ord := rfl
      have e2 : oAt p j = oAt p k := by
        rw [← e]
        unfold oAt
        rw [List.getD_eq_getElem?_getD, List.getElem?_eq_getElem (by rw [plan_len hpo]; omega)]
        simp [hpl]
      have := oAt_inj hpo (by omega) (by omega) e2
      omega
    have hfX : fK (subG g gone) (subP p gone) (k + 1) = (succF (subG g gone) (fK (subG g gone) (subP p gone) k) (oAt p k) (subL gone (lAt p (oAt p k)))).2 := by
      rw [← lAt_sub]; rfl
    have hfg : fK g p (k + 1) = (succF g (fK g p k) (oAt p k) (lAt p (oAt p k))).2 := rfl
    have habv := sub_above (g := g) (gone := gone) (x := oAt p k) (o := lAt p (oAt p k)) fun i hi => (lAt_perm hpo hx.1 hx.2).mem_iff.1 hi
    suffices hs : okK (subG g gone) (subP p gone) k = true ∧ edR (fK (subG g gone) (subP p gone) (k + 1)).row = subR gone (edR (fK g p (k + 1)).row) by
      refine ⟨fun j hj => ?_, hs.2⟩
      by_cases e : j = k
      · subst e; exact hs.1
      · exact oks j (by omega)
    have hok : okK (subG g gone) (subP p gone) k = rReadyF (subG g gone) (fK (subG g gone) (subP p gone) k) (oAt p k) := rfl
    rw [hfX, hfg, hok]
    by_cases hz : needN (subG g gone) (oAt p k) = 0
    · have hg0 : needN g (oAt p k) = 0 := by
        have h0 := first_src hr
        have hx0 := oAt_mem hpo (k := 0) (by omega)
        have h1 : needN (subG g gone) (oAt p 0) = 0 := by
          rw [need_sub]
          have : endsZ (·.2) g.es g.es.length (oAt p 0) = [] := List.eq_nil_of_length_eq_zero h0
          rw [this]; rfl
        have := one_src hc (x := oAt p k) (y := oAt p 0) hx hx0 hz h1
        rw [this]; exact h0
      have hno := ready_none hm hi.toFrInv hx.1 hg0
      have hnoX := ready_none hmX hiX.toFrInv hx.1 hz
      refine ⟨?_, ?_⟩
      · unfold rReadyF
        rw [if_neg (by rintro (h | h | h); omega; exact absurd hx.2 (by show ¬ _; exact Int.not_lt.2 h); exact hnot h), if_pos hz]
      · rw [succ_none _ hno, succ_none _ hnoX]
        simp only [edR_app, subR_app]
        rw [habv, hrow]
    · have hgn : needN g (oAt p k) ≠ 0 := fun h0 => hz (by
        rw [need_sub]
        have : endsZ (·.2) g.es g.es.length (oAt p k) = [] := List.eq_nil_of_length_eq_zero h0
        rw [this]; rfl)
      obtain ⟨a, X, c, e, ha, hcN, hX, lX, hs⟩ := ed_split hm hi.toFrInv hR hgn
      have lX' := pigeon_sub (gone := gone) hm hi hx.1 e hX lX
      have ha' : NoH (oAt p k) (subR gone a) := fun t ht => by obtain ⟨s, h1, h2⟩ := subR_mem ht; rw [h2]; exact ha s h1
      have hc' : NoH (oAt p k) (subR gone c) := fun t ht => by obtain ⟨s, h1, h2⟩ := subR_mem ht; rw [h2]; exact hcN s h1
      have hX' : AllH (oAt p k) (subR gone X) := fun t ht => by obtain ⟨s, h1, h2⟩ := subR_mem ht; rw [h2]; exact hX s h1
      have nX' : subR gone X ≠ [] := fun h => hz (by rw [← lX', h]; rfl)
      have e' : edR (fK (subG g gone) (subP p gone) k).row = subR gone a ++ subR gone X ++ subR gone c := by rw [hrow, e, subR_app, subR_app]
      have hrX := ed_ready hmX hiX.toFrInv hx.1 hx.2 hnot e' ha' hc' hX' nX' lX'
      refine ⟨hrX, ?_⟩
      rw [ed_succ hmX hiX.toFrInv hrX hz e' ha' hc' hX' nX', hs, subR_app, subR_app, habv]
/-- A plan that runs still runs without some edges, if what is left is good. -/
theorem sub_runs (hr : RunsP g p) (hc : (chkG (subG g gone)).1 = 0) : RunsP (subG g gone) (subP p gone) :=
  ⟨hc, plan_sub hr.2.1, fun k hk => (sub_sim hr hc (k := k + 1) (by have : k < g.n.toNat := hk; omega)).1 k (by omega)⟩
end Go.Ab
end
section
namespace Go.Ab
open Go.Proofs
attribute [local congr] ACall.congr
set_option maxRecDepth 10000
set_option maxHeartbeats 16000000

/-- The new numbers of the i first edges. -/
def atL (gone : List Int) (m i : Nat) : List Int := (List.range m).map fun j : Nat => if j < i then atZ gone (j : Int) else 0
theorem atL_len {gone : List Int} {m i : Nat} : (atL gone m i).length = m := by simp [atL]
theorem atL_zero {gone : List Int} {m : Nat} : atL gone m 0 = List.replicate m 0 := by
  refine List.ext_getElem (by simp [atL]) fun j h1 h2 => ?_
  simp [atL]
theorem atL_set {gone : List Int} {m i : Nat} (h : i < m) : (atL gone m i).set i (atZ gone (i : Int)) = atL gone m (i + 1) := by
  refine List.ext_getElem (by simp [atL]) fun j h1 h2 => ?_
  rw [List.getElem_set]
  simp only [atL, List.getElem_map, List.getElem_range]
  by_cases e : i = j
  · subst e; simp
  · rw [if_neg e]
    by_cases h3 : j < i
    · rw [if_pos h3, if_pos (by omega)]
    · rw [if_neg h3, if_neg (by omega)]
theorem atL_at {gone : List Int} {m i : Nat} (h : i < m) : (atL gone m m).getD i 0 = atZ gone (i : Int) := by
  simp [atL, List.getD_eq_getElem?_getD, List.getElem?_range h, h]
theorem atZ_neg {gone : List Int} {i : Int} : 0 ≤ atZ gone i ↔ i ∉ gone := by
  unfold atZ
  split
  · rename_i h; simp [h]
  · rename_i h; simp [h]; 
theorem subE_snoc {gone : List Int} {es : List Edge} {i : Nat} : subE gone es (i + 1) = subE gone es i ++ if (i : Int) ∈ gone then [] else [es.getD i (0, 0)] := by
  unfold subE
  rw [kpt_next, List.map_append]
  congr 1
  by_cases h : (i : Int) ∈ gone
  · simp [keepB, h]
  · simp [keepB, h]
theorem subL_snoc {gone l : List Int} {j : Nat} (h : j < l.length) : subL gone (l.take (j + 1)) = subL gone (l.take j) ++ if l.getD j 0 ∈ gone then [] else [atZ gone (l.getD j 0)] := by
  rw [take_snocI h, subL_app]
  congr 1
  by_cases h2 : l.getD j 0 ∈ gone
  · rw [if_pos h2]; simp only [subL, List.filter_cons, h2, not_true_eq_false, decide_false, List.filter_nil, List.map_nil, Bool.false_eq_true, if_false]
  · rw [if_neg h2]; simp only [subL, List.filter_cons, h2, not_false_eq_true, decide_true, List.filter_nil, List.map_cons, List.map_nil, if_true]
theorem augR_code {b : Bool} {g : Gr} {p : Pl} (hr : b = true ↔ (chkG g).1 = 0 ∧ PlanOk g p) (h : RunsP g p) : (augR b g p).2.2 = 0 ∨ (augR b g p).2.2 = 10 := by
  unfold augR
  rw [if_neg (by rw [runRes_run hr h]; simp)]
  split
  · exact .inr rfl
  · exact .inl rfl
theorem augmentPart_spec (g : Gr) (p : Pl) (gone : List Int) (hl : g.es.length ≤ 9223372036854775807) (hp : PlMax p) (hgl : gone.length ≤ 9223372036854775807) : Spec Try.prog 7 (Args [eG g, ePl p, .d (sI gone)]) [] (eB true) [] := by
  have hGr := great10_spec g p hl hp
  (refine Spec.intro (C := T.cfg [] []) (rs := [.t 6]) (T.cfg_ok _ _) Try.func7 rfl rfl Try.ntmps7 Try.results7 (by simp [AObj.isNest]) (by simp [AObj.isNest]) (by kernel_rfl) ?_; intro X hX hP hC hXn hXm vals hA; refine ⟨_, by simp, hA, ?_⟩; have hmix : X.P.follows .mixedOrders = true := (by rw [hP]; exact T.mixed); clear hXn hXm)
  cases hB : bigB g p with
  | true =>
    rw [hB] at hGr
    repeat' (first | fail | ((first | ((with_reducible (first | apply oA | apply oB)); exact rfl; intro K hK) | (refine hK _ ?_; clear hK K) | ((with_reducible (first | apply oG | apply oH)); iterate 3 exact rfl) | ((with_reducible apply oI); (iterate 2 exact rfl); intro K hK) | (with_reducible (first | apply wI | apply wJ | apply wK))); try simp only [go_sem, simprocAttr]) | fail | (with_reducible (first | apply oC | apply oJ | exact oK | apply wA | apply wB | apply wC hX hC | apply wD hX hC | apply wE hX hC hmix | apply wF hX hC hmix | apply wG | apply wH | apply And.intro)) | ((with_reducible refine oD ?_ ?_); first | fail | kernel_rfl) | ((with_reducible (first | apply oE | apply oF)); (iterate 3 exact rfl); all_goals (intro h; first | (exact absurd h (by decide)) | ((try simp only [go_sem, simprocAttr] at h); (try with_reducible intro K hK); simp only [go_sem, simprocAttr]))) | ((first | ((with_reducible apply wL); exact rfl) | ((with_reducible apply wM); exact rfl)); all_goals (try ((with_reducible intro h); first | (exact absurd h (by decide)) | (try simp only [go_sem, simprocAttr] at h)))) | omega | ((first | first | refine acall_simple hX hC hP (speaks16_spec) rfl rfl rfl (by simp only [go_sem, simprocAttr]) rfl ?_ | refine acall_simple hX hC hP (hGr) rfl rfl rfl (by simp only [go_sem, simprocAttr]) rfl ?_); try simp only [go_sem, simprocAttr]) | (intro h))
  | false =>
  rw [hB] at hGr
  obtain ⟨b1, b2, b3, b4⟩ := big_not hB
  obtain ⟨b, hr⟩ := exB g p
  have hRu := runs_spec g (by omega) p (plLen_of hB) b hr
  by_cases hgo : gone.length ≤ 100
  rotate_left
  · have hb1 : decide (100 < (gone.length : Int)) = true := decide_eq_true (by omega)
    repeat' (first | fail | ((first | ((with_reducible (first | apply oA | apply oB)); exact rfl; intro K hK) | (refine hK _ ?_; clear hK K) | ((with_reducible (first | apply oG | apply oH)); iterate 3 exact rfl) | ((with_reducible apply oI); (iterate 2 exact rfl); intro K hK) | (with_reducible (first | apply wI | apply wJ | apply wK))); try simp only [go_sem, simprocAttr, hb1]) | fail | (with_reducible (first | apply oC | apply oJ | exact oK | apply wA | apply wB | apply wC hX hC | apply wD hX hC | apply wE hX hC hmix | apply wF hX hC hmix | apply wG | apply wH | apply And.intro)) | ((with_reducible refine oD ?_ ?_); first | fail | kernel_rfl) | ((with_reducible (first | apply oE | apply oF)); (iterate 3 exact rfl); all_goals (intro h; first | (exact absurd h (by decide)) | ((try simp only [go_sem, simprocAttr, hb1] at h); (try with_reducible intro K hK); simp only [go_sem, simprocAttr, hb1]))) | ((first | ((with_reducible apply wL); exact rfl) | ((with_reducible apply wM); exact rfl)); all_goals (try ((with_reducible intro h); first | (exact absurd h (by decide)) | (try simp only [go_sem, simprocAttr, hb1] at h)))) | omega | ((first | first | refine acall_simple hX hC hP (speaks16_spec) rfl rfl rfl (by simp only [go_sem, simprocAttr, hb1]) rfl ?_ | refine acall_simple hX hC hP (hGr) rfl rfl rfl (by simp only [go_sem, simprocAttr, hb1]) rfl ?_); try simp only [go_sem, simprocAttr, hb1]) | (intro h))
  have hb1 : decide (100 < (gone.length : Int)) = false := decide_eq_false (by omega)
  by_cases h1 : (runRes b g p).2.1 = 0
  rotate_left
  · rw [decide_eq_false h1] at hRu
    repeat' (first | fail | ((first | ((with_reducible (first | apply oA | apply oB)); exact rfl; intro K hK) | (refine hK _ ?_; clear hK K) | ((with_reducible (first | apply oG | apply oH)); iterate 3 exact rfl) | ((with_reducible apply oI); (iterate 2 exact rfl); intro K hK) | (with_reducible (first | apply wI | apply wJ | apply wK))); try simp only [go_sem, simprocAttr, hb1]) | fail | (with_reducible (first | apply oC | apply oJ | exact oK | apply wA | apply wB | apply wC hX hC | apply wD hX hC | apply wE hX hC hmix | apply wF hX hC hmix | apply wG | apply wH | apply And.intro)) | ((with_reducible refine oD ?_ ?_); first | fail | kernel_rfl) | ((with_reducible (first | apply oE | apply oF)); (iterate 3 exact rfl); all_goals (intro h; first | (exact absurd h (by decide)) | ((try simp only [go_sem, simprocAttr, hb1] at h); (try with_reducible intro K hK); simp only [go_sem, simprocAttr, hb1]))) | ((first | ((with_reducible apply wL); exact rfl) | ((with_reducible apply wM); exact rfl)); all_goals (try ((with_reducible intro h); first | (exact absurd h (by decide)) | (try simp only [go_sem, simprocAttr, hb1] at h)))) | omega | ((first | first | refine acall_simple hX hC hP (speaks16_spec) rfl rfl rfl (by simp only [go_sem, simprocAttr, hb1]) rfl ?_ | refine acall_simple hX hC hP (hGr) rfl rfl rfl (by simp only [go_sem, simprocAttr, hb1]) rfl ?_ | refine acall_simple hX hC hP (hRu) rfl rfl rfl (by simp only [go_sem, simprocAttr, hb1]) rfl ?_); try simp only [go_sem, simprocAttr, hb1]) | (intro h))
  rw [decide_eq_true h1] at hRu
  obtain ⟨hrun, _⟩ := runRes_ok hr h1
  have hm := good_may hrun.1
  have hn := mayB_n hm
  have hpo := hrun.2.1
  repeat' (first | fail | ((first | ((with_reducible (first | apply oA | apply oB)); exact rfl; intro K hK) | (refine hK _ ?_; clear hK K) | ((with_reducible (first | apply oG | apply oH)); iterate 3 exact rfl) | ((with_reducible apply oI); (iterate 2 exact rfl); intro K hK) | (with_reducible (first | apply wI | apply wJ | apply wK))); try simp only [go_sem, simprocAttr, hb1]) | (show awp _ (.seq (.region 7 _ _) _) _ _; (refine awp_newB hX 8 1 200 (.tip 53 2 []) rfl rfl rfl (by simp only [go_sem, simprocAttr, hb1]) (by decide) (by simp [go_sem, simprocAttr, hb1]) ⟨53, 2, by decide, .inr rfl⟩ ?_; simp only [LA.app, ASt.put, ASt.kill, subT, rmk, putM, rml, kl, AV.sub, AV.subs, AObj.sub, List.set_cons_zero, List.set_cons_succ, go_sem, simprocAttr, hb1])) | (with_reducible (first | apply oC | apply oJ | exact oK | apply wA | apply wB | apply wC hX hC | apply wD hX hC | apply wE hX hC hmix | apply wF hX hC hmix | apply wG | apply wH | apply And.intro)) | ((with_reducible refine oD ?_ ?_); first | fail | kernel_rfl) | ((with_reducible (first | apply oE | apply oF)); (iterate 3 exact rfl); all_goals (intro h; first | (exact absurd h (by decide)) | ((try simp only [go_sem, simprocAttr, hb1] at h); (try with_reducible intro K hK); simp only [go_sem, simprocAttr, hb1]))) | ((first | ((with_reducible apply wL); exact rfl) | ((with_reducible apply wM); exact rfl)); all_goals (try ((with_reducible intro h); first | (exact absurd h (by decide)) | (try simp only [go_sem, simprocAttr, hb1] at h)))) | omega | ((first | first | refine acall_simple hX hC hP (speaks16_spec) rfl rfl rfl (by simp only [go_sem, simprocAttr, hb1]) rfl ?_ | refine acall_simple hX hC hP (hGr) rfl rfl rfl (by simp only [go_sem, simprocAttr, hb1]) rfl ?_ | refine acall_simple hX hC hP (hRu) rfl rfl rfl (by simp only [go_sem, simprocAttr, hb1]) rfl ?_); try simp only [go_sem, simprocAttr, hb1]) | (intro h))
  have hrep : List.replicate g.es.length [D.sc (.int .i64 0)] = (atL gone g.es.length 0).map rI := by rw [atL_zero, List.map_replicate]; rfl
  rw [hrep]
  clear hb1 hrep
  refine awp_loopP (fun i : Nat => i ≤ g.es.length) (fun i => ⟨[(2, .d (sI gone)), (3, .ptr 3 0), (4, .ptr 4 0), (7, .ref 44), (8, .ptr 8 0), (49, .d (sE g.es)), (50, eN g.es.length), (51, eN i)], [(3, .box [eN g.n, .d (sE g.es)]), (4, .box [.d (sI p.ord), .d (.sl 1 (vI p.outs))]), (44, .own 3 1 ((atL gone g.es.length i).map rI)), (8, .box [eN g.n, .ref 200]), (200, .tip 53 2 ((subE gone g.es i).map rE))]⟩) (fun i => g.es.length - i) 0 (by omega) ?_ ?_
  · refine Le.of ?_ ?_ <;> simp [go_sem, simprocAttr, subE, kpt]
  rintro i hi
  rcases Nat.lt_or_ge i g.es.length with hil | hig
  · have hb : decide ((i : Int) < (g.es.length : Int)) = true := decide_eq_true (by omega)
    have hal := atL_len (gone := gone) (m := g.es.length) (i := i)
    have hsl : (subE gone g.es i).length = atN gone i := subE_len
    have hset := atL_set (gone := gone) hil
    have hsn := subE_snoc (gone := gone) (es := g.es) (i := i)
    have hneg := atZ_neg (gone := gone) (i := (i : Int))
    have hzz : atZ gone (i : Int) = if (i : Int) ∈ gone then -1 else (atN gone i : Int) := by unfold atZ; rw [Int.toNat_natCast]
    have hnl : atN gone i ≤ i := by
      unfold atN kpt
      refine Nat.le_trans (List.length_filter_le _ _) ?_
      simp
    generalize atL gone g.es.length i = A at hal hset
    repeat' (first | fail | ((first | ((with_reducible (first | apply oA | apply oB)); exact rfl; intro K hK) | (refine hK _ ?_; clear hK K) | ((with_reducible (first | apply oG | apply oH)); iterate 3 exact rfl) | ((with_reducible apply oI); (iterate 2 exact rfl); intro K hK) | (with_reducible (first | apply wI | apply wJ | apply wK))); try simp only [go_sem, simprocAttr, hb, hsl, hal]) | fail | (with_reducible (first | apply oC | apply oJ | exact oK | apply wA | apply wB | apply wC hX hC | apply wD hX hC | apply wE hX hC hmix | apply wF hX hC hmix | apply wG | apply wH | apply And.intro)) | ((with_reducible refine oD ?_ ?_); first | fail | kernel_rfl) | ((with_reducible (first | apply oE | apply oF)); (iterate 3 exact rfl); all_goals (intro h; first | (exact absurd h (by decide)) | ((try simp only [go_sem, simprocAttr, hb, hsl, hal] at h); (try with_reducible intro K hK); simp only [go_sem, simprocAttr, hb, hsl, hal]))) | ((first | ((with_reducible apply wL); exact rfl) | ((with_reducible apply wM); exact rfl)); all_goals (try ((with_reducible intro h); first | (exact absurd h (by decide)) | (try simp only [go_sem, simprocAttr, hb, hsl, hal] at h)))) | omega | ((first | first | refine acall_simple hX hC hP (speaks16_spec) rfl rfl rfl (by simp only [go_sem, simprocAttr, hb, hsl, hal]) rfl ?_ | refine acall_simple hX hC hP (hGr) rfl rfl rfl (by simp only [go_sem, simprocAttr, hb, hsl, hal]) rfl ?_ | refine acall_simple hX hC hP (hRu) rfl rfl rfl (by simp only [go_sem, simprocAttr, hb, hsl, hal]) rfl ?_); try simp only [go_sem, simprocAttr, hb, hsl, hal]) | (intro h))
    refine awp_loopP (fun k : Nat => k ≤ gone.length) (fun k => ⟨[(2, .d (sI gone)), (3, .ptr 3 0), (4, .ptr 4 0), (7, .ref 44), (8, .ptr 8 0), (9, eN i), (10, .ptr 10 0), (49, .d (sE g.es)), (50, eN g.es.length), (51, eN i), (62, .d (sI gone)), (63, eN gone.length), (64, eN k)], [(3, .box [eN g.n, .d (sE g.es)]), (4, .box [.d (sI p.ord), .d (.sl 1 (vI p.outs))]), (44, .own 3 1 ((A.set i (if (i : Int) ∈ gone.take k then -1 else (atN gone i : Int))).map rI)), (8, .box [eN g.n, .ref 200]), (200, .tip 53 2 ((subE gone g.es i).map rE)), (10, .box [.d (.sc (.int .i64 (g.es.getD i (0, 0)).1)), .d (.sc (.int .i64 (g.es.getD i (0, 0)).2))])]⟩) (fun k => gone.length - k) 0 (by omega) ?_ ?_
    · refine Le.of ?_ ?_ <;> simp [go_sem, simprocAttr, rI]
    rintro k hk
    rcases Nat.lt_or_ge k gone.length with hkl | hkg
    · have hbk : decide ((k : Int) < (gone.length : Int)) = true := decide_eq_true (by omega)
      have htk := take_snocI hkl
      have hsl2 : (A.set i (if (i : Int) ∈ gone.take k then -1 else (atN gone i : Int))).length = g.es.length := by rw [List.length_set, hal]
      generalize hgi : gone.getD k 0 = v at htk
      by_cases h2 : v = (i : Int)
      · have hb2 : decide (v = (i : Int)) = true := decide_eq_true h2
        have hin : (i : Int) ∈ gone.take (k + 1) := by rw [htk, h2]; simp
        repeat' (first | fail | ((first | ((with_reducible (first | apply oA | apply oB)); exact rfl; intro K hK) | (refine hK _ ?_; clear hK K) | ((with_reducible (first | apply oG | apply oH)); iterate 3 exact rfl) | ((with_reducible apply oI); (iterate 2 exact rfl); intro K hK) | (with_reducible (first | apply wI | apply wJ | apply wK))); try simp only [go_sem, simprocAttr, hbk, hgi, hb2, hsl2]) | fail | (with_reducible (first | apply oC | apply oJ | exact oK | apply wA | apply wB | apply wC hX hC | apply wD hX hC | apply wE hX hC hmix | apply wF hX hC hmix | apply wG | apply wH | apply And.intro)) | ((with_reducible refine oD ?_ ?_); first | fail | kernel_rfl) | ((with_reducible (first | apply oE | apply oF)); (iterate 3 exact rfl); all_goals (intro h; first | (exact absurd h (by decide)) | ((try simp only [go_sem, simprocAttr, hbk, hgi, hb2, hsl2] at h); (try with_reducible intro K hK); simp only [go_sem, simprocAttr, hbk, hgi, hb2, hsl2]))) | ((first | ((with_reducible apply wL); exact rfl) | ((with_reducible apply wM); exact rfl)); all_goals (try ((with_reducible intro h); first | (exact absurd h (by decide)) | (try simp only [go_sem, simprocAttr, hbk, hgi, hb2, hsl2] at h)))) | omega | ((first | first | refine acall_simple hX hC hP (speaks16_spec) rfl rfl rfl (by simp only [go_sem, simprocAttr, hbk, hgi, hb2, hsl2]) rfl ?_ | refine acall_simple hX hC hP (hGr) rfl rfl rfl (by simp only [go_sem, simprocAttr, hbk, hgi, hb2, hsl2]) rfl ?_ | refine acall_simple hX hC hP (hRu) rfl rfl rfl (by simp only [go_sem, simprocAttr, hbk, hgi, hb2, hsl2]) rfl ?_); try simp only [go_sem, simprocAttr, hbk, hgi, hb2, hsl2]) | (intro h))
        refine ⟨k + 1, by omega, ?_, by omega⟩
        rw [if_pos hin]
        refine Le.of ?_ ?_ <;> simp [go_sem, simprocAttr, hbk, hgi, hb2, hsl2, rI]
      · have hb2 : decide (v = (i : Int)) = false := decide_eq_false h2
        have hin : (i : Int) ∈ gone.take (k + 1) ↔ (i : Int) ∈ gone.take k := by
          rw [htk, List.mem_append, List.mem_singleton]
          exact ⟨fun h => h.elim id fun h => absurd h.symm h2, .inl⟩
        repeat' (first | fail | ((first | ((with_reducible (first | apply oA | apply oB)); exact rfl; intro K hK) | (refine hK _ ?_; clear hK K) | ((with_reducible (first | apply oG | apply oH)); iterate 3 exact rfl) | ((with_reducible apply oI); (iterate 2 exact rfl); intro K hK) | (with_reducible (first | apply wI | apply wJ | apply wK))); try simp only [go_sem, simprocAttr, hbk, hgi, hb2, hsl2]) | fail | (with_reducible (first | apply oC | apply oJ | exact oK | apply wA | apply wB | apply wC hX hC | apply wD hX hC | apply wE hX hC hmix | apply wF hX hC hmix | apply wG | apply wH | apply And.intro)) | ((with_reducible refine oD ?_ ?_); first | fail | kernel_rfl) | ((with_reducible (first | apply oE | apply oF)); (iterate 3 exact rfl); all_goals (intro h; first | (exact absurd h (by decide)) | ((try simp only [go_sem, simprocAttr, hbk, hgi, hb2, hsl2] at h); (try with_reducible intro K hK); simp only [go_sem, simprocAttr, hbk, hgi, hb2, hsl2]))) | ((first | ((with_reducible apply wL); exact rfl) | ((with_reducible apply wM); exact rfl)); all_goals (try ((with_reducible intro h); first | (exact absurd h (by decide)) | (try simp only [go_sem, simprocAttr, hbk, hgi, hb2, hsl2] at h)))) | omega | ((first | first | refine acall_simple hX hC hP (speaks16_spec) rfl rfl rfl (by simp only [go_sem, simprocAttr, hbk, hgi, hb2, hsl2]) rfl ?_ | refine acall_simple hX hC hP (hGr) rfl rfl rfl (by simp only [go_sem, simprocAttr, hbk, hgi, hb2, hsl2]) rfl ?_ | refine acall_simple hX hC hP (hRu) rfl rfl rfl (by simp only [go_sem, simprocAttr, hbk, hgi, hb2, hsl2]) rfl ?_); try simp only [go_sem, simprocAttr, hbk, hgi, hb2, hsl2]) | (intro h))
        refine ⟨k + 1, by omega, ?_, by omega⟩
        simp only [hin]
        refine Le.of ?_ ?_ <;> simp [go_sem, simprocAttr, hbk, hgi, hb2, hsl2]
    · have hbk : decide ((k : Int) < (gone.length : Int)) = false := decide_eq_false (by omega)
      obtain rfl : k = gone.length := by omega
      rw [List.take_length, ← hzz, hset]
      have hl3 := atL_len (gone := gone) (m := g.es.length) (i := i + 1)
      have hat : (atL gone g.es.length (i + 1)).getD i 0 = atZ gone (i : Int) := by
        simp [atL, List.getD_eq_getElem?_getD, List.getElem?_range hil]
      generalize hAA : atL gone g.es.length (i + 1) = A' at hl3 hat ⊢
      by_cases h2 : (i : Int) ∈ gone
      · have hb2 : decide (0 ≤ atZ gone (i : Int)) = false := decide_eq_false fun h => hneg.1 h h2
        rw [if_pos h2, List.append_nil] at hsn
        repeat' (first | fail | ((first | ((with_reducible (first | apply oA | apply oB)); exact rfl; intro K hK) | (refine hK _ ?_; clear hK K) | ((with_reducible (first | apply oG | apply oH)); iterate 3 exact rfl) | ((with_reducible apply oI); (iterate 2 exact rfl); intro K hK) | (with_reducible (first | apply wI | apply wJ | apply wK))); try simp only [go_sem, simprocAttr, hbk, hl3, hat, hb2]) | fail | (with_reducible (first | apply oC | apply oJ | exact oK | apply wA | apply wB | apply wC hX hC | apply wD hX hC | apply wE hX hC hmix | apply wF hX hC hmix | apply wG | apply wH | apply And.intro)) | ((with_reducible refine oD ?_ ?_); first | fail | kernel_rfl) | ((with_reducible (first | apply oE | apply oF)); (iterate 3 exact rfl); all_goals (intro h; first | (exact absurd h (by decide)) | ((try simp only [go_sem, simprocAttr, hbk, hl3, hat, hb2] at h); (try with_reducible intro K hK); simp only [go_sem, simprocAttr, hbk, hl3, hat, hb2]))) | ((first | ((with_reducible apply wL); exact rfl) | ((with_reducible apply wM); exact rfl)); all_goals (try ((with_reducible intro h); first | (exact absurd h (by decide)) | (try simp only [go_sem, simprocAttr, hbk, hl3, hat, hb2] at h)))) | omega | ((first | first | refine acall_simple hX hC hP (speaks16_spec) rfl rfl rfl (by simp only [go_sem, simprocAttr, hbk, hl3, hat, hb2]) rfl ?_ | refine acall_simple hX hC hP (hGr) rfl rfl rfl (by simp only [go_sem, simprocAttr, hbk, hl3, hat, hb2]) rfl ?_ | refine acall_simple hX hC hP (hRu) rfl rfl rfl (by simp only [go_sem, simprocAttr, hbk, hl3, hat, hb2]) rfl ?_); try simp only [go_sem, simprocAttr, hbk, hl3, hat, hb2]) | (intro h))
        refine ⟨i + 1, by omega, ?_, by omega⟩
        rw [hsn, hAA]
        refine Le.of ?_ ?_ <;> simp [go_sem, simprocAttr, hbk, hl3, hat, hb2]
      · have hb2 : decide (0 ≤ atZ gone (i : Int)) = true := decide_eq_true (hneg.2 h2)
        rw [if_neg h2] at hsn
        repeat' (first | fail | ((first | ((with_reducible (first | apply oA | apply oB)); exact rfl; intro K hK) | (refine hK _ ?_; clear hK K) | ((with_reducible (first | apply oG | apply oH)); iterate 3 exact rfl) | ((with_reducible apply oI); (iterate 2 exact rfl); intro K hK) | (with_reducible (first | apply wI | apply wJ | apply wK))); try simp only [go_sem, simprocAttr, hbk, hl3, hat, hb2, hsl]) | (show awp _ (.region 19 _ _) _ _; (refine awp_mvB hX 8 1 84 200 rfl rfl rfl (by first | exact .inl rfl | exact .inr rfl) (by decide) (by decide) ?_; simp only [LA.app, ASt.put, ASt.kill, subT, rmk, putM, rml, kl, AV.sub, AV.subs, AObj.sub, List.set_cons_zero, List.set_cons_succ, go_sem, simprocAttr, hbk, hl3, hat, hb2, hsl])) | (with_reducible (first | apply oC | apply oJ | exact oK | apply wA | apply wB | apply wC hX hC | apply wD hX hC | apply wE hX hC hmix | apply wF hX hC hmix | apply wG | apply wH | apply And.intro)) | ((with_reducible refine oD ?_ ?_); first | fail | kernel_rfl) | ((with_reducible (first | apply oE | apply oF)); (iterate 3 exact rfl); all_goals (intro h; first | (exact absurd h (by decide)) | ((try simp only [go_sem, simprocAttr, hbk, hl3, hat, hb2, hsl] at h); (try with_reducible intro K hK); simp only [go_sem, simprocAttr, hbk, hl3, hat, hb2, hsl]))) | ((first | ((with_reducible apply wL); exact rfl) | ((with_reducible apply wM); exact rfl)); all_goals (try ((with_reducible intro h); first | (exact absurd h (by decide)) | (try simp only [go_sem, simprocAttr, hbk, hl3, hat, hb2, hsl] at h)))) | omega | ((first | first | refine acall_simple hX hC hP (speaks16_spec) rfl rfl rfl (by simp only [go_sem, simprocAttr, hbk, hl3, hat, hb2, hsl]) rfl ?_ | refine acall_simple hX hC hP (hGr) rfl rfl rfl (by simp only [go_sem, simprocAttr, hbk, hl3, hat, hb2, hsl]) rfl ?_ | refine acall_simple hX hC hP (hRu) rfl rfl rfl (by simp only [go_sem, simprocAttr, hbk, hl3, hat, hb2, hsl]) rfl ?_); try simp only [go_sem, simprocAttr, hbk, hl3, hat, hb2, hsl]) | (intro h))
        refine ⟨i + 1, by omega, ?_, by omega⟩
        rw [hsn, hAA]
        refine Le.of ?_ ?_ <;> simp [go_sem, simprocAttr, hbk, hl3, hat, hb2, hsl]
        rfl
  have hb : decide ((i : Int) < (g.es.length : Int)) = false := decide_eq_false (by omega)
  obtain rfl : i = g.es.length := by omega
  have hsl : (subE gone g.es g.es.length).length ≤ g.es.length := by
    rw [subE_len]
    unfold atN kpt
    refine Nat.le_trans (List.length_filter_le _ _) ?_
    simp
  have hxe : (subG g gone).es = subE gone g.es g.es.length := rfl
  have hxn : (subG g gone).n = g.n := rfl
  have hGd := refGoodA_spec (subG g gone) (by rw [hxe]; omega)
  by_cases hc : (chkG (subG g gone)).1 = 0
  rotate_left
  · rw [decide_eq_false hc] at hGd
    repeat' (first | fail | ((first | ((with_reducible (first | apply oA | apply oB)); exact rfl; intro K hK) | (refine hK _ ?_; clear hK K) | ((with_reducible (first | apply oG | apply oH)); iterate 3 exact rfl) | ((with_reducible apply oI); (iterate 2 exact rfl); intro K hK) | (with_reducible (first | apply wI | apply wJ | apply wK))); try simp only [go_sem, simprocAttr, hb, hxe, hxn]) | fail | (with_reducible (first | apply oC | apply oJ | exact oK | apply wA | apply wB | apply wC hX hC | apply wD hX hC | apply wE hX hC hmix | apply wF hX hC hmix | apply wG | apply wH | apply And.intro)) | ((with_reducible refine oD ?_ ?_); first | fail | kernel_rfl) | ((with_reducible (first | apply oE | apply oF)); (iterate 3 exact rfl); all_goals (intro h; first | (exact absurd h (by decide)) | ((try simp only [go_sem, simprocAttr, hb, hxe, hxn] at h); (try with_reducible intro K hK); simp only [go_sem, simprocAttr, hb, hxe, hxn]))) | ((first | ((with_reducible apply wL); exact rfl) | ((with_reducible apply wM); exact rfl)); all_goals (try ((with_reducible intro h); first | (exact absurd h (by decide)) | (try simp only [go_sem, simprocAttr, hb, hxe, hxn] at h)))) | omega | ((first | first | (refine acall_look hX hC hP (hGd) rfl rfl rfl ?_ ?_ rfl ?_; iterate 2 (focus (simp only [go_sem, simprocAttr, hb, hxe, hxn]; done)))); try simp only [go_sem, simprocAttr, hb, hxe, hxn]) | (intro h))
  rw [decide_eq_true hc] at hGd
  have hsub := sub_runs (gone := gone) hrun hc
  obtain ⟨b', hr'⟩ := exB (subG g gone) (subP p gone)
  have hlq : ∀ l ∈ (subP p gone).outs, l.length ≤ 200 := fun l hl => by
    obtain ⟨l', h2, rfl⟩ := List.mem_map.1 hl
    have := b4 l' h2
    unfold subL
    rw [List.length_map]
    exact Nat.le_trans (List.length_filter_le _ _) this
  have hql : (subP p gone).outs.length ≤ 100 := by show (p.outs.map _).length ≤ 100; rw [List.length_map]; exact b3
  have hqo : (subP p gone).ord = p.ord := rfl
  have hpl : PlLen (subP p gone) := ⟨by rw [hqo]; omega, by omega, fun l hl => by have := hlq l hl; omega⟩
  have hRn := sweepRun_spec (subG g gone) (by rw [hxe]; omega) (subP p gone) hpl b' hr'
  have hAu := augment_spec (subG g gone) (by rw [hxe]; omega) (subP p gone) hpl (by rw [hqo]; omega) (by omega) (fun l hl => by have := hlq l hl; omega) b' hr'
  rw [runRes_run hr' hsub] at hRn
  simp only at hRn
  have hco := augR_code hr' hsub
  generalize augR b' (subG g gone) (subP p gone) = AR at hAu hco
  have hov : (subP p gone).outs = p.outs.map (subL gone) := rfl
  have hal := atL_len (gone := gone) (m := g.es.length) (i := g.es.length)
  repeat' (first | fail | ((first | ((with_reducible (first | apply oA | apply oB)); exact rfl; intro K hK) | (refine hK _ ?_; clear hK K) | ((with_reducible (first | apply oG | apply oH)); iterate 3 exact rfl) | ((with_reducible apply oI); (iterate 2 exact rfl); intro K hK) | (with_reducible (first | apply wI | apply wJ | apply wK))); try simp only [go_sem, simprocAttr, hb, hxe, hxn]) | (show awp _ (.seq (.region 23 _ _) _) _ _; (refine awp_newB hX 13 1 201 (.tip 32 1 []) rfl rfl rfl (by simp only [go_sem, simprocAttr, hb, hxe, hxn]) (by decide) (by simp [go_sem, simprocAttr, hb, hxe, hxn]) ⟨32, 1, by decide, .inr rfl⟩ ?_; simp only [LA.app, ASt.put, ASt.kill, subT, rmk, putM, rml, kl, AV.sub, AV.subs, AObj.sub, List.set_cons_zero, List.set_cons_succ, go_sem, simprocAttr, hb, hxe, hxn])) | (with_reducible (first | apply oC | apply oJ | exact oK | apply wA | apply wB | apply wC hX hC | apply wD hX hC | apply wE hX hC hmix | apply wF hX hC hmix | apply wG | apply wH | apply And.intro)) | ((with_reducible refine oD ?_ ?_); first | fail | kernel_rfl) | ((with_reducible (first | apply oE | apply oF)); (iterate 3 exact rfl); all_goals (intro h; first | (exact absurd h (by decide)) | ((try simp only [go_sem, simprocAttr, hb, hxe, hxn] at h); (try with_reducible intro K hK); simp only [go_sem, simprocAttr, hb, hxe, hxn]))) | ((first | ((with_reducible apply wL); exact rfl) | ((with_reducible apply wM); exact rfl)); all_goals (try ((with_reducible intro h); first | (exact absurd h (by decide)) | (try simp only [go_sem, simprocAttr, hb, hxe, hxn] at h)))) | omega | ((first | first | (refine acall_look hX hC hP (hGd) rfl rfl rfl ?_ ?_ rfl ?_; iterate 2 (focus (simp only [go_sem, simprocAttr, hb, hxe, hxn]; done)))); try simp only [go_sem, simprocAttr, hb, hxe, hxn]) | (intro h))
  clear hb
  refine awp_loopP (fun x : Nat => x ≤ p.outs.length) (fun x => ⟨[(7, .ref 44), (8, .ptr 8 0), (13, .ptr 13 0), (94, .d (.sl 1 (vI p.outs))), (95, eN p.outs.length), (96, eN x)], [(44, .own 3 1 ((atL gone g.es.length g.es.length).map rI)), (8, .box [eN g.n, .ref 200]), (200, .tip 53 2 ((subE gone g.es g.es.length).map rE)), (13, .box [.d (sI p.ord), .ref 201]), (201, .tip 32 1 (vI ((p.outs.take x).map (subL gone))))]⟩) (fun x => p.outs.length - x) 0 (by omega) ?_ ?_
  · refine Le.of ?_ ?_ <;> simp [go_sem, simprocAttr, vI]
  rintro x hx
  rcases Nat.lt_or_ge x p.outs.length with hxl | hxg
  · have hb : decide ((x : Int) < (p.outs.length : Int)) = true := decide_eq_true (by omega)
    have hv := vI_getD hxl
    have hll := b4 _ (getD_memX (d := []) hxl)
    have hlm : ∀ e ∈ p.outs.getD x [], 0 ≤ e ∧ e < g.es.length := fun e he => by
      obtain ⟨k, rfl, h2, _⟩ := outZ_mem ((hpo.2.2 x (by rw [← hpo.1]; exact hxl)).mem_iff.1 he)
      omega
    have hnx : vI ((p.outs.take (x + 1)).map (subL gone)) = vI ((p.outs.take x).map (subL gone)) ++ [[sI (subL gone (p.outs.getD x []))]] := by
      rw [take_nextX (d := []) hxl]; simp [vI]
    have htl : ((p.outs.take x).map (subL gone)).length = x := by rw [List.length_map, List.length_take]; omega
    generalize p.outs.getD x [] = l at hv hll hlm hnx
    repeat' (first | fail | ((first | ((with_reducible (first | apply oA | apply oB)); exact rfl; intro K hK) | (refine hK _ ?_; clear hK K) | ((with_reducible (first | apply oG | apply oH)); iterate 3 exact rfl) | ((with_reducible apply oI); (iterate 2 exact rfl); intro K hK) | (with_reducible (first | apply wI | apply wJ | apply wK))); try simp only [go_sem, simprocAttr, hb, hv]) | fail | (with_reducible (first | apply oC | apply oJ | exact oK | apply wA | apply wB | apply wC hX hC | apply wD hX hC | apply wE hX hC hmix | apply wF hX hC hmix | apply wG | apply wH | apply And.intro)) | ((with_reducible refine oD ?_ ?_); first | fail | kernel_rfl) | ((with_reducible (first | apply oE | apply oF)); (iterate 3 exact rfl); all_goals (intro h; first | (exact absurd h (by decide)) | ((try simp only [go_sem, simprocAttr, hb, hv] at h); (try with_reducible intro K hK); simp only [go_sem, simprocAttr, hb, hv]))) | ((first | ((with_reducible apply wL); exact rfl) | ((with_reducible apply wM); exact rfl)); all_goals (try ((with_reducible intro h); first | (exact absurd h (by decide)) | (try simp only [go_sem, simprocAttr, hb, hv] at h)))) | omega | ((first | first | (refine acall_look hX hC hP (hGd) rfl rfl rfl ?_ ?_ rfl ?_; iterate 2 (focus (simp only [go_sem, simprocAttr, hb, hv]; done)))); try simp only [go_sem, simprocAttr, hb, hv]) | (intro h))
    (refine awp_mv hX 16 100 118 (by simp only [go_sem, simprocAttr, hb, hv]) rfl (by first | exact .inl rfl | exact .inr rfl) (by decide) ?_; simp only [go_sem, simprocAttr, hb, hv])
    clear hb
    refine awp_loopP (fun j : Nat => j ≤ l.length) (fun j => ⟨[(7, .ref 44), (8, .ptr 8 0), (13, .ptr 13 0), (16, .ref 118), (94, .d (.sl 1 (vI p.outs))), (95, eN p.outs.length), (96, eN x), (101, .d (sI l)), (102, eN l.length), (103, eN j)], [(44, .own 3 1 ((atL gone g.es.length g.es.length).map rI)), (8, .box [eN g.n, .ref 200]), (200, .tip 53 2 ((subE gone g.es g.es.length).map rE)), (13, .box [.d (sI p.ord), .ref 201]), (201, .tip 32 1 (vI ((p.outs.take x).map (subL gone)))), (118, .tip 3 1 ((subL gone (l.take j)).map rI))]⟩) (fun j => l.length - j) 0 (by omega) ?_ ?_
    · refine Le.of ?_ ?_ <;> simp [go_sem, simprocAttr, subL]
    rintro j hj
    rcases Nat.lt_or_ge j l.length with hjl | hjg
    · have hbj : decide ((j : Int) < (l.length : Int)) = true := decide_eq_true (by omega)
      have hsn := subL_snoc (gone := gone) hjl
      have hin := hlm _ (getD_memX (d := 0) hjl)
      have hsl2 : (subL gone (l.take j)).length ≤ j := by
        unfold subL
        rw [List.length_map]
        refine Nat.le_trans (List.length_filter_le _ _) ?_
        rw [List.length_take]; omega
      generalize hgi : l.getD j 0 = v at hsn hin
      obtain ⟨e, rfl⟩ : ∃ e : Nat, v = e := ⟨v.toNat, by omega⟩
      have hat := atL_at (gone := gone) (i := e) (m := g.es.length) (by omega)
      have hneg := atZ_neg (gone := gone) (i := (e : Int))
      have hel : e < g.es.length := by omega
      generalize subL gone (l.take j) = M at hsn hsl2
      by_cases h2 : (e : Int) ∈ gone
      · have hb2 : decide (0 ≤ atZ gone (e : Int)) = false := decide_eq_false fun h => hneg.1 h h2
        rw [if_pos h2, List.append_nil] at hsn
        repeat' (first | fail | ((first | ((with_reducible (first | apply oA | apply oB)); exact rfl; intro K hK) | (refine hK _ ?_; clear hK K) | ((with_reducible (first | apply oG | apply oH)); iterate 3 exact rfl) | ((with_reducible apply oI); (iterate 2 exact rfl); intro K hK) | (with_reducible (first | apply wI | apply wJ | apply wK))); try simp only [go_sem, simprocAttr, hbj, hgi, hal, hat, hb2]) | fail | (with_reducible (first | apply oC | apply oJ | exact oK | apply wA | apply wB | apply wC hX hC | apply wD hX hC | apply wE hX hC hmix | apply wF hX hC hmix | apply wG | apply wH | apply And.intro)) | ((with_reducible refine oD ?_ ?_); first | fail | kernel_rfl) | ((with_reducible (first | apply oE | apply oF)); (iterate 3 exact rfl); all_goals (intro h; first | (exact absurd h (by decide)) | ((try simp only [go_sem, simprocAttr, hbj, hgi, hal, hat, hb2] at h); (try with_reducible intro K hK); simp only [go_sem, simprocAttr, hbj, hgi, hal, hat, hb2]))) | ((first | ((with_reducible apply wL); exact rfl) | ((with_reducible apply wM); exact rfl)); all_goals (try ((with_reducible intro h); first | (exact absurd h (by decide)) | (try simp only [go_sem, simprocAttr, hbj, hgi, hal, hat, hb2] at h)))) | omega | ((first | first | (refine acall_look hX hC hP (hGd) rfl rfl rfl ?_ ?_ rfl ?_; iterate 2 (focus (simp only [go_sem, simprocAttr, hbj, hgi, hal, hat, hb2]; done)))); try simp only [go_sem, simprocAttr, hbj, hgi, hal, hat, hb2]) | (intro h))
        refine ⟨j + 1, by omega, ?_, by omega⟩
        rw [hsn]
        refine Le.of ?_ ?_ <;> simp [go_sem, simprocAttr, hbj, hgi, hal, hat, hb2]
      · have hb2 : decide (0 ≤ atZ gone (e : Int)) = true := decide_eq_true (hneg.2 h2)
        rw [if_neg h2] at hsn
        repeat' (first | fail | ((first | ((with_reducible (first | apply oA | apply oB)); exact rfl; intro K hK) | (refine hK _ ?_; clear hK K) | ((with_reducible (first | apply oG | apply oH)); iterate 3 exact rfl) | ((with_reducible apply oI); (iterate 2 exact rfl); intro K hK) | (with_reducible (first | apply wI | apply wJ | apply wK))); try simp only [go_sem, simprocAttr, hbj, hgi, hal, hat, hb2]) | fail | (with_reducible (first | apply oC | apply oJ | exact oK | apply wA | apply wB | apply wC hX hC | apply wD hX hC | apply wE hX hC hmix | apply wF hX hC hmix | apply wG | apply wH | apply And.intro)) | ((with_reducible refine oD ?_ ?_); first | fail | kernel_rfl) | ((with_reducible (first | apply oE | apply oF)); (iterate 3 exact rfl); all_goals (intro h; first | (exact absurd h (by decide)) | ((try simp only [go_sem, simprocAttr, hbj, hgi, hal, hat, hb2] at h); (try with_reducible intro K hK); simp only [go_sem, simprocAttr, hbj, hgi, hal, hat, hb2]))) | ((first | ((with_reducible apply wL); exact rfl) | ((with_reducible apply wM); exact rfl)); all_goals (try ((with_reducible intro h); first | (exact absurd h (by decide)) | (try simp only [go_sem, simprocAttr, hbj, hgi, hal, hat, hb2] at h)))) | omega | ((first | first | (refine acall_look hX hC hP (hGd) rfl rfl rfl ?_ ?_ rfl ?_; iterate 2 (focus (simp only [go_sem, simprocAttr, hbj, hgi, hal, hat, hb2]; done)))); try simp only [go_sem, simprocAttr, hbj, hgi, hal, hat, hb2]) | (intro h))
        refine ⟨j + 1, by omega, ?_, by omega⟩
        rw [hsn]
        refine Le.of ?_ ?_ <;> simp [go_sem, simprocAttr, hbj, hgi, hal, hat, hb2, rI]
    · have hbj : decide ((j : Int) < (l.length : Int)) = false := decide_eq_false (by omega)
      obtain rfl : j = l.length := by omega
      rw [List.take_length]
      repeat' (first | fail | ((first | ((with_reducible (first | apply oA | apply oB)); exact rfl; intro K hK) | (refine hK _ ?_; clear hK K) | ((with_reducible (first | apply oG | apply oH)); iterate 3 exact rfl) | ((with_reducible apply oI); (iterate 2 exact rfl); intro K hK) | (with_reducible (first | apply wI | apply wJ | apply wK))); try simp only [go_sem, simprocAttr, hbj, htl]) | (show awp _ (.region 34 _ _) _ _; (refine awp_mvB hX 13 1 124 201 rfl rfl rfl (by first | exact .inl rfl | exact .inr rfl) (by decide) (by decide) ?_; simp only [LA.app, ASt.put, ASt.kill, subT, rmk, putM, rml, kl, AV.sub, AV.subs, AObj.sub, List.set_cons_zero, List.set_cons_succ, go_sem, simprocAttr, hbj, htl])) | (with_reducible (first | apply oC | apply oJ | exact oK | apply wA | apply wB | apply wC hX hC | apply wD hX hC | apply wE hX hC hmix | apply wF hX hC hmix | apply wG | apply wH | apply And.intro)) | ((with_reducible refine oD ?_ ?_); first | fail | kernel_rfl) | ((with_reducible (first | apply oE | apply oF)); (iterate 3 exact rfl); all_goals (intro h; first | (exact absurd h (by decide)) | ((try simp only [go_sem, simprocAttr, hbj, htl] at h); (try with_reducible intro K hK); simp only [go_sem, simprocAttr, hbj, htl]))) | ((first | ((with_reducible apply wL); exact rfl) | ((with_reducible apply wM); exact rfl)); all_goals (try ((with_reducible intro h); first | (exact absurd h (by decide)) | (try simp only [go_sem, simprocAttr, hbj, htl] at h)))) | omega | ((first | first | (refine acall_look hX hC hP (hGd) rfl rfl rfl ?_ ?_ rfl ?_; iterate 2 (focus (simp only [go_sem, simprocAttr, hbj, htl]; done)))); try simp only [go_sem, simprocAttr, hbj, htl]) | (intro h))
      refine ⟨x + 1, by omega, ?_, by omega⟩
      rw [hnx]
      refine Le.of ?_ ?_ <;> simp [go_sem, simprocAttr, hbj, htl]
  have hb : decide ((x : Int) < (p.outs.length : Int)) = false := decide_eq_false (by omega)
  obtain rfl : x = p.outs.length := by omega
  rw [List.take_length]
  rcases hco with hco | hco
  · 
    repeat' (first | fail | ((first | ((with_reducible (first | apply oA | apply oB)); exact rfl; intro K hK) | (refine hK _ ?_; clear hK K) | ((with_reducible (first | apply oG | apply oH)); iterate 3 exact rfl) | ((with_reducible apply oI); (iterate 2 exact rfl); intro K hK) | (with_reducible (first | apply wI | apply wJ | apply wK))); try simp only [go_sem, simprocAttr, hb, hxe, hxn, hqo, hov, hco]) | fail | (with_reducible (first | apply oC | apply oJ | exact oK | apply wA | apply wB | apply wC hX hC | apply wD hX hC | apply wE hX hC hmix | apply wF hX hC hmix | apply wG | apply wH | apply And.intro)) | ((with_reducible refine oD ?_ ?_); first | fail | kernel_rfl) | ((with_reducible (first | apply oE | apply oF)); (iterate 3 exact rfl); all_goals (intro h; first | (exact absurd h (by decide)) | ((try simp only [go_sem, simprocAttr, hb, hxe, hxn, hqo, hov, hco] at h); (try with_reducible intro K hK); simp only [go_sem, simprocAttr, hb, hxe, hxn, hqo, hov, hco]))) | ((first | ((with_reducible apply wL); exact rfl) | ((with_reducible apply wM); exact rfl)); all_goals (try ((with_reducible intro h); first | (exact absurd h (by decide)) | (try simp only [go_sem, simprocAttr, hb, hxe, hxn, hqo, hov, hco] at h)))) | omega | ((first | first | (refine acall_look hX hC hP (hRn) rfl rfl rfl ?_ ?_ rfl ?_; iterate 2 (focus (simp only [go_sem, simprocAttr, hb, hxe, hxn, hqo, hov, hco]; done))) | (refine acall_look hX hC hP (hAu) rfl rfl rfl ?_ ?_ rfl ?_; iterate 2 (focus (simp only [go_sem, simprocAttr, hb, hxe, hxn, hqo, hov, hco]; done)))); try simp only [go_sem, simprocAttr, hb, hxe, hxn, hqo, hov, hco]) | (intro h))
  · 
    repeat' (first | fail | ((first | ((with_reducible (first | apply oA | apply oB)); exact rfl; intro K hK) | (refine hK _ ?_; clear hK K) | ((with_reducible (first | apply oG | apply oH)); iterate 3 exact rfl) | ((with_reducible apply oI); (iterate 2 exact rfl); intro K hK) | (with_reducible (first | apply wI | apply wJ | apply wK))); try simp only [go_sem, simprocAttr, hb, hxe, hxn, hqo, hov, hco]) | fail | (with_reducible (first | apply oC | apply oJ | exact oK | apply wA | apply wB | apply wC hX hC | apply wD hX hC | apply wE hX hC hmix | apply wF hX hC hmix | apply wG | apply wH | apply And.intro)) | ((with_reducible refine oD ?_ ?_); first | fail | kernel_rfl) | ((with_reducible (first | apply oE | apply oF)); (iterate 3 exact rfl); all_goals (intro h; first | (exact absurd h (by decide)) | ((try simp only [go_sem, simprocAttr, hb, hxe, hxn, hqo, hov, hco] at h); (try with_reducible intro K hK); simp only [go_sem, simprocAttr, hb, hxe, hxn, hqo, hov, hco]))) | ((first | ((with_reducible apply wL); exact rfl) | ((with_reducible apply wM); exact rfl)); all_goals (try ((with_reducible intro h); first | (exact absurd h (by decide)) | (try simp only [go_sem, simprocAttr, hb, hxe, hxn, hqo, hov, hco] at h)))) | omega | ((first | first | (refine acall_look hX hC hP (hRn) rfl rfl rfl ?_ ?_ rfl ?_; iterate 2 (focus (simp only [go_sem, simprocAttr, hb, hxe, hxn, hqo, hov, hco]; done))) | (refine acall_look hX hC hP (hAu) rfl rfl rfl ?_ ?_ rfl ?_; iterate 2 (focus (simp only [go_sem, simprocAttr, hb, hxe, hxn, hqo, hov, hco]; done)))); try simp only [go_sem, simprocAttr, hb, hxe, hxn, hqo, hov, hco]) | (intro h))
end Go.Ab
end
