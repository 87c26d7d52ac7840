/- A part of the proof. -/
import Derived.Test.YtilamojcledkaaaL2P11
set_option linter.unusedSimpArgs false
set_option linter.unusedVariables false
section
namespace Go.Ab
open Go.Proofs
attribute [local congr] ACall.congr
set_option maxRecDepth 10000

/-- The first of so many of which something doesn't hold; -1: it holds of all. -/
def firstI (n : Nat) (holds : Nat → Bool) : Int := findI (fun i => !holds i) (List.range n)
theorem first_spec {m : List (Nat × AObj)} (hR : Robs m) (f : Nat) (fs caps : List AV) (holds : Nat → Bool) (n : Nat) (hl : n ≤ 9223372036854775807) (hf : ∀ i : Nat, i < n → Spec Try.prog f (Args (fs ++ eN i :: caps)) m (eB (holds i)) m) :
    Spec Try.prog 36 (Args [eN n, .fn f fs caps]) m (eN (firstI n holds)) m := by
  (refine Spec.intro (C := T.cfg [] []) (rs := [.t 4]) (T.cfg_ok _ _) Try.func36 rfl rfl Try.ntmps36 Try.results36 (fun p hp => ⟨(Robs.low hR p hp).1, Robs.nest hR p hp⟩) (fun p hp => ⟨(Robs.low hR p hp).2, Robs.nest hR p hp⟩) (by kernel_rfl) ?_; intro X hX hP hC hXn hXm vals hA; refine ⟨_, by simp, hA, ?_⟩; have hmix : X.P.follows .mixedOrders = true := (by rw [hP]; exact T.mixed); clear hXn hXm)
  repeat' (first | ((first | ((with_reducible (first | apply oA | apply oB)); exact rfl; intro K hK) | (refine hK _ ?_; clear hK K) | ((with_reducible (first | apply oG | apply oH)); iterate 3 exact rfl) | ((with_reducible apply oI); (iterate 2 exact rfl); intro K hK) | (with_reducible (first | apply wI | apply wJ | apply wK))); try simp only [go_sem, simprocAttr]) | fail | (with_reducible (first | apply oC | apply oJ | exact oK | apply wA | apply wB | apply wC hX hC | apply wD hX hC | apply wE hX hC hmix | apply wF hX hC hmix | apply wG | apply wH | apply And.intro)) | ((with_reducible refine oD ?_ ?_); first | fail | kernel_rfl) | ((with_reducible (first | apply oE | apply oF)); (iterate 3 exact rfl); all_goals (intro h; first | (exact absurd h (by decide)) | ((try simp only [go_sem, simprocAttr] at h); (try with_reducible intro K hK); simp only [go_sem, simprocAttr]))) | ((first | ((with_reducible apply wL); exact rfl) | ((with_reducible apply wM); exact rfl)); all_goals (try ((with_reducible intro h); first | (exact absurd h (by decide)) | (try simp only [go_sem, simprocAttr] at h)))) | omega | ((first | fail); try simp only [go_sem, simprocAttr]) | (intro h))
  refine awp_loopP (fun k : Nat => k ≤ n ∧ ∀ j, j < k → holds j = true) (fun k => ⟨[(1, .fn f fs caps), (6, eN n), (7, eN k)], m⟩) (fun k => n - k) 0 (by simp) ?_ ?_
  · (refine ⟨leT_spec ?_, fun _ _ h => h⟩; simp [go_sem, simprocAttr])
  rintro k ⟨hk, hg⟩
  rcases Nat.lt_or_ge k n with hlt | hge
  · have hb : decide ((k : Int) < (n : Int)) = true := decide_eq_true (by omega)
    have hf' := hf k hlt
    repeat' (first | ((first | ((with_reducible (first | apply oA | apply oB)); exact rfl; intro K hK) | (refine hK _ ?_; clear hK K) | ((with_reducible (first | apply oG | apply oH)); iterate 3 exact rfl) | ((with_reducible apply oI); (iterate 2 exact rfl); intro K hK) | (with_reducible (first | apply wI | apply wJ | apply wK))); try simp only [go_sem, simprocAttr, hb]) | fail | (with_reducible (first | apply oC | apply oJ | exact oK | apply wA | apply wB | apply wC hX hC | apply wD hX hC | apply wE hX hC hmix | apply wF hX hC hmix | apply wG | apply wH | apply And.intro)) | ((with_reducible refine oD ?_ ?_); first | fail | kernel_rfl) | ((with_reducible (first | apply oE | apply oF)); (iterate 3 exact rfl); all_goals (intro h; first | (exact absurd h (by decide)) | ((try simp only [go_sem, simprocAttr, hb] at h); (try with_reducible intro K hK); simp only [go_sem, simprocAttr, hb]))) | ((first | ((with_reducible apply wL); exact rfl) | ((with_reducible apply wM); exact rfl)); all_goals (try ((with_reducible intro h); first | (exact absurd h (by decide)) | (try simp only [go_sem, simprocAttr, hb] at h)))) | omega | ((first | (first | (refine acall_same hX hC hP hR (hf') rfl rfl rfl ?_ ?_ rfl rfl ?_; (focus (simp only [go_sem, simprocAttr, hb]; done)); (focus (first | (intro p hp; exact mem_look (Robs.nd hR) hp) | (simp [go_sem, simprocAttr, hb]; done)))) | (refine acall_same hX hC hP hR (hf') rfl rfl rfl ?_ ?_ ?_ rfl ?_; (focus (simp only [go_sem, simprocAttr, hb]; done)); (focus (first | (intro p hp; exact mem_look (Robs.nd hR) hp) | (simp [go_sem, simprocAttr, hb]; done))); (focus (simp [go_sem, simprocAttr, hb]; done))))); try simp only [go_sem, simprocAttr, hb]) | (intro h))
    · refine (findI_at (d := 0) (by simpa using hlt) (fun j hj => ?_) ?_).symm
      · rw [range_getD (by omega), hg j hj]; rfl
      · rw [range_getD hlt, h]; rfl
    · exact leR_robs hR
    · refine ⟨k + 1, ⟨by omega, fun j hj => ?_⟩, ?_, by omega⟩
      · by_cases hjk : j = k
        · subst hjk; exact h
        · exact hg j (by omega)
      · (refine ⟨leT_spec ?_, fun _ _ h => h⟩; simp [go_sem, simprocAttr, hb])
  · have hb : decide ((k : Int) < (n : Int)) = false := decide_eq_false (by omega)
    repeat' (first | ((first | ((with_reducible (first | apply oA | apply oB)); exact rfl; intro K hK) | (refine hK _ ?_; clear hK K) | ((with_reducible (first | apply oG | apply oH)); iterate 3 exact rfl) | ((with_reducible apply oI); (iterate 2 exact rfl); intro K hK) | (with_reducible (first | apply wI | apply wJ | apply wK))); try simp only [go_sem, simprocAttr, hb]) | fail | (with_reducible (first | apply oC | apply oJ | exact oK | apply wA | apply wB | apply wC hX hC | apply wD hX hC | apply wE hX hC hmix | apply wF hX hC hmix | apply wG | apply wH | apply And.intro)) | ((with_reducible refine oD ?_ ?_); first | fail | kernel_rfl) | ((with_reducible (first | apply oE | apply oF)); (iterate 3 exact rfl); all_goals (intro h; first | (exact absurd h (by decide)) | ((try simp only [go_sem, simprocAttr, hb] at h); (try with_reducible intro K hK); simp only [go_sem, simprocAttr, hb]))) | ((first | ((with_reducible apply wL); exact rfl) | ((with_reducible apply wM); exact rfl)); all_goals (try ((with_reducible intro h); first | (exact absurd h (by decide)) | (try simp only [go_sem, simprocAttr, hb] at h)))) | omega | ((first | (first | (refine acall_same hX hC hP hR (hf') rfl rfl rfl ?_ ?_ rfl rfl ?_; (focus (simp only [go_sem, simprocAttr, hb]; done)); (focus (first | (intro p hp; exact mem_look (Robs.nd hR) hp) | (simp [go_sem, simprocAttr, hb]; done)))) | (refine acall_same hX hC hP hR (hf') rfl rfl rfl ?_ ?_ ?_ rfl ?_; (focus (simp only [go_sem, simprocAttr, hb]; done)); (focus (first | (intro p hp; exact mem_look (Robs.nd hR) hp) | (simp [go_sem, simprocAttr, hb]; done))); (focus (simp [go_sem, simprocAttr, hb]; done))))); try simp only [go_sem, simprocAttr, hb]) | (intro h))
    · refine (findI_none 0 fun j hj => ?_).symm
      rw [List.length_range] at hj
      rw [range_getD hj, hg j (by omega)]; rfl
    · exact leR_robs hR
/-- Is a line one that may not be? -/
def badLn (l : List Pt) : Bool := decide (l.length < 2) || decide (8 < l.length) || l.any outP
theorem ranges1_spec (l : List Pt) (hl : l.length ≤ 9223372036854775806) : Spec Try.prog 78 (Args [.d (sP l)]) [] (eB (badLn l)) [] := by
  (refine Spec.intro (C := T.cfg [] []) (rs := [.t 2]) (T.cfg_ok _ _) Try.func78 rfl rfl Try.ntmps78 Try.results78 (by simp [AObj.isNest]) (by simp [AObj.isNest]) (by kernel_rfl) ?_; intro X hX hP hC hXn hXm vals hA; refine ⟨_, by simp, hA, ?_⟩; have hmix : X.P.follows .mixedOrders = true := (by rw [hP]; exact T.mixed); clear hXn hXm)
  repeat' (first | ((first | ((with_reducible (first | apply oA | apply oB)); exact rfl; intro K hK) | (refine hK _ ?_; clear hK K) | ((with_reducible (first | apply oG | apply oH)); iterate 3 exact rfl) | ((with_reducible apply oI); (iterate 2 exact rfl); intro K hK) | (with_reducible (first | apply wI | apply wJ | apply wK))); try simp only [go_sem, simprocAttr]) | fail | (with_reducible (first | apply oC | apply oJ | exact oK | apply wA | apply wB | apply wC hX hC | apply wD hX hC | apply wE hX hC hmix | apply wF hX hC hmix | apply wG | apply wH | apply And.intro)) | ((with_reducible refine oD ?_ ?_); first | fail | kernel_rfl) | ((with_reducible (first | apply oE | apply oF)); (iterate 3 exact rfl); all_goals (intro h; first | (exact absurd h (by decide)) | ((try simp only [go_sem, simprocAttr] at h); (try with_reducible intro K hK); simp only [go_sem, simprocAttr]))) | ((first | ((with_reducible apply wL); exact rfl) | ((with_reducible apply wM); exact rfl)); all_goals (try ((with_reducible intro h); first | (exact absurd h (by decide)) | (try simp only [go_sem, simprocAttr] at h)))) | omega | ((first | first | refine acall_simple hX hC hP (mayP_spec l hl) rfl rfl rfl (by simp only [go_sem, simprocAttr]) rfl ?_); try simp only [go_sem, simprocAttr]) | (intro h))
  · have e1 : decide (l.length < 2) = false := decide_eq_false (by omega)
    have e2 : decide (8 < l.length) = false := decide_eq_false (by omega)
    simp only [badLn, e1, e2, Bool.false_or, Bool.not_not]
  · have e2 : decide (8 < l.length) = true := decide_eq_true (by omega)
    simp only [badLn, e2, Bool.or_true, Bool.true_or]
  · have e1 : decide (l.length < 2) = true := decide_eq_true (by omega)
    simp only [badLn, e1, Bool.true_or]
/-- May all points be, and have lines as many as they may? -/
def rangesB (d : Dr) : Bool := !d.pts.any outP && !d.ls.any badLn
theorem ranges_spec (g : Gr) (d : Dr) (hp : d.pts.length ≤ 9223372036854775806) (hls : d.ls.length ≤ 9223372036854775807) (hll : ∀ l ∈ d.ls, l.length ≤ 9223372036854775806) :
    Spec Try.prog 35 (Args [.ptr 10000 0]) [(10000, lkO g d)] (eB (rangesB d)) [(10000, lkO g d)] := by
  unfold lkO
  (refine Spec.intro (C := T.cfg [] []) (rs := [.t 2]) (T.cfg_ok _ _) Try.func35 rfl rfl Try.ntmps35 Try.results35 (by simp [AObj.isNest]) (by simp [AObj.isNest]) (by kernel_rfl) ?_; intro X hX hP hC hXn hXm vals hA; refine ⟨_, by simp, hA, ?_⟩; have hmix : X.P.follows .mixedOrders = true := (by rw [hP]; exact T.mixed); clear hXn hXm)
  repeat' (first | ((first | ((with_reducible (first | apply oA | apply oB)); exact rfl; intro K hK) | (refine hK _ ?_; clear hK K) | ((with_reducible (first | apply oG | apply oH)); iterate 3 exact rfl) | ((with_reducible apply oI); (iterate 2 exact rfl); intro K hK) | (with_reducible (first | apply wI | apply wJ | apply wK))); try simp only [go_sem, simprocAttr]) | fail | (with_reducible (first | apply oC | apply oJ | exact oK | apply wA | apply wB | apply wC hX hC | apply wD hX hC | apply wE hX hC hmix | apply wF hX hC hmix | apply wG | apply wH | apply And.intro)) | ((with_reducible refine oD ?_ ?_); first | fail | kernel_rfl) | ((with_reducible (first | apply oE | apply oF)); (iterate 3 exact rfl); all_goals (intro h; first | (exact absurd h (by decide)) | ((try simp only [go_sem, simprocAttr] at h); (try with_reducible intro K hK); simp only [go_sem, simprocAttr]))) | ((first | ((with_reducible apply wL); exact rfl) | ((with_reducible apply wM); exact rfl)); all_goals (try ((with_reducible intro h); first | (exact absurd h (by decide)) | (try simp only [go_sem, simprocAttr] at h)))) | omega | ((first | first | refine acall_simple hX hC hP (mayP_spec d.pts hp) rfl rfl rfl (by simp only [go_sem, simprocAttr]) rfl ?_ | refine acall_simple hX hC hP (containsFuncLn_spec Robs.nil _ [] badLn d.ls (fun l hl => ranges1_spec l (hll l hl)) hls) rfl rfl rfl (by simp only [go_sem, simprocAttr]) rfl ?_); try simp only [go_sem, simprocAttr]) | (intro h))
  all_goals simp only [rangesB]
  · have h0 : d.pts.any outP = false := by assumption
    simp only [h0, Bool.not_false, Bool.true_and]
  · have h0 : d.pts.any outP = true := by assumption
    simp only [h0, Bool.not_true, Bool.false_and]
theorem chk0_may {g : Gr} (h : (chkG g).1 = 0) : mayB g = true := by
  cases hm : mayB g with
  | true => rfl
  | false => simp [chkG, chkOf, hm] at h
theorem rangesB_ok {d : Dr} (h : rangesB d = true) : ∀ l ∈ d.ls, 2 ≤ l.length ∧ l.length ≤ 8 := by
  intro l hl
  simp only [rangesB, Bool.and_eq_true, Bool.not_eq_true'] at h
  have := (List.any_eq_false.1 h.2) l hl
  simp only [badLn, Bool.or_eq_true, decide_eq_true_eq, not_or] at this
  omega
def drFits (g : Gr) (d : Dr) : Bool := decide ((chkG g).1 = 0) && decide ((d.pts.length : Int) = g.n) && decide (d.ls.length = g.es.length)
/-- The fault's number, its place. -/
def chkD (g : Gr) (d : Dr) : Int × Int :=
  if drFits g d = false then (1, 0) else
  if rangesB d = false then (2, 0) else
  if 0 ≤ firstI g.es.length (endL g d) then (6, firstI g.es.length (endL g d)) else
  if 0 ≤ firstI g.es.length (fun i => riseL (d.ls.getD i [])) then (7, firstI g.es.length (fun i => riseL (d.ls.getD i []))) else
  if 0 ≤ firstI d.pts.length (aloneV d) then (8, firstI d.pts.length (aloneV d)) else
  if 0 ≤ firstI g.es.length (freeL g d) then (9, firstI g.es.length (freeL g d)) else
  if 0 ≤ firstI g.es.length (apartL g d) then (17, firstI g.es.length (apartL g d)) else (0, 0)
def eFt (c : Int × Int) : AV := .agg [eN c.1, eN c.2, .d (.sl 1 [])]
attribute [go_sem] eFt
set_option maxHeartbeats 8000000 in
theorem pictureCheck_spec (g : Gr) (d : Dr) (hgl : g.es.length ≤ 1000) (hp : d.pts.length ≤ 1000) (hls : d.ls.length ≤ 1000) (hll : ∀ l ∈ d.ls, l.length ≤ 1000) :
    Spec Try.prog 13 (Args [eG g, eDr d]) [] (eFt (chkD g d)) [] := by
  have hp' : d.pts.length ≤ 9223372036854775806 := by omega
  have hls' : d.ls.length ≤ 9223372036854775807 := by omega
  have hll' : ∀ l ∈ d.ls, l.length ≤ 9223372036854775806 := fun l hl => by have := hll l hl; omega
  (refine Spec.intro (C := T.cfg [] []) (rs := [.c 4 34]) (T.cfg_ok _ _) Try.func13 rfl rfl Try.ntmps13 Try.results13 (by simp [AObj.isNest]) (by simp [AObj.isNest]) (by kernel_rfl) ?_; intro X hX hP hC hXn hXm vals hA; refine ⟨_, by simp, hA, ?_⟩; have hmix : X.P.follows .mixedOrders = true := (by rw [hP]; exact T.mixed); clear hXn hXm)
  cases hfit : drFits g d with
  | false =>
    have hc : chkD g d = (1, 0) := by rw [chkD, if_pos hfit]
    have hneg : ¬ ((chkG g).1 = 0 ∧ (d.pts.length : Int) = g.n ∧ d.ls.length = g.es.length) := fun ⟨a, b, c⟩ => by simp [drFits, a, b, c] at hfit
    repeat' (first | ((first | ((with_reducible (first | apply oA | apply oB)); exact rfl; intro K hK) | (refine hK _ ?_; clear hK K) | ((with_reducible (first | apply oG | apply oH)); iterate 3 exact rfl) | ((with_reducible apply oI); (iterate 2 exact rfl); intro K hK) | (with_reducible (first | apply wI | apply wJ | apply wK))); try simp only [go_sem, simprocAttr, hc]) | fail | (with_reducible (first | apply oC | apply oJ | exact oK | apply wA | apply wB | apply wC hX hC | apply wD hX hC | apply wE hX hC hmix | apply wF hX hC hmix | apply wG | apply wH | apply And.intro)) | ((with_reducible refine oD ?_ ?_); first | fail | kernel_rfl) | ((with_reducible (first | apply oE | apply oF)); (iterate 3 exact rfl); all_goals (intro h; first | (exact absurd h (by decide)) | ((try simp only [go_sem, simprocAttr, hc] at h); (try with_reducible intro K hK); simp only [go_sem, simprocAttr, hc]))) | ((first | ((with_reducible apply wL); exact rfl) | ((with_reducible apply wM); exact rfl)); all_goals (try ((with_reducible intro h); first | (exact absurd h (by decide)) | (try simp only [go_sem, simprocAttr, hc] at h)))) | omega | ((first | first | refine acall_simple hX hC hP (check_spec g hgl) rfl rfl rfl (by simp only [go_sem, simprocAttr, hc]) rfl ?_); try simp only [go_sem, simprocAttr, hc]) | (intro h))
    all_goals trace_state
  | true =>
    simp only [drFits, Bool.and_eq_true, decide_eq_true_eq] at hfit
    obtain ⟨⟨h0, hnp⟩, hnl⟩ := hfit
    have hfit : drFits g d = true := by simp only [drFits, h0, hnp, hnl, decide_true, Bool.and_self]
    have hm := chk0_may h0
    have hn := mayB_n hm
    have e0 : (chkG g).1 = 0 := h0
    cases hr : rangesB d with
    | false =>
      have hc : chkD g d = (2, 0) := by rw [chkD, if_neg (by rw [hfit]; simp), if_pos hr]
      repeat' (first | ((first | ((with_reducible (first | apply oA | apply oB)); exact rfl; intro K hK) | (refine hK _ ?_; clear hK K) | ((with_reducible (first | apply oG | apply oH)); iterate 3 exact rfl) | ((with_reducible apply oI); (iterate 2 exact rfl); intro K hK) | (with_reducible (first | apply wI | apply wJ | apply wK))); try simp only [go_sem, simprocAttr, hc, h0, hnl, hr]) | fail | (with_reducible (first | apply oC | apply oJ | exact oK | apply wA | apply wB | apply wC hX hC | apply wD hX hC | apply wE hX hC hmix | apply wF hX hC hmix | apply wG | apply wH | apply And.intro)) | ((with_reducible refine oD ?_ ?_); first | fail | kernel_rfl) | ((with_reducible (first | apply oE | apply oF)); (iterate 3 exact rfl); all_goals (intro h; first | (exact absurd h (by decide)) | ((try simp only [go_sem, simprocAttr, hc, h0, hnl, hr] at h); (try with_reducible intro K hK); simp only [go_sem, simprocAttr, hc, h0, hnl, hr]))) | ((first | ((with_reducible apply wL); exact rfl) | ((with_reducible apply wM); exact rfl)); all_goals (try ((with_reducible intro h); first | (exact absurd h (by decide)) | (try simp only [go_sem, simprocAttr, hc, h0, hnl, hr] at h)))) | omega | ((first | first | refine acall_simple hX hC hP (check_spec g hgl) rfl rfl rfl (by simp only [go_sem, simprocAttr, hc, h0, hnl, hr]) rfl ?_ | (refine acall_rob hX hC hP [(10000, 14)] (ranges_spec g d hp' hls' hll') rfl rfl rfl ?_ ?_ ?_ ?_ ?_ ?_ rfl rfl ?_ ?_; (focus (simp only [go_sem, simprocAttr, hc, h0, hnl, hr]; done)); (iterate 6 (focus (simp [go_sem, simprocAttr, hc, h0, hnl, hr]; done))); simp only [go_sem, simprocAttr, hc, h0, hnl, hr, List.map_cons, List.map_nil])); try simp only [go_sem, simprocAttr, hc, h0, hnl, hr]) | (intro h))
    | true =>
    have hOk : DrOk g d := ⟨hm, hnp, hnl, rangesB_ok hr⟩
    have hle : g.es.length ≤ 9223372036854775807 := by omega
    have hle2 : d.pts.length ≤ 9223372036854775807 := by omega
    have fa : Spec Try.prog 36 (Args [eN g.n, .fn 39 [.ptr 10000 0] []]) [(10000, lkO g d)] (eN (firstI d.pts.length (aloneV d))) [(10000, lkO g d)] := by
      rw [← hnp]; exact first_spec (robK g d) _ [.ptr 10000 0] [] (aloneV d) d.pts.length hle2 (fun i hi => alone_spec g d hOk i hi)
    have hc1 : chkD g d = if 0 ≤ firstI g.es.length (endL g d) then (6, firstI g.es.length (endL g d)) else
      if 0 ≤ firstI g.es.length (fun i => riseL (d.ls.getD i [])) then (7, firstI g.es.length (fun i => riseL (d.ls.getD i []))) else
      if 0 ≤ firstI d.pts.length (aloneV d) then (8, firstI d.pts.length (aloneV d)) else
      if 0 ≤ firstI g.es.length (freeL g d) then (9, firstI g.es.length (freeL g d)) else
      if 0 ≤ firstI g.es.length (apartL g d) then (17, firstI g.es.length (apartL g d)) else (0, 0) := by
      rw [chkD, if_neg (by rw [hfit]; simp), if_neg (by rw [hr]; simp)]
    generalize hcc : chkD g d = c at hc1 ⊢
    repeat' (first | ((first | ((with_reducible (first | apply oA | apply oB)); exact rfl; intro K hK) | (refine hK _ ?_; clear hK K) | ((with_reducible (first | apply oG | apply oH)); iterate 3 exact rfl) | ((with_reducible apply oI); (iterate 2 exact rfl); intro K hK) | (with_reducible (first | apply wI | apply wJ | apply wK))); try simp only [go_sem, simprocAttr, h0, hnl, hr]) | fail | (with_reducible (first | apply oC | apply oJ | exact oK | apply wA | apply wB | apply wC hX hC | apply wD hX hC | apply wE hX hC hmix | apply wF hX hC hmix | apply wG | apply wH | apply And.intro)) | ((with_reducible refine oD ?_ ?_); first | fail | kernel_rfl) | ((with_reducible (first | apply oE | apply oF)); (iterate 3 exact rfl); all_goals (intro h; first | (exact absurd h (by decide)) | ((try simp only [go_sem, simprocAttr, h0, hnl, hr] at h); (try with_reducible intro K hK); simp only [go_sem, simprocAttr, h0, hnl, hr]))) | ((first | ((with_reducible apply wL); exact rfl) | ((with_reducible apply wM); exact rfl)); all_goals (try ((with_reducible intro h); first | (exact absurd h (by decide)) | (try simp only [go_sem, simprocAttr, h0, hnl, hr] at h)))) | omega | ((first | first | refine acall_simple hX hC hP (check_spec g hgl) rfl rfl rfl (by simp only [go_sem, simprocAttr, h0, hnl, hr]) rfl ?_ | (refine acall_rob hX hC hP [(10000, 14)] (ranges_spec g d hp' hls' hll') rfl rfl rfl ?_ ?_ ?_ ?_ ?_ ?_ rfl rfl ?_ ?_; (focus (simp only [go_sem, simprocAttr, h0, hnl, hr]; done)); (iterate 6 (focus (simp [go_sem, simprocAttr, h0, hnl, hr]; done))); simp only [go_sem, simprocAttr, h0, hnl, hr, List.map_cons, List.map_nil]) | (refine acall_rob hX hC hP [(10000, 14)] (first_spec (robK g d) _ [.ptr 10000 0] [] (endL g d) g.es.length hle (fun i hi => ends'_spec g d hOk i hi)) rfl rfl rfl ?_ ?_ ?_ ?_ ?_ ?_ rfl rfl ?_ ?_; (focus (simp only [go_sem, simprocAttr, h0, hnl, hr]; done)); (iterate 6 (focus (simp [go_sem, simprocAttr, h0, hnl, hr]; done))); simp only [go_sem, simprocAttr, h0, hnl, hr, List.map_cons, List.map_nil]) | (refine acall_rob hX hC hP [(10000, 14)] (first_spec (robK g d) _ [.ptr 10000 0] [] (fun i => riseL (d.ls.getD i [])) g.es.length hle (fun i hi => rises_spec g d hOk i hi)) rfl rfl rfl ?_ ?_ ?_ ?_ ?_ ?_ rfl rfl ?_ ?_; (focus (simp only [go_sem, simprocAttr, h0, hnl, hr]; done)); (iterate 6 (focus (simp [go_sem, simprocAttr, h0, hnl, hr]; done))); simp only [go_sem, simprocAttr, h0, hnl, hr, List.map_cons, List.map_nil]) | (refine acall_rob hX hC hP [(10000, 14)] (fa) rfl rfl rfl ?_ ?_ ?_ ?_ ?_ ?_ rfl rfl ?_ ?_; (focus (simp only [go_sem, simprocAttr, h0, hnl, hr]; done)); (iterate 6 (focus (simp [go_sem, simprocAttr, h0, hnl, hr]; done))); simp only [go_sem, simprocAttr, h0, hnl, hr, List.map_cons, List.map_nil]) | (refine acall_rob hX hC hP [(10000, 14)] (first_spec (robK g d) _ [.ptr 10000 0] [] (freeL g d) g.es.length hle (fun i hi => free_spec g d hOk i hi)) rfl rfl rfl ?_ ?_ ?_ ?_ ?_ ?_ rfl rfl ?_ ?_; (focus (simp only [go_sem, simprocAttr, h0, hnl, hr]; done)); (iterate 6 (focus (simp [go_sem, simprocAttr, h0, hnl, hr]; done))); simp only [go_sem, simprocAttr, h0, hnl, hr, List.map_cons, List.map_nil]) | (refine acall_rob hX hC hP [(10000, 14)] (first_spec (robK g d) _ [.ptr 10000 0] [] (apartL g d) g.es.length hle (fun i hi => apart_spec g d hOk i hi)) rfl rfl rfl ?_ ?_ ?_ ?_ ?_ ?_ rfl rfl ?_ ?_; (focus (simp only [go_sem, simprocAttr, h0, hnl, hr]; done)); (iterate 6 (focus (simp [go_sem, simprocAttr, h0, hnl, hr]; done))); simp only [go_sem, simprocAttr, h0, hnl, hr, List.map_cons, List.map_nil])); try simp only [go_sem, simprocAttr, h0, hnl, hr]) | (intro h))
    all_goals (rw [hc1]; repeat (first | rw [if_pos (by assumption)] | rw [if_neg (by assumption)]))
end Go.Ab
end
section
namespace Go.Ab
open Go.Proofs
attribute [local congr] ACall.congr
set_option maxRecDepth 10000
set_option maxHeartbeats 4000000

theorem pcs_getD {l : List Pt} {k : Nat} (h : k + 1 < l.length) : (pcs l).getD k ((0, 0), (0, 0)) = (l.getD k (0, 0), l.getD (k + 1) (0, 0)) := by
  simp only [pcs, pcK]
  rw [List.getD_eq_getElem?_getD, List.getElem?_map, List.getElem?_range (by omega)]; rfl
theorem refOnP_spec (a b c : Pt) : Spec Try.prog 90 (Args [eP a, eP b, eP c]) [] (eB (OnV a b c)) [] := by
  rw [← on_eq]; exact refOn_spec a b c
theorem refOnL_spec (l : List Pt) (p : Pt) (hl : l.length ≤ 1000000) : Spec Try.prog 43 (Args [.d (sP l), eP p]) [] (eB (onL l p)) [] := by
  have hpl : (pcs l).length = l.length - 1 := pcs_length
  (refine Spec.intro (C := T.cfg [] []) (rs := [.t 4]) (T.cfg_ok _ _) Try.func43 rfl rfl Try.ntmps43 Try.results43 (by simp [AObj.isNest]) (by simp [AObj.isNest]) (by kernel_rfl) ?_; intro X hX hP hC hXn hXm vals hA; refine ⟨_, by simp, hA, ?_⟩; have hmix : X.P.follows .mixedOrders = true := (by rw [hP]; exact T.mixed); clear hXn hXm)
  repeat' (first | ((first | ((with_reducible (first | apply oA | apply oB)); exact rfl; intro K hK) | (refine hK _ ?_; clear hK K) | ((with_reducible (first | apply oG | apply oH)); iterate 3 exact rfl) | ((with_reducible apply oI); (iterate 2 exact rfl); intro K hK) | (with_reducible (first | apply wI | apply wJ | apply wK))); try simp only [go_sem, simprocAttr]) | fail | (with_reducible (first | apply oC | apply oJ | exact oK | apply wA | apply wB | apply wC hX hC | apply wD hX hC | apply wE hX hC hmix | apply wF hX hC hmix | apply wG | apply wH | apply And.intro)) | ((with_reducible refine oD ?_ ?_); first | fail | kernel_rfl) | ((with_reducible (first | apply oE | apply oF)); (iterate 3 exact rfl); all_goals (intro h; first | (exact absurd h (by decide)) | ((try simp only [go_sem, simprocAttr] at h); (try with_reducible intro K hK); simp only [go_sem, simprocAttr]))) | ((first | ((with_reducible apply wL); exact rfl) | ((with_reducible apply wM); exact rfl)); all_goals (try ((with_reducible intro h); first | (exact absurd h (by decide)) | (try simp only [go_sem, simprocAttr] at h)))) | omega | ((first | first | refine acall_simple hX hC hP (refOnP_spec (l.getD k (0, 0)) (l.getD (k + 1) (0, 0)) p) rfl rfl rfl (by simp only [go_sem, simprocAttr]) rfl ?_); try simp only [go_sem, simprocAttr]) | (intro h))
  refine awp_loopP (fun k : Nat => k ≤ (pcs l).length ∧ ((pcs l).take k).any (fun q => OnV q.1 q.2 p) = false) (fun k => ⟨[(0, .d (sP l)), (3, .ptr 3 0), (5, eN k)], [(3, .box [eN p.1, eN p.2])]⟩) (fun k => (pcs l).length - k) 0 (by simp) ?_ ?_
  · (refine Le.of ?_ ?_ <;> simp [go_sem, simprocAttr])
  rintro k ⟨hk, hf⟩
  rcases Nat.lt_or_ge (k + 1) l.length with hlt | hge
  · have hb : decide ((k : Int) + 1 < (l.length : Int)) = true := decide_eq_true (by omega)
    have hg := pcs_getD hlt
    have ht : (k : Int) + 1 = ((k + 1 : Nat) : Int) := rfl
    have htn : ((k : Int) + 1).toNat = k + 1 := by omega
    repeat' (first | ((first | ((with_reducible (first | apply oA | apply oB)); exact rfl; intro K hK) | (refine hK _ ?_; clear hK K) | ((with_reducible (first | apply oG | apply oH)); iterate 3 exact rfl) | ((with_reducible apply oI); (iterate 2 exact rfl); intro K hK) | (with_reducible (first | apply wI | apply wJ | apply wK))); try simp only [go_sem, simprocAttr, hb, htn]) | fail | (with_reducible (first | apply oC | apply oJ | exact oK | apply wA | apply wB | apply wC hX hC | apply wD hX hC | apply wE hX hC hmix | apply wF hX hC hmix | apply wG | apply wH | apply And.intro)) | ((with_reducible refine oD ?_ ?_); first | fail | kernel_rfl) | ((with_reducible (first | apply oE | apply oF)); (iterate 3 exact rfl); all_goals (intro h; first | (exact absurd h (by decide)) | ((try simp only [go_sem, simprocAttr, hb, htn] at h); (try with_reducible intro K hK); simp only [go_sem, simprocAttr, hb, htn]))) | ((first | ((with_reducible apply wL); exact rfl) | ((with_reducible apply wM); exact rfl)); all_goals (try ((with_reducible intro h); first | (exact absurd h (by decide)) | (try simp only [go_sem, simprocAttr, hb, htn] at h)))) | omega | ((first | first | refine acall_simple hX hC hP (refOnP_spec (l.getD k (0, 0)) (l.getD (k + 1) (0, 0)) p) rfl rfl rfl (by simp only [go_sem, simprocAttr, hb, htn]) rfl ?_); try simp only [go_sem, simprocAttr, hb, htn]) | (intro h))
    · rw [onL, any_at (d := ((0, 0), (0, 0))) (k := k) (by omega) (by rw [hg]; exact h)]
    · refine ⟨k + 1, ⟨by omega, any_next ((0, 0), (0, 0)) (by omega) hf (by rw [hg]; exact h)⟩, ?_, by omega⟩
      (refine Le.of ?_ ?_ <;> simp [go_sem, simprocAttr, hb, htn])
  · have hb : decide ((k : Int) + 1 < (l.length : Int)) = false := decide_eq_false (by omega)
    rw [List.take_of_length_le (by omega)] at hf
    repeat' (first | ((first | ((with_reducible (first | apply oA | apply oB)); exact rfl; intro K hK) | (refine hK _ ?_; clear hK K) | ((with_reducible (first | apply oG | apply oH)); iterate 3 exact rfl) | ((with_reducible apply oI); (iterate 2 exact rfl); intro K hK) | (with_reducible (first | apply wI | apply wJ | apply wK))); try simp only [go_sem, simprocAttr, hb]) | fail | (with_reducible (first | apply oC | apply oJ | exact oK | apply wA | apply wB | apply wC hX hC | apply wD hX hC | apply wE hX hC hmix | apply wF hX hC hmix | apply wG | apply wH | apply And.intro)) | ((with_reducible refine oD ?_ ?_); first | fail | kernel_rfl) | ((with_reducible (first | apply oE | apply oF)); (iterate 3 exact rfl); all_goals (intro h; first | (exact absurd h (by decide)) | ((try simp only [go_sem, simprocAttr, hb] at h); (try with_reducible intro K hK); simp only [go_sem, simprocAttr, hb]))) | ((first | ((with_reducible apply wL); exact rfl) | ((with_reducible apply wM); exact rfl)); all_goals (try ((with_reducible intro h); first | (exact absurd h (by decide)) | (try simp only [go_sem, simprocAttr, hb] at h)))) | omega | ((first | first | refine acall_simple hX hC hP (refOnP_spec (l.getD k (0, 0)) (l.getD (k + 1) (0, 0)) p) rfl rfl rfl (by simp only [go_sem, simprocAttr, hb]) rfl ?_); try simp only [go_sem, simprocAttr, hb]) | (intro h))
    exact hf.symm
theorem outP_not (p : Pt) : decide (InB p) = !outP p := by rw [outP_eq, Bool.not_not]
theorem refMayO_spec (p : Pt) : Spec Try.prog 89 (Args [eP p]) [] (eB (!outP p)) [] := by
  rw [← outP_not]; exact refMayP_spec p
theorem refRanges_spec (d : Dr) (hp : d.pts.length ≤ 1000) (hls : d.ls.length ≤ 1000) (hll : ∀ l ∈ d.ls, l.length ≤ 1000) : Spec Try.prog 42 (Args [eDr d]) [] (eB (rangesB d)) [] := by
  (refine Spec.intro (C := T.cfg [] []) (rs := [.t 2]) (T.cfg_ok _ _) Try.func42 rfl rfl Try.ntmps42 Try.results42 (by simp [AObj.isNest]) (by simp [AObj.isNest]) (by kernel_rfl) ?_; intro X hX hP hC hXn hXm vals hA; refine ⟨_, by simp, hA, ?_⟩; have hmix : X.P.follows .mixedOrders = true := (by rw [hP]; exact T.mixed); clear hXn hXm)
  repeat' (first | ((first | ((with_reducible (first | apply oA | apply oB)); exact rfl; intro K hK) | (refine hK _ ?_; clear hK K) | ((with_reducible (first | apply oG | apply oH)); iterate 3 exact rfl) | ((with_reducible apply oI); (iterate 2 exact rfl); intro K hK) | (with_reducible (first | apply wI | apply wJ | apply wK))); try simp only [go_sem, simprocAttr]) | fail | (with_reducible (first | apply oC | apply oJ | exact oK | apply wA | apply wB | apply wC hX hC | apply wD hX hC | apply wE hX hC hmix | apply wF hX hC hmix | apply wG | apply wH | apply And.intro)) | ((with_reducible refine oD ?_ ?_); first | fail | kernel_rfl) | ((with_reducible (first | apply oE | apply oF)); (iterate 3 exact rfl); all_goals (intro h; first | (exact absurd h (by decide)) | ((try simp only [go_sem, simprocAttr] at h); (try with_reducible intro K hK); simp only [go_sem, simprocAttr]))) | ((first | ((with_reducible apply wL); exact rfl) | ((with_reducible apply wM); exact rfl)); all_goals (try ((with_reducible intro h); first | (exact absurd h (by decide)) | (try simp only [go_sem, simprocAttr] at h)))) | omega | ((first | fail); try simp only [go_sem, simprocAttr]) | (intro h))
  refine awp_loopP (fun k : Nat => k ≤ d.pts.length ∧ (d.pts.take k).any outP = false) (fun k => ⟨[(1, .ptr 1 0), (3, eN k)], [(1, .box [.d (sP d.pts), .d (sLn d.ls)])]⟩) (fun k => d.pts.length - k) 0 (by simp) ?_ ?_
  · (refine Le.of ?_ ?_ <;> simp [go_sem, simprocAttr])
  rintro k ⟨hk, hf⟩
  rcases Nat.lt_or_ge k d.pts.length with hlt | hge
  · have hb : decide ((k : Int) < (d.pts.length : Int)) = true := decide_eq_true (by omega)
    repeat' (first | ((first | ((with_reducible (first | apply oA | apply oB)); exact rfl; intro K hK) | (refine hK _ ?_; clear hK K) | ((with_reducible (first | apply oG | apply oH)); iterate 3 exact rfl) | ((with_reducible apply oI); (iterate 2 exact rfl); intro K hK) | (with_reducible (first | apply wI | apply wJ | apply wK))); try simp only [go_sem, simprocAttr, hb]) | fail | (with_reducible (first | apply oC | apply oJ | exact oK | apply wA | apply wB | apply wC hX hC | apply wD hX hC | apply wE hX hC hmix | apply wF hX hC hmix | apply wG | apply wH | apply And.intro)) | ((with_reducible refine oD ?_ ?_); first | fail | kernel_rfl) | ((with_reducible (first | apply oE | apply oF)); (iterate 3 exact rfl); all_goals (intro h; first | (exact absurd h (by decide)) | ((try simp only [go_sem, simprocAttr, hb] at h); (try with_reducible intro K hK); simp only [go_sem, simprocAttr, hb]))) | ((first | ((with_reducible apply wL); exact rfl) | ((with_reducible apply wM); exact rfl)); all_goals (try ((with_reducible intro h); first | (exact absurd h (by decide)) | (try simp only [go_sem, simprocAttr, hb] at h)))) | omega | ((first | first | refine acall_simple hX hC hP (refMayO_spec (d.pts.getD k (0, 0))) rfl rfl rfl (by simp only [go_sem, simprocAttr, hb]) rfl ?_); try simp only [go_sem, simprocAttr, hb]) | (intro h))
    · rw [rangesB, any_at (d := (0, 0)) (k := k) hlt h]; rfl
    · refine ⟨k + 1, ⟨by omega, any_next (0, 0) hlt hf h⟩, ?_, by omega⟩
      (refine Le.of ?_ ?_ <;> simp [go_sem, simprocAttr, hb])
  · have hb : decide ((k : Int) < (d.pts.length : Int)) = false := decide_eq_false (by omega)
    rw [List.take_of_length_le hge] at hf
    repeat' (first | ((first | ((with_reducible (first | apply oA | apply oB)); exact rfl; intro K hK) | (refine hK _ ?_; clear hK K) | ((with_reducible (first | apply oG | apply oH)); iterate 3 exact rfl) | ((with_reducible apply oI); (iterate 2 exact rfl); intro K hK) | (with_reducible (first | apply wI | apply wJ | apply wK))); try simp only [go_sem, simprocAttr, hb]) | fail | (with_reducible (first | apply oC | apply oJ | exact oK | apply wA | apply wB | apply wC hX hC | apply wD hX hC | apply wE hX hC hmix | apply wF hX hC hmix | apply wG | apply wH | apply And.intro)) | ((with_reducible refine oD ?_ ?_); first | fail | kernel_rfl) | ((with_reducible (first | apply oE | apply oF)); (iterate 3 exact rfl); all_goals (intro h; first | (exact absurd h (by decide)) | ((try simp only [go_sem, simprocAttr, hb] at h); (try with_reducible intro K hK); simp only [go_sem, simprocAttr, hb]))) | ((first | ((with_reducible apply wL); exact rfl) | ((with_reducible apply wM); exact rfl)); all_goals (try ((with_reducible intro h); first | (exact absurd h (by decide)) | (try simp only [go_sem, simprocAttr, hb] at h)))) | omega | ((first | fail); try simp only [go_sem, simprocAttr, hb]) | (intro h))
    refine awp_loopP (fun k : Nat => k ≤ d.ls.length ∧ (d.ls.take k).any badLn = false) (fun k => ⟨[(1, .ptr 1 0), (4, eN k)], [(1, .box [.d (sP d.pts), .d (sLn d.ls)])]⟩) (fun k => d.ls.length - k) 0 (by simp) ?_ ?_
    · (refine Le.of ?_ ?_ <;> simp [go_sem, simprocAttr, hb])
    clear hk hge hb
    rintro k ⟨hk, hf2⟩
    rcases Nat.lt_or_ge k d.ls.length with hlt | hge
    · have hb : decide ((k : Int) < (d.ls.length : Int)) = true := decide_eq_true (by omega)
      obtain ⟨l, hl⟩ : ∃ l, l = d.ls.getD k [] := ⟨_, rfl⟩
      have hlen : l.length ≤ 1000 := hll l (by rw [hl]; exact getD_memX hlt)
      have hno : badLn l = true → rangesB d = false := fun hb => by
        rw [rangesB, any_at (xs := d.ls) (d := []) (k := k) hlt (by rw [← hl]; exact hb), Bool.not_true, Bool.and_false]
      repeat' (first | ((first | ((with_reducible (first | apply oA | apply oB)); exact rfl; intro K hK) | (refine hK _ ?_; clear hK K) | ((with_reducible (first | apply oG | apply oH)); iterate 3 exact rfl) | ((with_reducible apply oI); (iterate 2 exact rfl); intro K hK) | (with_reducible (first | apply wI | apply wJ | apply wK))); try simp only [go_sem, simprocAttr, hb, ← hl]) | fail | (with_reducible (first | apply oC | apply oJ | exact oK | apply wA | apply wB | apply wC hX hC | apply wD hX hC | apply wE hX hC hmix | apply wF hX hC hmix | apply wG | apply wH | apply And.intro)) | ((with_reducible refine oD ?_ ?_); first | fail | kernel_rfl) | ((with_reducible (first | apply oE | apply oF)); (iterate 3 exact rfl); all_goals (intro h; first | (exact absurd h (by decide)) | ((try simp only [go_sem, simprocAttr, hb, ← hl] at h); (try with_reducible intro K hK); simp only [go_sem, simprocAttr, hb, ← hl]))) | ((first | ((with_reducible apply wL); exact rfl) | ((with_reducible apply wM); exact rfl)); all_goals (try ((with_reducible intro h); first | (exact absurd h (by decide)) | (try simp only [go_sem, simprocAttr, hb, ← hl] at h)))) | omega | ((first | fail); try simp only [go_sem, simprocAttr, hb, ← hl]) | (intro h))
      · refine (hno ?_).symm
        simp only [badLn, decide_eq_true (show 8 < l.length by omega), Bool.or_true, Bool.true_or]
      · refine awp_loopP (fun j : Nat => j ≤ l.length ∧ (l.take j).any outP = false) (fun j => ⟨[(1, .ptr 1 0), (4, eN k), (5, eN j)], [(1, .box [.d (sP d.pts), .d (sLn d.ls)])]⟩) (fun j => l.length - j) 0 (by simp) ?_ ?_
        · (refine Le.of ?_ ?_ <;> simp [go_sem, simprocAttr, hb, ← hl])
        rintro j ⟨hj, hf3⟩
        rcases Nat.lt_or_ge j l.length with hjl | hjg
        · have hb3 : decide ((j : Int) < (l.length : Int)) = true := decide_eq_true (by omega)
          repeat' (first | ((first | ((with_reducible (first | apply oA | apply oB)); exact rfl; intro K hK) | (refine hK _ ?_; clear hK K) | ((with_reducible (first | apply oG | apply oH)); iterate 3 exact rfl) | ((with_reducible apply oI); (iterate 2 exact rfl); intro K hK) | (with_reducible (first | apply wI | apply wJ | apply wK))); try simp only [go_sem, simprocAttr, ← hl, hb3]) | fail | (with_reducible (first | apply oC | apply oJ | exact oK | apply wA | apply wB | apply wC hX hC | apply wD hX hC | apply wE hX hC hmix | apply wF hX hC hmix | apply wG | apply wH | apply And.intro)) | ((with_reducible refine oD ?_ ?_); first | fail | kernel_rfl) | ((with_reducible (first | apply oE | apply oF)); (iterate 3 exact rfl); all_goals (intro h; first | (exact absurd h (by decide)) | ((try simp only [go_sem, simprocAttr, ← hl, hb3] at h); (try with_reducible intro K hK); simp only [go_sem, simprocAttr, ← hl, hb3]))) | ((first | ((with_reducible apply wL); exact rfl) | ((with_reducible apply wM); exact rfl)); all_goals (try ((with_reducible intro h); first | (exact absurd h (by decide)) | (try simp only [go_sem, simprocAttr, ← hl, hb3] at h)))) | omega | ((first | first | refine acall_simple hX hC hP (refMayO_spec (l.getD j (0, 0))) rfl rfl rfl (by simp only [go_sem, simprocAttr, ← hl, hb3]) rfl ?_); try simp only [go_sem, simprocAttr, ← hl, hb3]) | (intro h))
          · refine (hno ?_).symm
            rw [badLn, any_at (d := (0, 0)) (k := j) hjl h, Bool.or_true]
          · refine ⟨j + 1, ⟨by omega, any_next (0, 0) hjl hf3 h⟩, ?_, by omega⟩
            (refine Le.of ?_ ?_ <;> simp [go_sem, simprocAttr, ← hl, hb3])
        · have hb3 : decide ((j : Int) < (l.length : Int)) = false := decide_eq_false (by omega)
          rw [List.take_of_length_le hjg] at hf3
          have hgo : badLn l = false := by
            simp only [badLn, decide_eq_false (show ¬ l.length < 2 by omega), decide_eq_false (show ¬ 8 < l.length by omega), hf3, Bool.or_false]
          repeat' (first | ((first | ((with_reducible (first | apply oA | apply oB)); exact rfl; intro K hK) | (refine hK _ ?_; clear hK K) | ((with_reducible (first | apply oG | apply oH)); iterate 3 exact rfl) | ((with_reducible apply oI); (iterate 2 exact rfl); intro K hK) | (with_reducible (first | apply wI | apply wJ | apply wK))); try simp only [go_sem, simprocAttr, ← hl, hb3]) | fail | (with_reducible (first | apply oC | apply oJ | exact oK | apply wA | apply wB | apply wC hX hC | apply wD hX hC | apply wE hX hC hmix | apply wF hX hC hmix | apply wG | apply wH | apply And.intro)) | ((with_reducible refine oD ?_ ?_); first | fail | kernel_rfl) | ((with_reducible (first | apply oE | apply oF)); (iterate 3 exact rfl); all_goals (intro h; first | (exact absurd h (by decide)) | ((try simp only [go_sem, simprocAttr, ← hl, hb3] at h); (try with_reducible intro K hK); simp only [go_sem, simprocAttr, ← hl, hb3]))) | ((first | ((with_reducible apply wL); exact rfl) | ((with_reducible apply wM); exact rfl)); all_goals (try ((with_reducible intro h); first | (exact absurd h (by decide)) | (try simp only [go_sem, simprocAttr, ← hl, hb3] at h)))) | omega | ((first | fail); try simp only [go_sem, simprocAttr, ← hl, hb3]) | (intro h))
          refine ⟨k + 1, ⟨by omega, any_next [] hlt hf2 (by rw [← hl]; exact hgo)⟩, ?_, by omega⟩
          (refine Le.of ?_ ?_ <;> simp [go_sem, simprocAttr, ← hl, hb3])
      · refine (hno ?_).symm
        simp only [badLn, decide_eq_true (show l.length < 2 by omega), Bool.true_or]
    · have hb : decide ((k : Int) < (d.ls.length : Int)) = false := decide_eq_false (by omega)
      rw [List.take_of_length_le hge] at hf2
      repeat' (first | ((first | ((with_reducible (first | apply oA | apply oB)); exact rfl; intro K hK) | (refine hK _ ?_; clear hK K) | ((with_reducible (first | apply oG | apply oH)); iterate 3 exact rfl) | ((with_reducible apply oI); (iterate 2 exact rfl); intro K hK) | (with_reducible (first | apply wI | apply wJ | apply wK))); try simp only [go_sem, simprocAttr, hb]) | fail | (with_reducible (first | apply oC | apply oJ | exact oK | apply wA | apply wB | apply wC hX hC | apply wD hX hC | apply wE hX hC hmix | apply wF hX hC hmix | apply wG | apply wH | apply And.intro)) | ((with_reducible refine oD ?_ ?_); first | fail | kernel_rfl) | ((with_reducible (first | apply oE | apply oF)); (iterate 3 exact rfl); all_goals (intro h; first | (exact absurd h (by decide)) | ((try simp only [go_sem, simprocAttr, hb] at h); (try with_reducible intro K hK); simp only [go_sem, simprocAttr, hb]))) | ((first | ((with_reducible apply wL); exact rfl) | ((with_reducible apply wM); exact rfl)); all_goals (try ((with_reducible intro h); first | (exact absurd h (by decide)) | (try simp only [go_sem, simprocAttr, hb] at h)))) | omega | ((first | fail); try simp only [go_sem, simprocAttr, hb]) | (intro h))
      rw [rangesB, hf, hf2]; rfl
/-- Is some vertex an end of both, at a point of both pieces? -/
def endX (g : Gr) (d : Dr) (i k : Nat) (a b : Pc) (m : Nat) : Bool := (List.range m).any fun x => (decide ((g.es.getD i (0, 0)).1 = (x : Int)) || decide ((g.es.getD i (0, 0)).2 = (x : Int))) && (decide ((g.es.getD k (0, 0)).1 = (x : Int)) || decide ((g.es.getD k (0, 0)).2 = (x : Int))) && OnV a.1 a.2 (d.pts.getD x (0, 0)) && OnV b.1 b.2 (d.pts.getD x (0, 0))
theorem endX_next {g : Gr} {d : Dr} {i k : Nat} {a b : Pc} {m : Nat} : endX g d i k a b (m + 1) = (endX g d i k a b m || ((decide ((g.es.getD i (0, 0)).1 = (m : Int)) || decide ((g.es.getD i (0, 0)).2 = (m : Int))) && (decide ((g.es.getD k (0, 0)).1 = (m : Int)) || decide ((g.es.getD k (0, 0)).2 = (m : Int))) && OnV a.1 a.2 (d.pts.getD m (0, 0)) && OnV b.1 b.2 (d.pts.getD m (0, 0)))) := by
  simp [endX, List.range_succ]
theorem endX_com {g : Gr} {d : Dr} (hD : DrOk g d) {i k : Nat} (hi : i < g.es.length) (a b : Pc) : endX g d i k a b g.n.toNat = (comL g d i k).any fun p => OnV a.1 a.2 p && OnV b.1 b.2 p := by
  obtain ⟨⟨he0, he1⟩, he2, he3⟩ := mayB_e hD.may hi
  rw [Bool.eq_iff_iff]
  simp only [endX, List.any_eq_true, List.mem_range, Bool.and_eq_true, Bool.or_eq_true, decide_eq_true_eq, comL, comK, List.mem_map, List.mem_filter, eHas]
  constructor
  · rintro ⟨x, hx, ⟨⟨h1, h2⟩, h3⟩, h4⟩
    refine ⟨_, ⟨(x : Int), ⟨by simp only [List.take_succ_cons, List.take_zero, List.mem_cons, List.not_mem_nil, or_false]; omega, by omega⟩, by rw [Int.toNat_natCast]⟩, h3, h4⟩
  · rintro ⟨p, ⟨x, ⟨h1, h2⟩, rfl⟩, h3, h4⟩
    simp only [List.take_succ_cons, List.take_zero, List.mem_cons, List.not_mem_nil, or_false] at h1
    refine ⟨x.toNat, by omega, ⟨⟨by omega, by omega⟩, h3⟩, h4⟩
theorem meetV_range (a b c d : Pt) : 0 ≤ meetV a b c d ∧ meetV a b c d ≤ 2 := by
  unfold meetV
  split
  · split
    · omega
    · split <;> omega
  · omega
theorem refMeetP_spec (a b c d : Pt) : Spec Try.prog 91 (Args [eP a, eP b, eP c, eP d]) [] (eN (meetV a b c d)) [] := by
  rw [← meet_eq]; exact refMeet_spec a b c d
/-- Have two lines a point in common that is no common end's? -/
def meetB (g : Gr) (d : Dr) (i k : Nat) : Bool := !(pcs (d.ls.getD i [])).all fun a => (pcs (d.ls.getD k [])).all fun b => !badPc (comL g d i k) a b
theorem refMeetL_spec (g : Gr) (d : Dr) (hD : DrOk g d) (i k : Nat) (hi : i < g.es.length) (hk : k < g.es.length) : Spec Try.prog 44 (Args [eG g, eDr d, eN i, eN k]) [] (eB (meetB g d i k)) [] := by
  have hn := mayB_n hD.may
  have hnp := hD.np
  have hnl := hD.nl
  obtain ⟨li, hli⟩ : ∃ l, l = d.ls.getD i [] := ⟨_, rfl⟩
  obtain ⟨lk, hlk⟩ : ∃ l, l = d.ls.getD k [] := ⟨_, rfl⟩
  have hi2 := hD.line hi
  have hk2 := hD.line hk
  rw [← hli] at hi2
  rw [← hlk] at hk2
  have hpi : (pcs li).length = li.length - 1 := pcs_length
  have hpk : (pcs lk).length = lk.length - 1 := pcs_length
  have hB : meetB g d i k = !(pcs li).all fun a => (pcs lk).all fun b => !badPc (comL g d i k) a b := by rw [meetB, ← hli, ← hlk]
  rw [hB]
  (refine Spec.intro (C := T.cfg [] []) (rs := [.t 8]) (T.cfg_ok _ _) Try.func44 rfl rfl Try.ntmps44 Try.results44 (by simp [AObj.isNest]) (by simp [AObj.isNest]) (by kernel_rfl) ?_; intro X hX hP hC hXn hXm vals hA; refine ⟨_, by simp, hA, ?_⟩; have hmix : X.P.follows .mixedOrders = true := (by rw [hP]; exact T.mixed); clear hXn hXm)
  repeat' (first | ((first | ((with_reducible (first | apply oA | apply oB)); exact rfl; intro K hK) | (refine hK _ ?_; clear hK K) | ((with_reducible (first | apply oG | apply oH)); iterate 3 exact rfl) | ((with_reducible apply oI); (iterate 2 exact rfl); intro K hK) | (with_reducible (first | apply wI | apply wJ | apply wK))); try simp only [go_sem, simprocAttr]) | fail | (with_reducible (first | apply oC | apply oJ | exact oK | apply wA | apply wB | apply wC hX hC | apply wD hX hC | apply wE hX hC hmix | apply wF hX hC hmix | apply wG | apply wH | apply And.intro)) | ((with_reducible refine oD ?_ ?_); first | fail | kernel_rfl) | ((with_reducible (first | apply oE | apply oF)); (iterate 3 exact rfl); all_goals (intro h; first | (exact absurd h (by decide)) | ((try simp only [go_sem, simprocAttr] at h); (try with_reducible intro K hK); simp only [go_sem, simprocAttr]))) | ((first | ((with_reducible apply wL); exact rfl) | ((with_reducible apply wM); exact rfl)); all_goals (try ((with_reducible intro h); first | (exact absurd h (by decide)) | (try simp only [go_sem, simprocAttr] at h)))) | omega | ((first | fail); try simp only [go_sem, simprocAttr]) | (intro h))
  refine awp_loopP (fun s : Nat => s ≤ (pcs li).length ∧ ((pcs li).take s).all (fun a => (pcs lk).all fun b => !badPc (comL g d i k) a b) = true) (fun s => ⟨[(2, eN i), (3, eN k), (4, .ptr 4 0), (5, .ptr 5 0), (9, .ptr 9 0), (10, .ptr 10 0), (11, eN s)], [(4, .box [eN g.n, .d (sE g.es)]), (5, .box [.d (sP d.pts), .d (sLn d.ls)]), (9, .box [eN (g.es.getD i (0, 0)).1, eN (g.es.getD i (0, 0)).2]), (10, .box [eN (g.es.getD k (0, 0)).1, eN (g.es.getD k (0, 0)).2])]⟩) (fun s => (pcs li).length - s) 0 (by simp) ?_ ?_
  · (refine Le.of ?_ ?_ <;> simp [go_sem, simprocAttr])
  rintro s ⟨hs, hsa⟩
  rcases Nat.lt_or_ge (s + 1) li.length with hsl | hsg
  · have hb1 : decide ((s : Int) + 1 < (li.length : Int)) = true := decide_eq_true (by omega)
    have hga := pcs_getD hsl
    have htn : ((s : Int) + 1).toNat = s + 1 := by omega
    repeat' (first | ((first | ((with_reducible (first | apply oA | apply oB)); exact rfl; intro K hK) | (refine hK _ ?_; clear hK K) | ((with_reducible (first | apply oG | apply oH)); iterate 3 exact rfl) | ((with_reducible apply oI); (iterate 2 exact rfl); intro K hK) | (with_reducible (first | apply wI | apply wJ | apply wK))); try simp only [go_sem, simprocAttr, ← hli, ← hlk, hb1]) | fail | (with_reducible (first | apply oC | apply oJ | exact oK | apply wA | apply wB | apply wC hX hC | apply wD hX hC | apply wE hX hC hmix | apply wF hX hC hmix | apply wG | apply wH | apply And.intro)) | ((with_reducible refine oD ?_ ?_); first | fail | kernel_rfl) | ((with_reducible (first | apply oE | apply oF)); (iterate 3 exact rfl); all_goals (intro h; first | (exact absurd h (by decide)) | ((try simp only [go_sem, simprocAttr, ← hli, ← hlk, hb1] at h); (try with_reducible intro K hK); simp only [go_sem, simprocAttr, ← hli, ← hlk, hb1]))) | ((first | ((with_reducible apply wL); exact rfl) | ((with_reducible apply wM); exact rfl)); all_goals (try ((with_reducible intro h); first | (exact absurd h (by decide)) | (try simp only [go_sem, simprocAttr, ← hli, ← hlk, hb1] at h)))) | omega | ((first | fail); try simp only [go_sem, simprocAttr, ← hli, ← hlk, hb1]) | (intro h))
    refine awp_loopP (fun t : Nat => t ≤ (pcs lk).length ∧ ((pcs lk).take t).all (fun b => !badPc (comL g d i k) (li.getD s (0, 0), li.getD (s + 1) (0, 0)) b) = true) (fun t => ⟨[(2, eN i), (3, eN k), (4, .ptr 4 0), (5, .ptr 5 0), (9, .ptr 9 0), (10, .ptr 10 0), (11, eN s), (12, eN t)], [(4, .box [eN g.n, .d (sE g.es)]), (5, .box [.d (sP d.pts), .d (sLn d.ls)]), (9, .box [eN (g.es.getD i (0, 0)).1, eN (g.es.getD i (0, 0)).2]), (10, .box [eN (g.es.getD k (0, 0)).1, eN (g.es.getD k (0, 0)).2])]⟩) (fun t => (pcs lk).length - t) 0 (by simp) ?_ ?_
    · (refine Le.of ?_ ?_ <;> simp [go_sem, simprocAttr, ← hli, ← hlk, hb1])
    rintro t ⟨ht, hta⟩
    rcases Nat.lt_or_ge (t + 1) lk.length with htl | htg
    · have hb2 : decide ((t : Int) + 1 < (lk.length : Int)) = true := decide_eq_true (by omega)
      have hgb := pcs_getD htl
      have htn2 : ((t : Int) + 1).toNat = t + 1 := by omega
      obtain ⟨n, hnn⟩ : ∃ n, n = meetV (li.getD s (0, 0)) (li.getD (s + 1) (0, 0)) (lk.getD t (0, 0)) (lk.getD (t + 1) (0, 0)) := ⟨_, rfl⟩
      have hrg := meetV_range (li.getD s (0, 0)) (li.getD (s + 1) (0, 0)) (lk.getD t (0, 0)) (lk.getD (t + 1) (0, 0))
      rw [← hnn] at hrg
      have hbad : badPc (comL g d i k) (li.getD s (0, 0), li.getD (s + 1) (0, 0)) (lk.getD t (0, 0), lk.getD (t + 1) (0, 0)) = (decide (1 < n) || (decide (n = 1) && !endX g d i k (li.getD s (0, 0), li.getD (s + 1) (0, 0)) (lk.getD t (0, 0), lk.getD (t + 1) (0, 0)) g.n.toNat)) := by
        rw [endX_com hD hi, hnn]; rfl
      have hgo : badPc (comL g d i k) (li.getD s (0, 0), li.getD (s + 1) (0, 0)) (lk.getD t (0, 0), lk.getD (t + 1) (0, 0)) = false → ((pcs lk).take (t + 1)).all (fun b => !badPc (comL g d i k) (li.getD s (0, 0), li.getD (s + 1) (0, 0)) b) = true := fun hb =>
        all_take ((0, 0), (0, 0)) (by omega) hta (by rw [hgb, hb]; rfl)
      have hno : badPc (comL g d i k) (li.getD s (0, 0), li.getD (s + 1) (0, 0)) (lk.getD t (0, 0), lk.getD (t + 1) (0, 0)) = true → ((pcs li).all fun a => (pcs lk).all fun b => !badPc (comL g d i k) a b) = false := fun hb =>
        all_take_no (d := ((0, 0), (0, 0))) (k := s) (by omega) (by rw [hga]; exact all_take_no (d := ((0, 0), (0, 0))) (k := t) (by omega) (by rw [hgb, hb]; rfl))
      repeat' (first | ((first | ((with_reducible (first | apply oA | apply oB)); exact rfl; intro K hK) | (refine hK _ ?_; clear hK K) | ((with_reducible (first | apply oG | apply oH)); iterate 3 exact rfl) | ((with_reducible apply oI); (iterate 2 exact rfl); intro K hK) | (with_reducible (first | apply wI | apply wJ | apply wK))); try simp only [go_sem, simprocAttr, ← hli, ← hlk, hb2, htn, htn2, ← hnn]) | fail | (with_reducible (first | apply oC | apply oJ | exact oK | apply wA | apply wB | apply wC hX hC | apply wD hX hC | apply wE hX hC hmix | apply wF hX hC hmix | apply wG | apply wH | apply And.intro)) | ((with_reducible refine oD ?_ ?_); first | fail | kernel_rfl) | ((with_reducible (first | apply oE | apply oF)); (iterate 3 exact rfl); all_goals (intro h; first | (exact absurd h (by decide)) | ((try simp only [go_sem, simprocAttr, ← hli, ← hlk, hb2, htn, htn2, ← hnn] at h); (try with_reducible intro K hK); simp only [go_sem, simprocAttr, ← hli, ← hlk, hb2, htn, htn2, ← hnn]))) | ((first | ((with_reducible apply wL); exact rfl) | ((with_reducible apply wM); exact rfl)); all_goals (try ((with_reducible intro h); first | (exact absurd h (by decide)) | (try simp only [go_sem, simprocAttr, ← hli, ← hlk, hb2, htn, htn2, ← hnn] at h)))) | omega | ((first | first | refine acall_simple hX hC hP (refMeetP_spec (li.getD s (0, 0)) (li.getD (s + 1) (0, 0)) (lk.getD t (0, 0)) (lk.getD (t + 1) (0, 0))) rfl rfl rfl (by simp only [go_sem, simprocAttr, ← hli, ← hlk, hb2, htn, htn2, ← hnn]) rfl ?_); try simp only [go_sem, simprocAttr, ← hli, ← hlk, hb2, htn, htn2, ← hnn]) | (intro h))
      · refine ⟨t + 1, ⟨by omega, hgo (by rw [hbad, decide_eq_false (by omega), decide_eq_false (by omega)]; rfl)⟩, ?_, by omega⟩
        (refine Le.of ?_ ?_ <;> simp [go_sem, simprocAttr, ← hli, ← hlk, hb2, htn, htn2, ← hnn])
      · obtain ⟨en, hen⟩ : ∃ e, e = endX g d i k (li.getD s (0, 0), li.getD (s + 1) (0, 0)) (lk.getD t (0, 0), lk.getD (t + 1) (0, 0)) g.n.toNat := ⟨_, rfl⟩
        rw [← hen] at hbad
        refine awp_loopP (fun m : Nat => m ≤ g.n.toNat) (fun m => ⟨[(2, eN i), (3, eN k), (4, .ptr 4 0), (5, .ptr 5 0), (9, .ptr 9 0), (10, .ptr 10 0), (11, eN s), (12, eN t), (13, .ptr 13 0), (14, .ptr 14 0), (15, .ptr 15 0), (16, .ptr 16 0), (17, eN n), (18, eB (endX g d i k (li.getD s (0, 0), li.getD (s + 1) (0, 0)) (lk.getD t (0, 0), lk.getD (t + 1) (0, 0)) m)), (19, eN m)], [(4, .box [eN g.n, .d (sE g.es)]), (5, .box [.d (sP d.pts), .d (sLn d.ls)]), (9, .box [eN (g.es.getD i (0, 0)).1, eN (g.es.getD i (0, 0)).2]), (10, .box [eN (g.es.getD k (0, 0)).1, eN (g.es.getD k (0, 0)).2]), (13, .box [eN (li.getD s (0, 0)).1, eN (li.getD s (0, 0)).2]), (14, .box [eN (li.getD (s + 1) (0, 0)).1, eN (li.getD (s + 1) (0, 0)).2]), (15, .box [eN (lk.getD t (0, 0)).1, eN (lk.getD t (0, 0)).2]), (16, .box [eN (lk.getD (t + 1) (0, 0)).1, eN (lk.getD (t + 1) (0, 0)).2])]⟩) (fun m => g.n.toNat - m) 0 (by simp) ?_ ?_
        · refine Le.of ?_ ?_ <;> simp [go_sem, simprocAttr, ← hli, ← hlk, hb2, htn, htn2, ← hnn, endX]
        rintro m hm
        rcases Nat.lt_or_ge m g.n.toNat with hml | hmg
        · have hb3 : decide ((m : Int) < g.n) = true := decide_eq_true (by omega)
          have hnx := endX_next (g := g) (d := d) (i := i) (k := k) (a := (li.getD s (0, 0), li.getD (s + 1) (0, 0))) (b := (lk.getD t (0, 0), lk.getD (t + 1) (0, 0))) (m := m)
          repeat' (first | ((first | ((with_reducible (first | apply oA | apply oB)); exact rfl; intro K hK) | (refine hK _ ?_; clear hK K) | ((with_reducible (first | apply oG | apply oH)); iterate 3 exact rfl) | ((with_reducible apply oI); (iterate 2 exact rfl); intro K hK) | (with_reducible (first | apply wI | apply wJ | apply wK))); try simp only [go_sem, simprocAttr, ← hli, ← hlk, hb3]) | fail | (with_reducible (first | apply oC | apply oJ | exact oK | apply wA | apply wB | apply wC hX hC | apply wD hX hC | apply wE hX hC hmix | apply wF hX hC hmix | apply wG | apply wH | apply And.intro)) | ((with_reducible refine oD ?_ ?_); first | fail | kernel_rfl) | ((with_reducible (first | apply oE | apply oF)); (iterate 3 exact rfl); all_goals (intro h; first | (exact absurd h (by decide)) | ((try simp only [go_sem, simprocAttr, ← hli, ← hlk, hb3] at h); (try with_reducible intro K hK); simp only [go_sem, simprocAttr, ← hli, ← hlk, hb3]))) | ((first | ((with_reducible apply wL); exact rfl) | ((with_reducible apply wM); exact rfl)); all_goals (try ((with_reducible intro h); first | (exact absurd h (by decide)) | (try simp only [go_sem, simprocAttr, ← hli, ← hlk, hb3] at h)))) | omega | ((first | first | refine acall_simple hX hC hP (refOnP_spec (li.getD s (0, 0)) (li.getD (s + 1) (0, 0)) (d.pts.getD m (0, 0))) rfl rfl rfl (by simp only [go_sem, simprocAttr, ← hli, ← hlk, hb3]) rfl ?_ | refine acall_simple hX hC hP (refOnP_spec (lk.getD t (0, 0)) (lk.getD (t + 1) (0, 0)) (d.pts.getD m (0, 0))) rfl rfl rfl (by simp only [go_sem, simprocAttr, ← hli, ← hlk, hb3]) rfl ?_); try simp only [go_sem, simprocAttr, ← hli, ← hlk, hb3]) | (intro h))
          all_goals (
            refine ⟨m + 1, by omega, ?_, by omega⟩
            rw [hnx]
            clear hli hlk hB hga hgb hgo hno hbad hen hnn hnx hsa hta hb1 hb2 hb3
            simp only [*, decide_true, decide_false, Bool.true_or, Bool.or_true, Bool.false_or, Bool.or_false, Bool.true_and, Bool.false_and, Bool.and_true, Bool.and_false]
            refine Le.of ?_ ?_ <;> simp [go_sem, simprocAttr])
        · have hb3 : decide ((m : Int) < g.n) = false := decide_eq_false (by omega)
          obtain rfl : m = g.n.toNat := by omega
          rw [← hen]
          repeat' (first | ((first | ((with_reducible (first | apply oA | apply oB)); exact rfl; intro K hK) | (refine hK _ ?_; clear hK K) | ((with_reducible (first | apply oG | apply oH)); iterate 3 exact rfl) | ((with_reducible apply oI); (iterate 2 exact rfl); intro K hK) | (with_reducible (first | apply wI | apply wJ | apply wK))); try simp only [go_sem, simprocAttr, ← hli, ← hlk, hb3]) | fail | (with_reducible (first | apply oC | apply oJ | exact oK | apply wA | apply wB | apply wC hX hC | apply wD hX hC | apply wE hX hC hmix | apply wF hX hC hmix | apply wG | apply wH | apply And.intro)) | ((with_reducible refine oD ?_ ?_); first | fail | kernel_rfl) | ((with_reducible (first | apply oE | apply oF)); (iterate 3 exact rfl); all_goals (intro h; first | (exact absurd h (by decide)) | ((try simp only [go_sem, simprocAttr, ← hli, ← hlk, hb3] at h); (try with_reducible intro K hK); simp only [go_sem, simprocAttr, ← hli, ← hlk, hb3]))) | ((first | ((with_reducible apply wL); exact rfl) | ((with_reducible apply wM); exact rfl)); all_goals (try ((with_reducible intro h); first | (exact absurd h (by decide)) | (try simp only [go_sem, simprocAttr, ← hli, ← hlk, hb3] at h)))) | omega | ((first | fail); try simp only [go_sem, simprocAttr, ← hli, ← hlk, hb3]) | (intro h))
          all_goals first
            | (have hbb := hno (by
                rw [hbad]; simp only [decide_eq_true_eq, Bool.or_eq_true, Bool.and_eq_true, Bool.not_eq_true']
                first | exact .inl (by omega) | exact .inr ⟨by omega, by assumption⟩)
               rw [hbb]; rfl)
            | (refine ⟨t + 1, ⟨by omega, hgo (by
                rw [hbad]; simp only [Bool.or_eq_false_iff, decide_eq_false_iff_not, Bool.and_eq_false_iff, Bool.not_eq_false']
                exact ⟨by omega, .inr (by assumption)⟩)⟩, ?_, by omega⟩
               (refine Le.of ?_ ?_ <;> simp [go_sem, simprocAttr, ← hli, ← hlk, hb3]))
    · have hb2 : decide ((t : Int) + 1 < (lk.length : Int)) = false := decide_eq_false (by omega)
      rw [List.take_of_length_le (by omega)] at hta
      repeat' (first | ((first | ((with_reducible (first | apply oA | apply oB)); exact rfl; intro K hK) | (refine hK _ ?_; clear hK K) | ((with_reducible (first | apply oG | apply oH)); iterate 3 exact rfl) | ((with_reducible apply oI); (iterate 2 exact rfl); intro K hK) | (with_reducible (first | apply wI | apply wJ | apply wK))); try simp only [go_sem, simprocAttr, ← hli, ← hlk, hb2]) | fail | (with_reducible (first | apply oC | apply oJ | exact oK | apply wA | apply wB | apply wC hX hC | apply wD hX hC | apply wE hX hC hmix | apply wF hX hC hmix | apply wG | apply wH | apply And.intro)) | ((with_reducible refine oD ?_ ?_); first | fail | kernel_rfl) | ((with_reducible (first | apply oE | apply oF)); (iterate 3 exact rfl); all_goals (intro h; first | (exact absurd h (by decide)) | ((try simp only [go_sem, simprocAttr, ← hli, ← hlk, hb2] at h); (try with_reducible intro K hK); simp only [go_sem, simprocAttr, ← hli, ← hlk, hb2]))) | ((first | ((with_reducible apply wL); exact rfl) | ((with_reducible apply wM); exact rfl)); all_goals (try ((with_reducible intro h); first | (exact absurd h (by decide)) | (try simp only [go_sem, simprocAttr, ← hli, ← hlk, hb2] at h)))) | omega | ((first | fail); try simp only [go_sem, simprocAttr, ← hli, ← hlk, hb2]) | (intro h))
      refine ⟨s + 1, ⟨by omega, all_take ((0, 0), (0, 0)) (by omega) hsa (by rw [hga]; exact hta)⟩, ?_, by omega⟩
      (refine Le.of ?_ ?_ <;> simp [go_sem, simprocAttr, ← hli, ← hlk, hb2])
  · have hb1 : decide ((s : Int) + 1 < (li.length : Int)) = false := decide_eq_false (by omega)
    rw [List.take_of_length_le (by omega)] at hsa
    repeat' (first | ((first | ((with_reducible (first | apply oA | apply oB)); exact rfl; intro K hK) | (refine hK _ ?_; clear hK K) | ((with_reducible (first | apply oG | apply oH)); iterate 3 exact rfl) | ((with_reducible apply oI); (iterate 2 exact rfl); intro K hK) | (with_reducible (first | apply wI | apply wJ | apply wK))); try simp only [go_sem, simprocAttr, ← hli, ← hlk, hb1]) | fail | (with_reducible (first | apply oC | apply oJ | exact oK | apply wA | apply wB | apply wC hX hC | apply wD hX hC | apply wE hX hC hmix | apply wF hX hC hmix | apply wG | apply wH | apply And.intro)) | ((with_reducible refine oD ?_ ?_); first | fail | kernel_rfl) | ((with_reducible (first | apply oE | apply oF)); (iterate 3 exact rfl); all_goals (intro h; first | (exact absurd h (by decide)) | ((try simp only [go_sem, simprocAttr, ← hli, ← hlk, hb1] at h); (try with_reducible intro K hK); simp only [go_sem, simprocAttr, ← hli, ← hlk, hb1]))) | ((first | ((with_reducible apply wL); exact rfl) | ((with_reducible apply wM); exact rfl)); all_goals (try ((with_reducible intro h); first | (exact absurd h (by decide)) | (try simp only [go_sem, simprocAttr, ← hli, ← hlk, hb1] at h)))) | omega | ((first | fail); try simp only [go_sem, simprocAttr, ← hli, ← hlk, hb1]) | (intro h))
    rw [hsa]; rfl
end Go.Ab
end
section
namespace Go.Ab
open Go.Proofs
attribute [local congr] ACall.congr
set_option maxRecDepth 10000
set_option maxHeartbeats 8000000

theorem refGood_spec (g : Gr) (hl : g.es.length ≤ 1000) : Spec Try.prog 24 (Args [eG g]) [] (eB (decide ((chkG g).1 = 0))) [] := by
  rw [chk_eq]
  (refine Spec.intro (C := T.cfg [] []) (rs := [.t 2]) (T.cfg_ok _ _) Try.func24 rfl rfl Try.ntmps24 Try.results24 (by simp [AObj.isNest]) (by simp [AObj.isNest]) (by kernel_rfl) ?_; intro X hX hP hC hXn hXm vals hA; refine ⟨_, by simp, hA, ?_⟩; have hmix : X.P.follows .mixedOrders = true := (by rw [hP]; exact T.mixed); clear hXn hXm)
  repeat' (first | ((first | ((with_reducible (first | apply oA | apply oB)); exact rfl; intro K hK) | (refine hK _ ?_; clear hK K) | ((with_reducible (first | apply oG | apply oH)); iterate 3 exact rfl) | ((with_reducible apply oI); (iterate 2 exact rfl); intro K hK) | (with_reducible (first | apply wI | apply wJ | apply wK))); try simp only [go_sem, simprocAttr]) | fail | (with_reducible (first | apply oC | apply oJ | exact oK | apply wA | apply wB | apply wC hX hC | apply wD hX hC | apply wE hX hC hmix | apply wF hX hC hmix | apply wG | apply wH | apply And.intro)) | ((with_reducible refine oD ?_ ?_); first | fail | kernel_rfl) | ((with_reducible (first | apply oE | apply oF)); (iterate 3 exact rfl); all_goals (intro h; first | (exact absurd h (by decide)) | ((try simp only [go_sem, simprocAttr] at h); (try with_reducible intro K hK); simp only [go_sem, simprocAttr]))) | ((first | ((with_reducible apply wL); exact rfl) | ((with_reducible apply wM); exact rfl)); all_goals (try ((with_reducible intro h); first | (exact absurd h (by decide)) | (try simp only [go_sem, simprocAttr] at h)))) | omega | ((first | first | refine acall_simple hX hC hP (refCheck_spec g hl) rfl rfl rfl (by simp only [go_sem, simprocAttr]) rfl ?_); try simp only [go_sem, simprocAttr]) | (intro h))
theorem firstI_at {n k : Nat} {holds : Nat → Bool} (hk : k < n) (h : ∀ j, j < k → holds j = true) (hb : holds k = false) : firstI n holds = k := by
  refine findI_at (d := 0) (by simpa using hk) (fun j hj => ?_) ?_
  · rw [range_getD (by omega), h j hj]; rfl
  · rw [range_getD hk, hb]; rfl
theorem firstI_none {n : Nat} {holds : Nat → Bool} (h : ∀ j, j < n → holds j = true) : firstI n holds = -1 := by
  refine findI_none 0 fun j hj => ?_
  rw [List.length_range] at hj
  rw [range_getD hj, h j hj]; rfl
theorem all_lt {p : Nat → Prop} {k : Nat} (h : ∀ j, j < k → p j) (hk : p k) : ∀ j, j < k + 1 → p j := fun j hj => by
  by_cases hjk : j = k
  · subst hjk; exact hk
  · exact h j (by omega)
theorem refPicture_spec (g : Gr) (d : Dr) (hgl : g.es.length ≤ 1000) (hp : d.pts.length ≤ 1000) (hls : d.ls.length ≤ 1000) (hll : ∀ l ∈ d.ls, l.length ≤ 1000) :
    Spec Try.prog 14 (Args [eG g, eDr d]) [] (.tup [eN (chkD g d).1, eN (chkD g d).2]) [] := by
  (refine Spec.intro (C := T.cfg [] []) (rs := [.t 4, .t 5]) (T.cfg_ok _ _) Try.func14 rfl rfl Try.ntmps14 Try.results14 (by simp [AObj.isNest]) (by simp [AObj.isNest]) (by kernel_rfl) ?_; intro X hX hP hC hXn hXm vals hA; refine ⟨_, by simp, hA, ?_⟩; have hmix : X.P.follows .mixedOrders = true := (by rw [hP]; exact T.mixed); clear hXn hXm)
  cases hfit : drFits g d with
  | false =>
    have hc : chkD g d = (1, 0) := by rw [chkD, if_pos hfit]
    have hneg : ¬ ((chkG g).1 = 0 ∧ (d.pts.length : Int) = g.n ∧ d.ls.length = g.es.length) := fun ⟨a, b, c⟩ => by simp [drFits, a, b, c] at hfit
    repeat' (first | ((first | ((with_reducible (first | apply oA | apply oB)); exact rfl; intro K hK) | (refine hK _ ?_; clear hK K) | ((with_reducible (first | apply oG | apply oH)); iterate 3 exact rfl) | ((with_reducible apply oI); (iterate 2 exact rfl); intro K hK) | (with_reducible (first | apply wI | apply wJ | apply wK))); try simp only [go_sem, simprocAttr, hc]) | fail | (with_reducible (first | apply oC | apply oJ | exact oK | apply wA | apply wB | apply wC hX hC | apply wD hX hC | apply wE hX hC hmix | apply wF hX hC hmix | apply wG | apply wH | apply And.intro)) | ((with_reducible refine oD ?_ ?_); first | fail | kernel_rfl) | ((with_reducible (first | apply oE | apply oF)); (iterate 3 exact rfl); all_goals (intro h; first | (exact absurd h (by decide)) | ((try simp only [go_sem, simprocAttr, hc] at h); (try with_reducible intro K hK); simp only [go_sem, simprocAttr, hc]))) | ((first | ((with_reducible apply wL); exact rfl) | ((with_reducible apply wM); exact rfl)); all_goals (try ((with_reducible intro h); first | (exact absurd h (by decide)) | (try simp only [go_sem, simprocAttr, hc] at h)))) | omega | ((first | first | refine acall_simple hX hC hP (refGood_spec g hgl) rfl rfl rfl (by simp only [go_sem, simprocAttr, hc]) rfl ?_); try simp only [go_sem, simprocAttr, hc]) | (intro h))
  | true =>
    simp only [drFits, Bool.and_eq_true, decide_eq_true_eq] at hfit
    obtain ⟨⟨h0, hnp⟩, hnl⟩ := hfit
    have hfit : drFits g d = true := by simp only [drFits, h0, hnp, hnl, decide_true, Bool.and_self]
    have hm := chk0_may h0
    have hn := mayB_n hm
    cases hr : rangesB d with
    | false =>
      have hc : chkD g d = (2, 0) := by rw [chkD, if_neg (by rw [hfit]; simp), if_pos hr]
      repeat' (first | ((first | ((with_reducible (first | apply oA | apply oB)); exact rfl; intro K hK) | (refine hK _ ?_; clear hK K) | ((with_reducible (first | apply oG | apply oH)); iterate 3 exact rfl) | ((with_reducible apply oI); (iterate 2 exact rfl); intro K hK) | (with_reducible (first | apply wI | apply wJ | apply wK))); try simp only [go_sem, simprocAttr, hc, h0, hnl, hr, hnp]) | fail | (with_reducible (first | apply oC | apply oJ | exact oK | apply wA | apply wB | apply wC hX hC | apply wD hX hC | apply wE hX hC hmix | apply wF hX hC hmix | apply wG | apply wH | apply And.intro)) | ((with_reducible refine oD ?_ ?_); first | fail | kernel_rfl) | ((with_reducible (first | apply oE | apply oF)); (iterate 3 exact rfl); all_goals (intro h; first | (exact absurd h (by decide)) | ((try simp only [go_sem, simprocAttr, hc, h0, hnl, hr, hnp] at h); (try with_reducible intro K hK); simp only [go_sem, simprocAttr, hc, h0, hnl, hr, hnp]))) | ((first | ((with_reducible apply wL); exact rfl) | ((with_reducible apply wM); exact rfl)); all_goals (try ((with_reducible intro h); first | (exact absurd h (by decide)) | (try simp only [go_sem, simprocAttr, hc, h0, hnl, hr, hnp] at h)))) | omega | ((first | first | refine acall_simple hX hC hP (refGood_spec g hgl) rfl rfl rfl (by simp only [go_sem, simprocAttr, hc, h0, hnl, hr, hnp]) rfl ?_ | refine acall_simple hX hC hP (refRanges_spec d hp hls hll) rfl rfl rfl (by simp only [go_sem, simprocAttr, hc, h0, hnl, hr, hnp]) rfl ?_); try simp only [go_sem, simprocAttr, hc, h0, hnl, hr, hnp]) | (intro h))
    | true =>
    have hD : DrOk g d := ⟨hm, hnp, hnl, rangesB_ok hr⟩
    have hc1 : chkD g d = if 0 ≤ firstI g.es.length (endL g d) then (6, firstI g.es.length (endL g d)) else
      if 0 ≤ firstI g.es.length (fun i => riseL (d.ls.getD i [])) then (7, firstI g.es.length (fun i => riseL (d.ls.getD i []))) else
      if 0 ≤ firstI d.pts.length (aloneV d) then (8, firstI d.pts.length (aloneV d)) else
      if 0 ≤ firstI g.es.length (freeL g d) then (9, firstI g.es.length (freeL g d)) else
      if 0 ≤ firstI g.es.length (apartL g d) then (17, firstI g.es.length (apartL g d)) else (0, 0) := by
      rw [chkD, if_neg (by rw [hfit]; simp), if_neg (by rw [hr]; simp)]
    generalize hcc : chkD g d = c at hc1 ⊢
    repeat' (first | ((first | ((with_reducible (first | apply oA | apply oB)); exact rfl; intro K hK) | (refine hK _ ?_; clear hK K) | ((with_reducible (first | apply oG | apply oH)); iterate 3 exact rfl) | ((with_reducible apply oI); (iterate 2 exact rfl); intro K hK) | (with_reducible (first | apply wI | apply wJ | apply wK))); try simp only [go_sem, simprocAttr, h0, hnl, hr, hnp]) | fail | (with_reducible (first | apply oC | apply oJ | exact oK | apply wA | apply wB | apply wC hX hC | apply wD hX hC | apply wE hX hC hmix | apply wF hX hC hmix | apply wG | apply wH | apply And.intro)) | ((with_reducible refine oD ?_ ?_); first | fail | kernel_rfl) | ((with_reducible (first | apply oE | apply oF)); (iterate 3 exact rfl); all_goals (intro h; first | (exact absurd h (by decide)) | ((try simp only [go_sem, simprocAttr, h0, hnl, hr, hnp] at h); (try with_reducible intro K hK); simp only [go_sem, simprocAttr, h0, hnl, hr, hnp]))) | ((first | ((with_reducible apply wL); exact rfl) | ((with_reducible apply wM); exact rfl)); all_goals (try ((with_reducible intro h); first | (exact absurd h (by decide)) | (try simp only [go_sem, simprocAttr, h0, hnl, hr, hnp] at h)))) | omega | ((first | first | refine acall_simple hX hC hP (refGood_spec g hgl) rfl rfl rfl (by simp only [go_sem, simprocAttr, h0, hnl, hr, hnp]) rfl ?_ | refine acall_simple hX hC hP (refRanges_spec d hp hls hll) rfl rfl rfl (by simp only [go_sem, simprocAttr, h0, hnl, hr, hnp]) rfl ?_); try simp only [go_sem, simprocAttr, h0, hnl, hr, hnp]) | (intro h))
    refine awp_loopP (fun i : Nat => i ≤ g.es.length ∧ ∀ j, j < i → endL g d j = true) (fun i => ⟨[(2, .ptr 2 0), (3, .ptr 3 0), (6, eN i)], [(2, .box [eN g.n, .d (sE g.es)]), (3, .box [.d (sP d.pts), .d (sLn d.ls)])]⟩) (fun i => g.es.length - i) 0 (by simp) ?_ ?_
    · (refine Le.of ?_ ?_ <;> simp [go_sem, simprocAttr, h0, hnl, hr, hnp])
    rintro i ⟨hi, h6⟩
    rcases Nat.lt_or_ge i g.es.length with hil | hig
    · have hb : decide ((i : Int) < (g.es.length : Int)) = true := decide_eq_true (by omega)
      obtain ⟨⟨he0, he1⟩, he2, he3⟩ := mayB_e hm hil
      obtain ⟨h2, h8⟩ := hD.line hil
      have htn : (((d.ls.getD i []).length : Int) - 1).toNat = (d.ls.getD i []).length - 1 := by omega
      have hE : endL g d i = (decide ((d.ls.getD i []).getD 0 (0, 0) = d.pts.getD (g.es.getD i (0, 0)).1.toNat (0, 0)) && decide ((d.ls.getD i []).getD ((d.ls.getD i []).length - 1) (0, 0) = d.pts.getD (g.es.getD i (0, 0)).2.toNat (0, 0))) := rfl
      repeat' (first | ((first | ((with_reducible (first | apply oA | apply oB)); exact rfl; intro K hK) | (refine hK _ ?_; clear hK K) | ((with_reducible (first | apply oG | apply oH)); iterate 3 exact rfl) | ((with_reducible apply oI); (iterate 2 exact rfl); intro K hK) | (with_reducible (first | apply wI | apply wJ | apply wK))); try simp only [go_sem, simprocAttr, hb, htn, beqE]) | fail | (with_reducible (first | apply oC | apply oJ | exact oK | apply wA | apply wB | apply wC hX hC | apply wD hX hC | apply wE hX hC hmix | apply wF hX hC hmix | apply wG | apply wH | apply And.intro)) | ((with_reducible refine oD ?_ ?_); first | fail | kernel_rfl) | ((with_reducible (first | apply oE | apply oF)); (iterate 3 exact rfl); all_goals (intro h; first | (exact absurd h (by decide)) | ((try simp only [go_sem, simprocAttr, hb, htn, beqE] at h); (try with_reducible intro K hK); simp only [go_sem, simprocAttr, hb, htn, beqE]))) | ((first | ((with_reducible apply wL); exact rfl) | ((with_reducible apply wM); exact rfl)); all_goals (try ((with_reducible intro h); first | (exact absurd h (by decide)) | (try simp only [go_sem, simprocAttr, hb, htn, beqE] at h)))) | omega | ((first | fail); try simp only [go_sem, simprocAttr, hb, htn, beqE]) | (intro h))
      all_goals first
        | (have hfail : endL g d i = false := (by rw [hE]; simp only [Bool.and_eq_false_iff, decide_eq_false_iff_not]; first | exact .inl (by assumption) | exact .inr (by assumption))
           have f6 := firstI_at hil h6 hfail
           have hcv : c = (6, (i : Int)) := (by rw [hc1, if_pos (by omega), f6])
           rw [hcv])
        | (refine ⟨i + 1, ⟨by omega, all_lt h6 (by rw [hE]; simp only [Bool.and_eq_true, decide_eq_true_eq]; exact ⟨by assumption, by assumption⟩)⟩, ?_, by omega⟩
           (refine Le.of ?_ ?_ <;> simp [go_sem, simprocAttr, hb, htn, beqE]))
    · have hb : decide ((i : Int) < (g.es.length : Int)) = false := decide_eq_false (by omega)
      obtain rfl : i = g.es.length := by omega
      have f6 := firstI_none h6
      rw [if_neg (by omega)] at hc1
      repeat' (first | ((first | ((with_reducible (first | apply oA | apply oB)); exact rfl; intro K hK) | (refine hK _ ?_; clear hK K) | ((with_reducible (first | apply oG | apply oH)); iterate 3 exact rfl) | ((with_reducible apply oI); (iterate 2 exact rfl); intro K hK) | (with_reducible (first | apply wI | apply wJ | apply wK))); try simp only [go_sem, simprocAttr, hb]) | fail | (with_reducible (first | apply oC | apply oJ | exact oK | apply wA | apply wB | apply wC hX hC | apply wD hX hC | apply wE hX hC hmix | apply wF hX hC hmix | apply wG | apply wH | apply And.intro)) | ((with_reducible refine oD ?_ ?_); first | fail | kernel_rfl) | ((with_reducible (first | apply oE | apply oF)); (iterate 3 exact rfl); all_goals (intro h; first | (exact absurd h (by decide)) | ((try simp only [go_sem, simprocAttr, hb] at h); (try with_reducible intro K hK); simp only [go_sem, simprocAttr, hb]))) | ((first | ((with_reducible apply wL); exact rfl) | ((with_reducible apply wM); exact rfl)); all_goals (try ((with_reducible intro h); first | (exact absurd h (by decide)) | (try simp only [go_sem, simprocAttr, hb] at h)))) | omega | ((first | fail); try simp only [go_sem, simprocAttr, hb]) | (intro h))
      clear hb hig hi
      refine awp_loopP (fun i : Nat => i ≤ g.es.length ∧ ∀ j, j < i → riseL (d.ls.getD j []) = true) (fun i => ⟨[(2, .ptr 2 0), (3, .ptr 3 0), (8, eN i)], [(2, .box [eN g.n, .d (sE g.es)]), (3, .box [.d (sP d.pts), .d (sLn d.ls)])]⟩) (fun i => g.es.length - i) 0 (by simp) ?_ ?_
      · (refine Le.of ?_ ?_ <;> simp [go_sem, simprocAttr])
      rintro i ⟨hi, h7⟩
      rcases Nat.lt_or_ge i g.es.length with hil | hig
      · have hb : decide ((i : Int) < (g.es.length : Int)) = true := decide_eq_true (by omega)
        obtain ⟨l, hl⟩ : ∃ l, l = d.ls.getD i [] := ⟨_, rfl⟩
        have h28 := hD.line hil
        rw [← hl] at h28
        have hpl : (pcs l).length = l.length - 1 := pcs_length
        repeat' (first | ((first | ((with_reducible (first | apply oA | apply oB)); exact rfl; intro K hK) | (refine hK _ ?_; clear hK K) | ((with_reducible (first | apply oG | apply oH)); iterate 3 exact rfl) | ((with_reducible apply oI); (iterate 2 exact rfl); intro K hK) | (with_reducible (first | apply wI | apply wJ | apply wK))); try simp only [go_sem, simprocAttr, hb, ← hl]) | fail | (with_reducible (first | apply oC | apply oJ | exact oK | apply wA | apply wB | apply wC hX hC | apply wD hX hC | apply wE hX hC hmix | apply wF hX hC hmix | apply wG | apply wH | apply And.intro)) | ((with_reducible refine oD ?_ ?_); first | fail | kernel_rfl) | ((with_reducible (first | apply oE | apply oF)); (iterate 3 exact rfl); all_goals (intro h; first | (exact absurd h (by decide)) | ((try simp only [go_sem, simprocAttr, hb, ← hl] at h); (try with_reducible intro K hK); simp only [go_sem, simprocAttr, hb, ← hl]))) | ((first | ((with_reducible apply wL); exact rfl) | ((with_reducible apply wM); exact rfl)); all_goals (try ((with_reducible intro h); first | (exact absurd h (by decide)) | (try simp only [go_sem, simprocAttr, hb, ← hl] at h)))) | omega | ((first | fail); try simp only [go_sem, simprocAttr, hb, ← hl]) | (intro h))
        refine awp_loopP (fun k : Nat => k ≤ (pcs l).length ∧ ((pcs l).take k).any (fun q => decide (q.2.2 ≤ q.1.2)) = false) (fun k => ⟨[(2, .ptr 2 0), (3, .ptr 3 0), (8, eN i), (9, eN ((k + 1 : Nat) : Int))], [(2, .box [eN g.n, .d (sE g.es)]), (3, .box [.d (sP d.pts), .d (sLn d.ls)])]⟩) (fun k => (pcs l).length - k) 0 (by simp) ?_ ?_
        · (refine Le.of ?_ ?_ <;> simp [go_sem, simprocAttr, hb, ← hl])
        rintro k ⟨hk, hka⟩
        rcases Nat.lt_or_ge (k + 1) l.length with hkl | hkg
        · have hb1 : decide (((k + 1 : Nat) : Int) < (l.length : Int)) = true := decide_eq_true (by omega)
          have hgk := pcs_getD hkl
          have htn : (((k + 1 : Nat) : Int) - 1).toNat = k := by omega
          repeat' (first | ((first | ((with_reducible (first | apply oA | apply oB)); exact rfl; intro K hK) | (refine hK _ ?_; clear hK K) | ((with_reducible (first | apply oG | apply oH)); iterate 3 exact rfl) | ((with_reducible apply oI); (iterate 2 exact rfl); intro K hK) | (with_reducible (first | apply wI | apply wJ | apply wK))); try simp only [go_sem, simprocAttr, hb1, htn, ← hl]) | fail | (with_reducible (first | apply oC | apply oJ | exact oK | apply wA | apply wB | apply wC hX hC | apply wD hX hC | apply wE hX hC hmix | apply wF hX hC hmix | apply wG | apply wH | apply And.intro)) | ((with_reducible refine oD ?_ ?_); first | fail | kernel_rfl) | ((with_reducible (first | apply oE | apply oF)); (iterate 3 exact rfl); all_goals (intro h; first | (exact absurd h (by decide)) | ((try simp only [go_sem, simprocAttr, hb1, htn, ← hl] at h); (try with_reducible intro K hK); simp only [go_sem, simprocAttr, hb1, htn, ← hl]))) | ((first | ((with_reducible apply wL); exact rfl) | ((with_reducible apply wM); exact rfl)); all_goals (try ((with_reducible intro h); first | (exact absurd h (by decide)) | (try simp only [go_sem, simprocAttr, hb1, htn, ← hl] at h)))) | omega | ((first | fail); try simp only [go_sem, simprocAttr, hb1, htn, ← hl]) | (intro h))
          · have hfail : riseL (d.ls.getD i []) = false := by
              rw [← hl, riseL, any_at (d := ((0, 0), (0, 0))) (k := k) (by omega) (by rw [hgk]; exact decide_eq_true h)]; rfl
            have f7 := firstI_at (holds := fun i => riseL (d.ls.getD i [])) hil h7 hfail
            have hcv : c = (7, (i : Int)) := by rw [hc1, if_pos (by omega), f7]
            rw [hcv]
          · have hfail : riseL (d.ls.getD i []) = false := by
              rw [← hl, riseL, any_at (d := ((0, 0), (0, 0))) (k := k) (by omega) (by rw [hgk]; exact decide_eq_true h)]; rfl
            have f7 := firstI_at (holds := fun i => riseL (d.ls.getD i [])) hil h7 hfail
            have hcv : c = (7, (i : Int)) := by rw [hc1, if_pos (by omega), f7]
            rw [hcv]
          · refine ⟨k + 1, ⟨by omega, any_next ((0, 0), (0, 0)) (by omega) hka (by rw [hgk]; exact decide_eq_false h)⟩, ?_, by omega⟩
            (refine Le.of ?_ ?_ <;> simp [go_sem, simprocAttr, hb1, htn, ← hl])
        · have hb1 : decide (((k + 1 : Nat) : Int) < (l.length : Int)) = false := decide_eq_false (by omega)
          rw [List.take_of_length_le (by omega)] at hka
          repeat' (first | ((first | ((with_reducible (first | apply oA | apply oB)); exact rfl; intro K hK) | (refine hK _ ?_; clear hK K) | ((with_reducible (first | apply oG | apply oH)); iterate 3 exact rfl) | ((with_reducible apply oI); (iterate 2 exact rfl); intro K hK) | (with_reducible (first | apply wI | apply wJ | apply wK))); try simp only [go_sem, simprocAttr, hb1, ← hl]) | fail | (with_reducible (first | apply oC | apply oJ | exact oK | apply wA | apply wB | apply wC hX hC | apply wD hX hC | apply wE hX hC hmix | apply wF hX hC hmix | apply wG | apply wH | apply And.intro)) | ((with_reducible refine oD ?_ ?_); first | fail | kernel_rfl) | ((with_reducible (first | apply oE | apply oF)); (iterate 3 exact rfl); all_goals (intro h; first | (exact absurd h (by decide)) | ((try simp only [go_sem, simprocAttr, hb1, ← hl] at h); (try with_reducible intro K hK); simp only [go_sem, simprocAttr, hb1, ← hl]))) | ((first | ((with_reducible apply wL); exact rfl) | ((with_reducible apply wM); exact rfl)); all_goals (try ((with_reducible intro h); first | (exact absurd h (by decide)) | (try simp only [go_sem, simprocAttr, hb1, ← hl] at h)))) | omega | ((first | fail); try simp only [go_sem, simprocAttr, hb1, ← hl]) | (intro h))
          refine ⟨i + 1, ⟨by omega, all_lt h7 (by rw [← hl, riseL, hka]; rfl)⟩, ?_, by omega⟩
          (refine Le.of ?_ ?_ <;> simp [go_sem, simprocAttr, hb1, ← hl])
      · have hb : decide ((i : Int) < (g.es.length : Int)) = false := decide_eq_false (by omega)
        obtain rfl : i = g.es.length := by omega
        have f7 := firstI_none (holds := fun i => riseL (d.ls.getD i [])) h7
        rw [if_neg (by omega)] at hc1
        repeat' (first | ((first | ((with_reducible (first | apply oA | apply oB)); exact rfl; intro K hK) | (refine hK _ ?_; clear hK K) | ((with_reducible (first | apply oG | apply oH)); iterate 3 exact rfl) | ((with_reducible apply oI); (iterate 2 exact rfl); intro K hK) | (with_reducible (first | apply wI | apply wJ | apply wK))); try simp only [go_sem, simprocAttr, hb]) | fail | (with_reducible (first | apply oC | apply oJ | exact oK | apply wA | apply wB | apply wC hX hC | apply wD hX hC | apply wE hX hC hmix | apply wF hX hC hmix | apply wG | apply wH | apply And.intro)) | ((with_reducible refine oD ?_ ?_); first | fail | kernel_rfl) | ((with_reducible (first | apply oE | apply oF)); (iterate 3 exact rfl); all_goals (intro h; first | (exact absurd h (by decide)) | ((try simp only [go_sem, simprocAttr, hb] at h); (try with_reducible intro K hK); simp only [go_sem, simprocAttr, hb]))) | ((first | ((with_reducible apply wL); exact rfl) | ((with_reducible apply wM); exact rfl)); all_goals (try ((with_reducible intro h); first | (exact absurd h (by decide)) | (try simp only [go_sem, simprocAttr, hb] at h)))) | omega | ((first | fail); try simp only [go_sem, simprocAttr, hb]) | (intro h))
        clear hb hig hi
        refine awp_loopP (fun x : Nat => x ≤ d.pts.length ∧ ∀ j, j < x → aloneV d j = true) (fun x => ⟨[(2, .ptr 2 0), (3, .ptr 3 0), (10, eN x)], [(2, .box [eN g.n, .d (sE g.es)]), (3, .box [.d (sP d.pts), .d (sLn d.ls)])]⟩) (fun x => d.pts.length - x) 0 (by simp) ?_ ?_
        · (refine Le.of ?_ ?_ <;> simp [go_sem, simprocAttr])
        rintro x ⟨hx, h8⟩
        rcases Nat.lt_or_ge x d.pts.length with hxl | hxg
        · have hb : decide ((x : Int) < g.n) = true := decide_eq_true (by omega)
          repeat' (first | ((first | ((with_reducible (first | apply oA | apply oB)); exact rfl; intro K hK) | (refine hK _ ?_; clear hK K) | ((with_reducible (first | apply oG | apply oH)); iterate 3 exact rfl) | ((with_reducible apply oI); (iterate 2 exact rfl); intro K hK) | (with_reducible (first | apply wI | apply wJ | apply wK))); try simp only [go_sem, simprocAttr, hb]) | fail | (with_reducible (first | apply oC | apply oJ | exact oK | apply wA | apply wB | apply wC hX hC | apply wD hX hC | apply wE hX hC hmix | apply wF hX hC hmix | apply wG | apply wH | apply And.intro)) | ((with_reducible refine oD ?_ ?_); first | fail | kernel_rfl) | ((with_reducible (first | apply oE | apply oF)); (iterate 3 exact rfl); all_goals (intro h; first | (exact absurd h (by decide)) | ((try simp only [go_sem, simprocAttr, hb] at h); (try with_reducible intro K hK); simp only [go_sem, simprocAttr, hb]))) | ((first | ((with_reducible apply wL); exact rfl) | ((with_reducible apply wM); exact rfl)); all_goals (try ((with_reducible intro h); first | (exact absurd h (by decide)) | (try simp only [go_sem, simprocAttr, hb] at h)))) | omega | ((first | fail); try simp only [go_sem, simprocAttr, hb]) | (intro h))
          refine awp_loopP (fun z : Nat => z ≤ x ∧ ∀ j, j < z → ¬ d.pts.getD x (0, 0) = d.pts.getD j (0, 0)) (fun z => ⟨[(2, .ptr 2 0), (3, .ptr 3 0), (10, eN x), (11, eN z)], [(2, .box [eN g.n, .d (sE g.es)]), (3, .box [.d (sP d.pts), .d (sLn d.ls)])]⟩) (fun z => x - z) 0 (by simp) ?_ ?_
          · (refine Le.of ?_ ?_ <;> simp [go_sem, simprocAttr, hb])
          rintro z ⟨hz, hza⟩
          rcases Nat.lt_or_ge z x with hzl | hzg
          · have hb1 : decide ((z : Int) < (x : Int)) = true := decide_eq_true (by omega)
            repeat' (first | ((first | ((with_reducible (first | apply oA | apply oB)); exact rfl; intro K hK) | (refine hK _ ?_; clear hK K) | ((with_reducible (first | apply oG | apply oH)); iterate 3 exact rfl) | ((with_reducible apply oI); (iterate 2 exact rfl); intro K hK) | (with_reducible (first | apply wI | apply wJ | apply wK))); try simp only [go_sem, simprocAttr, hb1, beqE]) | fail | (with_reducible (first | apply oC | apply oJ | exact oK | apply wA | apply wB | apply wC hX hC | apply wD hX hC | apply wE hX hC hmix | apply wF hX hC hmix | apply wG | apply wH | apply And.intro)) | ((with_reducible refine oD ?_ ?_); first | fail | kernel_rfl) | ((with_reducible (first | apply oE | apply oF)); (iterate 3 exact rfl); all_goals (intro h; first | (exact absurd h (by decide)) | ((try simp only [go_sem, simprocAttr, hb1, beqE] at h); (try with_reducible intro K hK); simp only [go_sem, simprocAttr, hb1, beqE]))) | ((first | ((with_reducible apply wL); exact rfl) | ((with_reducible apply wM); exact rfl)); all_goals (try ((with_reducible intro h); first | (exact absurd h (by decide)) | (try simp only [go_sem, simprocAttr, hb1, beqE] at h)))) | omega | ((first | fail); try simp only [go_sem, simprocAttr, hb1, beqE]) | (intro h))
            · have hfail : aloneV d x = false := by
                have : d.pts.getD x (0, 0) ∈ d.pts.take x := by
                  rw [h, List.mem_iff_getElem?]
                  exact ⟨z, by rw [List.getElem?_take, if_pos hzl, List.getD_eq_getElem?_getD, List.getElem?_eq_getElem (by omega)]; rfl⟩
                rw [aloneV, decide_eq_true this]; rfl
              have f8 := firstI_at hxl h8 hfail
              have hcv : c = (8, (x : Int)) := by rw [hc1, if_pos (by omega), f8]
              rw [hcv]
            · have hfail : aloneV d x = false := by
                have : d.pts.getD x (0, 0) ∈ d.pts.take x := by
                  rw [h, List.mem_iff_getElem?]
                  exact ⟨z, by rw [List.getElem?_take, if_pos hzl, List.getD_eq_getElem?_getD, List.getElem?_eq_getElem (by omega)]; rfl⟩
                rw [aloneV, decide_eq_true this]; rfl
              have f8 := firstI_at hxl h8 hfail
              have hcv : c = (8, (x : Int)) := by rw [hc1, if_pos (by omega), f8]
              rw [hcv]
            · refine ⟨z + 1, ⟨by omega, all_lt hza h⟩, ?_, by omega⟩
              (refine Le.of ?_ ?_ <;> simp [go_sem, simprocAttr, hb1, beqE])
          · have hb1 : decide ((z : Int) < (x : Int)) = false := decide_eq_false (by omega)
            have hgo : aloneV d x = true := by
              have : d.pts.getD x (0, 0) ∉ d.pts.take x := by
                rw [List.mem_iff_getElem?]
                rintro ⟨j, hj⟩
                rw [List.getElem?_take] at hj
                split at hj
                · exact hza j (by omega) (by rw [List.getD_eq_getElem?_getD (i := j), hj]; rfl)
                · cases hj
              rw [aloneV, decide_eq_false this]; rfl
            repeat' (first | ((first | ((with_reducible (first | apply oA | apply oB)); exact rfl; intro K hK) | (refine hK _ ?_; clear hK K) | ((with_reducible (first | apply oG | apply oH)); iterate 3 exact rfl) | ((with_reducible apply oI); (iterate 2 exact rfl); intro K hK) | (with_reducible (first | apply wI | apply wJ | apply wK))); try simp only [go_sem, simprocAttr, hb1]) | fail | (with_reducible (first | apply oC | apply oJ | exact oK | apply wA | apply wB | apply wC hX hC | apply wD hX hC | apply wE hX hC hmix | apply wF hX hC hmix | apply wG | apply wH | apply And.intro)) | ((with_reducible refine oD ?_ ?_); first | fail | kernel_rfl) | ((with_reducible (first | apply oE | apply oF)); (iterate 3 exact rfl); all_goals (intro h; first | (exact absurd h (by decide)) | ((try simp only [go_sem, simprocAttr, hb1] at h); (try with_reducible intro K hK); simp only [go_sem, simprocAttr, hb1]))) | ((first | ((with_reducible apply wL); exact rfl) | ((with_reducible apply wM); exact rfl)); all_goals (try ((with_reducible intro h); first | (exact absurd h (by decide)) | (try simp only [go_sem, simprocAttr, hb1] at h)))) | omega | ((first | fail); try simp only [go_sem, simprocAttr, hb1]) | (intro h))
            refine ⟨x + 1, ⟨by omega, all_lt h8 hgo⟩, ?_, by omega⟩
            (refine Le.of ?_ ?_ <;> simp [go_sem, simprocAttr, hb1])
        · have hb : decide ((x : Int) < g.n) = false := decide_eq_false (by omega)
          obtain rfl : x = d.pts.length := by omega
          have f8 := firstI_none h8
          rw [if_neg (by omega)] at hc1
          repeat' (first | ((first | ((with_reducible (first | apply oA | apply oB)); exact rfl; intro K hK) | (refine hK _ ?_; clear hK K) | ((with_reducible (first | apply oG | apply oH)); iterate 3 exact rfl) | ((with_reducible apply oI); (iterate 2 exact rfl); intro K hK) | (with_reducible (first | apply wI | apply wJ | apply wK))); try simp only [go_sem, simprocAttr, hb]) | fail | (with_reducible (first | apply oC | apply oJ | exact oK | apply wA | apply wB | apply wC hX hC | apply wD hX hC | apply wE hX hC hmix | apply wF hX hC hmix | apply wG | apply wH | apply And.intro)) | ((with_reducible refine oD ?_ ?_); first | fail | kernel_rfl) | ((with_reducible (first | apply oE | apply oF)); (iterate 3 exact rfl); all_goals (intro h; first | (exact absurd h (by decide)) | ((try simp only [go_sem, simprocAttr, hb] at h); (try with_reducible intro K hK); simp only [go_sem, simprocAttr, hb]))) | ((first | ((with_reducible apply wL); exact rfl) | ((with_reducible apply wM); exact rfl)); all_goals (try ((with_reducible intro h); first | (exact absurd h (by decide)) | (try simp only [go_sem, simprocAttr, hb] at h)))) | omega | ((first | fail); try simp only [go_sem, simprocAttr, hb]) | (intro h))
          clear hb hxg hx
          refine awp_loopP (fun i : Nat => i ≤ g.es.length ∧ ∀ j, j < i → freeL g d j = true) (fun i => ⟨[(2, .ptr 2 0), (3, .ptr 3 0), (12, eN i)], [(2, .box [eN g.n, .d (sE g.es)]), (3, .box [.d (sP d.pts), .d (sLn d.ls)])]⟩) (fun i => g.es.length - i) 0 (by simp) ?_ ?_
          · (refine Le.of ?_ ?_ <;> simp [go_sem, simprocAttr])
          rintro i ⟨hi, h9⟩
          rcases Nat.lt_or_ge i g.es.length with hil | hig
          · have hb : decide ((i : Int) < (g.es.length : Int)) = true := decide_eq_true (by omega)
            have h28 := hD.line hil
            have hll2 : (d.ls.getD i []).length ≤ 1000000 := by omega
            repeat' (first | ((first | ((with_reducible (first | apply oA | apply oB)); exact rfl; intro K hK) | (refine hK _ ?_; clear hK K) | ((with_reducible (first | apply oG | apply oH)); iterate 3 exact rfl) | ((with_reducible apply oI); (iterate 2 exact rfl); intro K hK) | (with_reducible (first | apply wI | apply wJ | apply wK))); try simp only [go_sem, simprocAttr, hb]) | fail | (with_reducible (first | apply oC | apply oJ | exact oK | apply wA | apply wB | apply wC hX hC | apply wD hX hC | apply wE hX hC hmix | apply wF hX hC hmix | apply wG | apply wH | apply And.intro)) | ((with_reducible refine oD ?_ ?_); first | fail | kernel_rfl) | ((with_reducible (first | apply oE | apply oF)); (iterate 3 exact rfl); all_goals (intro h; first | (exact absurd h (by decide)) | ((try simp only [go_sem, simprocAttr, hb] at h); (try with_reducible intro K hK); simp only [go_sem, simprocAttr, hb]))) | ((first | ((with_reducible apply wL); exact rfl) | ((with_reducible apply wM); exact rfl)); all_goals (try ((with_reducible intro h); first | (exact absurd h (by decide)) | (try simp only [go_sem, simprocAttr, hb] at h)))) | omega | ((first | fail); try simp only [go_sem, simprocAttr, hb]) | (intro h))
            refine awp_loopP (fun x : Nat => x ≤ d.pts.length ∧ freeK g d i x = true) (fun x => ⟨[(2, .ptr 2 0), (3, .ptr 3 0), (12, eN i), (13, eN x)], [(2, .box [eN g.n, .d (sE g.es)]), (3, .box [.d (sP d.pts), .d (sLn d.ls)])]⟩) (fun x => d.pts.length - x) 0 (by simp [freeK]) ?_ ?_
            · (refine Le.of ?_ ?_ <;> simp [go_sem, simprocAttr, hb])
            rintro x ⟨hx, hxa⟩
            rcases Nat.lt_or_ge x d.pts.length with hxl | hxg
            · have hb1 : decide ((x : Int) < g.n) = true := decide_eq_true (by omega)
              have hnx := freeK_next (g := g) (d := d) (i := i) (k := x)
              rw [hxa, Bool.true_and] at hnx
              repeat' (first | ((first | ((with_reducible (first | apply oA | apply oB)); exact rfl; intro K hK) | (refine hK _ ?_; clear hK K) | ((with_reducible (first | apply oG | apply oH)); iterate 3 exact rfl) | ((with_reducible apply oI); (iterate 2 exact rfl); intro K hK) | (with_reducible (first | apply wI | apply wJ | apply wK))); try simp only [go_sem, simprocAttr, hb1]) | fail | (with_reducible (first | apply oC | apply oJ | exact oK | apply wA | apply wB | apply wC hX hC | apply wD hX hC | apply wE hX hC hmix | apply wF hX hC hmix | apply wG | apply wH | apply And.intro)) | ((with_reducible refine oD ?_ ?_); first | fail | kernel_rfl) | ((with_reducible (first | apply oE | apply oF)); (iterate 3 exact rfl); all_goals (intro h; first | (exact absurd h (by decide)) | ((try simp only [go_sem, simprocAttr, hb1] at h); (try with_reducible intro K hK); simp only [go_sem, simprocAttr, hb1]))) | ((first | ((with_reducible apply wL); exact rfl) | ((with_reducible apply wM); exact rfl)); all_goals (try ((with_reducible intro h); first | (exact absurd h (by decide)) | (try simp only [go_sem, simprocAttr, hb1] at h)))) | omega | ((first | refine acall_simple hX hC hP (refOnL_spec (d.ls.getD i []) (d.pts.getD x (0, 0)) hll2) rfl rfl rfl (by simp only [go_sem, simprocAttr, hb1]) rfl ?_); try simp only [go_sem, simprocAttr, hb1]) | (intro h))
              any_goals (
                have hfail : freeL g d i = false := (by
                  rw [freeL, freeK]
                  refine all_not hxl ?_
                  simp only [*, decide_false, Bool.or_false, Bool.false_or, Bool.not_true])
                have f9 := firstI_at hil h9 hfail
                have hcv : c = (9, (i : Int)) := (by rw [hc1, if_pos (by omega), f9])
                rw [hcv]
                done)
              all_goals (
                refine ⟨x + 1, ⟨by omega, ?_⟩, ?_, by omega⟩
                · rw [hnx]; simp only [*, decide_true, Bool.true_or, Bool.or_true, Bool.not_false]
                · (refine Le.of ?_ ?_ <;> simp [go_sem, simprocAttr, hb1]))
            · have hb1 : decide ((x : Int) < g.n) = false := decide_eq_false (by omega)
              obtain rfl : x = d.pts.length := by omega
              repeat' (first | ((first | ((with_reducible (first | apply oA | apply oB)); exact rfl; intro K hK) | (refine hK _ ?_; clear hK K) | ((with_reducible (first | apply oG | apply oH)); iterate 3 exact rfl) | ((with_reducible apply oI); (iterate 2 exact rfl); intro K hK) | (with_reducible (first | apply wI | apply wJ | apply wK))); try simp only [go_sem, simprocAttr, hb1]) | fail | (with_reducible (first | apply oC | apply oJ | exact oK | apply wA | apply wB | apply wC hX hC | apply wD hX hC | apply wE hX hC hmix | apply wF hX hC hmix | apply wG | apply wH | apply And.intro)) | ((with_reducible refine oD ?_ ?_); first | fail | kernel_rfl) | ((with_reducible (first | apply oE | apply oF)); (iterate 3 exact rfl); all_goals (intro h; first | (exact absurd h (by decide)) | ((try simp only [go_sem, simprocAttr, hb1] at h); (try with_reducible intro K hK); simp only [go_sem, simprocAttr, hb1]))) | ((first | ((with_reducible apply wL); exact rfl) | ((with_reducible apply wM); exact rfl)); all_goals (try ((with_reducible intro h); first | (exact absurd h (by decide)) | (try simp only [go_sem, simprocAttr, hb1] at h)))) | omega | ((first | fail); try simp only [go_sem, simprocAttr, hb1]) | (intro h))
              refine ⟨i + 1, ⟨by omega, all_lt h9 hxa⟩, ?_, by omega⟩
              (refine Le.of ?_ ?_ <;> simp [go_sem, simprocAttr, hb1])
          · have hb : decide ((i : Int) < (g.es.length : Int)) = false := decide_eq_false (by omega)
            obtain rfl : i = g.es.length := by omega
            have f9 := firstI_none h9
            rw [if_neg (by omega)] at hc1
            repeat' (first | ((first | ((with_reducible (first | apply oA | apply oB)); exact rfl; intro K hK) | (refine hK _ ?_; clear hK K) | ((with_reducible (first | apply oG | apply oH)); iterate 3 exact rfl) | ((with_reducible apply oI); (iterate 2 exact rfl); intro K hK) | (with_reducible (first | apply wI | apply wJ | apply wK))); try simp only [go_sem, simprocAttr, hb]) | fail | (with_reducible (first | apply oC | apply oJ | exact oK | apply wA | apply wB | apply wC hX hC | apply wD hX hC | apply wE hX hC hmix | apply wF hX hC hmix | apply wG | apply wH | apply And.intro)) | ((with_reducible refine oD ?_ ?_); first | fail | kernel_rfl) | ((with_reducible (first | apply oE | apply oF)); (iterate 3 exact rfl); all_goals (intro h; first | (exact absurd h (by decide)) | ((try simp only [go_sem, simprocAttr, hb] at h); (try with_reducible intro K hK); simp only [go_sem, simprocAttr, hb]))) | ((first | ((with_reducible apply wL); exact rfl) | ((with_reducible apply wM); exact rfl)); all_goals (try ((with_reducible intro h); first | (exact absurd h (by decide)) | (try simp only [go_sem, simprocAttr, hb] at h)))) | omega | ((first | fail); try simp only [go_sem, simprocAttr, hb]) | (intro h))
            clear hb hig hi
            refine awp_loopP (fun i : Nat => i ≤ g.es.length ∧ ∀ j, j < i → apartL g d j = true) (fun i => ⟨[(2, .ptr 2 0), (3, .ptr 3 0), (14, eN i)], [(2, .box [eN g.n, .d (sE g.es)]), (3, .box [.d (sP d.pts), .d (sLn d.ls)])]⟩) (fun i => g.es.length - i) 0 (by simp) ?_ ?_
            · (refine Le.of ?_ ?_ <;> simp [go_sem, simprocAttr])
            rintro i ⟨hi, h17⟩
            rcases Nat.lt_or_ge i g.es.length with hil | hig
            · have hb : decide ((i : Int) < (g.es.length : Int)) = true := decide_eq_true (by omega)
              repeat' (first | ((first | ((with_reducible (first | apply oA | apply oB)); exact rfl; intro K hK) | (refine hK _ ?_; clear hK K) | ((with_reducible (first | apply oG | apply oH)); iterate 3 exact rfl) | ((with_reducible apply oI); (iterate 2 exact rfl); intro K hK) | (with_reducible (first | apply wI | apply wJ | apply wK))); try simp only [go_sem, simprocAttr, hb]) | fail | (with_reducible (first | apply oC | apply oJ | exact oK | apply wA | apply wB | apply wC hX hC | apply wD hX hC | apply wE hX hC hmix | apply wF hX hC hmix | apply wG | apply wH | apply And.intro)) | ((with_reducible refine oD ?_ ?_); first | fail | kernel_rfl) | ((with_reducible (first | apply oE | apply oF)); (iterate 3 exact rfl); all_goals (intro h; first | (exact absurd h (by decide)) | ((try simp only [go_sem, simprocAttr, hb] at h); (try with_reducible intro K hK); simp only [go_sem, simprocAttr, hb]))) | ((first | ((with_reducible apply wL); exact rfl) | ((with_reducible apply wM); exact rfl)); all_goals (try ((with_reducible intro h); first | (exact absurd h (by decide)) | (try simp only [go_sem, simprocAttr, hb] at h)))) | omega | ((first | fail); try simp only [go_sem, simprocAttr, hb]) | (intro h))
              refine awp_loopP (fun k : Nat => k ≤ i ∧ apartK g d i k = true) (fun k => ⟨[(2, .ptr 2 0), (3, .ptr 3 0), (14, eN i), (15, eN k)], [(2, .box [eN g.n, .d (sE g.es)]), (3, .box [.d (sP d.pts), .d (sLn d.ls)])]⟩) (fun k => i - k) 0 (by simp [apartK]) ?_ ?_
              · (refine Le.of ?_ ?_ <;> simp [go_sem, simprocAttr, hb])
              rintro k ⟨hk, hka⟩
              rcases Nat.lt_or_ge k i with hkl | hkg
              · have hb1 : decide ((k : Int) < (i : Int)) = true := decide_eq_true (by omega)
                have hkl' : k < g.es.length := by omega
                have hnx : apartK g d i (k + 1) = (apartK g d i k && !meetB g d i k) := by rw [apartK_next, meetB, Bool.not_not]
                repeat' (first | ((first | ((with_reducible (first | apply oA | apply oB)); exact rfl; intro K hK) | (refine hK _ ?_; clear hK K) | ((with_reducible (first | apply oG | apply oH)); iterate 3 exact rfl) | ((with_reducible apply oI); (iterate 2 exact rfl); intro K hK) | (with_reducible (first | apply wI | apply wJ | apply wK))); try simp only [go_sem, simprocAttr, hb1]) | fail | (with_reducible (first | apply oC | apply oJ | exact oK | apply wA | apply wB | apply wC hX hC | apply wD hX hC | apply wE hX hC hmix | apply wF hX hC hmix | apply wG | apply wH | apply And.intro)) | ((with_reducible refine oD ?_ ?_); first | fail | kernel_rfl) | ((with_reducible (first | apply oE | apply oF)); (iterate 3 exact rfl); all_goals (intro h; first | (exact absurd h (by decide)) | ((try simp only [go_sem, simprocAttr, hb1] at h); (try with_reducible intro K hK); simp only [go_sem, simprocAttr, hb1]))) | ((first | ((with_reducible apply wL); exact rfl) | ((with_reducible apply wM); exact rfl)); all_goals (try ((with_reducible intro h); first | (exact absurd h (by decide)) | (try simp only [go_sem, simprocAttr, hb1] at h)))) | omega | ((first | refine acall_simple hX hC hP (refMeetL_spec g d hD i k hil hkl') rfl rfl rfl (by simp only [go_sem, simprocAttr, hb1]) rfl ?_); try simp only [go_sem, simprocAttr, hb1]) | (intro h))
                · have hfail : apartL g d i = false := all_not hkl (by rw [meetB, Bool.not_eq_true'] at h; exact h)
                  have f17 := firstI_at hil h17 hfail
                  have hcv : c = (17, (i : Int)) := by rw [hc1, if_pos (by omega), f17]
                  rw [hcv]
                · have hfail : apartL g d i = false := all_not hkl (by rw [meetB, Bool.not_eq_true'] at h; exact h)
                  have f17 := firstI_at hil h17 hfail
                  have hcv : c = (17, (i : Int)) := by rw [hc1, if_pos (by omega), f17]
                  rw [hcv]
                · refine ⟨k + 1, ⟨by omega, by rw [hnx, hka, h]; rfl⟩, ?_, by omega⟩
                  (refine Le.of ?_ ?_ <;> simp [go_sem, simprocAttr, hb1])
              · have hb1 : decide ((k : Int) < (i : Int)) = false := decide_eq_false (by omega)
                obtain rfl : k = i := by omega
                repeat' (first | ((first | ((with_reducible (first | apply oA | apply oB)); exact rfl; intro K hK) | (refine hK _ ?_; clear hK K) | ((with_reducible (first | apply oG | apply oH)); iterate 3 exact rfl) | ((with_reducible apply oI); (iterate 2 exact rfl); intro K hK) | (with_reducible (first | apply wI | apply wJ | apply wK))); try simp only [go_sem, simprocAttr, hb1]) | fail | (with_reducible (first | apply oC | apply oJ | exact oK | apply wA | apply wB | apply wC hX hC | apply wD hX hC | apply wE hX hC hmix | apply wF hX hC hmix | apply wG | apply wH | apply And.intro)) | ((with_reducible refine oD ?_ ?_); first | fail | kernel_rfl) | ((with_reducible (first | apply oE | apply oF)); (iterate 3 exact rfl); all_goals (intro h; first | (exact absurd h (by decide)) | ((try simp only [go_sem, simprocAttr, hb1] at h); (try with_reducible intro K hK); simp only [go_sem, simprocAttr, hb1]))) | ((first | ((with_reducible apply wL); exact rfl) | ((with_reducible apply wM); exact rfl)); all_goals (try ((with_reducible intro h); first | (exact absurd h (by decide)) | (try simp only [go_sem, simprocAttr, hb1] at h)))) | omega | ((first | fail); try simp only [go_sem, simprocAttr, hb1]) | (intro h))
                refine ⟨k + 1, ⟨by omega, all_lt h17 hka⟩, ?_, by omega⟩
                (refine Le.of ?_ ?_ <;> simp [go_sem, simprocAttr, hb1])
            · have hb : decide ((i : Int) < (g.es.length : Int)) = false := decide_eq_false (by omega)
              obtain rfl : i = g.es.length := by omega
              have f17 := firstI_none h17
              rw [if_neg (by omega)] at hc1
              repeat' (first | ((first | ((with_reducible (first | apply oA | apply oB)); exact rfl; intro K hK) | (refine hK _ ?_; clear hK K) | ((with_reducible (first | apply oG | apply oH)); iterate 3 exact rfl) | ((with_reducible apply oI); (iterate 2 exact rfl); intro K hK) | (with_reducible (first | apply wI | apply wJ | apply wK))); try simp only [go_sem, simprocAttr, hb]) | fail | (with_reducible (first | apply oC | apply oJ | exact oK | apply wA | apply wB | apply wC hX hC | apply wD hX hC | apply wE hX hC hmix | apply wF hX hC hmix | apply wG | apply wH | apply And.intro)) | ((with_reducible refine oD ?_ ?_); first | fail | kernel_rfl) | ((with_reducible (first | apply oE | apply oF)); (iterate 3 exact rfl); all_goals (intro h; first | (exact absurd h (by decide)) | ((try simp only [go_sem, simprocAttr, hb] at h); (try with_reducible intro K hK); simp only [go_sem, simprocAttr, hb]))) | ((first | ((with_reducible apply wL); exact rfl) | ((with_reducible apply wM); exact rfl)); all_goals (try ((with_reducible intro h); first | (exact absurd h (by decide)) | (try simp only [go_sem, simprocAttr, hb] at h)))) | omega | ((first | fail); try simp only [go_sem, simprocAttr, hb]) | (intro h))
              all_goals rw [hc1]
end Go.Ab
end
section
namespace Go.Ab
open Go.Proofs
attribute [local congr] ACall.congr
set_option maxRecDepth 10000
set_option maxHeartbeats 8000000

def greatD (g : Gr) (d : Dr) : Bool := decide (40 < g.es.length) || decide (70 < d.pts.length) || decide (50 < d.ls.length) || d.ls.any fun l => decide (20 < l.length)
theorem greatD_spec (g : Gr) (d : Dr) (hls : d.ls.length ≤ 9223372036854775807) : Spec Try.prog 12 (Args [eG g, eDr d]) [] (eB (greatD g d)) [] := by
  (refine Spec.intro (C := T.cfg [] []) (rs := [.t 4]) (T.cfg_ok _ _) Try.func12 rfl rfl Try.ntmps12 Try.results12 (by simp [AObj.isNest]) (by simp [AObj.isNest]) (by kernel_rfl) ?_; intro X hX hP hC hXn hXm vals hA; refine ⟨_, by simp, hA, ?_⟩; have hmix : X.P.follows .mixedOrders = true := (by rw [hP]; exact T.mixed); clear hXn hXm)
  by_cases h1 : 40 < g.es.length
  · have hb : decide ((40 : Int) < (g.es.length : Int)) = true := decide_eq_true (by omega)
    repeat' (first | ((first | ((with_reducible (first | apply oA | apply oB)); exact rfl; intro K hK) | (refine hK _ ?_; clear hK K) | ((with_reducible (first | apply oG | apply oH)); iterate 3 exact rfl) | ((with_reducible apply oI); (iterate 2 exact rfl); intro K hK) | (with_reducible (first | apply wI | apply wJ | apply wK))); try simp only [go_sem, simprocAttr, hb]) | fail | (with_reducible (first | apply oC | apply oJ | exact oK | apply wA | apply wB | apply wC hX hC | apply wD hX hC | apply wE hX hC hmix | apply wF hX hC hmix | apply wG | apply wH | apply And.intro)) | ((with_reducible refine oD ?_ ?_); first | fail | kernel_rfl) | ((with_reducible (first | apply oE | apply oF)); (iterate 3 exact rfl); all_goals (intro h; first | (exact absurd h (by decide)) | ((try simp only [go_sem, simprocAttr, hb] at h); (try with_reducible intro K hK); simp only [go_sem, simprocAttr, hb]))) | ((first | ((with_reducible apply wL); exact rfl) | ((with_reducible apply wM); exact rfl)); all_goals (try ((with_reducible intro h); first | (exact absurd h (by decide)) | (try simp only [go_sem, simprocAttr, hb] at h)))) | omega | ((first | fail); try simp only [go_sem, simprocAttr, hb]) | (intro h))
    simp only [greatD, decide_eq_true h1, Bool.true_or]
  by_cases h2 : 70 < d.pts.length
  · have hb : decide ((40 : Int) < (g.es.length : Int)) = false := decide_eq_false (by omega)
    have hb2 : decide ((70 : Int) < (d.pts.length : Int)) = true := decide_eq_true (by omega)
    repeat' (first | ((first | ((with_reducible (first | apply oA | apply oB)); exact rfl; intro K hK) | (refine hK _ ?_; clear hK K) | ((with_reducible (first | apply oG | apply oH)); iterate 3 exact rfl) | ((with_reducible apply oI); (iterate 2 exact rfl); intro K hK) | (with_reducible (first | apply wI | apply wJ | apply wK))); try simp only [go_sem, simprocAttr, hb, hb2]) | fail | (with_reducible (first | apply oC | apply oJ | exact oK | apply wA | apply wB | apply wC hX hC | apply wD hX hC | apply wE hX hC hmix | apply wF hX hC hmix | apply wG | apply wH | apply And.intro)) | ((with_reducible refine oD ?_ ?_); first | fail | kernel_rfl) | ((with_reducible (first | apply oE | apply oF)); (iterate 3 exact rfl); all_goals (intro h; first | (exact absurd h (by decide)) | ((try simp only [go_sem, simprocAttr, hb, hb2] at h); (try with_reducible intro K hK); simp only [go_sem, simprocAttr, hb, hb2]))) | ((first | ((with_reducible apply wL); exact rfl) | ((with_reducible apply wM); exact rfl)); all_goals (try ((with_reducible intro h); first | (exact absurd h (by decide)) | (try simp only [go_sem, simprocAttr, hb, hb2] at h)))) | omega | ((first | fail); try simp only [go_sem, simprocAttr, hb, hb2]) | (intro h))
    simp only [greatD, decide_eq_true h2, Bool.true_or, Bool.or_true]
  by_cases h3 : 50 < d.ls.length
  · have hb : decide ((40 : Int) < (g.es.length : Int)) = false := decide_eq_false (by omega)
    have hb2 : decide ((70 : Int) < (d.pts.length : Int)) = false := decide_eq_false (by omega)
    have hb3 : decide ((50 : Int) < (d.ls.length : Int)) = true := decide_eq_true (by omega)
    repeat' (first | ((first | ((with_reducible (first | apply oA | apply oB)); exact rfl; intro K hK) | (refine hK _ ?_; clear hK K) | ((with_reducible (first | apply oG | apply oH)); iterate 3 exact rfl) | ((with_reducible apply oI); (iterate 2 exact rfl); intro K hK) | (with_reducible (first | apply wI | apply wJ | apply wK))); try simp only [go_sem, simprocAttr, hb, hb2, hb3]) | fail | (with_reducible (first | apply oC | apply oJ | exact oK | apply wA | apply wB | apply wC hX hC | apply wD hX hC | apply wE hX hC hmix | apply wF hX hC hmix | apply wG | apply wH | apply And.intro)) | ((with_reducible refine oD ?_ ?_); first | fail | kernel_rfl) | ((with_reducible (first | apply oE | apply oF)); (iterate 3 exact rfl); all_goals (intro h; first | (exact absurd h (by decide)) | ((try simp only [go_sem, simprocAttr, hb, hb2, hb3] at h); (try with_reducible intro K hK); simp only [go_sem, simprocAttr, hb, hb2, hb3]))) | ((first | ((with_reducible apply wL); exact rfl) | ((with_reducible apply wM); exact rfl)); all_goals (try ((with_reducible intro h); first | (exact absurd h (by decide)) | (try simp only [go_sem, simprocAttr, hb, hb2, hb3] at h)))) | omega | ((first | fail); try simp only [go_sem, simprocAttr, hb, hb2, hb3]) | (intro h))
    simp only [greatD, decide_eq_true h3, Bool.true_or, Bool.or_true]
  have hb : decide ((40 : Int) < (g.es.length : Int)) = false := decide_eq_false (by omega)
  have hb2 : decide ((70 : Int) < (d.pts.length : Int)) = false := decide_eq_false (by omega)
  have hb3 : decide ((50 : Int) < (d.ls.length : Int)) = false := decide_eq_false (by omega)
  have hG : greatD g d = d.ls.any fun l => decide (20 < l.length) := by simp only [greatD, decide_eq_false h1, decide_eq_false h2, decide_eq_false h3, Bool.false_or]
  rw [hG]
  repeat' (first | ((first | ((with_reducible (first | apply oA | apply oB)); exact rfl; intro K hK) | (refine hK _ ?_; clear hK K) | ((with_reducible (first | apply oG | apply oH)); iterate 3 exact rfl) | ((with_reducible apply oI); (iterate 2 exact rfl); intro K hK) | (with_reducible (first | apply wI | apply wJ | apply wK))); try simp only [go_sem, simprocAttr, hb, hb2, hb3]) | fail | (with_reducible (first | apply oC | apply oJ | exact oK | apply wA | apply wB | apply wC hX hC | apply wD hX hC | apply wE hX hC hmix | apply wF hX hC hmix | apply wG | apply wH | apply And.intro)) | ((with_reducible refine oD ?_ ?_); first | fail | kernel_rfl) | ((with_reducible (first | apply oE | apply oF)); (iterate 3 exact rfl); all_goals (intro h; first | (exact absurd h (by decide)) | ((try simp only [go_sem, simprocAttr, hb, hb2, hb3] at h); (try with_reducible intro K hK); simp only [go_sem, simprocAttr, hb, hb2, hb3]))) | ((first | ((with_reducible apply wL); exact rfl) | ((with_reducible apply wM); exact rfl)); all_goals (try ((with_reducible intro h); first | (exact absurd h (by decide)) | (try simp only [go_sem, simprocAttr, hb, hb2, hb3] at h)))) | omega | ((first | fail); try simp only [go_sem, simprocAttr, hb, hb2, hb3]) | (intro h))
  refine awp_loopP (fun k : Nat => k ≤ d.ls.length ∧ (d.ls.take k).any (fun l => decide (20 < l.length)) = false) (fun k => ⟨[(24, .d (sLn d.ls)), (25, eN d.ls.length), (26, eN k)], []⟩) (fun k => d.ls.length - k) 0 (by simp) ?_ ?_
  · (refine Le.of ?_ ?_ <;> simp [go_sem, simprocAttr, hb, hb2, hb3])
  rintro k ⟨hk, hf⟩
  rcases Nat.lt_or_ge k d.ls.length with hlt | hge
  · have hb4 : decide ((k : Int) < (d.ls.length : Int)) = true := decide_eq_true (by omega)
    repeat' (first | ((first | ((with_reducible (first | apply oA | apply oB)); exact rfl; intro K hK) | (refine hK _ ?_; clear hK K) | ((with_reducible (first | apply oG | apply oH)); iterate 3 exact rfl) | ((with_reducible apply oI); (iterate 2 exact rfl); intro K hK) | (with_reducible (first | apply wI | apply wJ | apply wK))); try simp only [go_sem, simprocAttr, hb4]) | fail | (with_reducible (first | apply oC | apply oJ | exact oK | apply wA | apply wB | apply wC hX hC | apply wD hX hC | apply wE hX hC hmix | apply wF hX hC hmix | apply wG | apply wH | apply And.intro)) | ((with_reducible refine oD ?_ ?_); first | fail | kernel_rfl) | ((with_reducible (first | apply oE | apply oF)); (iterate 3 exact rfl); all_goals (intro h; first | (exact absurd h (by decide)) | ((try simp only [go_sem, simprocAttr, hb4] at h); (try with_reducible intro K hK); simp only [go_sem, simprocAttr, hb4]))) | ((first | ((with_reducible apply wL); exact rfl) | ((with_reducible apply wM); exact rfl)); all_goals (try ((with_reducible intro h); first | (exact absurd h (by decide)) | (try simp only [go_sem, simprocAttr, hb4] at h)))) | omega | ((first | fail); try simp only [go_sem, simprocAttr, hb4]) | (intro h))
    · exact (any_at (d := []) hlt (decide_eq_true (by omega))).symm
    · refine ⟨k + 1, ⟨by omega, any_next [] hlt hf (decide_eq_false (by omega))⟩, ?_, by omega⟩
      (refine ⟨leT_spec ?_, fun _ _ h => h⟩; simp [go_sem, simprocAttr, hb4])
  · have hb4 : decide ((k : Int) < (d.ls.length : Int)) = false := decide_eq_false (by omega)
    rw [List.take_of_length_le hge] at hf
    repeat' (first | ((first | ((with_reducible (first | apply oA | apply oB)); exact rfl; intro K hK) | (refine hK _ ?_; clear hK K) | ((with_reducible (first | apply oG | apply oH)); iterate 3 exact rfl) | ((with_reducible apply oI); (iterate 2 exact rfl); intro K hK) | (with_reducible (first | apply wI | apply wJ | apply wK))); try simp only [go_sem, simprocAttr, hb4]) | fail | (with_reducible (first | apply oC | apply oJ | exact oK | apply wA | apply wB | apply wC hX hC | apply wD hX hC | apply wE hX hC hmix | apply wF hX hC hmix | apply wG | apply wH | apply And.intro)) | ((with_reducible refine oD ?_ ?_); first | fail | kernel_rfl) | ((with_reducible (first | apply oE | apply oF)); (iterate 3 exact rfl); all_goals (intro h; first | (exact absurd h (by decide)) | ((try simp only [go_sem, simprocAttr, hb4] at h); (try with_reducible intro K hK); simp only [go_sem, simprocAttr, hb4]))) | ((first | ((with_reducible apply wL); exact rfl) | ((with_reducible apply wM); exact rfl)); all_goals (try ((with_reducible intro h); first | (exact absurd h (by decide)) | (try simp only [go_sem, simprocAttr, hb4] at h)))) | omega | ((first | fail); try simp only [go_sem, simprocAttr, hb4]) | (intro h))
    exact hf.symm
def gp : Gr := ⟨2, [(0, 1)]⟩
def da : Dr := ⟨[(0, 0), (0, 1)], [[(0, 0), (0, 1)]]⟩
def db : Dr := ⟨[(0, 1), (0, 0)], [[(0, 1), (0, 0)]]⟩
theorem chk_da : chkD gp da = (0, 0) := by decide
theorem chk_db : chkD gp db = (7, 0) := by decide
theorem speaks23_spec : Spec Try.prog 11 (Args []) [] (eB true) [] := by
  have h1 := chk_da
  have h2 := chk_db
  simp only [gp, da, db] at h1 h2
  (refine Spec.intro (C := T.cfg [] []) (rs := [.t 0]) (T.cfg_ok _ _) Try.func11 rfl rfl Try.ntmps11 Try.results11 (by simp [AObj.isNest]) (by simp [AObj.isNest]) (by kernel_rfl) ?_; intro X hX hP hC hXn hXm vals hA; refine ⟨_, by simp, hA, ?_⟩; have hmix : X.P.follows .mixedOrders = true := (by rw [hP]; exact T.mixed); clear hXn hXm)
  repeat' (first | ((first | ((with_reducible (first | apply oA | apply oB)); exact rfl; intro K hK) | (refine hK _ ?_; clear hK K) | ((with_reducible (first | apply oG | apply oH)); iterate 3 exact rfl) | ((with_reducible apply oI); (iterate 2 exact rfl); intro K hK) | (with_reducible (first | apply wI | apply wJ | apply wK))); try simp only [go_sem, simprocAttr, gp, da, db, rE, rP, vP, h1, h2]) | fail | (with_reducible (first | apply oC | apply oJ | exact oK | apply wA | apply wB | apply wC hX hC | apply wD hX hC | apply wE hX hC hmix | apply wF hX hC hmix | apply wG | apply wH | apply And.intro)) | ((with_reducible refine oD ?_ ?_); first | fail | kernel_rfl) | ((with_reducible (first | apply oE | apply oF)); (iterate 3 exact rfl); all_goals (intro h; first | (exact absurd h (by decide)) | ((try simp only [go_sem, simprocAttr, gp, da, db, rE, rP, vP, h1, h2] at h); (try with_reducible intro K hK); simp only [go_sem, simprocAttr, gp, da, db, rE, rP, vP, h1, h2]))) | ((first | ((with_reducible apply wL); exact rfl) | ((with_reducible apply wM); exact rfl)); all_goals (try ((with_reducible intro h); first | (exact absurd h (by decide)) | (try simp only [go_sem, simprocAttr, gp, da, db, rE, rP, vP, h1, h2] at h)))) | omega | ((first | first | (refine acall_look hX hC hP (pictureCheck_spec gp da (by decide) (by decide) (by decide) (by decide)) rfl rfl rfl ?_ ?_ rfl ?_; iterate 2 (focus (simp only [go_sem, simprocAttr, gp, da, db, rE, rP, vP, h1, h2]; done))) | (refine acall_look hX hC hP (pictureCheck_spec gp db (by decide) (by decide) (by decide) (by decide)) rfl rfl rfl ?_ ?_ rfl ?_; iterate 2 (focus (simp only [go_sem, simprocAttr, gp, da, db, rE, rP, vP, h1, h2]; done)))); try simp only [go_sem, simprocAttr, gp, da, db, rE, rP, vP, h1, h2]) | (intro h))
theorem pictureChecks_spec (g : Gr) (d : Dr) (hls : d.ls.length ≤ 9223372036854775807) : Spec Try.prog 3 (Args [eG g, eDr d]) [] (eB true) [] := by
  (refine Spec.intro (C := T.cfg [] []) (rs := [.t 4]) (T.cfg_ok _ _) Try.func3 rfl rfl Try.ntmps3 Try.results3 (by simp [AObj.isNest]) (by simp [AObj.isNest]) (by kernel_rfl) ?_; intro X hX hP hC hXn hXm vals hA; refine ⟨_, by simp, hA, ?_⟩; have hmix : X.P.follows .mixedOrders = true := (by rw [hP]; exact T.mixed); clear hXn hXm)
  cases hg : greatD g d with
  | true =>
    repeat' (first | ((first | ((with_reducible (first | apply oA | apply oB)); exact rfl; intro K hK) | (refine hK _ ?_; clear hK K) | ((with_reducible (first | apply oG | apply oH)); iterate 3 exact rfl) | ((with_reducible apply oI); (iterate 2 exact rfl); intro K hK) | (with_reducible (first | apply wI | apply wJ | apply wK))); try simp only [go_sem, simprocAttr, hg]) | fail | (with_reducible (first | apply oC | apply oJ | exact oK | apply wA | apply wB | apply wC hX hC | apply wD hX hC | apply wE hX hC hmix | apply wF hX hC hmix | apply wG | apply wH | apply And.intro)) | ((with_reducible refine oD ?_ ?_); first | fail | kernel_rfl) | ((with_reducible (first | apply oE | apply oF)); (iterate 3 exact rfl); all_goals (intro h; first | (exact absurd h (by decide)) | ((try simp only [go_sem, simprocAttr, hg] at h); (try with_reducible intro K hK); simp only [go_sem, simprocAttr, hg]))) | ((first | ((with_reducible apply wL); exact rfl) | ((with_reducible apply wM); exact rfl)); all_goals (try ((with_reducible intro h); first | (exact absurd h (by decide)) | (try simp only [go_sem, simprocAttr, hg] at h)))) | omega | ((first | first | refine acall_simple hX hC hP (speaks23_spec) rfl rfl rfl (by simp only [go_sem, simprocAttr, hg]) rfl ?_ | refine acall_simple hX hC hP (greatD_spec g d hls) rfl rfl rfl (by simp only [go_sem, simprocAttr, hg]) rfl ?_); try simp only [go_sem, simprocAttr, hg]) | (intro h))
  | false =>
  have hgr := hg
  simp only [greatD, Bool.or_eq_false_iff, decide_eq_false_iff_not] at hgr
  obtain ⟨⟨⟨h1, h2⟩, h3⟩, h4⟩ := hgr
  have hl : g.es.length ≤ 1000 := by omega
  have hp : d.pts.length ≤ 1000 := by omega
  have hls' : d.ls.length ≤ 1000 := by omega
  have hll : ∀ l ∈ d.ls, l.length ≤ 1000 := fun l hl => by
    have := (List.any_eq_false.1 h4) l hl
    simp only [decide_eq_true_eq] at this
    omega
  repeat' (first | ((first | ((with_reducible (first | apply oA | apply oB)); exact rfl; intro K hK) | (refine hK _ ?_; clear hK K) | ((with_reducible (first | apply oG | apply oH)); iterate 3 exact rfl) | ((with_reducible apply oI); (iterate 2 exact rfl); intro K hK) | (with_reducible (first | apply wI | apply wJ | apply wK))); try simp only [go_sem, simprocAttr, hg]) | fail | (with_reducible (first | apply oC | apply oJ | exact oK | apply wA | apply wB | apply wC hX hC | apply wD hX hC | apply wE hX hC hmix | apply wF hX hC hmix | apply wG | apply wH | apply And.intro)) | ((with_reducible refine oD ?_ ?_); first | fail | kernel_rfl) | ((with_reducible (first | apply oE | apply oF)); (iterate 3 exact rfl); all_goals (intro h; first | (exact absurd h (by decide)) | ((try simp only [go_sem, simprocAttr, hg] at h); (try with_reducible intro K hK); simp only [go_sem, simprocAttr, hg]))) | ((first | ((with_reducible apply wL); exact rfl) | ((with_reducible apply wM); exact rfl)); all_goals (try ((with_reducible intro h); first | (exact absurd h (by decide)) | (try simp only [go_sem, simprocAttr, hg] at h)))) | omega | ((first | first | refine acall_simple hX hC hP (speaks23_spec) rfl rfl rfl (by simp only [go_sem, simprocAttr, hg]) rfl ?_ | refine acall_simple hX hC hP (greatD_spec g d hls) rfl rfl rfl (by simp only [go_sem, simprocAttr, hg]) rfl ?_ | refine acall_simple hX hC hP (pictureCheck_spec g d hl hp hls' hll) rfl rfl rfl (by simp only [go_sem, simprocAttr, hg]) rfl ?_ | refine acall_simple hX hC hP (refPicture_spec g d hl hp hls' hll) rfl rfl rfl (by simp only [go_sem, simprocAttr, hg]) rfl ?_); try simp only [go_sem, simprocAttr, hg]) | (intro h))
end Go.Ab
end
section
namespace Go.Ab

theorem meetC_par {a b c d : Pt} (hcd : c ≠ d) (hT : tm a b c d = 0) (hne : areaV a b c ≠ 0) : meetC a b c d = 0 := by
  have d1 := area_diff a b c d
  have hcd' : ∀ p, onP c d p = true → p = a ∨ p = b → False := fun p hp h => by
    have h1 := (onP_iff.1 hp).1
    have d2 := area_diff' a b c d
    have h2 : areaV c d a = 0 ∧ areaV c d b = 0 := by rcases h with rfl | rfl <;> omega
    exact hne (line_area hcd h2.1 h2.2 area_a)
  have hn : ∀ p, ¬ Com a b c d p := by
    rintro p (⟨h, rfl⟩ | ⟨h, rfl⟩ | ⟨h, rfl⟩ | ⟨h, rfl⟩)
    · exact hcd' _ h (.inl rfl)
    · exact hcd' _ h (.inr rfl)
    · exact hne (onP_iff.1 h).1
    · have := (onP_iff.1 h).1; omega
  have hq : areaV a b d = areaV a b c := by omega
  have hp := sq_nonneg (areaV a b c)
  have hp' := Int.mul_ne_zero hne hne
  unfold meetC
  rw [K4_zero hn]
  simp only [sd_area, cmpI_mul, Nat.lt_irrefl, if_false]
  rw [if_neg (fun h => by have h := h.1; rw [hq] at h; omega)]
/-- The middle of a piece. -/
def Mid (a b m : Pt) : Prop := a.1 + b.1 = 2 * m.1 ∧ a.2 + b.2 = 2 * m.2
theorem Mid.area {a b m : Pt} (h : Mid a b m) (c : Pt) : areaV a b c = 2 * areaV a m c := by
  obtain ⟨h1, h2⟩ := h
  have e1 : b.1 = 2 * m.1 - a.1 := by omega
  have e2 : b.2 = 2 * m.2 - a.2 := by omega
  unfold areaV; rw [e1, e2]; grind
theorem Mid.tm {a b m : Pt} (h : Mid a b m) (c d : Pt) : tm a b c d = 2 * tm a m c d := by
  obtain ⟨h1, h2⟩ := h
  have e1 : b.1 = 2 * m.1 - a.1 := by omega
  have e2 : b.2 = 2 * m.2 - a.2 := by omega
  unfold Go.Ab.tm; rw [e1, e2]; grind
theorem Mid.area2 {a b m : Pt} (h : Mid a b m) (c d : Pt) : areaV c d a + areaV c d b = 2 * areaV c d m := by
  obtain ⟨h1, h2⟩ := h
  have e1 : b.1 = 2 * m.1 - a.1 := by omega
  have e2 : b.2 = 2 * m.2 - a.2 := by omega
  unfold areaV; rw [e1, e2]; grind
theorem Mid.along {a b m : Pt} (h : Mid a b m) (c : Pt) : alongV a b c = 2 * alongV a m c := by
  obtain ⟨h1, h2⟩ := h
  have e1 : b.1 = 2 * m.1 - a.1 := by omega
  have e2 : b.2 = 2 * m.2 - a.2 := by omega
  unfold alongV; rw [e1, e2]; grind
theorem Mid.alongb {a b m : Pt} (h : Mid a b m) : alongV a b b = 2 * alongV a b m := by
  obtain ⟨h1, h2⟩ := h
  have e1 : b.1 = 2 * m.1 - a.1 := by omega
  have e2 : b.2 = 2 * m.2 - a.2 := by omega
  unfold alongV; rw [e1, e2]; grind
theorem Mid.symm {a b m : Pt} (h : Mid a b m) : Mid b a m := ⟨by rw [Int.add_comm]; exact h.1, by rw [Int.add_comm]; exact h.2⟩
theorem sq_sum {u v : Int} (h : u * (u + v) ≤ 0) : u * v ≤ 0 := by
  have h1 := sq_nonneg u
  have h2 : u * (u + v) = u * u + u * v := by grind
  omega
theorem halve {u v : Int} (h : u * v ≤ 0) {u' v' : Int} (hu : u = 2 * u') (hv : v = 2 * v') : u' * v' ≤ 0 := by
  have : u * v = 4 * (u' * v') := by rw [hu, hv]; grind
  omega
theorem double {u v : Int} {u' v' : Int} (h : u' * v' ≤ 0) (hu : u = 2 * u') (hv : v = 2 * v') : u * v ≤ 0 := by
  have : u * v = 4 * (u' * v') := by rw [hu, hv]; grind
  omega
/-- Where two pieces that are not along one another meet lies ahead of the middle of one, as soon as they meet ahead of it. -/
theorem on_half {a b m c d e : Pt} (hm : Mid a b m) (hT : tm a b c d ≠ 0) (h1 : areaV a b e = 0) (h2 : areaV c d e = 0) (h3 : areaV c d a * areaV c d m ≤ 0) : onP a m e = true := by
  rw [onP_iff]
  have ha := hm.area e
  have hu := hm.area2 c d
  have hd := area_diff' a b c d
  obtain ⟨hm1, hm2⟩ := hm
  -- along each coordinate
  have kx : tm a b c d * (e.1 - a.1) = areaV c d a * (b.1 - a.1) := by
    unfold areaV at h1 h2 ⊢; unfold tm; grind
  have ky : tm a b c d * (e.2 - a.2) = areaV c d a * (b.2 - a.2) := by
    unfold areaV at h1 h2 ⊢; unfold tm; grind
  generalize hTT : tm a b c d = T at *
  generalize hU : areaV c d a = u at *
  generalize hV : areaV c d b = v at *
  generalize hW : areaV c d m = w at *
  have main : ∀ (p q r x : Int), p + q = 2 * r → T * (x - p) = u * (q - p) → (p - x) * (r - x) ≤ 0 := by
    intro p q r x hpq hk
    have e1 : 2 * (T * (r - x)) = -(2 * w) * (q - p) := by
      have : 2 * (T * (r - x)) = T * (q - p) - 2 * (T * (x - p)) := by
        have : 2 * r = p + q := hpq.symm
        grind
      rw [this, hk]
      have : T = u - v := by omega
      rw [this]
      have : v = 2 * w - u := by omega
      rw [this]; grind
    have e2 : (p - x) * (r - x) * (T * T) = (u * w) * ((q - p) * (q - p)) := by
      have h4 : T * (p - x) = -(u * (q - p)) := by rw [← hk]; grind
      have h5 : T * (r - x) = -(w * (q - p)) := by
        have : -(2 * w) * (q - p) = 2 * -(w * (q - p)) := by grind
        omega
      have : (p - x) * (r - x) * (T * T) = (T * (p - x)) * (T * (r - x)) := by grind
      rw [this, h4, h5]; grind
    refine mul_sq_nonpos hT ?_
    rw [e2]
    exact nonpos_mul_sq h3
  refine ⟨by omega, main _ _ _ _ hm1 kx, main _ _ _ _ hm2 ky⟩
/-- Half a piece meets another one in no more points than the whole one does; and in a point of the half. -/
theorem meet_half {a b m c d : Pt} (hab : a ≠ b) (hcd : c ≠ d) (hm : Mid a b m) :
    (1 ≤ meetC a m c d → 1 ≤ meetC a b c d) ∧ (2 ≤ meetC a m c d → 2 ≤ meetC a b c d) ∧ ∀ e, meetC a b c d ≤ 1 → 1 ≤ meetC a m c d → onP a b e = true → onP c d e = true → onP a m e = true := by
  have ham : a ≠ m := fun e => hab (by subst e; obtain ⟨h1, h2⟩ := hm; ext <;> omega)
  have hac := hm.area c
  have had := hm.area d
  have htm := hm.tm c d
  by_cases hT : tm a b c d = 0
  · by_cases hA : areaV a b c = 0
    · have hd : areaV a b d = 0 := by have := area_diff a b c d; omega
      have hA' : areaV a m c = 0 := by omega
      have hd' : areaV a m d = 0 := by omega
      have kc := hm.along c
      have kd := hm.along d
      have kb := hm.alongb
      have kk := hm.along m
      have hL := along_pos hab
      have hLm := along_pos ham
      rw [meetC_line hab hcd hA hd, meetC_line ham hcd hA' hd', along_a, along_a, kb, kk, kc, kd]
      have h3 : ∀ e, onP a b e = true → onP c d e = true → (0 ≤ alongV a m e ∧ alongV a m e ≤ 2 * alongV a m m) ∧ (min (alongV a m c) (alongV a m d) ≤ alongV a m e ∧ alongV a m e ≤ max (alongV a m c) (alongV a m d)) ∧ (alongV a m e ≤ alongV a m m → onP a m e = true) := by
        intro e h1 h2
        have he := (onP_iff.1 h1).1
        have he' : areaV a m e = 0 := by have := hm.area e; omega
        have ke := hm.along e
        have g1 := (on_line hab area_a area_b he).1 h1
        rw [along_a, kb, kk, ke] at g1
        have g2 := (on_line hab hA hd he).1 h2
        rw [kc, kd, ke] at g2
        refine ⟨by omega, by omega, fun h => (on_line ham area_a area_b he').2 ?_⟩
        rw [along_a]; omega
      generalize alongV a m c = x at *
      generalize alongV a m d = y at *
      generalize alongV a m m = z at *
      refine ⟨fun h => ?_, fun h => ?_, fun e h0 h h1 h2 => ?_⟩
      · split at h
        · omega
        · rw [if_neg (by omega)]; split <;> omega
      · split at h
        · omega
        · split at h
          · omega
          · rw [if_neg (by omega), if_neg (by omega)]; omega
      · obtain ⟨g1, g2, g3⟩ := h3 e h1 h2
        refine g3 ?_
        split at h
        · omega
        · split at h0
          · omega
          · split at h0
            · omega
            · omega
    · have h0 := meetC_par hcd (a := a) (b := m) (by omega) (by omega)
      rw [h0]
      exact ⟨fun h => by omega, fun h => by omega, fun e _ h => by omega⟩
  · have hT' : tm a m c d ≠ 0 := by omega
    have hu := hm.area2 c d
    rw [meetC_cross hT, meetC_cross hT']
    have k1 : areaV a m c * areaV a m d ≤ 0 → areaV a b c * areaV a b d ≤ 0 := fun h => double h hac had
    have k2 : areaV c d a * areaV c d m ≤ 0 → areaV c d a * areaV c d b ≤ 0 := fun h => by
      refine sq_sum (u := areaV c d a) (v := areaV c d b) ?_
      rw [hu]
      have : areaV c d a * (2 * areaV c d m) = 2 * (areaV c d a * areaV c d m) := by grind
      omega
    refine ⟨fun h => ?_, fun h => ?_, fun e _ h h1 h2 => ?_⟩
    · split at h
      · rename_i hh; rw [if_pos ⟨k1 hh.1, k2 hh.2⟩]; omega
      · omega
    · split at h <;> omega
    · split at h
      · rename_i hh
        exact on_half hm hT (onP_iff.1 h1).1 (onP_iff.1 h2).1 hh.2
      · omega
theorem meetV_pair (a b c d : Pt) : meetV c d a b = meetV a b c d := by
  rw [meetV_C, meetV_C, meetC_pair]
  by_cases h : InB a ∧ InB b ∧ InB c ∧ InB d
  · rw [if_pos h, if_pos ⟨h.2.2.1, h.2.2.2, h.1, h.2.1⟩]
  · rw [if_neg h, if_neg fun g => h ⟨g.2.2.1, g.2.2.2, g.1, g.2.1⟩]
theorem meetV_swap (a b c d : Pt) : meetV b a c d = meetV a b c d := by
  rw [meetV_C, meetV_C, meetC_swap]
  by_cases h : InB a ∧ InB b ∧ InB c ∧ InB d
  · rw [if_pos h, if_pos ⟨h.2.1, h.1, h.2.2.1, h.2.2.2⟩]
  · rw [if_neg h, if_neg fun g => h ⟨g.2.1, g.1, g.2.2.1, g.2.2.2⟩]
theorem OnV_swap (a b p : Pt) : OnV b a p = OnV a b p := by
  unfold OnV
  rw [onP_swap]
  congr 1
  rw [decide_eq_decide]
  exact ⟨fun ⟨x, y, z⟩ => ⟨y, x, z⟩, fun ⟨x, y, z⟩ => ⟨y, x, z⟩⟩
theorem bad_symm (es : List Pt) (p q : Pc) : badPc es q p = badPc es p q := by
  unfold badPc
  rw [meetV_pair]
  congr 4
  funext x
  rw [Bool.and_comm]
theorem bad_swap (es : List Pt) (a b : Pt) (q : Pc) : badPc es (b, a) q = badPc es (a, b) q := by
  unfold badPc
  simp only [meetV_swap, OnV_swap]
theorem bad_half {es : List Pt} {a b m c d : Pt} (ia : InB a) (ib : InB b) (im : InB m) (ic : InB c) (id : InB d) (hab : a ≠ b) (hcd : c ≠ d) (hm : Mid a b m) (h : badPc es (a, b) (c, d) = false) : badPc es (a, m) (c, d) = false := by
  obtain ⟨h1, h2, h3⟩ := meet_half hab hcd hm
  simp only [badPc, Bool.or_eq_false_iff, decide_eq_false_iff_not, Bool.and_eq_false_iff, Bool.not_eq_false'] at h ⊢
  rw [meetV_C, if_pos ⟨ia, ib, ic, id⟩] at h
  rw [meetV_C, if_pos ⟨ia, im, ic, id⟩]
  refine ⟨by omega, ?_⟩
  by_cases hn : meetC a m c d = 1
  · right
    have hN : meetC a b c d = 1 := by omega
    rcases h.2 with h4 | h4
    · exact absurd hN h4
    · rw [List.any_eq_true] at h4 ⊢
      obtain ⟨e, he, h5⟩ := h4
      refine ⟨e, he, ?_⟩
      simp only [OnV, Bool.and_eq_true, decide_eq_true_eq] at h5 ⊢
      exact ⟨⟨⟨ia, im, h5.1.1.2.2⟩, h3 e (by omega) (by omega) h5.1.2 h5.2.2⟩, h5.2⟩
  · exact .inl hn
theorem on_half_on {a b m p : Pt} (hm : Mid a b m) (h : onP a m p = true) : onP a b p = true := by
  rw [onP_iff] at h ⊢
  have := hm.area p
  obtain ⟨hm1, hm2⟩ := hm
  have key : ∀ (x y z w : Int), x + y = 2 * z → (x - w) * (z - w) ≤ 0 → (x - w) * (y - w) ≤ 0 := by
    intro x y z w h1 h2
    have e : (x - w) * (y - w) = 2 * ((x - w) * (z - w)) - (x - w) * (x - w) := by
      have : y = 2 * z - x := by omega
      rw [this]; grind
    have := sq_nonneg (x - w)
    omega
  exact ⟨by omega, key _ _ _ _ hm1 h.2.1, key _ _ _ _ hm2 h.2.2⟩
theorem OnV_half {a b m p : Pt} (ia : InB a) (ib : InB b) (hm : Mid a b m) (h : OnV a b p = false) : OnV a m p = false := by
  cases hq : OnV a m p with
  | false => rfl
  | true =>
    exfalso
    simp only [OnV, Bool.and_eq_true, decide_eq_true_eq] at hq
    have : OnV a b p = true := by
      simp only [OnV, Bool.and_eq_true, decide_eq_true_eq]
      exact ⟨⟨ia, ib, hq.1.2.2⟩, on_half_on hm hq.2⟩
    rw [this] at h; cases h
/-- A line with a point more behind its place k. -/
def bendL (l : List Pt) (k : Nat) (m : Pt) : List Pt := l.take (k + 1) ++ m :: l.drop (k + 1)
theorem bend_len {l : List Pt} {k : Nat} {m : Pt} (hk : k + 1 < l.length) : (bendL l k m).length = l.length + 1 := by
  simp [bendL]; omega
theorem bend_get {l : List Pt} {k : Nat} {m : Pt} (hk : k + 1 < l.length) {j : Nat} : (bendL l k m).getD j (0, 0) = if j ≤ k then l.getD j (0, 0) else if j = k + 1 then m else l.getD (j - 1) (0, 0) := by
  unfold bendL
  rw [List.getD_eq_getElem?_getD]
  by_cases h1 : j ≤ k
  · rw [if_pos h1, List.getElem?_append_left (by simp; omega), List.getElem?_take, if_pos (by omega), ← List.getD_eq_getElem?_getD]
  · rw [if_neg h1, List.getElem?_append_right (by simp; omega)]
    have e : (l.take (k + 1)).length = k + 1 := by simp; omega
    rw [e]
    by_cases h2 : j = k + 1
    · rw [if_pos h2, h2, Nat.sub_self]; rfl
    · rw [if_neg h2]
      obtain ⟨r, rfl⟩ : ∃ r, j = k + 2 + r := ⟨j - (k + 2), by omega⟩
      rw [show k + 2 + r - (k + 1) = r + 1 from by omega, List.getElem?_cons_succ, List.getElem?_drop, ← List.getD_eq_getElem?_getD]
      congr 1; omega
theorem mem_pcs {l : List Pt} {q : Pc} : q ∈ pcs l ↔ ∃ j, j + 1 < l.length ∧ q = (l.getD j (0, 0), l.getD (j + 1) (0, 0)) := by
  simp only [pcs, pcK, List.mem_map, List.mem_range]
  constructor
  · rintro ⟨j, h, rfl⟩; exact ⟨j, by omega, rfl⟩
  · rintro ⟨j, h, rfl⟩; exact ⟨j, by omega, rfl⟩
theorem bend_pcs {l : List Pt} {k : Nat} {m : Pt} (hk : k + 1 < l.length) {q : Pc} (h : q ∈ pcs (bendL l k m)) : q ∈ pcs l ∨ q = (l.getD k (0, 0), m) ∨ q = (m, l.getD (k + 1) (0, 0)) := by
  obtain ⟨j, hj, rfl⟩ := mem_pcs.1 h
  rw [bend_len hk] at hj
  rw [bend_get hk, bend_get hk]
  by_cases h1 : j + 1 ≤ k
  · left
    rw [if_pos (by omega), if_pos h1]
    exact mem_pcs.2 ⟨j, by omega, rfl⟩
  · by_cases h2 : j = k
    · right; left
      subst h2
      rw [if_pos (by omega), if_neg (by omega), if_pos rfl]
    · by_cases h3 : j = k + 1
      · right; right
        subst h3
        rw [if_neg (by omega), if_pos rfl, if_neg (by omega), if_neg (by omega)]
        rfl
      · left
        rw [if_neg (by omega), if_neg h3, if_neg (by omega), if_neg (by omega)]
        exact mem_pcs.2 ⟨j - 1, by omega, by rw [show j - 1 + 1 = j + 1 - 1 from by omega]⟩
theorem firstI_none_iff {n : Nat} {holds : Nat → Bool} : ¬ 0 ≤ firstI n holds ↔ ∀ j, j < n → holds j = true := by
  constructor
  · intro h j hj
    cases hq : holds j with
    | true => rfl
    | false =>
      exfalso
      have h1 := findI_any (fun i => !holds i) (List.range n)
      have h2 : (List.range n).any (fun i => !holds i) = true := List.any_eq_true.2 ⟨j, List.mem_range.2 hj, by rw [hq]; rfl⟩
      rw [h2] at h1
      exact h (of_decide_eq_true h1)
  · intro h
    rw [firstI_none h]; omega
/-- A drawing without a fault. -/
structure Fine (g : Gr) (d : Dr) : Prop where
  fit : drFits g d = true
  rng : rangesB d = true
  ends : ∀ i, i < g.es.length → endL g d i = true
  rise : ∀ i, i < g.es.length → riseL (d.ls.getD i []) = true
  alone : ∀ x, x < d.pts.length → aloneV d x = true
  free : ∀ i, i < g.es.length → freeL g d i = true
  apart : ∀ i, i < g.es.length → apartL g d i = true
theorem fine_iff {g : Gr} {d : Dr} : (chkD g d).1 = 0 ↔ Fine g d := by
  unfold chkD
  constructor
  · intro h
    split at h
    · cases h
    rename_i h1
    split at h
    · cases h
    rename_i h2
    split at h
    · cases h
    rename_i h3
    split at h
    · cases h
    rename_i h4
    split at h
    · cases h
    rename_i h5
    split at h
    · cases h
    rename_i h6
    split at h
    · cases h
    rename_i h7
    exact ⟨by simpa using h1, by simpa using h2, firstI_none_iff.1 h3, firstI_none_iff.1 h4, firstI_none_iff.1 h5, firstI_none_iff.1 h6, firstI_none_iff.1 h7⟩
  · intro h
    rw [if_neg (by rw [h.fit]; simp), if_neg (by rw [h.rng]; simp), if_neg (firstI_none_iff.2 h.ends), if_neg (firstI_none_iff.2 h.rise), if_neg (firstI_none_iff.2 h.alone), if_neg (firstI_none_iff.2 h.free), if_neg (firstI_none_iff.2 h.apart)]
theorem getD_set {α : Type} {l : List α} {i j : Nat} {x d : α} (hi : i < l.length) : (l.set i x).getD j d = if j = i then x else l.getD j d := by
  rw [List.getD_eq_getElem?_getD, List.getElem?_set]
  by_cases h : i = j
  · subst h; rw [if_pos rfl, if_pos hi, if_pos rfl]; rfl
  · rw [if_neg h, if_neg fun e => h e.symm, List.getD_eq_getElem?_getD]
theorem Fine.may {g : Gr} {d : Dr} (h : Fine g d) : mayB g = true := by
  have := h.fit
  simp only [drFits, Bool.and_eq_true, decide_eq_true_eq] at this
  exact chk0_may this.1.1
theorem Fine.ok {g : Gr} {d : Dr} (h : Fine g d) : DrOk g d := by
  have := h.fit
  simp only [drFits, Bool.and_eq_true, decide_eq_true_eq] at this
  exact ⟨h.may, this.1.2, this.2, rangesB_ok h.rng⟩
theorem Fine.inb {g : Gr} {d : Dr} (h : Fine g d) {i : Nat} (hi : i < g.es.length) : ∀ p ∈ d.ls.getD i [], InB p := by
  intro p hp
  have h1 := h.rng
  simp only [rangesB, Bool.and_eq_true, Bool.not_eq_true'] at h1
  have h2 := (List.any_eq_false.1 h1.2) _ (getD_memX (d := []) (show i < d.ls.length by rw [h.ok.nl]; exact hi))
  have h3 : (d.ls.getD i []).any outP = false := by
    cases hq : (d.ls.getD i []).any outP with
    | false => rfl
    | true => exact absurd (by simp only [badLn, hq, Bool.or_true]) h2
  have h4 := (List.any_eq_false.1 h3) p hp
  rw [outP_eq] at h4
  simpa using h4
theorem Fine.piece {g : Gr} {d : Dr} (h : Fine g d) {i : Nat} (hi : i < g.es.length) {q : Pc} (hq : q ∈ pcs (d.ls.getD i [])) : InB q.1 ∧ InB q.2 ∧ q.1.2 < q.2.2 ∧ q.1 ≠ q.2 := by
  have h1 := h.rise i hi
  simp only [riseL, Bool.not_eq_true'] at h1
  have h2 := (List.any_eq_false.1 h1) q hq
  simp only [decide_eq_true_eq] at h2
  obtain ⟨j, hj, rfl⟩ := mem_pcs.1 hq
  refine ⟨h.inb hi _ (getD_memX (by omega)), h.inb hi _ (getD_memX hj), by omega, fun e => ?_⟩
  simp only at e h2
  rw [e] at h2; exact h2 (Int.le_refl _)
theorem Fine.bad {g : Gr} {d : Dr} (h : Fine g d) {i k : Nat} (hi : i < g.es.length) (hk : k < i) {a b : Pc} (ha : a ∈ pcs (d.ls.getD i [])) (hb : b ∈ pcs (d.ls.getD k [])) : badPc (comL g d i k) a b = false := by
  have h1 := h.apart i hi
  simp only [apartL, apartK, List.all_eq_true, List.mem_range, Bool.not_eq_true'] at h1
  exact h1 k hk a ha b hb
/-- A drawing without a fault has none with a point more in the middle of a piece. -/
theorem Fine.bend {g : Gr} {d : Dr} (h : Fine g d) {i k : Nat} {m : Pt} (hi : i < g.es.length) (hk : k + 1 < (d.ls.getD i []).length) (hl : (d.ls.getD i []).length ≤ 7) (hm : Mid ((d.ls.getD i []).getD k (0, 0)) ((d.ls.getD i []).getD (k + 1) (0, 0)) m) :
    Fine g ⟨d.pts, d.ls.set i (bendL (d.ls.getD i []) k m)⟩ := by
  have hOk := h.ok
  have hil : i < d.ls.length := by rw [hOk.nl]; exact hi
  obtain ⟨l, hll⟩ : ∃ l, l = d.ls.getD i [] := ⟨_, rfl⟩
  rw [← hll] at hk hl hm ⊢
  have hq0 : (l.getD k (0, 0), l.getD (k + 1) (0, 0)) ∈ pcs (d.ls.getD i []) := by rw [← hll]; exact mem_pcs.2 ⟨k, hk, rfl⟩
  obtain ⟨ia, ib, hr, hne⟩ := h.piece hi hq0
  simp only at ia ib hr hne
  generalize ha : l.getD k (0, 0) = a at *
  generalize hb : l.getD (k + 1) (0, 0) = b at *
  have im : InB m := by
    obtain ⟨h1, h2⟩ := hm
    simp only [InB] at ia ib ⊢
    omega
  have hlen := bend_len (m := m) hk
  have hget : ∀ j, (d.ls.set i (bendL l k m)).getD j [] = if j = i then bendL l k m else d.ls.getD j [] := fun j => getD_set hil
  -- each piece of a line is a piece of the old one, or one of the halves
  have hpc : ∀ j, ∀ q ∈ pcs ((d.ls.set i (bendL l k m)).getD j []), q ∈ pcs (d.ls.getD j []) ∨ j = i ∧ (q = (a, m) ∨ q = (m, b)) := by
    intro j q hq
    rw [hget] at hq
    by_cases hji : j = i
    · rw [if_pos hji] at hq
      rcases bend_pcs hk hq with h1 | h1 | h1
      · left; rw [hji, ← hll]; exact h1
      · right; rw [ha] at h1; exact ⟨hji, .inl h1⟩
      · right; rw [hb] at h1; exact ⟨hji, .inr h1⟩
    · rw [if_neg hji] at hq; exact .inl hq
  have hany : ∀ (f : Pc → Bool) (j : Nat), (pcs (d.ls.getD j [])).any f = false → (j = i → f (a, m) = false ∧ f (m, b) = false) → (pcs ((d.ls.set i (bendL l k m)).getD j [])).any f = false := by
    intro f j h1 h2
    rw [List.any_eq_false] at h1 ⊢
    intro q hq
    rcases hpc j q hq with h3 | ⟨h3, h4⟩
    · exact h1 q h3
    · obtain ⟨h5, h6⟩ := h2 h3
      rcases h4 with rfl | rfl
      · rw [h5]; simp
      · rw [h6]; simp
  refine ⟨?_, ?_, ?_, ?_, ?_, ?_, ?_⟩
  · have := h.fit
    simpa [drFits] using this
  · have h1 := h.rng
    simp only [rangesB, Bool.and_eq_true, Bool.not_eq_true'] at h1 ⊢
    refine ⟨h1.1, ?_⟩
    rw [List.any_eq_false]
    intro x hx
    rcases List.mem_or_eq_of_mem_set hx with h2 | h2
    · exact (List.any_eq_false.1 h1.2) x h2
    · subst h2
      have h3 : (bendL l k m).any outP = false := by
        rw [List.any_eq_false]
        intro p hp
        have hin : InB p := by
          unfold bendL at hp
          rcases List.mem_append.1 hp with h4 | h4
          · exact h.inb hi p (by rw [← hll]; exact List.mem_of_mem_take h4)
          · rcases List.mem_cons.1 h4 with h5 | h5
            · rw [h5]; exact im
            · exact h.inb hi p (by rw [← hll]; exact List.mem_of_mem_drop h5)
        rw [outP_eq, decide_eq_true hin]; simp
      simp only [badLn, h3, Bool.or_false, Bool.or_eq_true, decide_eq_true_eq]
      omega
  · intro j hj
    have h1 := h.ends j hj
    unfold endL at h1 ⊢
    simp only [hget]
    by_cases hji : j = i
    · subst hji
      rw [if_pos rfl]
      rw [← hll] at h1
      have e1 : (bendL l k m).getD 0 (0, 0) = l.getD 0 (0, 0) := by rw [bend_get hk, if_pos (by omega)]
      have e2 : (bendL l k m).getD ((bendL l k m).length - 1) (0, 0) = l.getD (l.length - 1) (0, 0) := by
        rw [hlen, bend_get hk, if_neg (by omega), if_neg (by omega), Nat.add_sub_cancel]
      rw [e1, e2]; exact h1
    · rw [if_neg hji]; exact h1
  · intro j hj
    have h1 := h.rise j hj
    simp only [riseL, Bool.not_eq_true'] at h1 ⊢
    refine hany _ j h1 fun _ => ?_
    obtain ⟨_, h2⟩ := hm
    exact ⟨decide_eq_false (by simp only; omega), decide_eq_false (by simp only; omega)⟩
  · exact h.alone
  · intro j hj
    have h1 := h.free j hj
    simp only [freeL, freeK, List.all_eq_true, List.mem_range] at h1 ⊢
    intro x hx
    have h2 := h1 x hx
    simp only [Bool.or_eq_true, Bool.not_eq_true'] at h2 ⊢
    refine h2.imp id fun h3 => ?_
    unfold onL at h3 ⊢
    refine hany _ j h3 fun hji => ?_
    subst hji
    have h4 := (List.any_eq_false.1 h3) _ hq0
    have h5 : OnV a b (d.pts.getD x (0, 0)) = false := by simpa using h4
    refine ⟨OnV_half ia ib hm h5, ?_⟩
    rw [OnV_swap]
    exact OnV_half ib ia hm.symm (by rw [OnV_swap]; exact h5)
  · intro j hj
    simp only [apartL, apartK, List.all_eq_true, List.mem_range, Bool.not_eq_true']
    intro s hs p hp q hq
    have hc : comL g ⟨d.pts, d.ls.set i (bendL l k m)⟩ j s = comL g d j s := rfl
    rw [hc]
    have hsl : s < g.es.length := by omega
    rcases hpc j p hp with h1 | ⟨h1, h2⟩
    · rcases hpc s q hq with h3 | ⟨h3, h4⟩
      · exact h.bad hj hs h1 h3
      · subst h3
        obtain ⟨ic, id, _, hcd⟩ := h.piece hj h1
        have h5 := h.bad hj hs h1 hq0
        rw [bad_symm] at h5
        rw [bad_symm]
        obtain ⟨p1, p2⟩ := p
        rcases h4 with rfl | rfl
        · exact bad_half ia ib im ic id hne hcd hm h5
        · rw [bad_swap]
          exact bad_half ib ia im ic id (fun e => hne e.symm) hcd hm.symm (by rw [bad_swap]; exact h5)
    · subst h1
      have h3 : q ∈ pcs (d.ls.getD s []) := by
        rcases hpc s q hq with h3 | ⟨h3, _⟩
        · exact h3
        · omega
      obtain ⟨ic, id, _, hcd⟩ := h.piece hsl h3
      have h5 := h.bad hj hs hq0 h3
      obtain ⟨q1, q2⟩ := q
      rcases h2 with rfl | rfl
      · exact bad_half ia ib im ic id hne hcd hm h5
      · rw [bad_swap]
        exact bad_half ib ia im ic id (fun e => hne e.symm) hcd hm.symm (by rw [bad_swap]; exact h5)
end Go.Ab
end
section
namespace Go.Ab
open Go.Proofs
attribute [local congr] ACall.congr
set_option maxRecDepth 10000
set_option maxHeartbeats 8000000

theorem tmod_nat {x : Int} {n : Nat} (hn : 0 < n) : ∃ i : Nat, (x % 65536).tmod (n : Int) = (i : Int) ∧ i < n := by
  have h0 : 0 ≤ x % 65536 := Int.emod_nonneg _ (by decide)
  refine ⟨((x % 65536) % (n : Int)).toNat, ?_, ?_⟩
  · rw [Int.tmod_eq_emod_of_nonneg h0, Int.toNat_of_nonneg (Int.emod_nonneg _ (by omega))]
  · have h1 := Int.emod_nonneg (x % 65536) (show (n : Int) ≠ 0 by omega)
    have h2 := Int.emod_lt_of_pos (x % 65536) (show (0 : Int) < n by omega)
    omega
theorem vP_set {ls : List (List Pt)} {i : Nat} {l : List Pt} : (vP ls).set i [D.sl 2 (l.map rP)] = vP (ls.set i l) := by
  simp only [vP, List.map_set, sP]
theorem pictureBent_spec (g : Gr) (d : Dr) (x y : Int) (hls : d.ls.length ≤ 9223372036854775807) : Spec Try.prog 4 (Args [eG g, eDr d, eN x, eN y]) [] (eB true) [] := by
  (refine Spec.intro (C := T.cfg [85] []) (rs := [.t 8]) (T.cfg_ok _ _) Try.func4 rfl rfl Try.ntmps4 Try.results4 (by simp [AObj.isNest]) (by simp [AObj.isNest]) (by kernel_rfl) ?_; intro X hX hP hC hXn hXm vals hA; refine ⟨_, by simp, hA, ?_⟩; have hmix : X.P.follows .mixedOrders = true := (by rw [hP]; exact T.mixed); clear hXn hXm)
  cases hg : greatD g d with
  | true =>
    repeat' (first | ((first | ((with_reducible (first | apply oA | apply oB)); exact rfl; intro K hK) | (refine hK _ ?_; clear hK K) | ((with_reducible (first | apply oG | apply oH)); iterate 3 exact rfl) | ((with_reducible apply oI); (iterate 2 exact rfl); intro K hK) | (with_reducible (first | apply wI | apply wJ | apply wK))); try simp only [go_sem, simprocAttr, hg]) | fail | (with_reducible (first | apply oC | apply oJ | exact oK | apply wA | apply wB | apply wC hX hC | apply wD hX hC | apply wE hX hC hmix | apply wF hX hC hmix | apply wG | apply wH | apply And.intro)) | ((with_reducible refine oD ?_ ?_); first | fail | kernel_rfl) | ((with_reducible (first | apply oE | apply oF)); (iterate 3 exact rfl); all_goals (intro h; first | (exact absurd h (by decide)) | ((try simp only [go_sem, simprocAttr, hg] at h); (try with_reducible intro K hK); simp only [go_sem, simprocAttr, hg]))) | ((first | ((with_reducible apply wL); exact rfl) | ((with_reducible apply wM); exact rfl)); all_goals (try ((with_reducible intro h); first | (exact absurd h (by decide)) | (try simp only [go_sem, simprocAttr, hg] at h)))) | omega | ((first | first | refine acall_simple hX hC hP (speaks23_spec) rfl rfl rfl (by simp only [go_sem, simprocAttr, hg]) rfl ?_ | refine acall_simple hX hC hP (greatD_spec g d hls) rfl rfl rfl (by simp only [go_sem, simprocAttr, hg]) rfl ?_ | refine acall_simple hX hC hP (refPicture_spec g d hl hp hls' hll) rfl rfl rfl (by simp only [go_sem, simprocAttr, hg]) rfl ?_ | refine acall_simple hX hC hP (pictureCheck_spec g ⟨d.pts, d.ls.set i (bendL l k m)⟩ hl hp hls2 hll2) rfl rfl rfl (by simp only [go_sem, simprocAttr, hg]) rfl ?_); try simp only [go_sem, simprocAttr, hg]) | (intro h))
  | false =>
  have hgr := hg
  simp only [greatD, Bool.or_eq_false_iff, decide_eq_false_iff_not] at hgr
  obtain ⟨⟨⟨h1, h2⟩, h3⟩, h4⟩ := hgr
  have hl : g.es.length ≤ 1000 := by omega
  have hp : d.pts.length ≤ 1000 := by omega
  have hls' : d.ls.length ≤ 1000 := by omega
  have hll : ∀ l ∈ d.ls, l.length ≤ 1000 := fun l hl => by
    have := (List.any_eq_false.1 h4) l hl
    simp only [decide_eq_true_eq] at this
    omega
  by_cases he : g.es.length = 0
  · have hb : decide ((g.es.length : Int) = 0) = true := decide_eq_true (by omega)
    repeat' (first | ((first | ((with_reducible (first | apply oA | apply oB)); exact rfl; intro K hK) | (refine hK _ ?_; clear hK K) | ((with_reducible (first | apply oG | apply oH)); iterate 3 exact rfl) | ((with_reducible apply oI); (iterate 2 exact rfl); intro K hK) | (with_reducible (first | apply wI | apply wJ | apply wK))); try simp only [go_sem, simprocAttr, hg, hb]) | fail | (with_reducible (first | apply oC | apply oJ | exact oK | apply wA | apply wB | apply wC hX hC | apply wD hX hC | apply wE hX hC hmix | apply wF hX hC hmix | apply wG | apply wH | apply And.intro)) | ((with_reducible refine oD ?_ ?_); first | fail | kernel_rfl) | ((with_reducible (first | apply oE | apply oF)); (iterate 3 exact rfl); all_goals (intro h; first | (exact absurd h (by decide)) | ((try simp only [go_sem, simprocAttr, hg, hb] at h); (try with_reducible intro K hK); simp only [go_sem, simprocAttr, hg, hb]))) | ((first | ((with_reducible apply wL); exact rfl) | ((with_reducible apply wM); exact rfl)); all_goals (try ((with_reducible intro h); first | (exact absurd h (by decide)) | (try simp only [go_sem, simprocAttr, hg, hb] at h)))) | omega | ((first | first | refine acall_simple hX hC hP (speaks23_spec) rfl rfl rfl (by simp only [go_sem, simprocAttr, hg, hb]) rfl ?_ | refine acall_simple hX hC hP (greatD_spec g d hls) rfl rfl rfl (by simp only [go_sem, simprocAttr, hg, hb]) rfl ?_ | refine acall_simple hX hC hP (refPicture_spec g d hl hp hls' hll) rfl rfl rfl (by simp only [go_sem, simprocAttr, hg, hb]) rfl ?_ | refine acall_simple hX hC hP (pictureCheck_spec g ⟨d.pts, d.ls.set i (bendL l k m)⟩ hl hp hls2 hll2) rfl rfl rfl (by simp only [go_sem, simprocAttr, hg, hb]) rfl ?_); try simp only [go_sem, simprocAttr, hg, hb]) | (intro h))
  have hb : decide ((g.es.length : Int) = 0) = false := decide_eq_false (by omega)
  by_cases hF : ¬ (chkD g d).1 = 0
  · have hb1 : decide ((chkD g d).1 = 0) = false := decide_eq_false hF
    repeat' (first | ((first | ((with_reducible (first | apply oA | apply oB)); exact rfl; intro K hK) | (refine hK _ ?_; clear hK K) | ((with_reducible (first | apply oG | apply oH)); iterate 3 exact rfl) | ((with_reducible apply oI); (iterate 2 exact rfl); intro K hK) | (with_reducible (first | apply wI | apply wJ | apply wK))); try simp only [go_sem, simprocAttr, hg, hb, hb1]) | fail | (with_reducible (first | apply oC | apply oJ | exact oK | apply wA | apply wB | apply wC hX hC | apply wD hX hC | apply wE hX hC hmix | apply wF hX hC hmix | apply wG | apply wH | apply And.intro)) | ((with_reducible refine oD ?_ ?_); first | fail | kernel_rfl) | ((with_reducible (first | apply oE | apply oF)); (iterate 3 exact rfl); all_goals (intro h; first | (exact absurd h (by decide)) | ((try simp only [go_sem, simprocAttr, hg, hb, hb1] at h); (try with_reducible intro K hK); simp only [go_sem, simprocAttr, hg, hb, hb1]))) | ((first | ((with_reducible apply wL); exact rfl) | ((with_reducible apply wM); exact rfl)); all_goals (try ((with_reducible intro h); first | (exact absurd h (by decide)) | (try simp only [go_sem, simprocAttr, hg, hb, hb1] at h)))) | omega | ((first | first | refine acall_simple hX hC hP (speaks23_spec) rfl rfl rfl (by simp only [go_sem, simprocAttr, hg, hb, hb1]) rfl ?_ | refine acall_simple hX hC hP (greatD_spec g d hls) rfl rfl rfl (by simp only [go_sem, simprocAttr, hg, hb, hb1]) rfl ?_ | refine acall_simple hX hC hP (refPicture_spec g d hl hp hls' hll) rfl rfl rfl (by simp only [go_sem, simprocAttr, hg, hb, hb1]) rfl ?_ | refine acall_simple hX hC hP (pictureCheck_spec g ⟨d.pts, d.ls.set i (bendL l k m)⟩ hl hp hls2 hll2) rfl rfl rfl (by simp only [go_sem, simprocAttr, hg, hb, hb1]) rfl ?_); try simp only [go_sem, simprocAttr, hg, hb, hb1]) | (intro h))
  rw [Decidable.not_not] at hF
  have hb1 : decide ((chkD g d).1 = 0) = true := decide_eq_true hF
  have fn := fine_iff.1 hF
  have hOk := fn.ok
  obtain ⟨i, hi, hie⟩ := tmod_nat (x := x) (n := g.es.length) (by omega)
  have hil : i < d.ls.length := by rw [hOk.nl]; exact hie
  obtain ⟨l, hli⟩ : ∃ l, d.ls.getD i [] = l := ⟨_, rfl⟩
  have hlm : l ∈ d.ls := by rw [← hli]; exact getD_memX hil
  have hl2 := hOk.rng l hlm
  obtain ⟨k, hk, hkl⟩ := tmod_nat (x := y) (n := l.length - 1) (by omega)
  rw [show ((l.length - 1 : Nat) : Int) = (l.length : Int) - 1 by omega] at hk
  obtain ⟨a, ha⟩ : ∃ a, l.getD k (0, 0) = a := ⟨_, rfl⟩
  obtain ⟨b, hb'⟩ : ∃ b, l.getD (k + 1) (0, 0) = b := ⟨_, rfl⟩
  obtain ⟨ia, ib, hr, hne⟩ := fn.piece hie (q := (a, b)) (by rw [hli]; exact mem_pcs.2 ⟨k, by omega, by rw [ha, hb']⟩)
  simp only at ia ib hr hne
  obtain ⟨⟨a1, a2⟩, a3, a4⟩ := ia
  obtain ⟨⟨b1, b2⟩, b3, b4⟩ := ib
  have hk1 : ((k : Int) + 1).toNat = k + 1 := by omega
  by_cases h7 : 7 < l.length
  · have hb7 : decide ((7 : Int) < (l.length : Int)) = true := decide_eq_true (by omega)
    repeat' (first | ((first | ((with_reducible (first | apply oA | apply oB)); exact rfl; intro K hK) | (refine hK _ ?_; clear hK K) | ((with_reducible (first | apply oG | apply oH)); iterate 3 exact rfl) | ((with_reducible apply oI); (iterate 2 exact rfl); intro K hK) | (with_reducible (first | apply wI | apply wJ | apply wK))); try simp only [go_sem, simprocAttr, hg, hb, hb1, hi, hk, hli, ha, hb', hk1, hb7]) | fail | (with_reducible (first | apply oC | apply oJ | exact oK | apply wA | apply wB | apply wC hX hC | apply wD hX hC | apply wE hX hC hmix | apply wF hX hC hmix | apply wG | apply wH | apply And.intro)) | ((with_reducible refine oD ?_ ?_); first | fail | kernel_rfl) | ((with_reducible (first | apply oE | apply oF)); (iterate 3 exact rfl); all_goals (intro h; first | (exact absurd h (by decide)) | ((try simp only [go_sem, simprocAttr, hg, hb, hb1, hi, hk, hli, ha, hb', hk1, hb7] at h); (try with_reducible intro K hK); simp only [go_sem, simprocAttr, hg, hb, hb1, hi, hk, hli, ha, hb', hk1, hb7]))) | ((first | ((with_reducible apply wL); exact rfl) | ((with_reducible apply wM); exact rfl)); all_goals (try ((with_reducible intro h); first | (exact absurd h (by decide)) | (try simp only [go_sem, simprocAttr, hg, hb, hb1, hi, hk, hli, ha, hb', hk1, hb7] at h)))) | omega | ((first | first | refine acall_simple hX hC hP (speaks23_spec) rfl rfl rfl (by simp only [go_sem, simprocAttr, hg, hb, hb1, hi, hk, hli, ha, hb', hk1, hb7]) rfl ?_ | refine acall_simple hX hC hP (greatD_spec g d hls) rfl rfl rfl (by simp only [go_sem, simprocAttr, hg, hb, hb1, hi, hk, hli, ha, hb', hk1, hb7]) rfl ?_ | refine acall_simple hX hC hP (refPicture_spec g d hl hp hls' hll) rfl rfl rfl (by simp only [go_sem, simprocAttr, hg, hb, hb1, hi, hk, hli, ha, hb', hk1, hb7]) rfl ?_); try simp only [go_sem, simprocAttr, hg, hb, hb1, hi, hk, hli, ha, hb', hk1, hb7]) | (intro h))
  have hb7 : decide ((7 : Int) < (l.length : Int)) = false := decide_eq_false (by omega)
  by_cases hp1 : ¬ (a.1 + b.1).tmod 2 = 0
  · have hb8 : decide ((a.1 + b.1).tmod 2 = 0) = false := decide_eq_false hp1
    repeat' (first | ((first | ((with_reducible (first | apply oA | apply oB)); exact rfl; intro K hK) | (refine hK _ ?_; clear hK K) | ((with_reducible (first | apply oG | apply oH)); iterate 3 exact rfl) | ((with_reducible apply oI); (iterate 2 exact rfl); intro K hK) | (with_reducible (first | apply wI | apply wJ | apply wK))); try simp only [go_sem, simprocAttr, hg, hb, hb1, hi, hk, hli, ha, hb', hk1, hb7, hb8]) | fail | (with_reducible (first | apply oC | apply oJ | exact oK | apply wA | apply wB | apply wC hX hC | apply wD hX hC | apply wE hX hC hmix | apply wF hX hC hmix | apply wG | apply wH | apply And.intro)) | ((with_reducible refine oD ?_ ?_); first | fail | kernel_rfl) | ((with_reducible (first | apply oE | apply oF)); (iterate 3 exact rfl); all_goals (intro h; first | (exact absurd h (by decide)) | ((try simp only [go_sem, simprocAttr, hg, hb, hb1, hi, hk, hli, ha, hb', hk1, hb7, hb8] at h); (try with_reducible intro K hK); simp only [go_sem, simprocAttr, hg, hb, hb1, hi, hk, hli, ha, hb', hk1, hb7, hb8]))) | ((first | ((with_reducible apply wL); exact rfl) | ((with_reducible apply wM); exact rfl)); all_goals (try ((with_reducible intro h); first | (exact absurd h (by decide)) | (try simp only [go_sem, simprocAttr, hg, hb, hb1, hi, hk, hli, ha, hb', hk1, hb7, hb8] at h)))) | omega | ((first | first | refine acall_simple hX hC hP (speaks23_spec) rfl rfl rfl (by simp only [go_sem, simprocAttr, hg, hb, hb1, hi, hk, hli, ha, hb', hk1, hb7, hb8]) rfl ?_ | refine acall_simple hX hC hP (greatD_spec g d hls) rfl rfl rfl (by simp only [go_sem, simprocAttr, hg, hb, hb1, hi, hk, hli, ha, hb', hk1, hb7, hb8]) rfl ?_ | refine acall_simple hX hC hP (refPicture_spec g d hl hp hls' hll) rfl rfl rfl (by simp only [go_sem, simprocAttr, hg, hb, hb1, hi, hk, hli, ha, hb', hk1, hb7, hb8]) rfl ?_); try simp only [go_sem, simprocAttr, hg, hb, hb1, hi, hk, hli, ha, hb', hk1, hb7, hb8]) | (intro h))
  rw [Decidable.not_not] at hp1
  have hb8 : decide ((a.1 + b.1).tmod 2 = 0) = true := decide_eq_true hp1
  by_cases hp2 : ¬ (a.2 + b.2).tmod 2 = 0
  · have hb9 : decide ((a.2 + b.2).tmod 2 = 0) = false := decide_eq_false hp2
    repeat' (first | ((first | ((with_reducible (first | apply oA | apply oB)); exact rfl; intro K hK) | (refine hK _ ?_; clear hK K) | ((with_reducible (first | apply oG | apply oH)); iterate 3 exact rfl) | ((with_reducible apply oI); (iterate 2 exact rfl); intro K hK) | (with_reducible (first | apply wI | apply wJ | apply wK))); try simp only [go_sem, simprocAttr, hg, hb, hb1, hi, hk, hli, ha, hb', hk1, hb7, hb8, hb9]) | fail | (with_reducible (first | apply oC | apply oJ | exact oK | apply wA | apply wB | apply wC hX hC | apply wD hX hC | apply wE hX hC hmix | apply wF hX hC hmix | apply wG | apply wH | apply And.intro)) | ((with_reducible refine oD ?_ ?_); first | fail | kernel_rfl) | ((with_reducible (first | apply oE | apply oF)); (iterate 3 exact rfl); all_goals (intro h; first | (exact absurd h (by decide)) | ((try simp only [go_sem, simprocAttr, hg, hb, hb1, hi, hk, hli, ha, hb', hk1, hb7, hb8, hb9] at h); (try with_reducible intro K hK); simp only [go_sem, simprocAttr, hg, hb, hb1, hi, hk, hli, ha, hb', hk1, hb7, hb8, hb9]))) | ((first | ((with_reducible apply wL); exact rfl) | ((with_reducible apply wM); exact rfl)); all_goals (try ((with_reducible intro h); first | (exact absurd h (by decide)) | (try simp only [go_sem, simprocAttr, hg, hb, hb1, hi, hk, hli, ha, hb', hk1, hb7, hb8, hb9] at h)))) | omega | ((first | first | refine acall_simple hX hC hP (speaks23_spec) rfl rfl rfl (by simp only [go_sem, simprocAttr, hg, hb, hb1, hi, hk, hli, ha, hb', hk1, hb7, hb8, hb9]) rfl ?_ | refine acall_simple hX hC hP (greatD_spec g d hls) rfl rfl rfl (by simp only [go_sem, simprocAttr, hg, hb, hb1, hi, hk, hli, ha, hb', hk1, hb7, hb8, hb9]) rfl ?_ | refine acall_simple hX hC hP (refPicture_spec g d hl hp hls' hll) rfl rfl rfl (by simp only [go_sem, simprocAttr, hg, hb, hb1, hi, hk, hli, ha, hb', hk1, hb7, hb8, hb9]) rfl ?_); try simp only [go_sem, simprocAttr, hg, hb, hb1, hi, hk, hli, ha, hb', hk1, hb7, hb8, hb9]) | (intro h))
  rw [Decidable.not_not] at hp2
  obtain ⟨m1, hm1⟩ : ∃ m1, a.1 + b.1 = 2 * m1 := Int.dvd_of_tmod_eq_zero hp1
  obtain ⟨m2, hm2⟩ : ∃ m2, a.2 + b.2 = 2 * m2 := Int.dvd_of_tmod_eq_zero hp2
  have t1 : (2 * m1).tmod 2 = 0 := by rw [← hm1]; exact hp1
  have t2 : (2 * m2).tmod 2 = 0 := by rw [← hm2]; exact hp2
  have q1 : (2 * m1).tdiv 2 = m1 := Int.mul_tdiv_cancel_left _ (by decide)
  have q2 : (2 * m2).tdiv 2 = m2 := Int.mul_tdiv_cancel_left _ (by decide)
  have htk : List.take l.length (l.map rP) = l.map rP := List.take_of_length_le (by simp)
  have hss : ∀ u v : List D, ((vP d.ls).set i u).set i v = (vP d.ls).set i v := fun u v => by simp
  have hgs : ∀ u z : List D, ((vP d.ls).set i u).getD i z = u := fun u z => by
    rw [getD_set (by rw [vP_length]; exact hil), if_pos rfl]
  have hfin : List.take (k + 1) (l.map rP) ++ [[.sc (.int .i64 m1), .sc (.int .i64 m2)]] ++ List.drop (k + 1) (l.map rP) = (bendL l k (m1, m2)).map rP := by
    simp [bendL, rP, List.map_take, List.map_drop]
  have hbl : (bendL l k (m1, m2)).length = l.length + 1 := bend_len (by omega)
  have hls2 : (d.ls.set i (bendL l k (m1, m2))).length ≤ 1000 := by rw [List.length_set]; exact hls'
  have hll2 : ∀ q ∈ d.ls.set i (bendL l k (m1, m2)), q.length ≤ 1000 := fun q hq => by
    rcases List.mem_or_eq_of_mem_set hq with h | h
    · exact hll q h
    · rw [h, hbl]; omega
  have hend : (chkD g ⟨d.pts, d.ls.set i (bendL l k (m1, m2))⟩).1 = 0 := fine_iff.2 (by
    have := fn.bend (m := (m1, m2)) hie (k := k) (by rw [hli]; omega) (by rw [hli]; omega) (by rw [hli, ha, hb']; exact ⟨hm1, hm2⟩)
    rw [hli] at this
    exact this)
  repeat' (first | ((first | ((with_reducible (first | apply oA | apply oB)); exact rfl; intro K hK) | (refine hK _ ?_; clear hK K) | ((with_reducible (first | apply oG | apply oH)); iterate 3 exact rfl) | ((with_reducible apply oI); (iterate 2 exact rfl); intro K hK) | (with_reducible (first | apply wI | apply wJ | apply wK))); try simp only [go_sem, simprocAttr, hg, hb, hb1, hi, hk, hli, ha, hb', hk1, hb7, hm1, hm2, t1, t2, q1, q2, htk, hss, hgs, hfin, vP_set, hend, List.length_take, List.length_drop, List.length_append, List.length_map]) | first | (show awp _ (.seq (.region 15 _ _) _) _ _; refine awp_hole 88 i rfl (by simp only [vP_length, List.nil_append]; exact hil) ?_; simp only [go_sem, simprocAttr, hg, hb, hb1, hi, hk, hli, ha, hb', hk1, hb7, hm1, hm2, t1, t2, q1, q2, htk, hss, hgs, hfin, vP_set, hend, List.length_take, List.length_drop, List.length_append, List.length_map]) | (show awp _ (.seq (.region 17 _ _) _) _ _; (refine awp_frz hX 88 rfl (.inl rfl) ?_; simp only [go_sem, simprocAttr, hg, hb, hb1, hi, hk, hli, ha, hb', hk1, hb7, hm1, hm2, t1, t2, q1, q2, htk, hss, hgs, hfin, vP_set, hend, List.length_take, List.length_drop, List.length_append, List.length_map])) | (with_reducible (first | apply oC | apply oJ | exact oK | apply wA | apply wB | apply wC hX hC | apply wD hX hC | apply wE hX hC hmix | apply wF hX hC hmix | apply wG | apply wH | apply And.intro)) | ((with_reducible refine oD ?_ ?_); first | fail | kernel_rfl) | ((with_reducible (first | apply oE | apply oF)); (iterate 3 exact rfl); all_goals (intro h; first | (exact absurd h (by decide)) | ((try simp only [go_sem, simprocAttr, hg, hb, hb1, hi, hk, hli, ha, hb', hk1, hb7, hm1, hm2, t1, t2, q1, q2, htk, hss, hgs, hfin, vP_set, hend, List.length_take, List.length_drop, List.length_append, List.length_map] at h); (try with_reducible intro K hK); simp only [go_sem, simprocAttr, hg, hb, hb1, hi, hk, hli, ha, hb', hk1, hb7, hm1, hm2, t1, t2, q1, q2, htk, hss, hgs, hfin, vP_set, hend, List.length_take, List.length_drop, List.length_append, List.length_map]))) | ((first | ((with_reducible apply wL); exact rfl) | ((with_reducible apply wM); exact rfl)); all_goals (try ((with_reducible intro h); first | (exact absurd h (by decide)) | (try simp only [go_sem, simprocAttr, hg, hb, hb1, hi, hk, hli, ha, hb', hk1, hb7, hm1, hm2, t1, t2, q1, q2, htk, hss, hgs, hfin, vP_set, hend, List.length_take, List.length_drop, List.length_append, List.length_map] at h)))) | omega | ((first | first | refine acall_simple hX hC hP (speaks23_spec) rfl rfl rfl (by simp only [go_sem, simprocAttr, hg, hb, hb1, hi, hk, hli, ha, hb', hk1, hb7, hm1, hm2, t1, t2, q1, q2, htk, hss, hgs, hfin, vP_set, hend, List.length_take, List.length_drop, List.length_append, List.length_map]) rfl ?_ | refine acall_simple hX hC hP (greatD_spec g d hls) rfl rfl rfl (by simp only [go_sem, simprocAttr, hg, hb, hb1, hi, hk, hli, ha, hb', hk1, hb7, hm1, hm2, t1, t2, q1, q2, htk, hss, hgs, hfin, vP_set, hend, List.length_take, List.length_drop, List.length_append, List.length_map]) rfl ?_ | refine acall_simple hX hC hP (refPicture_spec g d hl hp hls' hll) rfl rfl rfl (by simp only [go_sem, simprocAttr, hg, hb, hb1, hi, hk, hli, ha, hb', hk1, hb7, hm1, hm2, t1, t2, q1, q2, htk, hss, hgs, hfin, vP_set, hend, List.length_take, List.length_drop, List.length_append, List.length_map]) rfl ?_ | refine acall_simple hX hC hP (pictureCheck_spec g ⟨d.pts, d.ls.set i (bendL l k (m1, m2))⟩ hl hp hls2 hll2) rfl rfl rfl (by simp only [go_sem, simprocAttr, hg, hb, hb1, hi, hk, hli, ha, hb', hk1, hb7, hm1, hm2, t1, t2, q1, q2, htk, hss, hgs, hfin, vP_set, hend, List.length_take, List.length_drop, List.length_append, List.length_map]) rfl ?_); try simp only [go_sem, simprocAttr, hg, hb, hb1, hi, hk, hli, ha, hb', hk1, hb7, hm1, hm2, t1, t2, q1, q2, htk, hss, hgs, hfin, vP_set, hend, List.length_take, List.length_drop, List.length_append, List.length_map]) | (intro h))
end Go.Ab
end
