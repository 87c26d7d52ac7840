/- RankOrders, walked: the law. -/
import Derived.Test.YtilamojcledkaaaGreatL2P14
set_option linter.unusedSimpArgs false
set_option linter.unusedVariables false
namespace Go.Ab
open Go.Proofs
attribute [local congr] ACall.congr
set_option maxRecDepth 10000
set_option maxHeartbeats 8000000
theorem rankOrders_spec (g : Gr) (p : Pl) (hl : g.es.length ≤ 9223372036854775807) (hp : PlMax p) : Spec Tryz.prog 6 (Args [eG g, ePl p]) [] (eB true) [] := by
 have hG := great10_spec g p hl hp
 (refine Spec.intro (C := T.cfg [] []) (rs := [.t 4]) (T.cfg_ok _ _) Tryz.func6 rfl rfl Tryz.ntmps6 Tryz.results6 (by simp [AObj.isNest]) (by simp [AObj.isNest]) (by kernel_rfl) ?_; intro X hX hP hC hXn hXm vals hA; refine ⟨_, by simp, hA, ?_⟩; have hmix : X.P.follows .mixedOrders = true := (by rw [hP]; exact T.mixed); clear hXn hXm)
 cases hB : bigB g p with
 | true =>
  rw [hB] at hG
  repeat' (first | fail | ((first | ((with_reducible (first | apply oA | apply oB)); exact rfl; intro K hK) | (refine hK _ ?_; clear hK K) | ((with_reducible (first | apply oG | apply oH)); iterate 3 exact rfl) | ((with_reducible apply oI); (iterate 2 exact rfl); intro K hK) | (with_reducible (first | apply wI | apply wJ | apply wK))); try simp only [go_sem, simprocAttr]) | fail | (with_reducible (first | apply oC | apply oJ | exact oK | apply wA | apply wB | apply wC hX hC | apply wD hX hC | apply wE hX hC hmix | apply wF hX hC hmix | apply wG | apply wH | apply And.intro)) | ((with_reducible refine oD ?_ ?_); first | fail | kernel_rfl) | ((with_reducible (first | apply oE | apply oF)); (iterate 3 exact rfl); all_goals (intro h; first | (exact absurd h (by decide)) | ((try simp only [go_sem, simprocAttr] at h); (try with_reducible intro K hK); simp only [go_sem, simprocAttr]))) | ((first | ((with_reducible apply wL); exact rfl) | ((with_reducible apply wM); exact rfl)); all_goals (try ((with_reducible intro h); first | (exact absurd h (by decide)) | (try simp only [go_sem, simprocAttr] at h)))) | omega | ((first | first | refine acall_simple hX hC hP (speaks20_spec) rfl rfl rfl (by simp only [go_sem, simprocAttr]) rfl ?_ | refine acall_simple hX hC hP (hG) rfl rfl rfl (by simp only [go_sem, simprocAttr]) rfl ?_); try simp only [go_sem, simprocAttr]) | (intro h))
 | false =>
 rw [hB] at hG
 obtain ⟨b1, b2, b3, b4⟩ := big_not hB
 obtain ⟨b, hr⟩ := exB g p
 have hI := refIs_spec g (by omega)
 have hRn := runs_spec g (by omega) p (plLen_of hB) b hr
 cases hi : isB g with
 | false =>
  rw [hi] at hI
  repeat' (first | fail | ((first | ((with_reducible (first | apply oA | apply oB)); exact rfl; intro K hK) | (refine hK _ ?_; clear hK K) | ((with_reducible (first | apply oG | apply oH)); iterate 3 exact rfl) | ((with_reducible apply oI); (iterate 2 exact rfl); intro K hK) | (with_reducible (first | apply wI | apply wJ | apply wK))); try simp only [go_sem, simprocAttr]) | fail | (with_reducible (first | apply oC | apply oJ | exact oK | apply wA | apply wB | apply wC hX hC | apply wD hX hC | apply wE hX hC hmix | apply wF hX hC hmix | apply wG | apply wH | apply And.intro)) | ((with_reducible refine oD ?_ ?_); first | fail | kernel_rfl) | ((with_reducible (first | apply oE | apply oF)); (iterate 3 exact rfl); all_goals (intro h; first | (exact absurd h (by decide)) | ((try simp only [go_sem, simprocAttr] at h); (try with_reducible intro K hK); simp only [go_sem, simprocAttr]))) | ((first | ((with_reducible apply wL); exact rfl) | ((with_reducible apply wM); exact rfl)); all_goals (try ((with_reducible intro h); first | (exact absurd h (by decide)) | (try simp only [go_sem, simprocAttr] at h)))) | omega | ((first | first | refine acall_simple hX hC hP (speaks20_spec) rfl rfl rfl (by simp only [go_sem, simprocAttr]) rfl ?_ | refine acall_simple hX hC hP (hG) rfl rfl rfl (by simp only [go_sem, simprocAttr]) rfl ?_ | refine acall_simple hX hC hP (hI) rfl rfl rfl (by simp only [go_sem, simprocAttr]) rfl ?_); try simp only [go_sem, simprocAttr]) | (intro h))
 | true =>
 rw [hi] at hI
 by_cases hK : (runRes b g p).2.1 = 0
 rotate_left
 ·rw [decide_eq_false hK] at hRn
  repeat' (first | fail | ((first | ((with_reducible (first | apply oA | apply oB)); exact rfl; intro K hK) | (refine hK _ ?_; clear hK K) | ((with_reducible (first | apply oG | apply oH)); iterate 3 exact rfl) | ((with_reducible apply oI); (iterate 2 exact rfl); intro K hK) | (with_reducible (first | apply wI | apply wJ | apply wK))); try simp only [go_sem, simprocAttr]) | fail | (with_reducible (first | apply oC | apply oJ | exact oK | apply wA | apply wB | apply wC hX hC | apply wD hX hC | apply wE hX hC hmix | apply wF hX hC hmix | apply wG | apply wH | apply And.intro)) | ((with_reducible refine oD ?_ ?_); first | fail | kernel_rfl) | ((with_reducible (first | apply oE | apply oF)); (iterate 3 exact rfl); all_goals (intro h; first | (exact absurd h (by decide)) | ((try simp only [go_sem, simprocAttr] at h); (try with_reducible intro K hK); simp only [go_sem, simprocAttr]))) | ((first | ((with_reducible apply wL); exact rfl) | ((with_reducible apply wM); exact rfl)); all_goals (try ((with_reducible intro h); first | (exact absurd h (by decide)) | (try simp only [go_sem, simprocAttr] at h)))) | omega | ((first | first | refine acall_simple hX hC hP (speaks20_spec) rfl rfl rfl (by simp only [go_sem, simprocAttr]) rfl ?_ | refine acall_simple hX hC hP (hG) rfl rfl rfl (by simp only [go_sem, simprocAttr]) rfl ?_ | refine acall_simple hX hC hP (hI) rfl rfl rfl (by simp only [go_sem, simprocAttr]) rfl ?_ | refine acall_simple hX hC hP (hRn) rfl rfl rfl (by simp only [go_sem, simprocAttr]) rfl ?_); try simp only [go_sem, simprocAttr]) | (intro h))
 rw [decide_eq_true hK] at hRn
 obtain ⟨hrun, _⟩ := runRes_ok hr hK
 have hm := good_may hrun.1
 have hn := mayB_n hm
 have hmir := mir_runs hrun
 have hml : PlLen (mirP p) := ⟨(plLen_of hB).1, by simpa [mirP] using (plLen_of hB).2, fun l hl => by
  obtain ⟨l', h1, rfl⟩ := List.mem_map.1 hl
  simpa using (plLen_of hB).3 l' h1⟩
 have hMr := mirror_spec p (by omega) (by omega) (fun l hl => by have := b4 l hl; omega)
 have hRk := ranks_spec g (by omega) p (plLen_of hB) b hr
 have hrk : rkR b g p = (rankL g p false g.n.toNat, rankL g p true g.n.toNat, 0) := if_pos ⟨hK, hi⟩
 rw [hrk] at hRk
 obtain ⟨b', hr'⟩ := exB g (mirP p)
 have hRm := ranks_spec g (by omega) (mirP p) hml b' hr'
 have hrm : rkR b' g (mirP p) = (rankL g p true g.n.toNat, rankL g p false g.n.toNat, 0) := by
  have h1 := mir_rank hrun true (Nat.le_refl _)
  have h2 := mir_rank hrun false (Nat.le_refl _)
  simp only [Bool.not_true, Bool.not_false] at h1 h2
  have : rkR b' g (mirP p) = (rankL g (mirP p) false g.n.toNat, rankL g (mirP p) true g.n.toNat, 0) := if_pos ⟨by rw [runRes_run hr' hmir], hi⟩
  rw [this, h1, h2]
 rw [hrm] at hRm
 have hS : ∀ rev, Spec Tryz.prog 12 (Args [.d (sI (rankL g p rev g.n.toNat)), .d (sI (rankL g p rev g.n.toNat))]) [] (eB true) [] := fun rev => by
  have := sameInts_spec (rankL g p rev g.n.toNat) (rankL g p rev g.n.toNat) (by rw [rankL_len]; omega)
  simpa using this
 have hEa : ∀ rev, Spec Tryz.prog 21 (Args [.d (sI (rankL g p rev g.n.toNat)), eN g.n]) [] (eB true) [] := fun rev => by
  have := each_spec (rankL g p rev g.n.toNat) g.n (by rw [rankL_len]; omega)
  rwa [rank_perm hrun rev] at this
 have hQ : ∀ rev, Spec Tryz.prog 11 (Args [eG g, ePl ⟨atK g.n.toNat (rankL g p rev g.n.toNat) g.n.toNat, p.outs⟩]) [] (eB true) [] := fun rev => by
  rw [atK_rank hrun rev]
  have hw := walk_runs hrun rev
  obtain ⟨b'', hr''⟩ := exB g ⟨ordW g p rev, p.outs⟩
  have := runs_spec g (by omega) ⟨ordW g p rev, p.outs⟩ ⟨by show (ordW g p rev).length ≤ _; rw [ordW_len]; omega, (plLen_of hB).2, (plLen_of hB).3⟩ b'' hr''
  rw [runRes_run hr'' hw] at this
  exact this
 have hlR : ∀ rev, (rankL g p rev g.n.toNat).length = g.n.toNat := fun rev => rankL_len
 have hbd : ∀ rev, ∀ v ∈ rankL g p rev g.n.toNat, 0 ≤ v ∧ v < g.n := fun rev => eachB_lo (rank_perm hrun rev)
 have hS0 := hS false
 have hS1 := hS true
 obtain ⟨LL, hLL⟩ : ∃ LL : Bool → List Int, ∀ rev, LL rev = rankL g p rev g.n.toNat := ⟨_, fun _ => rfl⟩
 simp only [← hLL] at *
 repeat' (first | fail | ((first | ((with_reducible (first | apply oA | apply oB)); exact rfl; intro K hK) | (refine hK _ ?_; clear hK K) | ((with_reducible (first | apply oG | apply oH)); iterate 3 exact rfl) | ((with_reducible apply oI); (iterate 2 exact rfl); intro K hK) | (with_reducible (first | apply wI | apply wJ | apply wK))); try simp only [go_sem, simprocAttr, decide_true]) | fail | (with_reducible (first | apply oC | apply oJ | exact oK | apply wA | apply wB | apply wC hX hC | apply wD hX hC | apply wE hX hC hmix | apply wF hX hC hmix | apply wG | apply wH | apply And.intro)) | ((with_reducible refine oD ?_ ?_); first | fail | kernel_rfl) | ((with_reducible (first | apply oE | apply oF)); (iterate 3 exact rfl); all_goals (intro h; first | (exact absurd h (by decide)) | ((try simp only [go_sem, simprocAttr, decide_true] at h); (try with_reducible intro K hK); simp only [go_sem, simprocAttr, decide_true]))) | ((first | ((with_reducible apply wL); exact rfl) | ((with_reducible apply wM); exact rfl)); all_goals (try ((with_reducible intro h); first | (exact absurd h (by decide)) | (try simp only [go_sem, simprocAttr, decide_true] at h)))) | omega | ((first | first | refine acall_simple hX hC hP (speaks20_spec) rfl rfl rfl (by simp only [go_sem, simprocAttr, decide_true]) rfl ?_ | refine acall_simple hX hC hP (hG) rfl rfl rfl (by simp only [go_sem, simprocAttr, decide_true]) rfl ?_ | refine acall_simple hX hC hP (hI) rfl rfl rfl (by simp only [go_sem, simprocAttr, decide_true]) rfl ?_ | refine acall_simple hX hC hP (hRn) rfl rfl rfl (by simp only [go_sem, simprocAttr, decide_true]) rfl ?_ | refine acall_simple hX hC hP (hRk) rfl rfl rfl (by simp only [go_sem, simprocAttr, decide_true]) rfl ?_ | refine acall_simple hX hC hP (hMr) rfl rfl rfl (by simp only [go_sem, simprocAttr, decide_true]) rfl ?_ | refine acall_simple hX hC hP (hRm) rfl rfl rfl (by simp only [go_sem, simprocAttr, decide_true]) rfl ?_ | refine acall_simple hX hC hP (hS0) rfl rfl rfl (by simp only [go_sem, simprocAttr, decide_true]) rfl ?_ | refine acall_simple hX hC hP (hS1) rfl rfl rfl (by simp only [go_sem, simprocAttr, decide_true]) rfl ?_); try simp only [go_sem, simprocAttr, decide_true]) | (intro h))
 refine awp_loopP (fun k : Nat => k ≤ 2) (fun k => ⟨[(2, .ptr 2 0), (3, .ptr 3 0), (67, .ref 67), (68, eN 2), (69, eN k)], [(67, .tip 25 1 [[sI (LL false)], [sI (LL true)]]), (2, .box [eN g.n, .d (sE g.es)]), (3, .box [.d (sI p.ord), .d (.sl 1 (vI p.outs))])]⟩) (fun k => 2 - k) 0 (by omega) ?_ ?_
 ·refine Le.of ?_ ?_ <;> simp [go_sem, simprocAttr]
 rintro k hk
 rcases Nat.lt_or_ge k 2 with hlt | hge
 rotate_left
 ·have hb : decide ((k : Int) < 2) = false := decide_eq_false (by omega)
  repeat' (first | fail | ((first | ((with_reducible (first | apply oA | apply oB)); exact rfl; intro K hK) | (refine hK _ ?_; clear hK K) | ((with_reducible (first | apply oG | apply oH)); iterate 3 exact rfl) | ((with_reducible apply oI); (iterate 2 exact rfl); intro K hK) | (with_reducible (first | apply wI | apply wJ | apply wK))); try simp only [go_sem, simprocAttr, hb]) | fail | (with_reducible (first | apply oC | apply oJ | exact oK | apply wA | apply wB | apply wC hX hC | apply wD hX hC | apply wE hX hC hmix | apply wF hX hC hmix | apply wG | apply wH | apply And.intro)) | ((with_reducible refine oD ?_ ?_); first | fail | kernel_rfl) | ((with_reducible (first | apply oE | apply oF)); (iterate 3 exact rfl); all_goals (intro h; first | (exact absurd h (by decide)) | ((try simp only [go_sem, simprocAttr, hb] at h); (try with_reducible intro K hK); simp only [go_sem, simprocAttr, hb]))) | ((first | ((with_reducible apply wL); exact rfl) | ((with_reducible apply wM); exact rfl)); all_goals (try ((with_reducible intro h); first | (exact absurd h (by decide)) | (try simp only [go_sem, simprocAttr, hb] at h)))) | omega | ((first | fail); try simp only [go_sem, simprocAttr, hb]) | (intro h))
 have hb : decide ((k : Int) < 2) = true := decide_eq_true (by omega)
 obtain ⟨rev, hv⟩ : ∃ rev, ∀ d, [[D.sl 1 ((LL false).map rI)], [D.sl 1 ((LL true).map rI)]].getD k d = [D.sl 1 ((LL rev).map rI)] := by
  match k, hlt with
  | 0, _ => exact ⟨false, fun _ => rfl⟩
  | 1, _ => exact ⟨true, fun _ => rfl⟩
 have hEa := hEa rev
 have hQ := hQ rev
 have hlR := hlR rev
 have hbd := hbd rev
 generalize LL rev = l at hv hEa hQ hlR hbd
 have hrep : List.replicate g.n.toNat [D.sc (.int .i64 0)] = (atK g.n.toNat l 0).map rI := by rw [atK, List.map_replicate]; rfl
 repeat' (first | fail | ((first | ((with_reducible (first | apply oA | apply oB)); exact rfl; intro K hK) | (refine hK _ ?_; clear hK K) | ((with_reducible (first | apply oG | apply oH)); iterate 3 exact rfl) | ((with_reducible apply oI); (iterate 2 exact rfl); intro K hK) | (with_reducible (first | apply wI | apply wJ | apply wK))); try simp only [go_sem, simprocAttr, hb, hv, hrep]) | fail | (with_reducible (first | apply oC | apply oJ | exact oK | apply wA | apply wB | apply wC hX hC | apply wD hX hC | apply wE hX hC hmix | apply wF hX hC hmix | apply wG | apply wH | apply And.intro)) | ((with_reducible refine oD ?_ ?_); first | fail | kernel_rfl) | ((with_reducible (first | apply oE | apply oF)); (iterate 3 exact rfl); all_goals (intro h; first | (exact absurd h (by decide)) | ((try simp only [go_sem, simprocAttr, hb, hv, hrep] at h); (try with_reducible intro K hK); simp only [go_sem, simprocAttr, hb, hv, hrep]))) | ((first | ((with_reducible apply wL); exact rfl) | ((with_reducible apply wM); exact rfl)); all_goals (try ((with_reducible intro h); first | (exact absurd h (by decide)) | (try simp only [go_sem, simprocAttr, hb, hv, hrep] at h)))) | omega | ((first | first | refine acall_simple hX hC hP (hEa) rfl rfl rfl (by simp only [go_sem, simprocAttr, hb, hv, hrep]) rfl ?_); try simp only [go_sem, simprocAttr, hb, hv, hrep]) | (intro h))
 refine awp_loopP (fun j : Nat => j ≤ l.length) (fun j => ⟨[(2, .ptr 2 0), (3, .ptr 3 0), (13, .ptr 13 0), (67, .ref 67), (68, eN 2), (69, eN k), (84, .d (sI l)), (85, eN l.length), (86, eN j)], [(67, .tip 25 1 [[sI (LL false)], [sI (LL true)]]), (2, .box [eN g.n, .d (sE g.es)]), (3, .box [.d (sI p.ord), .d (.sl 1 (vI p.outs))]), (13, .box [.ref 80, .d (.sl 1 (vI p.outs))]), (80, .own 3 1 ((atK g.n.toNat l j).map rI))]⟩) (fun j => l.length - j) 0 (by omega) ?_ ?_
 ·refine Le.of ?_ ?_ <;> simp [go_sem, simprocAttr]
 rintro j hj
 rcases Nat.lt_or_ge j l.length with hjl | hjg
 ·have hbj : decide ((j : Int) < (l.length : Int)) = true := decide_eq_true (by omega)
  have hin := hbd _ (getD_memX (d := 0) hjl)
  have hal := atK_length (n := g.n.toNat) (l := l) (k := j)
  have hst : atK g.n.toNat l (j + 1) = (atK g.n.toNat l j).set (l.getD j 0).toNat (j : Int) := rfl
  generalize hgi : l.getD j 0 = v at hin hst
  obtain ⟨x, rfl⟩ : ∃ x : Nat, v = x := ⟨v.toNat, by omega⟩
  rw [Int.toNat_natCast] at hst
  repeat' (first | fail | ((first | ((with_reducible (first | apply oA | apply oB)); exact rfl; intro K hK) | (refine hK _ ?_; clear hK K) | ((with_reducible (first | apply oG | apply oH)); iterate 3 exact rfl) | ((with_reducible apply oI); (iterate 2 exact rfl); intro K hK) | (with_reducible (first | apply wI | apply wJ | apply wK))); try simp only [go_sem, simprocAttr, hbj, hgi, hal]) | fail | (with_reducible (first | apply oC | apply oJ | exact oK | apply wA | apply wB | apply wC hX hC | apply wD hX hC | apply wE hX hC hmix | apply wF hX hC hmix | apply wG | apply wH | apply And.intro)) | ((with_reducible refine oD ?_ ?_); first | fail | kernel_rfl) | ((with_reducible (first | apply oE | apply oF)); (iterate 3 exact rfl); all_goals (intro h; first | (exact absurd h (by decide)) | ((try simp only [go_sem, simprocAttr, hbj, hgi, hal] at h); (try with_reducible intro K hK); simp only [go_sem, simprocAttr, hbj, hgi, hal]))) | ((first | ((with_reducible apply wL); exact rfl) | ((with_reducible apply wM); exact rfl)); all_goals (try ((with_reducible intro h); first | (exact absurd h (by decide)) | (try simp only [go_sem, simprocAttr, hbj, hgi, hal] at h)))) | omega | ((first | fail); try simp only [go_sem, simprocAttr, hbj, hgi, hal]) | (intro h))
  refine ⟨j + 1, by omega, ?_, by omega⟩
  rw [hst]
  refine Le.of ?_ ?_ <;> simp [go_sem, simprocAttr, hbj, hgi, hal, rI]
 have hbj : decide ((j : Int) < (l.length : Int)) = false := decide_eq_false (by omega)
 obtain rfl : j = l.length := by omega
 rw [hlR]
 repeat' (first | fail | ((first | ((with_reducible (first | apply oA | apply oB)); exact rfl; intro K hK) | (refine hK _ ?_; clear hK K) | ((with_reducible (first | apply oG | apply oH)); iterate 3 exact rfl) | ((with_reducible apply oI); (iterate 2 exact rfl); intro K hK) | (with_reducible (first | apply wI | apply wJ | apply wK))); try simp only [go_sem, simprocAttr, hbj, hlR]) | (show awp _ (.seq (.region 20 _ _) _) _ _; (refine awp_frz hX 80 rfl (.inl rfl) ?_; simp only [go_sem, simprocAttr, hbj, hlR])) | (with_reducible (first | apply oC | apply oJ | exact oK | apply wA | apply wB | apply wC hX hC | apply wD hX hC | apply wE hX hC hmix | apply wF hX hC hmix | apply wG | apply wH | apply And.intro)) | ((with_reducible refine oD ?_ ?_); first | fail | kernel_rfl) | ((with_reducible (first | apply oE | apply oF)); (iterate 3 exact rfl); all_goals (intro h; first | (exact absurd h (by decide)) | ((try simp only [go_sem, simprocAttr, hbj, hlR] at h); (try with_reducible intro K hK); simp only [go_sem, simprocAttr, hbj, hlR]))) | ((first | ((with_reducible apply wL); exact rfl) | ((with_reducible apply wM); exact rfl)); all_goals (try ((with_reducible intro h); first | (exact absurd h (by decide)) | (try simp only [go_sem, simprocAttr, hbj, hlR] at h)))) | omega | ((first | first | (refine acall_look hX hC hP (hQ) rfl rfl rfl ?_ ?_ rfl ?_; iterate 2 (focus (simp only [go_sem, simprocAttr, hbj, hlR]; done)))); try simp only [go_sem, simprocAttr, hbj, hlR]) | (intro h))
 refine ⟨k + 1, by omega, ?_, by omega⟩
 refine Le.of ?_ ?_ <;> simp [go_sem, simprocAttr, hbj, hlR]
end Go.Ab
