/- A part of the proof. -/
import Derived.Test.YtcajillldlhdpaaL6P12
set_option linter.unusedSimpArgs false
set_option linter.unusedVariables false
section
namespace Go.Ab
open Go.Proofs
attribute [local congr] ACall.congr
set_option maxRecDepth 10000

theorem there0_spec (x : Int) : Spec Try.prog 61 (Args [.d vz, .d (.sl 1 []), eN x]) [] (.d (sI [])) [] := by
  (refine Spec.intro (C := T.cfg [] []) (rs := [.t 6]) (T.cfg_ok _ _) Try.func61 rfl rfl Try.ntmps61 Try.results61 (by simp [AObj.isNest]) (by simp [AObj.isNest]) (by kernel_rfl) ?_; intro X hX hP hC hXn hXm vals hA; refine ⟨_, by simp, hA, ?_⟩; have hmix : X.P.follows .mixedOrders = true := (by rw [hP]; exact T.mixed); clear hXn hXm)
  repeat' (first | (first | ((with_reducible (first | apply oA | apply oB)); exact rfl; intro K hK; simp only [go_sem, simprocAttr, vz]) | (with_reducible apply oC) | ((with_reducible refine oD ?_ ?_); first | fail | kernel_rfl) | ((with_reducible (first | apply oE | apply oF)); (iterate 3 exact rfl); all_goals (intro h; first | (exact absurd h (by decide)) | ((try simp only [go_sem, simprocAttr, vz] at h); first | (intro K hK; simp only [go_sem, simprocAttr, vz]) | (simp only [go_sem, simprocAttr, vz])))) | ((with_reducible (first | apply oG | apply oH)); (iterate 3 exact rfl); simp only [go_sem, simprocAttr, vz]) | ((with_reducible apply oI); (iterate 2 exact rfl); (intro K hK; simp only [go_sem, simprocAttr, vz])) | (with_reducible (first | apply oJ | exact oK))) | (refine hK _ ?_; clear hK K; simp only [LA.app, ASt.put, ASt.kill, subT, rmk, putM, rml, kl, AV.sub, AV.subs, AObj.sub, go_sem, simprocAttr, vz]) | (first | fail | (with_reducible (first | apply wA | apply wB | apply wC hX hC | apply wD hX hC | apply wE hX hC hmix | apply wF hX hC hmix | apply wG | apply wH)) | ((with_reducible (first | apply wI | apply wJ)); simp only [athen, ablock, reduceIte, Nat.reduceEqDiff]) | ((with_reducible apply wK); simp only [go_sem, simprocAttr, vz]) | ((with_reducible apply wL); exact rfl; all_goals (try (intro h; try simp only [go_sem, simprocAttr, vz] at h))) | ((with_reducible apply wM); exact rfl; all_goals (intro h; first | (exact absurd h (by decide)) | (try simp only [go_sem, simprocAttr, vz] at h)))) | (with_reducible apply And.intro) | omega | fail | (intro h))
theorem outs0_spec (x : Int) : Spec Try.prog 23 (Args [.d vz, eN x]) [] (.d (sI [])) [] := by
  (refine Spec.intro (C := T.cfg [] []) (rs := [.t 4]) (T.cfg_ok _ _) Try.func23 rfl rfl Try.ntmps23 Try.results23 (by simp [AObj.isNest]) (by simp [AObj.isNest]) (by kernel_rfl) ?_; intro X hX hP hC hXn hXm vals hA; refine ⟨_, by simp, hA, ?_⟩; have hmix : X.P.follows .mixedOrders = true := (by rw [hP]; exact T.mixed); clear hXn hXm)
  repeat' (first | (first | ((with_reducible (first | apply oA | apply oB)); exact rfl; intro K hK; simp only [go_sem, simprocAttr, vz]) | (with_reducible apply oC) | ((with_reducible refine oD ?_ ?_); first | fail | kernel_rfl) | ((with_reducible (first | apply oE | apply oF)); (iterate 3 exact rfl); all_goals (intro h; first | (exact absurd h (by decide)) | ((try simp only [go_sem, simprocAttr, vz] at h); first | (intro K hK; simp only [go_sem, simprocAttr, vz]) | (simp only [go_sem, simprocAttr, vz])))) | ((with_reducible (first | apply oG | apply oH)); (iterate 3 exact rfl); simp only [go_sem, simprocAttr, vz]) | ((with_reducible apply oI); (iterate 2 exact rfl); (intro K hK; simp only [go_sem, simprocAttr, vz])) | (with_reducible (first | apply oJ | exact oK))) | (refine hK _ ?_; clear hK K; simp only [LA.app, ASt.put, ASt.kill, subT, rmk, putM, rml, kl, AV.sub, AV.subs, AObj.sub, go_sem, simprocAttr, vz]) | (first | fail | (with_reducible (first | apply wA | apply wB | apply wC hX hC | apply wD hX hC | apply wE hX hC hmix | apply wF hX hC hmix | apply wG | apply wH)) | ((with_reducible (first | apply wI | apply wJ)); simp only [athen, ablock, reduceIte, Nat.reduceEqDiff]) | ((with_reducible apply wK); simp only [go_sem, simprocAttr, vz]) | ((with_reducible apply wL); exact rfl; all_goals (try (intro h; try simp only [go_sem, simprocAttr, vz] at h))) | ((with_reducible apply wM); exact rfl; all_goals (intro h; first | (exact absurd h (by decide)) | (try simp only [go_sem, simprocAttr, vz] at h)))) | (with_reducible apply And.intro) | omega | first | (refine acall_simple hX hC hP (there0_spec x) rfl rfl rfl (by simp only [go_sem, simprocAttr, vz]) rfl ?_; simp only [go_sem, simprocAttr, vz]) | (intro h))
theorem ins0_spec (x : Int) : Spec Try.prog 24 (Args [.d vz, eN x]) [] (.d (sI [])) [] := by
  (refine Spec.intro (C := T.cfg [] []) (rs := [.t 4]) (T.cfg_ok _ _) Try.func24 rfl rfl Try.ntmps24 Try.results24 (by simp [AObj.isNest]) (by simp [AObj.isNest]) (by kernel_rfl) ?_; intro X hX hP hC hXn hXm vals hA; refine ⟨_, by simp, hA, ?_⟩; have hmix : X.P.follows .mixedOrders = true := (by rw [hP]; exact T.mixed); clear hXn hXm)
  repeat' (first | (first | ((with_reducible (first | apply oA | apply oB)); exact rfl; intro K hK; simp only [go_sem, simprocAttr, vz]) | (with_reducible apply oC) | ((with_reducible refine oD ?_ ?_); first | fail | kernel_rfl) | ((with_reducible (first | apply oE | apply oF)); (iterate 3 exact rfl); all_goals (intro h; first | (exact absurd h (by decide)) | ((try simp only [go_sem, simprocAttr, vz] at h); first | (intro K hK; simp only [go_sem, simprocAttr, vz]) | (simp only [go_sem, simprocAttr, vz])))) | ((with_reducible (first | apply oG | apply oH)); (iterate 3 exact rfl); simp only [go_sem, simprocAttr, vz]) | ((with_reducible apply oI); (iterate 2 exact rfl); (intro K hK; simp only [go_sem, simprocAttr, vz])) | (with_reducible (first | apply oJ | exact oK))) | (refine hK _ ?_; clear hK K; simp only [LA.app, ASt.put, ASt.kill, subT, rmk, putM, rml, kl, AV.sub, AV.subs, AObj.sub, go_sem, simprocAttr, vz]) | (first | fail | (with_reducible (first | apply wA | apply wB | apply wC hX hC | apply wD hX hC | apply wE hX hC hmix | apply wF hX hC hmix | apply wG | apply wH)) | ((with_reducible (first | apply wI | apply wJ)); simp only [athen, ablock, reduceIte, Nat.reduceEqDiff]) | ((with_reducible apply wK); simp only [go_sem, simprocAttr, vz]) | ((with_reducible apply wL); exact rfl; all_goals (try (intro h; try simp only [go_sem, simprocAttr, vz] at h))) | ((with_reducible apply wM); exact rfl; all_goals (intro h; first | (exact absurd h (by decide)) | (try simp only [go_sem, simprocAttr, vz] at h)))) | (with_reducible apply And.intro) | omega | first | (refine acall_simple hX hC hP (there0_spec x) rfl rfl rfl (by simp only [go_sem, simprocAttr, vz]) rfl ?_; simp only [go_sem, simprocAttr, vz]) | (intro h))
theorem sources0_spec : Spec Try.prog 25 (Args [.d vz]) [] (.d (sI [])) [] := by
  (refine Spec.intro (C := T.cfg [] []) (rs := [.t 2]) (T.cfg_ok _ _) Try.func25 rfl rfl Try.ntmps25 Try.results25 (by simp [AObj.isNest]) (by simp [AObj.isNest]) (by kernel_rfl) ?_; intro X hX hP hC hXn hXm vals hA; refine ⟨_, by simp, hA, ?_⟩; have hmix : X.P.follows .mixedOrders = true := (by rw [hP]; exact T.mixed); clear hXn hXm)
  repeat' (first | (first | ((with_reducible (first | apply oA | apply oB)); exact rfl; intro K hK; simp only [go_sem, simprocAttr, vz, vL]) | (with_reducible apply oC) | ((with_reducible refine oD ?_ ?_); first | fail | kernel_rfl) | ((with_reducible (first | apply oE | apply oF)); (iterate 3 exact rfl); all_goals (intro h; first | (exact absurd h (by decide)) | ((try simp only [go_sem, simprocAttr, vz, vL] at h); first | (intro K hK; simp only [go_sem, simprocAttr, vz, vL]) | (simp only [go_sem, simprocAttr, vz, vL])))) | ((with_reducible (first | apply oG | apply oH)); (iterate 3 exact rfl); simp only [go_sem, simprocAttr, vz, vL]) | ((with_reducible apply oI); (iterate 2 exact rfl); (intro K hK; simp only [go_sem, simprocAttr, vz, vL])) | (with_reducible (first | apply oJ | exact oK))) | (refine hK _ ?_; clear hK K; simp only [LA.app, ASt.put, ASt.kill, subT, rmk, putM, rml, kl, AV.sub, AV.subs, AObj.sub, go_sem, simprocAttr, vz, vL]) | (first | fail | (with_reducible (first | apply wA | apply wB | apply wC hX hC | apply wD hX hC | apply wE hX hC hmix | apply wF hX hC hmix | apply wG | apply wH)) | ((with_reducible (first | apply wI | apply wJ)); simp only [athen, ablock, reduceIte, Nat.reduceEqDiff]) | ((with_reducible apply wK); simp only [go_sem, simprocAttr, vz, vL]) | ((with_reducible apply wL); exact rfl; all_goals (try (intro h; try simp only [go_sem, simprocAttr, vz, vL] at h))) | ((with_reducible apply wM); exact rfl; all_goals (intro h; first | (exact absurd h (by decide)) | (try simp only [go_sem, simprocAttr, vz, vL] at h)))) | (with_reducible apply And.intro) | omega | first | (refine acall_look hX hC hP (bare_spec [] (by decide)) rfl rfl rfl ?_ ?_ rfl ?_; (iterate 2 (focus (simp only [go_sem, simprocAttr, vz, vL]; done))); simp only [go_sem, simprocAttr, vz, vL]) | (intro h))
  simp [bareK]
theorem sinks0_spec : Spec Try.prog 26 (Args [.d vz]) [] (.d (sI [])) [] := by
  (refine Spec.intro (C := T.cfg [] []) (rs := [.t 2]) (T.cfg_ok _ _) Try.func26 rfl rfl Try.ntmps26 Try.results26 (by simp [AObj.isNest]) (by simp [AObj.isNest]) (by kernel_rfl) ?_; intro X hX hP hC hXn hXm vals hA; refine ⟨_, by simp, hA, ?_⟩; have hmix : X.P.follows .mixedOrders = true := (by rw [hP]; exact T.mixed); clear hXn hXm)
  repeat' (first | (first | ((with_reducible (first | apply oA | apply oB)); exact rfl; intro K hK; simp only [go_sem, simprocAttr, vz, vL]) | (with_reducible apply oC) | ((with_reducible refine oD ?_ ?_); first | fail | kernel_rfl) | ((with_reducible (first | apply oE | apply oF)); (iterate 3 exact rfl); all_goals (intro h; first | (exact absurd h (by decide)) | ((try simp only [go_sem, simprocAttr, vz, vL] at h); first | (intro K hK; simp only [go_sem, simprocAttr, vz, vL]) | (simp only [go_sem, simprocAttr, vz, vL])))) | ((with_reducible (first | apply oG | apply oH)); (iterate 3 exact rfl); simp only [go_sem, simprocAttr, vz, vL]) | ((with_reducible apply oI); (iterate 2 exact rfl); (intro K hK; simp only [go_sem, simprocAttr, vz, vL])) | (with_reducible (first | apply oJ | exact oK))) | (refine hK _ ?_; clear hK K; simp only [LA.app, ASt.put, ASt.kill, subT, rmk, putM, rml, kl, AV.sub, AV.subs, AObj.sub, go_sem, simprocAttr, vz, vL]) | (first | fail | (with_reducible (first | apply wA | apply wB | apply wC hX hC | apply wD hX hC | apply wE hX hC hmix | apply wF hX hC hmix | apply wG | apply wH)) | ((with_reducible (first | apply wI | apply wJ)); simp only [athen, ablock, reduceIte, Nat.reduceEqDiff]) | ((with_reducible apply wK); simp only [go_sem, simprocAttr, vz, vL]) | ((with_reducible apply wL); exact rfl; all_goals (try (intro h; try simp only [go_sem, simprocAttr, vz, vL] at h))) | ((with_reducible apply wM); exact rfl; all_goals (intro h; first | (exact absurd h (by decide)) | (try simp only [go_sem, simprocAttr, vz, vL] at h)))) | (with_reducible apply And.intro) | omega | first | (refine acall_look hX hC hP (bare_spec [] (by decide)) rfl rfl rfl ?_ ?_ rfl ?_; (iterate 2 (focus (simp only [go_sem, simprocAttr, vz, vL]; done))); simp only [go_sem, simprocAttr, vz, vL]) | (intro h))
  simp [bareK]
theorem idx_nil (x : Int) : idxI [] x = -1 := rfl
theorem run0_spec : Spec Try.prog 60 (Args [.d vz]) [] (.tup [.d (sI []), .d (sI [])]) [] := by
  (refine Spec.intro (C := T.cfg [] []) (rs := [.t 2, .t 3]) (T.cfg_ok _ _) Try.func60 rfl rfl Try.ntmps60 Try.results60 (by simp [AObj.isNest]) (by simp [AObj.isNest]) (by kernel_rfl) ?_; intro X hX hP hC hXn hXm vals hA; refine ⟨_, by simp, hA, ?_⟩; have hmix : X.P.follows .mixedOrders = true := (by rw [hP]; exact T.mixed); clear hXn hXm)
  repeat' (first | (first | ((with_reducible (first | apply oA | apply oB)); exact rfl; intro K hK; simp only [go_sem, simprocAttr, vz, idx_nil]) | (with_reducible apply oC) | ((with_reducible refine oD ?_ ?_); first | fail | kernel_rfl) | ((with_reducible (first | apply oE | apply oF)); (iterate 3 exact rfl); all_goals (intro h; first | (exact absurd h (by decide)) | ((try simp only [go_sem, simprocAttr, vz, idx_nil] at h); first | (intro K hK; simp only [go_sem, simprocAttr, vz, idx_nil]) | (simp only [go_sem, simprocAttr, vz, idx_nil])))) | ((with_reducible (first | apply oG | apply oH)); (iterate 3 exact rfl); simp only [go_sem, simprocAttr, vz, idx_nil]) | ((with_reducible apply oI); (iterate 2 exact rfl); (intro K hK; simp only [go_sem, simprocAttr, vz, idx_nil])) | (with_reducible (first | apply oJ | exact oK))) | (refine hK _ ?_; clear hK K; simp only [LA.app, ASt.put, ASt.kill, subT, rmk, putM, rml, kl, AV.sub, AV.subs, AObj.sub, go_sem, simprocAttr, vz, idx_nil]) | (first | fail | (with_reducible (first | apply wA | apply wB | apply wC hX hC | apply wD hX hC | apply wE hX hC hmix | apply wF hX hC hmix | apply wG | apply wH)) | ((with_reducible (first | apply wI | apply wJ)); simp only [athen, ablock, reduceIte, Nat.reduceEqDiff]) | ((with_reducible apply wK); simp only [go_sem, simprocAttr, vz, idx_nil]) | ((with_reducible apply wL); exact rfl; all_goals (try (intro h; try simp only [go_sem, simprocAttr, vz, idx_nil] at h))) | ((with_reducible apply wM); exact rfl; all_goals (intro h; first | (exact absurd h (by decide)) | (try simp only [go_sem, simprocAttr, vz, idx_nil] at h)))) | (with_reducible apply And.intro) | omega | first | (refine acall_look hX hC hP (indexI_spec [] 0 (by decide)) rfl rfl rfl ?_ ?_ rfl ?_; (iterate 2 (focus (simp only [go_sem, simprocAttr, vz, idx_nil]; done))); simp only [go_sem, simprocAttr, vz, idx_nil]) | (intro h))
  refine awp_loopP (fun _ : Nat => True) (fun _ => ⟨[(14, eN 0), (13, eN 0), (12, .d (.sl 1 [])), (3, .nil 3), (2, .nil 3), (0, .d vz)], []⟩) (fun _ => 0) 0 trivial ?_ ?_
  · refine Le.of ?_ ?_ <;> simp [go_sem, simprocAttr, vz, idx_nil]
  rintro k -
  repeat' (first | (first | ((with_reducible (first | apply oA | apply oB)); exact rfl; intro K hK; simp only [go_sem, simprocAttr, vz, idx_nil]) | (with_reducible apply oC) | ((with_reducible refine oD ?_ ?_); first | fail | kernel_rfl) | ((with_reducible (first | apply oE | apply oF)); (iterate 3 exact rfl); all_goals (intro h; first | (exact absurd h (by decide)) | ((try simp only [go_sem, simprocAttr, vz, idx_nil] at h); first | (intro K hK; simp only [go_sem, simprocAttr, vz, idx_nil]) | (simp only [go_sem, simprocAttr, vz, idx_nil])))) | ((with_reducible (first | apply oG | apply oH)); (iterate 3 exact rfl); simp only [go_sem, simprocAttr, vz, idx_nil]) | ((with_reducible apply oI); (iterate 2 exact rfl); (intro K hK; simp only [go_sem, simprocAttr, vz, idx_nil])) | (with_reducible (first | apply oJ | exact oK))) | (refine hK _ ?_; clear hK K; simp only [LA.app, ASt.put, ASt.kill, subT, rmk, putM, rml, kl, AV.sub, AV.subs, AObj.sub, go_sem, simprocAttr, vz, idx_nil]) | (first | fail | (with_reducible (first | apply wA | apply wB | apply wC hX hC | apply wD hX hC | apply wE hX hC hmix | apply wF hX hC hmix | apply wG | apply wH)) | ((with_reducible (first | apply wI | apply wJ)); simp only [athen, ablock, reduceIte, Nat.reduceEqDiff]) | ((with_reducible apply wK); simp only [go_sem, simprocAttr, vz, idx_nil]) | ((with_reducible apply wL); exact rfl; all_goals (try (intro h; try simp only [go_sem, simprocAttr, vz, idx_nil] at h))) | ((with_reducible apply wM); exact rfl; all_goals (intro h; first | (exact absurd h (by decide)) | (try simp only [go_sem, simprocAttr, vz, idx_nil] at h)))) | (with_reducible apply And.intro) | omega | first | (refine acall_look hX hC hP (indexI_spec [] 0 (by decide)) rfl rfl rfl ?_ ?_ rfl ?_; (iterate 2 (focus (simp only [go_sem, simprocAttr, vz, idx_nil]; done))); simp only [go_sem, simprocAttr, vz, idx_nil]) | (intro h))
  refine awp_loopP (fun _ : Nat => True) (fun _ => ⟨[(3, .nil 3), (2, .nil 3), (0, .d vz)], []⟩) (fun _ => 0) 0 trivial ?_ ?_
  · refine Le.of ?_ ?_ <;> simp [go_sem, simprocAttr, vz, idx_nil]
  rintro k -
  repeat' (first | (first | ((with_reducible (first | apply oA | apply oB)); exact rfl; intro K hK; simp only [go_sem, simprocAttr, vz, idx_nil]) | (with_reducible apply oC) | ((with_reducible refine oD ?_ ?_); first | fail | kernel_rfl) | ((with_reducible (first | apply oE | apply oF)); (iterate 3 exact rfl); all_goals (intro h; first | (exact absurd h (by decide)) | ((try simp only [go_sem, simprocAttr, vz, idx_nil] at h); first | (intro K hK; simp only [go_sem, simprocAttr, vz, idx_nil]) | (simp only [go_sem, simprocAttr, vz, idx_nil])))) | ((with_reducible (first | apply oG | apply oH)); (iterate 3 exact rfl); simp only [go_sem, simprocAttr, vz, idx_nil]) | ((with_reducible apply oI); (iterate 2 exact rfl); (intro K hK; simp only [go_sem, simprocAttr, vz, idx_nil])) | (with_reducible (first | apply oJ | exact oK))) | (refine hK _ ?_; clear hK K; simp only [LA.app, ASt.put, ASt.kill, subT, rmk, putM, rml, kl, AV.sub, AV.subs, AObj.sub, go_sem, simprocAttr, vz, idx_nil]) | (first | fail | (with_reducible (first | apply wA | apply wB | apply wC hX hC | apply wD hX hC | apply wE hX hC hmix | apply wF hX hC hmix | apply wG | apply wH)) | ((with_reducible (first | apply wI | apply wJ)); simp only [athen, ablock, reduceIte, Nat.reduceEqDiff]) | ((with_reducible apply wK); simp only [go_sem, simprocAttr, vz, idx_nil]) | ((with_reducible apply wL); exact rfl; all_goals (try (intro h; try simp only [go_sem, simprocAttr, vz, idx_nil] at h))) | ((with_reducible apply wM); exact rfl; all_goals (intro h; first | (exact absurd h (by decide)) | (try simp only [go_sem, simprocAttr, vz, idx_nil] at h)))) | (with_reducible apply And.intro) | omega | first | (refine acall_look hX hC hP (indexI_spec [] 0 (by decide)) rfl rfl rfl ?_ ?_ rfl ?_; (iterate 2 (focus (simp only [go_sem, simprocAttr, vz, idx_nil]; done))); simp only [go_sem, simprocAttr, vz, idx_nil]) | (intro h))
theorem order0_spec : Spec Try.prog 20 (Args [.d vz]) [] (.tup [.d (sI []), eB true]) [] := by
  (refine Spec.intro (C := T.cfg [] []) (rs := [.t 2, .t 3]) (T.cfg_ok _ _) Try.func20 rfl rfl Try.ntmps20 Try.results20 (by simp [AObj.isNest]) (by simp [AObj.isNest]) (by kernel_rfl) ?_; intro X hX hP hC hXn hXm vals hA; refine ⟨_, by simp, hA, ?_⟩; have hmix : X.P.follows .mixedOrders = true := (by rw [hP]; exact T.mixed); clear hXn hXm)
  repeat' (first | (first | ((with_reducible (first | apply oA | apply oB)); exact rfl; intro K hK; simp only [go_sem, simprocAttr, vz, idx_nil]) | (with_reducible apply oC) | ((with_reducible refine oD ?_ ?_); first | fail | kernel_rfl) | ((with_reducible (first | apply oE | apply oF)); (iterate 3 exact rfl); all_goals (intro h; first | (exact absurd h (by decide)) | ((try simp only [go_sem, simprocAttr, vz, idx_nil] at h); first | (intro K hK; simp only [go_sem, simprocAttr, vz, idx_nil]) | (simp only [go_sem, simprocAttr, vz, idx_nil])))) | ((with_reducible (first | apply oG | apply oH)); (iterate 3 exact rfl); simp only [go_sem, simprocAttr, vz, idx_nil]) | ((with_reducible apply oI); (iterate 2 exact rfl); (intro K hK; simp only [go_sem, simprocAttr, vz, idx_nil])) | (with_reducible (first | apply oJ | exact oK))) | (refine hK _ ?_; clear hK K; simp only [LA.app, ASt.put, ASt.kill, subT, rmk, putM, rml, kl, AV.sub, AV.subs, AObj.sub, go_sem, simprocAttr, vz, idx_nil]) | (first | fail | (with_reducible (first | apply wA | apply wB | apply wC hX hC | apply wD hX hC | apply wE hX hC hmix | apply wF hX hC hmix | apply wG | apply wH)) | ((with_reducible (first | apply wI | apply wJ)); simp only [athen, ablock, reduceIte, Nat.reduceEqDiff]) | ((with_reducible apply wK); simp only [go_sem, simprocAttr, vz, idx_nil]) | ((with_reducible apply wL); exact rfl; all_goals (try (intro h; try simp only [go_sem, simprocAttr, vz, idx_nil] at h))) | ((with_reducible apply wM); exact rfl; all_goals (intro h; first | (exact absurd h (by decide)) | (try simp only [go_sem, simprocAttr, vz, idx_nil] at h)))) | (with_reducible apply And.intro) | omega | first | (refine acall_simple hX hC hP (run0_spec) rfl rfl rfl (by simp only [go_sem, simprocAttr, vz, idx_nil]) rfl ?_; simp only [go_sem, simprocAttr, vz, idx_nil]) | (intro h))
theorem same_spec (g g' : Gr) (hlen : g.es.length ≤ 9223372036854775807) : Spec Try.prog 22 (Args [eG g, eG g']) [] (eB (decide (g.n = g'.n) && decide (g.es = g'.es))) [] := by
  (refine Spec.intro (C := T.cfg [] []) (rs := [.t 4]) (T.cfg_ok _ _) Try.func22 rfl rfl Try.ntmps22 Try.results22 (by simp [AObj.isNest]) (by simp [AObj.isNest]) (by kernel_rfl) ?_; intro X hX hP hC hXn hXm vals hA; refine ⟨_, by simp, hA, ?_⟩; have hmix : X.P.follows .mixedOrders = true := (by rw [hP]; exact T.mixed); clear hXn hXm)
  repeat' (first | (first | ((with_reducible (first | apply oA | apply oB)); exact rfl; intro K hK; simp only [go_sem, simprocAttr, beqE]) | (with_reducible apply oC) | ((with_reducible refine oD ?_ ?_); first | fail | kernel_rfl) | ((with_reducible (first | apply oE | apply oF)); (iterate 3 exact rfl); all_goals (intro h; first | (exact absurd h (by decide)) | ((try simp only [go_sem, simprocAttr, beqE] at h); first | (intro K hK; simp only [go_sem, simprocAttr, beqE]) | (simp only [go_sem, simprocAttr, beqE])))) | ((with_reducible (first | apply oG | apply oH)); (iterate 3 exact rfl); simp only [go_sem, simprocAttr, beqE]) | ((with_reducible apply oI); (iterate 2 exact rfl); (intro K hK; simp only [go_sem, simprocAttr, beqE])) | (with_reducible (first | apply oJ | exact oK))) | (refine hK _ ?_; clear hK K; simp only [LA.app, ASt.put, ASt.kill, subT, rmk, putM, rml, kl, AV.sub, AV.subs, AObj.sub, go_sem, simprocAttr, beqE]) | (first | fail | (with_reducible (first | apply wA | apply wB | apply wC hX hC | apply wD hX hC | apply wE hX hC hmix | apply wF hX hC hmix | apply wG | apply wH)) | ((with_reducible (first | apply wI | apply wJ)); simp only [athen, ablock, reduceIte, Nat.reduceEqDiff]) | ((with_reducible apply wK); simp only [go_sem, simprocAttr, beqE]) | ((with_reducible apply wL); exact rfl; all_goals (try (intro h; try simp only [go_sem, simprocAttr, beqE] at h))) | ((with_reducible apply wM); exact rfl; all_goals (intro h; first | (exact absurd h (by decide)) | (try simp only [go_sem, simprocAttr, beqE] at h)))) | (with_reducible apply And.intro) | omega | fail | (intro h))
  · have : g.es ≠ g'.es := fun e => h (by rw [e])
    simp [this]
  rotate_left
  · simp [*]
  refine awp_loopP (fun k : Nat => k ≤ g.es.length ∧ g.es.take k = g'.es.take k) (fun k => ⟨[(2, .ptr 2 0), (3, .ptr 3 0), (5, eN k)], [(2, .box [eN g.n, .d (sE g.es)]), (3, .box [eN g'.n, .d (sE g'.es)])]⟩) (fun k => g.es.length - k) 0 (by simp) ?_ ?_
  · (refine Le.of ?_ ?_ <;> simp [go_sem, simprocAttr, beqE])
  rintro k ⟨hk, hp⟩
  have hlq : g.es.length = g'.es.length := by omega
  repeat' (first | (first | ((with_reducible (first | apply oA | apply oB)); exact rfl; intro K hK; simp only [go_sem, simprocAttr, beqE]) | (with_reducible apply oC) | ((with_reducible refine oD ?_ ?_); first | fail | kernel_rfl) | ((with_reducible (first | apply oE | apply oF)); (iterate 3 exact rfl); all_goals (intro h; first | (exact absurd h (by decide)) | ((try simp only [go_sem, simprocAttr, beqE] at h); first | (intro K hK; simp only [go_sem, simprocAttr, beqE]) | (simp only [go_sem, simprocAttr, beqE])))) | ((with_reducible (first | apply oG | apply oH)); (iterate 3 exact rfl); simp only [go_sem, simprocAttr, beqE]) | ((with_reducible apply oI); (iterate 2 exact rfl); (intro K hK; simp only [go_sem, simprocAttr, beqE])) | (with_reducible (first | apply oJ | exact oK))) | (refine hK _ ?_; clear hK K; simp only [LA.app, ASt.put, ASt.kill, subT, rmk, putM, rml, kl, AV.sub, AV.subs, AObj.sub, go_sem, simprocAttr, beqE]) | (first | fail | (with_reducible (first | apply wA | apply wB | apply wC hX hC | apply wD hX hC | apply wE hX hC hmix | apply wF hX hC hmix | apply wG | apply wH)) | ((with_reducible (first | apply wI | apply wJ)); simp only [athen, ablock, reduceIte, Nat.reduceEqDiff]) | ((with_reducible apply wK); simp only [go_sem, simprocAttr, beqE]) | ((with_reducible apply wL); exact rfl; all_goals (try (intro h; try simp only [go_sem, simprocAttr, beqE] at h))) | ((with_reducible apply wM); exact rfl; all_goals (intro h; first | (exact absurd h (by decide)) | (try simp only [go_sem, simprocAttr, beqE] at h)))) | (with_reducible apply And.intro) | omega | fail | (intro h))
  · have : g.es ≠ g'.es := fun e => h (by rw [e])
    simp [this]
  · refine ⟨k + 1, ⟨by omega, take_next (0, 0) (by omega) (by omega) hp h⟩, ?_, by omega⟩
    (refine Le.of ?_ ?_ <;> simp [go_sem, simprocAttr, beqE])
  · have : k = g.es.length := by omega
    subst this
    rw [List.take_of_length_le (Nat.le_refl _), List.take_of_length_le (by omega)] at hp
    simp [*]
end Go.Ab
end
section
namespace Go.Ab
open Go.Proofs
attribute [local congr] ACall.congr
set_option maxRecDepth 10000

/-- Are all tails of the first i edges to x placed? -/
def tailsB (g : Gr) (out : List Int) (x : Nat) (i : Nat) : Bool := (List.range i).all fun j => !decide (hd g j = (x : Int)) || decide (tl g j ∈ out)
theorem tailsB_next {g : Gr} {out : List Int} {x i : Nat} : tailsB g out x (i + 1) = (tailsB g out x i && (!decide (hd g i = (x : Int)) || decide (tl g i ∈ out))) := by
  simp [tailsB, List.range_succ]
theorem wt_zero {g : Gr} {out : List Int} {x : Nat} : decide (wt g out x = 0) = (!decide ((x : Int) ∈ out) && tailsB g out x g.es.length) := by
  rw [Bool.eq_iff_iff]
  simp only [decide_eq_true_eq, Bool.and_eq_true, Bool.not_eq_true', decide_eq_false_iff_not]
  unfold wt tailsB
  split
  · rename_i h; simp [h]
  · rename_i h
    simp only [h, not_false_eq_true, true_and, Int.natCast_eq_zero, List.countP_eq_zero, List.all_eq_true, List.mem_range, Bool.and_eq_true, decide_eq_true_eq, Bool.not_eq_true', decide_eq_false_iff_not, Bool.or_eq_true]
    refine forall_congr' fun j => forall_congr' fun _ => ?_
    by_cases h1 : hd g j = (x : Int) <;> by_cases h2 : tl g j ∈ out <;> simp [h1, h2]
/-- No vertex below k waits for none; or the one below k is the first that waits for none. -/
def OrdP (g : Gr) (out : List Int) (k : Nat) (f : Bool) : Prop := k ≤ g.n.toNat ∧ (if f then 0 < k ∧ wt g out (k - 1) = 0 ∧ ∀ j, j < k - 1 → wt g out j ≠ 0 else ∀ j, j < k → wt g out j ≠ 0)
def ordL (out : List Int) (k : Nat) (f : Bool) : List Int := if f then out ++ [((k - 1 : Nat) : Int)] else out
theorem idxW_at {g : Gr} {out : List Int} {x : Nat} (hx : x < g.n.toNat) (h0 : wt g out x = 0) (hb : ∀ j, j < x → wt g out j ≠ 0) : idxI (wts g out) 0 = x :=
  findI_at (d := 0) (by rw [wts_length]; exact hx) (fun j hj => by rw [wts_getD (by omega)]; exact decide_eq_false fun e => hb j hj e.symm) (by rw [wts_getD hx]; exact decide_eq_true h0.symm)
theorem idxW_no {g : Gr} {out : List Int} (hb : ∀ j, j < g.n.toNat → wt g out j ≠ 0) : idxI (wts g out) 0 = -1 :=
  findI_none 0 fun j hj => by
    rw [wts_length] at hj
    rw [wts_getD hj]; exact decide_eq_false fun e => hb j hj e.symm
theorem refOrder_spec (g : Gr) (hm : mayB g = true) : Spec Try.prog 28 (Args [eG g]) [] (.tup [.d (sI (ordG g)), eB (okG g)]) [] := by
  have hn := mayB_n hm
  (refine Spec.intro (C := T.cfg [] []) (rs := [.t 2, .t 3]) (T.cfg_ok _ _) Try.func28 rfl rfl Try.ntmps28 Try.results28 (by simp [AObj.isNest]) (by simp [AObj.isNest]) (by kernel_rfl) ?_; intro X hX hP hC hXn hXm vals hA; refine ⟨_, by simp, hA, ?_⟩; have hmix : X.P.follows .mixedOrders = true := (by rw [hP]; exact T.mixed); clear hXn hXm)
  repeat' (first | (first | ((with_reducible (first | apply oA | apply oB)); exact rfl; intro K hK; simp only [go_sem, simprocAttr]) | (with_reducible apply oC) | ((with_reducible refine oD ?_ ?_); first | fail | kernel_rfl) | ((with_reducible (first | apply oE | apply oF)); (iterate 3 exact rfl); all_goals (intro h; first | (exact absurd h (by decide)) | ((try simp only [go_sem, simprocAttr] at h); first | (intro K hK; simp only [go_sem, simprocAttr]) | (simp only [go_sem, simprocAttr])))) | ((with_reducible (first | apply oG | apply oH)); (iterate 3 exact rfl); simp only [go_sem, simprocAttr]) | ((with_reducible apply oI); (iterate 2 exact rfl); (intro K hK; simp only [go_sem, simprocAttr])) | (with_reducible (first | apply oJ | exact oK))) | (refine hK _ ?_; clear hK K; simp only [LA.app, ASt.put, ASt.kill, subT, rmk, putM, rml, kl, AV.sub, AV.subs, AObj.sub, go_sem, simprocAttr]) | (first | fail | (with_reducible (first | apply wA | apply wB | apply wC hX hC | apply wD hX hC | apply wE hX hC hmix | apply wF hX hC hmix | apply wG | apply wH)) | ((with_reducible (first | apply wI | apply wJ)); simp only [athen, ablock, reduceIte, Nat.reduceEqDiff]) | ((with_reducible apply wK); simp only [go_sem, simprocAttr]) | ((with_reducible apply wL); exact rfl; all_goals (try (intro h; try simp only [go_sem, simprocAttr] at h))) | ((with_reducible apply wM); exact rfl; all_goals (intro h; first | (exact absurd h (by decide)) | (try simp only [go_sem, simprocAttr] at h)))) | (with_reducible apply And.intro) | omega | first | (refine acall_lend hX hC hP (has_spec out (k : Int) hlw) rfl rfl rfl ?_ ?_ ?_ ?_; (iterate 3 (focus (simp only [go_sem, simprocAttr]; done))); simp only [go_sem, simprocAttr]) | (intro h))
  (refine awp_mv hX 4 9 62 (by simp only [go_sem, simprocAttr]) rfl (by first | exact .inl rfl | exact .inr rfl) (by decide) ?_; simp only [go_sem, simprocAttr])
  refine awp_loopP (fun out : List Int => Placed g out ∧ runF g (left g out) out = runG g) (fun out => ⟨[(1, .ptr 1 0), (4, .ref 62)], [(1, .box [eN g.n, .d (sE g.es)]), (62, .tip 3 1 (out.map rI))]⟩) (left g) [] ⟨Placed.nil g, ?_⟩ ?_ ?_
  · have := (Placed.nil g).fuel
    simp only [List.length_nil, Nat.zero_add] at this
    unfold left runG
    rw [this]
  · (refine Le.of ?_ ?_ <;> simp [go_sem, simprocAttr])
  rintro out ⟨hpl, hrun⟩
  have hfu := hpl.fuel
  have hlw : out.length ≤ 9223372036854775807 := by omega
  by_cases hend : (out.length : Int) < g.n
  · have hb : decide ((out.length : Int) < g.n) = true := decide_eq_true hend
    repeat' (first | (first | ((with_reducible (first | apply oA | apply oB)); exact rfl; intro K hK; simp only [go_sem, simprocAttr, hb]) | (with_reducible apply oC) | ((with_reducible refine oD ?_ ?_); first | fail | kernel_rfl) | ((with_reducible (first | apply oE | apply oF)); (iterate 3 exact rfl); all_goals (intro h; first | (exact absurd h (by decide)) | ((try simp only [go_sem, simprocAttr, hb] at h); first | (intro K hK; simp only [go_sem, simprocAttr, hb]) | (simp only [go_sem, simprocAttr, hb])))) | ((with_reducible (first | apply oG | apply oH)); (iterate 3 exact rfl); simp only [go_sem, simprocAttr, hb]) | ((with_reducible apply oI); (iterate 2 exact rfl); (intro K hK; simp only [go_sem, simprocAttr, hb])) | (with_reducible (first | apply oJ | exact oK))) | (refine hK _ ?_; clear hK K; simp only [LA.app, ASt.put, ASt.kill, subT, rmk, putM, rml, kl, AV.sub, AV.subs, AObj.sub, go_sem, simprocAttr, hb]) | (first | fail | (with_reducible (first | apply wA | apply wB | apply wC hX hC | apply wD hX hC | apply wE hX hC hmix | apply wF hX hC hmix | apply wG | apply wH)) | ((with_reducible (first | apply wI | apply wJ)); simp only [athen, ablock, reduceIte, Nat.reduceEqDiff]) | ((with_reducible apply wK); simp only [go_sem, simprocAttr, hb]) | ((with_reducible apply wL); exact rfl; all_goals (try (intro h; try simp only [go_sem, simprocAttr, hb] at h))) | ((with_reducible apply wM); exact rfl; all_goals (intro h; first | (exact absurd h (by decide)) | (try simp only [go_sem, simprocAttr, hb] at h)))) | (with_reducible apply And.intro) | omega | first | (refine acall_lend hX hC hP (has_spec out (k : Int) hlw) rfl rfl rfl ?_ ?_ ?_ ?_; (iterate 3 (focus (simp only [go_sem, simprocAttr, hb]; done))); simp only [go_sem, simprocAttr, hb]) | (intro h))
    refine awp_loopP (fun p : Nat × Bool => OrdP g out p.1 p.2) (fun p => ⟨[(1, .ptr 1 0), (4, .ref 62), (5, eB p.2), (6, eN p.1)], [(1, .box [eN g.n, .d (sE g.es)]), (62, .tip 3 1 ((ordL out p.1 p.2).map rI))]⟩) (fun p => g.n.toNat - p.1) (0, false) ⟨by omega, by simp⟩ ?_ ?_
    · refine Le.of ?_ ?_ <;> simp [go_sem, simprocAttr, hb, ordL]
    rintro ⟨k, f⟩ ⟨hk, hf⟩
    cases f with
    | true =>
      simp only [if_true] at hf
      obtain ⟨hf0, hf1, hf2⟩ := hf
      obtain ⟨hpl', hxo, hbk⟩ := hpl.next hm (by omega) hf1
      have hln := left_next hpl hpl'
      have hx := idxW_at (by omega) hf1 hf2
      have hrun' : runF g (left g (out ++ [((k - 1 : Nat) : Int)])) (out ++ [((k - 1 : Nat) : Int)]) = runG g := by
        rw [← hrun, hln]
        simp only [runF, hx]
        rw [if_neg (by omega)]
      repeat' (first | (first | ((with_reducible (first | apply oA | apply oB)); exact rfl; intro K hK; simp only [go_sem, simprocAttr, ordL]) | (with_reducible apply oC) | ((with_reducible refine oD ?_ ?_); first | fail | kernel_rfl) | ((with_reducible (first | apply oE | apply oF)); (iterate 3 exact rfl); all_goals (intro h; first | (exact absurd h (by decide)) | ((try simp only [go_sem, simprocAttr, ordL] at h); first | (intro K hK; simp only [go_sem, simprocAttr, ordL]) | (simp only [go_sem, simprocAttr, ordL])))) | ((with_reducible (first | apply oG | apply oH)); (iterate 3 exact rfl); simp only [go_sem, simprocAttr, ordL]) | ((with_reducible apply oI); (iterate 2 exact rfl); (intro K hK; simp only [go_sem, simprocAttr, ordL])) | (with_reducible (first | apply oJ | exact oK))) | (refine hK _ ?_; clear hK K; simp only [LA.app, ASt.put, ASt.kill, subT, rmk, putM, rml, kl, AV.sub, AV.subs, AObj.sub, go_sem, simprocAttr, ordL]) | (first | fail | (with_reducible (first | apply wA | apply wB | apply wC hX hC | apply wD hX hC | apply wE hX hC hmix | apply wF hX hC hmix | apply wG | apply wH)) | ((with_reducible (first | apply wI | apply wJ)); simp only [athen, ablock, reduceIte, Nat.reduceEqDiff]) | ((with_reducible apply wK); simp only [go_sem, simprocAttr, ordL]) | ((with_reducible apply wL); exact rfl; all_goals (try (intro h; try simp only [go_sem, simprocAttr, ordL] at h))) | ((with_reducible apply wM); exact rfl; all_goals (intro h; first | (exact absurd h (by decide)) | (try simp only [go_sem, simprocAttr, ordL] at h)))) | (with_reducible apply And.intro) | omega | first | (refine acall_lend hX hC hP (has_spec out (k : Int) hlw) rfl rfl rfl ?_ ?_ ?_ ?_; (iterate 3 (focus (simp only [go_sem, simprocAttr, ordL]; done))); simp only [go_sem, simprocAttr, ordL]) | (intro h))
      all_goals (refine ⟨out ++ [((k - 1 : Nat) : Int)], ⟨hpl', hrun'⟩, ?_, by omega⟩)
      all_goals (refine Le.of ?_ ?_ <;> simp [go_sem, simprocAttr, ordL])
    | false =>
      simp only [Bool.false_eq_true, if_false] at hf hk
      rcases Nat.lt_or_ge k g.n.toNat with hlt | hge
      · have hb2 : decide ((k : Int) < g.n) = true := decide_eq_true (by omega)
        have hwz := wt_zero (g := g) (out := out) (x := k)
        by_cases hin : (k : Int) ∈ out
        · have hc : decide (0 ≤ idxI out (k : Int)) = true := by rw [idxI_has]; exact decide_eq_true hin
          have hw0 : wt g out k ≠ 0 := by simpa [hin] using hwz
          repeat' (first | (first | ((with_reducible (first | apply oA | apply oB)); exact rfl; intro K hK; simp only [go_sem, simprocAttr, ordL, hb2, hc, Bool.false_eq_true, if_false]) | (with_reducible apply oC) | ((with_reducible refine oD ?_ ?_); first | fail | kernel_rfl) | ((with_reducible (first | apply oE | apply oF)); (iterate 3 exact rfl); all_goals (intro h; first | (exact absurd h (by decide)) | ((try simp only [go_sem, simprocAttr, ordL, hb2, hc, Bool.false_eq_true, if_false] at h); first | (intro K hK; simp only [go_sem, simprocAttr, ordL, hb2, hc, Bool.false_eq_true, if_false]) | (simp only [go_sem, simprocAttr, ordL, hb2, hc, Bool.false_eq_true, if_false])))) | ((with_reducible (first | apply oG | apply oH)); (iterate 3 exact rfl); simp only [go_sem, simprocAttr, ordL, hb2, hc, Bool.false_eq_true, if_false]) | ((with_reducible apply oI); (iterate 2 exact rfl); (intro K hK; simp only [go_sem, simprocAttr, ordL, hb2, hc, Bool.false_eq_true, if_false])) | (with_reducible (first | apply oJ | exact oK))) | (refine hK _ ?_; clear hK K; simp only [LA.app, ASt.put, ASt.kill, subT, rmk, putM, rml, kl, AV.sub, AV.subs, AObj.sub, go_sem, simprocAttr, ordL, hb2, hc, Bool.false_eq_true, if_false]) | (first | fail | (with_reducible (first | apply wA | apply wB | apply wC hX hC | apply wD hX hC | apply wE hX hC hmix | apply wF hX hC hmix | apply wG | apply wH)) | ((with_reducible (first | apply wI | apply wJ)); simp only [athen, ablock, reduceIte, Nat.reduceEqDiff]) | ((with_reducible apply wK); simp only [go_sem, simprocAttr, ordL, hb2, hc, Bool.false_eq_true, if_false]) | ((with_reducible apply wL); exact rfl; all_goals (try (intro h; try simp only [go_sem, simprocAttr, ordL, hb2, hc, Bool.false_eq_true, if_false] at h))) | ((with_reducible apply wM); exact rfl; all_goals (intro h; first | (exact absurd h (by decide)) | (try simp only [go_sem, simprocAttr, ordL, hb2, hc, Bool.false_eq_true, if_false] at h)))) | (with_reducible apply And.intro) | omega | first | (refine acall_lend hX hC hP (has_spec out (k : Int) hlw) rfl rfl rfl ?_ ?_ ?_ ?_; (iterate 3 (focus (simp only [go_sem, simprocAttr, ordL, hb2, hc, Bool.false_eq_true, if_false]; done))); simp only [go_sem, simprocAttr, ordL, hb2, hc, Bool.false_eq_true, if_false]) | (intro h))
          refine ⟨(k + 1, false), ⟨by simp only; omega, ?_⟩, ?_, by simp only; omega⟩
          · simp only [Bool.false_eq_true, if_false]
            intro j hj
            by_cases hjk : j = k
            · subst hjk; exact hw0
            · exact hf j (by omega)
          · refine Le.of ?_ ?_ <;> simp [go_sem, simprocAttr, ordL, hb2, hc, Bool.false_eq_true, if_false]
        · have hc : decide (0 ≤ idxI out (k : Int)) = false := by rw [idxI_has]; exact decide_eq_false hin
          rw [show decide ((k : Int) ∈ out) = false from decide_eq_false hin, Bool.not_false, Bool.true_and] at hwz
          repeat' (first | (first | ((with_reducible (first | apply oA | apply oB)); exact rfl; intro K hK; simp only [go_sem, simprocAttr, ordL, hb2, hc, Bool.false_eq_true, if_false]) | (with_reducible apply oC) | ((with_reducible refine oD ?_ ?_); first | fail | kernel_rfl) | ((with_reducible (first | apply oE | apply oF)); (iterate 3 exact rfl); all_goals (intro h; first | (exact absurd h (by decide)) | ((try simp only [go_sem, simprocAttr, ordL, hb2, hc, Bool.false_eq_true, if_false] at h); first | (intro K hK; simp only [go_sem, simprocAttr, ordL, hb2, hc, Bool.false_eq_true, if_false]) | (simp only [go_sem, simprocAttr, ordL, hb2, hc, Bool.false_eq_true, if_false])))) | ((with_reducible (first | apply oG | apply oH)); (iterate 3 exact rfl); simp only [go_sem, simprocAttr, ordL, hb2, hc, Bool.false_eq_true, if_false]) | ((with_reducible apply oI); (iterate 2 exact rfl); (intro K hK; simp only [go_sem, simprocAttr, ordL, hb2, hc, Bool.false_eq_true, if_false])) | (with_reducible (first | apply oJ | exact oK))) | (refine hK _ ?_; clear hK K; simp only [LA.app, ASt.put, ASt.kill, subT, rmk, putM, rml, kl, AV.sub, AV.subs, AObj.sub, go_sem, simprocAttr, ordL, hb2, hc, Bool.false_eq_true, if_false]) | (first | fail | (with_reducible (first | apply wA | apply wB | apply wC hX hC | apply wD hX hC | apply wE hX hC hmix | apply wF hX hC hmix | apply wG | apply wH)) | ((with_reducible (first | apply wI | apply wJ)); simp only [athen, ablock, reduceIte, Nat.reduceEqDiff]) | ((with_reducible apply wK); simp only [go_sem, simprocAttr, ordL, hb2, hc, Bool.false_eq_true, if_false]) | ((with_reducible apply wL); exact rfl; all_goals (try (intro h; try simp only [go_sem, simprocAttr, ordL, hb2, hc, Bool.false_eq_true, if_false] at h))) | ((with_reducible apply wM); exact rfl; all_goals (intro h; first | (exact absurd h (by decide)) | (try simp only [go_sem, simprocAttr, ordL, hb2, hc, Bool.false_eq_true, if_false] at h)))) | (with_reducible apply And.intro) | omega | first | (refine acall_lend hX hC hP (has_spec out (k : Int) hlw) rfl rfl rfl ?_ ?_ ?_ ?_; (iterate 3 (focus (simp only [go_sem, simprocAttr, ordL, hb2, hc, Bool.false_eq_true, if_false]; done))); simp only [go_sem, simprocAttr, ordL, hb2, hc, Bool.false_eq_true, if_false]) | (intro h))
          refine awp_loopP (fun i : Nat => i ≤ g.es.length) (fun i => ⟨[(1, .ptr 1 0), (4, .ref 62), (5, eB false), (6, eN k), (7, eB (tailsB g out k i)), (8, eN i)], [(1, .box [eN g.n, .d (sE g.es)]), (62, .tip 3 1 (out.map rI))]⟩) (fun i => g.es.length - i) 0 (by simp) ?_ ?_
          · refine Le.of ?_ ?_ <;> simp [go_sem, simprocAttr, ordL, hb2, hc, Bool.false_eq_true, if_false, tailsB]
          rintro i hi
          rcases Nat.lt_or_ge i g.es.length with hil | hig
          · have hb3 : decide ((i : Int) < (g.es.length : Int)) = true := decide_eq_true (by omega)
            have hnx : tailsB g out k (i + 1) = (tailsB g out k i && (!decide ((g.es.getD i (0, 0)).2 = (k : Int)) || decide (tl g i ∈ out))) := tailsB_next
            have hti : decide (0 ≤ idxI out (g.es.getD i (0, 0)).1) = decide (tl g i ∈ out) := idxI_has _ _
            repeat' (first | (first | ((with_reducible (first | apply oA | apply oB)); exact rfl; intro K hK; simp only [go_sem, simprocAttr, hb3, hti]) | (with_reducible apply oC) | ((with_reducible refine oD ?_ ?_); first | fail | kernel_rfl) | ((with_reducible (first | apply oE | apply oF)); (iterate 3 exact rfl); all_goals (intro h; first | (exact absurd h (by decide)) | ((try simp only [go_sem, simprocAttr, hb3, hti] at h); first | (intro K hK; simp only [go_sem, simprocAttr, hb3, hti]) | (simp only [go_sem, simprocAttr, hb3, hti])))) | ((with_reducible (first | apply oG | apply oH)); (iterate 3 exact rfl); simp only [go_sem, simprocAttr, hb3, hti]) | ((with_reducible apply oI); (iterate 2 exact rfl); (intro K hK; simp only [go_sem, simprocAttr, hb3, hti])) | (with_reducible (first | apply oJ | exact oK))) | (refine hK _ ?_; clear hK K; simp only [LA.app, ASt.put, ASt.kill, subT, rmk, putM, rml, kl, AV.sub, AV.subs, AObj.sub, go_sem, simprocAttr, hb3, hti]) | (first | fail | (with_reducible (first | apply wA | apply wB | apply wC hX hC | apply wD hX hC | apply wE hX hC hmix | apply wF hX hC hmix | apply wG | apply wH)) | ((with_reducible (first | apply wI | apply wJ)); simp only [athen, ablock, reduceIte, Nat.reduceEqDiff]) | ((with_reducible apply wK); simp only [go_sem, simprocAttr, hb3, hti]) | ((with_reducible apply wL); exact rfl; all_goals (try (intro h; try simp only [go_sem, simprocAttr, hb3, hti] at h))) | ((with_reducible apply wM); exact rfl; all_goals (intro h; first | (exact absurd h (by decide)) | (try simp only [go_sem, simprocAttr, hb3, hti] at h)))) | (with_reducible apply And.intro) | omega | first | (refine acall_lend hX hC hP (has_spec out (g.es.getD i (0, 0)).1 hlw) rfl rfl rfl ?_ ?_ ?_ ?_; (iterate 3 (focus (simp only [go_sem, simprocAttr, hb3, hti]; done))); simp only [go_sem, simprocAttr, hb3, hti]) | (intro h))
            all_goals (refine ⟨i + 1, by omega, ?_, by omega⟩)
            all_goals (rw [hnx]; simp only [*]; refine Le.of ?_ ?_ <;> simp [go_sem, simprocAttr])
          · obtain rfl : i = g.es.length := by omega
            have hb3 : decide ((g.es.length : Int) < (g.es.length : Int)) = false := decide_eq_false (by omega)
            rw [← hwz]
            by_cases hw0 : wt g out k = 0
            · have hd0 : decide (wt g out k = 0) = true := decide_eq_true hw0
              repeat' (first | (first | ((with_reducible (first | apply oA | apply oB)); exact rfl; intro K hK; simp only [go_sem, simprocAttr, hb3, hd0]) | (with_reducible apply oC) | ((with_reducible refine oD ?_ ?_); first | fail | kernel_rfl) | ((with_reducible (first | apply oE | apply oF)); (iterate 3 exact rfl); all_goals (intro h; first | (exact absurd h (by decide)) | ((try simp only [go_sem, simprocAttr, hb3, hd0] at h); first | (intro K hK; simp only [go_sem, simprocAttr, hb3, hd0]) | (simp only [go_sem, simprocAttr, hb3, hd0])))) | ((with_reducible (first | apply oG | apply oH)); (iterate 3 exact rfl); simp only [go_sem, simprocAttr, hb3, hd0]) | ((with_reducible apply oI); (iterate 2 exact rfl); (intro K hK; simp only [go_sem, simprocAttr, hb3, hd0])) | (with_reducible (first | apply oJ | exact oK))) | (refine hK _ ?_; clear hK K; simp only [LA.app, ASt.put, ASt.kill, subT, rmk, putM, rml, kl, AV.sub, AV.subs, AObj.sub, go_sem, simprocAttr, hb3, hd0]) | (first | fail | (with_reducible (first | apply wA | apply wB | apply wC hX hC | apply wD hX hC | apply wE hX hC hmix | apply wF hX hC hmix | apply wG | apply wH)) | ((with_reducible (first | apply wI | apply wJ)); simp only [athen, ablock, reduceIte, Nat.reduceEqDiff]) | ((with_reducible apply wK); simp only [go_sem, simprocAttr, hb3, hd0]) | ((with_reducible apply wL); exact rfl; all_goals (try (intro h; try simp only [go_sem, simprocAttr, hb3, hd0] at h))) | ((with_reducible apply wM); exact rfl; all_goals (intro h; first | (exact absurd h (by decide)) | (try simp only [go_sem, simprocAttr, hb3, hd0] at h)))) | (with_reducible apply And.intro) | omega | first | (refine acall_lend hX hC hP (has_spec out (g.es.getD i (0, 0)).1 hlw) rfl rfl rfl ?_ ?_ ?_ ?_; (iterate 3 (focus (simp only [go_sem, simprocAttr, hb3, hd0]; done))); simp only [go_sem, simprocAttr, hb3, hd0]) | (intro h))
              refine ⟨(k + 1, true), ⟨by simp only; omega, ?_⟩, ?_, by simp only; omega⟩
              · simp only [if_true]
                exact ⟨by omega, hw0, hf⟩
              · refine Le.of ?_ ?_ <;> simp [go_sem, simprocAttr, hb3, hd0, ordL]
                rfl
            · have hd0 : decide (wt g out k = 0) = false := decide_eq_false hw0
              repeat' (first | (first | ((with_reducible (first | apply oA | apply oB)); exact rfl; intro K hK; simp only [go_sem, simprocAttr, hb3, hd0]) | (with_reducible apply oC) | ((with_reducible refine oD ?_ ?_); first | fail | kernel_rfl) | ((with_reducible (first | apply oE | apply oF)); (iterate 3 exact rfl); all_goals (intro h; first | (exact absurd h (by decide)) | ((try simp only [go_sem, simprocAttr, hb3, hd0] at h); first | (intro K hK; simp only [go_sem, simprocAttr, hb3, hd0]) | (simp only [go_sem, simprocAttr, hb3, hd0])))) | ((with_reducible (first | apply oG | apply oH)); (iterate 3 exact rfl); simp only [go_sem, simprocAttr, hb3, hd0]) | ((with_reducible apply oI); (iterate 2 exact rfl); (intro K hK; simp only [go_sem, simprocAttr, hb3, hd0])) | (with_reducible (first | apply oJ | exact oK))) | (refine hK _ ?_; clear hK K; simp only [LA.app, ASt.put, ASt.kill, subT, rmk, putM, rml, kl, AV.sub, AV.subs, AObj.sub, go_sem, simprocAttr, hb3, hd0]) | (first | fail | (with_reducible (first | apply wA | apply wB | apply wC hX hC | apply wD hX hC | apply wE hX hC hmix | apply wF hX hC hmix | apply wG | apply wH)) | ((with_reducible (first | apply wI | apply wJ)); simp only [athen, ablock, reduceIte, Nat.reduceEqDiff]) | ((with_reducible apply wK); simp only [go_sem, simprocAttr, hb3, hd0]) | ((with_reducible apply wL); exact rfl; all_goals (try (intro h; try simp only [go_sem, simprocAttr, hb3, hd0] at h))) | ((with_reducible apply wM); exact rfl; all_goals (intro h; first | (exact absurd h (by decide)) | (try simp only [go_sem, simprocAttr, hb3, hd0] at h)))) | (with_reducible apply And.intro) | omega | first | (refine acall_lend hX hC hP (has_spec out (g.es.getD i (0, 0)).1 hlw) rfl rfl rfl ?_ ?_ ?_ ?_; (iterate 3 (focus (simp only [go_sem, simprocAttr, hb3, hd0]; done))); simp only [go_sem, simprocAttr, hb3, hd0]) | (intro h))
              refine ⟨(k + 1, false), ⟨by simp only; omega, ?_⟩, ?_, by simp only; omega⟩
              · simp only [Bool.false_eq_true, if_false]
                intro j hj
                by_cases hjk : j = k
                · subst hjk; exact hw0
                · exact hf j (by omega)
              · refine Le.of ?_ ?_ <;> simp [go_sem, simprocAttr, hb3, hd0, ordL]
      · have hb2 : decide ((k : Int) < g.n) = false := decide_eq_false (by omega)
        have hx := idxW_no (g := g) (out := out) fun j hj => hf j (by omega)
        have hr := runF_end (g := g) (out := out) (by omega) (left g out)
        rw [hrun] at hr
        have hok : okG g = false := decide_eq_false (by rw [hr]; omega)
        have hord : ordG g = [] := by simp [ordG, hok]
        repeat' (first | (first | ((with_reducible (first | apply oA | apply oB)); exact rfl; intro K hK; simp only [go_sem, simprocAttr, ordL, hb2, hok, hord]) | (with_reducible apply oC) | ((with_reducible refine oD ?_ ?_); first | fail | kernel_rfl) | ((with_reducible (first | apply oE | apply oF)); (iterate 3 exact rfl); all_goals (intro h; first | (exact absurd h (by decide)) | ((try simp only [go_sem, simprocAttr, ordL, hb2, hok, hord] at h); first | (intro K hK; simp only [go_sem, simprocAttr, ordL, hb2, hok, hord]) | (simp only [go_sem, simprocAttr, ordL, hb2, hok, hord])))) | ((with_reducible (first | apply oG | apply oH)); (iterate 3 exact rfl); simp only [go_sem, simprocAttr, ordL, hb2, hok, hord]) | ((with_reducible apply oI); (iterate 2 exact rfl); (intro K hK; simp only [go_sem, simprocAttr, ordL, hb2, hok, hord])) | (with_reducible (first | apply oJ | exact oK))) | (refine hK _ ?_; clear hK K; simp only [LA.app, ASt.put, ASt.kill, subT, rmk, putM, rml, kl, AV.sub, AV.subs, AObj.sub, go_sem, simprocAttr, ordL, hb2, hok, hord]) | (first | fail | (with_reducible (first | apply wA | apply wB | apply wC hX hC | apply wD hX hC | apply wE hX hC hmix | apply wF hX hC hmix | apply wG | apply wH)) | ((with_reducible (first | apply wI | apply wJ)); simp only [athen, ablock, reduceIte, Nat.reduceEqDiff]) | ((with_reducible apply wK); simp only [go_sem, simprocAttr, ordL, hb2, hok, hord]) | ((with_reducible apply wL); exact rfl; all_goals (try (intro h; try simp only [go_sem, simprocAttr, ordL, hb2, hok, hord] at h))) | ((with_reducible apply wM); exact rfl; all_goals (intro h; first | (exact absurd h (by decide)) | (try simp only [go_sem, simprocAttr, ordL, hb2, hok, hord] at h)))) | (with_reducible apply And.intro) | omega | first | (refine acall_lend hX hC hP (has_spec out (g.es.getD i (0, 0)).1 hlw) rfl rfl rfl ?_ ?_ ?_ ?_; (iterate 3 (focus (simp only [go_sem, simprocAttr, ordL, hb2, hok, hord]; done))); simp only [go_sem, simprocAttr, ordL, hb2, hok, hord]) | (intro h))
  · have hb : decide ((out.length : Int) < g.n) = false := decide_eq_false hend
    have hl0 : left g out = 0 := by unfold left; omega
    rw [hl0] at hrun
    have hr : runG g = out := hrun.symm
    have hok : okG g = true := decide_eq_true (by rw [hr]; omega)
    have hord : ordG g = out := by simp [ordG, hok, hr]
    repeat' (first | (first | ((with_reducible (first | apply oA | apply oB)); exact rfl; intro K hK; simp only [go_sem, simprocAttr, hb, hok, hord]) | (with_reducible apply oC) | ((with_reducible refine oD ?_ ?_); first | fail | kernel_rfl) | ((with_reducible (first | apply oE | apply oF)); (iterate 3 exact rfl); all_goals (intro h; first | (exact absurd h (by decide)) | ((try simp only [go_sem, simprocAttr, hb, hok, hord] at h); first | (intro K hK; simp only [go_sem, simprocAttr, hb, hok, hord]) | (simp only [go_sem, simprocAttr, hb, hok, hord])))) | ((with_reducible (first | apply oG | apply oH)); (iterate 3 exact rfl); simp only [go_sem, simprocAttr, hb, hok, hord]) | ((with_reducible apply oI); (iterate 2 exact rfl); (intro K hK; simp only [go_sem, simprocAttr, hb, hok, hord])) | (with_reducible (first | apply oJ | exact oK))) | (refine hK _ ?_; clear hK K; simp only [LA.app, ASt.put, ASt.kill, subT, rmk, putM, rml, kl, AV.sub, AV.subs, AObj.sub, go_sem, simprocAttr, hb, hok, hord]) | (first | fail | (with_reducible (first | apply wA | apply wB | apply wC hX hC | apply wD hX hC | apply wE hX hC hmix | apply wF hX hC hmix | apply wG | apply wH)) | ((with_reducible (first | apply wI | apply wJ)); simp only [athen, ablock, reduceIte, Nat.reduceEqDiff]) | ((with_reducible apply wK); simp only [go_sem, simprocAttr, hb, hok, hord]) | ((with_reducible apply wL); exact rfl; all_goals (try (intro h; try simp only [go_sem, simprocAttr, hb, hok, hord] at h))) | ((with_reducible apply wM); exact rfl; all_goals (intro h; first | (exact absurd h (by decide)) | (try simp only [go_sem, simprocAttr, hb, hok, hord] at h)))) | (with_reducible apply And.intro) | omega | first | (refine acall_lend hX hC hP (has_spec out (g.es.getD i (0, 0)).1 hlw) rfl rfl rfl ?_ ?_ ?_ ?_; (iterate 3 (focus (simp only [go_sem, simprocAttr, hb, hok, hord]; done))); simp only [go_sem, simprocAttr, hb, hok, hord]) | (intro h))
    all_goals trace_state
end Go.Ab
end
section
namespace Go.Ab
open Go.Proofs
attribute [local congr] ACall.congr
set_option maxRecDepth 10000

theorem thereG_end {g : Gr} (hm : mayB g = true) (b : Bool) {x : Int} (hx : x < 0 ∨ g.n ≤ x) : endsZ (endF b) g.es g.es.length x = [] := by
  refine endsZ_eq0 fun i hi => ?_
  have := mayB_e hm hi
  cases b <;> simp only [endF, if_true, Bool.false_eq_true, if_false] <;> omega
theorem thereG_all {g : Gr} (hm : mayB g = true) (b : Bool) (x : Int) : thereG (endF b) g x = endsZ (endF b) g.es g.es.length x := by
  unfold thereG
  split
  · rfl
  · exact (thereG_end hm b (by omega)).symm
theorem endF_t : endF true = (·.1) := rfl
theorem endF_f : endF false = (·.2) := rfl
theorem bareK_le {ls : List (List Int)} {k : Nat} : (bareK ls k).length ≤ k := bareK_len
theorem okG_len {g : Gr} (hm : mayB g = true) : (ordG g).length ≤ 64 := by
  unfold ordG
  have hf := (runG_props hm).1.fuel
  have := mayB_n hm
  split <;> simp <;> omega
set_option maxHeartbeats 8000000 in
theorem graphViews_spec (g : Gr) (hl : g.es.length ≤ 9223372036854775807) : Spec Try.prog 5 (Args [eG g]) [] (eB true) [] := by
  (refine Spec.intro (C := T.cfg [] []) (rs := [.t 2]) (T.cfg_ok _ _) Try.func5 rfl rfl Try.ntmps5 Try.results5 (by simp [AObj.isNest]) (by simp [AObj.isNest]) (by kernel_rfl) ?_; intro X hX hP hC hXn hXm vals hA; refine ⟨_, by simp, hA, ?_⟩; have hmix : X.P.follows .mixedOrders = true := (by rw [hP]; exact T.mixed); clear hXn hXm)
  by_cases hgr : (200 : Int) < (g.es.length : Int)
  · have hb : decide ((200 : Int) < (g.es.length : Int)) = true := decide_eq_true hgr
    repeat' (first | (first | ((with_reducible (first | apply oA | apply oB)); exact rfl; intro K hK; simp only [go_sem, simprocAttr, hb]) | (with_reducible apply oC) | ((with_reducible refine oD ?_ ?_); first | fail | kernel_rfl) | ((with_reducible (first | apply oE | apply oF)); (iterate 3 exact rfl); all_goals (intro h; first | (exact absurd h (by decide)) | ((try simp only [go_sem, simprocAttr, hb] at h); first | (intro K hK; simp only [go_sem, simprocAttr, hb]) | (simp only [go_sem, simprocAttr, hb])))) | ((with_reducible (first | apply oG | apply oH)); (iterate 3 exact rfl); simp only [go_sem, simprocAttr, hb]) | ((with_reducible apply oI); (iterate 2 exact rfl); (intro K hK; simp only [go_sem, simprocAttr, hb])) | (with_reducible (first | apply oJ | exact oK))) | (refine hK _ ?_; clear hK K; simp only [LA.app, ASt.put, ASt.kill, subT, rmk, putM, rml, kl, AV.sub, AV.subs, AObj.sub, go_sem, simprocAttr, hb]) | (first | fail | (with_reducible (first | apply wA | apply wB | apply wC hX hC | apply wD hX hC | apply wE hX hC hmix | apply wF hX hC hmix | apply wG | apply wH)) | ((with_reducible (first | apply wI | apply wJ)); simp only [athen, ablock, reduceIte, Nat.reduceEqDiff]) | ((with_reducible apply wK); simp only [go_sem, simprocAttr, hb]) | ((with_reducible apply wL); exact rfl; all_goals (try (intro h; try simp only [go_sem, simprocAttr, hb] at h))) | ((with_reducible apply wM); exact rfl; all_goals (intro h; first | (exact absurd h (by decide)) | (try simp only [go_sem, simprocAttr, hb] at h)))) | (with_reducible apply And.intro) | omega | first | (refine acall_simple hX hC hP (speaks_spec) rfl rfl rfl (by simp only [go_sem, simprocAttr, hb]) rfl ?_; simp only [go_sem, simprocAttr, hb]) | (refine acall_simple hX hC hP (great_spec g hl) rfl rfl rfl (by simp only [go_sem, simprocAttr, hb]) rfl ?_; simp only [go_sem, simprocAttr, hb]) | (refine acall_simple hX hC hP (refMay_spec g hl) rfl rfl rfl (by simp only [go_sem, simprocAttr, hb]) rfl ?_; simp only [go_sem, simprocAttr, hb]) | (refine acall_simple hX hC hP (of0_spec g hl hm) rfl rfl rfl (by simp only [go_sem, simprocAttr, hb]) rfl ?_; simp only [go_sem, simprocAttr, hb]) | (refine acall_simple hX hC hP (order0_spec) rfl rfl rfl (by simp only [go_sem, simprocAttr, hb]) rfl ?_; simp only [go_sem, simprocAttr, hb]) | (refine acall_look hX hC hP (same_spec ⟨0, []⟩ ⟨0, []⟩ (by decide)) rfl rfl rfl ?_ ?_ rfl ?_; (iterate 2 (focus (simp only [go_sem, simprocAttr, hb]; done))); simp only [go_sem, simprocAttr, hb]) | (refine acall_simple hX hC hP (outs0_spec 0) rfl rfl rfl (by simp only [go_sem, simprocAttr, hb]) rfl ?_; simp only [go_sem, simprocAttr, hb]) | (refine acall_simple hX hC hP (ins0_spec 0) rfl rfl rfl (by simp only [go_sem, simprocAttr, hb]) rfl ?_; simp only [go_sem, simprocAttr, hb]) | (refine acall_simple hX hC hP (sources0_spec) rfl rfl rfl (by simp only [go_sem, simprocAttr, hb]) rfl ?_; simp only [go_sem, simprocAttr, hb]) | (refine acall_simple hX hC hP (sinks0_spec) rfl rfl rfl (by simp only [go_sem, simprocAttr, hb]) rfl ?_; simp only [go_sem, simprocAttr, hb]) | (intro h))
  have hb : decide ((200 : Int) < (g.es.length : Int)) = false := decide_eq_false hgr
  cases hm : mayB g with
  | false =>
    repeat' (first | (first | ((with_reducible (first | apply oA | apply oB)); exact rfl; intro K hK; simp only [go_sem, simprocAttr, hb, hm, vz]) | (with_reducible apply oC) | ((with_reducible refine oD ?_ ?_); first | fail | kernel_rfl) | ((with_reducible (first | apply oE | apply oF)); (iterate 3 exact rfl); all_goals (intro h; first | (exact absurd h (by decide)) | ((try simp only [go_sem, simprocAttr, hb, hm, vz] at h); first | (intro K hK; simp only [go_sem, simprocAttr, hb, hm, vz]) | (simp only [go_sem, simprocAttr, hb, hm, vz])))) | ((with_reducible (first | apply oG | apply oH)); (iterate 3 exact rfl); simp only [go_sem, simprocAttr, hb, hm, vz]) | ((with_reducible apply oI); (iterate 2 exact rfl); (intro K hK; simp only [go_sem, simprocAttr, hb, hm, vz])) | (with_reducible (first | apply oJ | exact oK))) | (refine hK _ ?_; clear hK K; simp only [LA.app, ASt.put, ASt.kill, subT, rmk, putM, rml, kl, AV.sub, AV.subs, AObj.sub, go_sem, simprocAttr, hb, hm, vz]) | (first | fail | (with_reducible (first | apply wA | apply wB | apply wC hX hC | apply wD hX hC | apply wE hX hC hmix | apply wF hX hC hmix | apply wG | apply wH)) | ((with_reducible (first | apply wI | apply wJ)); simp only [athen, ablock, reduceIte, Nat.reduceEqDiff]) | ((with_reducible apply wK); simp only [go_sem, simprocAttr, hb, hm, vz]) | ((with_reducible apply wL); exact rfl; all_goals (try (intro h; try simp only [go_sem, simprocAttr, hb, hm, vz] at h))) | ((with_reducible apply wM); exact rfl; all_goals (intro h; first | (exact absurd h (by decide)) | (try simp only [go_sem, simprocAttr, hb, hm, vz] at h)))) | (with_reducible apply And.intro) | omega | first | (refine acall_simple hX hC hP (speaks_spec) rfl rfl rfl (by simp only [go_sem, simprocAttr, hb, hm, vz]) rfl ?_; simp only [go_sem, simprocAttr, hb, hm, vz]) | (refine acall_simple hX hC hP (great_spec g hl) rfl rfl rfl (by simp only [go_sem, simprocAttr, hb, hm, vz]) rfl ?_; simp only [go_sem, simprocAttr, hb, hm, vz]) | (refine acall_simple hX hC hP (refMay_spec g hl) rfl rfl rfl (by simp only [go_sem, simprocAttr, hb, hm, vz]) rfl ?_; simp only [go_sem, simprocAttr, hb, hm, vz]) | (refine acall_simple hX hC hP (of0_spec g hl hm) rfl rfl rfl (by simp only [go_sem, simprocAttr, hb, hm, vz]) rfl ?_; simp only [go_sem, simprocAttr, hb, hm, vz]) | (refine acall_simple hX hC hP (order0_spec) rfl rfl rfl (by simp only [go_sem, simprocAttr, hb, hm, vz]) rfl ?_; simp only [go_sem, simprocAttr, hb, hm, vz]) | (refine acall_look hX hC hP (same_spec ⟨0, []⟩ ⟨0, []⟩ (by decide)) rfl rfl rfl ?_ ?_ rfl ?_; (iterate 2 (focus (simp only [go_sem, simprocAttr, hb, hm, vz]; done))); simp only [go_sem, simprocAttr, hb, hm, vz]) | (refine acall_simple hX hC hP (outs0_spec 0) rfl rfl rfl (by simp only [go_sem, simprocAttr, hb, hm, vz]) rfl ?_; simp only [go_sem, simprocAttr, hb, hm, vz]) | (refine acall_simple hX hC hP (ins0_spec 0) rfl rfl rfl (by simp only [go_sem, simprocAttr, hb, hm, vz]) rfl ?_; simp only [go_sem, simprocAttr, hb, hm, vz]) | (refine acall_simple hX hC hP (sources0_spec) rfl rfl rfl (by simp only [go_sem, simprocAttr, hb, hm, vz]) rfl ?_; simp only [go_sem, simprocAttr, hb, hm, vz]) | (refine acall_simple hX hC hP (sinks0_spec) rfl rfl rfl (by simp only [go_sem, simprocAttr, hb, hm, vz]) rfl ?_; simp only [go_sem, simprocAttr, hb, hm, vz]) | (intro h))
  | true =>
    have hn := mayB_n hm
    have hl1 : g.es.length ≤ 1000 := by omega
    have hn1 : 0 ≤ g.n ∧ g.n ≤ 1000 := by omega
    have hlo : (ordG g).length ≤ 9223372036854775807 := by have := okG_len hm; omega
    have hls (f : Edge → Int) : (bareG f g).length ≤ 9223372036854775807 := by have := bareK_len (ls := endsL f g) (k := g.n.toNat); unfold bareG; omega
    repeat' (first | (first | ((with_reducible (first | apply oA | apply oB)); exact rfl; intro K hK; simp only [go_sem, simprocAttr, hb, hm, vw_eq]) | (with_reducible apply oC) | ((with_reducible refine oD ?_ ?_); first | fail | kernel_rfl) | ((with_reducible (first | apply oE | apply oF)); (iterate 3 exact rfl); all_goals (intro h; first | (exact absurd h (by decide)) | ((try simp only [go_sem, simprocAttr, hb, hm, vw_eq] at h); first | (intro K hK; simp only [go_sem, simprocAttr, hb, hm, vw_eq]) | (simp only [go_sem, simprocAttr, hb, hm, vw_eq])))) | ((with_reducible (first | apply oG | apply oH)); (iterate 3 exact rfl); simp only [go_sem, simprocAttr, hb, hm, vw_eq]) | ((with_reducible apply oI); (iterate 2 exact rfl); (intro K hK; simp only [go_sem, simprocAttr, hb, hm, vw_eq])) | (with_reducible (first | apply oJ | exact oK))) | (refine hK _ ?_; clear hK K; simp only [LA.app, ASt.put, ASt.kill, subT, rmk, putM, rml, kl, AV.sub, AV.subs, AObj.sub, go_sem, simprocAttr, hb, hm, vw_eq]) | (first | fail | (with_reducible (first | apply wA | apply wB | apply wC hX hC | apply wD hX hC | apply wE hX hC hmix | apply wF hX hC hmix | apply wG | apply wH)) | ((with_reducible (first | apply wI | apply wJ)); simp only [athen, ablock, reduceIte, Nat.reduceEqDiff]) | ((with_reducible apply wK); simp only [go_sem, simprocAttr, hb, hm, vw_eq]) | ((with_reducible apply wL); exact rfl; all_goals (try (intro h; try simp only [go_sem, simprocAttr, hb, hm, vw_eq] at h))) | ((with_reducible apply wM); exact rfl; all_goals (intro h; first | (exact absurd h (by decide)) | (try simp only [go_sem, simprocAttr, hb, hm, vw_eq] at h)))) | (with_reducible apply And.intro) | omega | first | (refine acall_simple hX hC hP (speaks_spec) rfl rfl rfl (by simp only [go_sem, simprocAttr, hb, hm, vw_eq]) rfl ?_; simp only [go_sem, simprocAttr, hb, hm, vw_eq]) | (refine acall_simple hX hC hP (great_spec g hl) rfl rfl rfl (by simp only [go_sem, simprocAttr, hb, hm, vw_eq]) rfl ?_; simp only [go_sem, simprocAttr, hb, hm, vw_eq]) | (refine acall_simple hX hC hP (refMay_spec g hl) rfl rfl rfl (by simp only [go_sem, simprocAttr, hb, hm, vw_eq]) rfl ?_; simp only [go_sem, simprocAttr, hb, hm, vw_eq]) | (refine acall_simple hX hC hP (of_spec g hm) rfl rfl rfl (by simp only [go_sem, simprocAttr, hb, hm, vw_eq]) rfl ?_; simp only [go_sem, simprocAttr, hb, hm, vw_eq]) | (refine acall_simple hX hC hP (order_spec g hm) rfl rfl rfl (by simp only [go_sem, simprocAttr, hb, hm, vw_eq]) rfl ?_; simp only [go_sem, simprocAttr, hb, hm, vw_eq]) | (refine acall_simple hX hC hP (refOrder_spec g hm) rfl rfl rfl (by simp only [go_sem, simprocAttr, hb, hm, vw_eq]) rfl ?_; simp only [go_sem, simprocAttr, hb, hm, vw_eq]) | (refine acall_simple hX hC hP (sameInts_spec (ordG g) (ordG g) hlo) rfl rfl rfl (by simp only [go_sem, simprocAttr, hb, hm, vw_eq]) rfl ?_; simp only [go_sem, simprocAttr, hb, hm, vw_eq]) | (refine acall_simple hX hC hP (sources_spec g hm) rfl rfl rfl (by simp only [go_sem, simprocAttr, hb, hm, vw_eq]) rfl ?_; simp only [go_sem, simprocAttr, hb, hm, vw_eq]) | (refine acall_simple hX hC hP (sinks_spec g hm) rfl rfl rfl (by simp only [go_sem, simprocAttr, hb, hm, vw_eq]) rfl ?_; simp only [go_sem, simprocAttr, hb, hm, vw_eq]) | (refine acall_simple hX hC hP (refBare_spec g true hl1 hn1) rfl rfl rfl (by simp only [go_sem, simprocAttr, hb, hm, vw_eq]) rfl ?_; simp only [go_sem, simprocAttr, hb, hm, vw_eq]) | (refine acall_simple hX hC hP (refBare_spec g false hl1 hn1) rfl rfl rfl (by simp only [go_sem, simprocAttr, hb, hm, vw_eq]) rfl ?_; simp only [go_sem, simprocAttr, hb, hm, vw_eq]) | (refine acall_simple hX hC hP (sameInts_spec (bareG (endF false) g) (bareG (endF false) g) (hls _)) rfl rfl rfl (by simp only [go_sem, simprocAttr, hb, hm, vw_eq]) rfl ?_; simp only [go_sem, simprocAttr, hb, hm, vw_eq]) | (refine acall_simple hX hC hP (sameInts_spec (bareG (endF true) g) (bareG (endF true) g) (hls _)) rfl rfl rfl (by simp only [go_sem, simprocAttr, hb, hm, vw_eq]) rfl ?_; simp only [go_sem, simprocAttr, hb, hm, vw_eq]) | (refine acall_simple hX hC hP (same_spec g g hl) rfl rfl rfl (by simp only [go_sem, simprocAttr, hb, hm, vw_eq]) rfl ?_; simp only [go_sem, simprocAttr, hb, hm, vw_eq]) | (intro h))
    refine awp_loopP (fun k : Nat => k ≤ g.n.toNat + 2) (fun k => ⟨[(1, .ptr 1 0), (3, .d (vw' g)), (6, eN ((k : Int) - 1))], [(1, .box [eN g.n, .d (sE g.es)])]⟩) (fun k => g.n.toNat + 2 - k) 0 (by omega) ?_ ?_
    · refine Le.of ?_ ?_ <;> simp [go_sem, simprocAttr, hb, hm, vw_eq]
    rintro k hk
    rcases Nat.lt_or_ge k (g.n.toNat + 2) with hlt | hge
    · have hb1 : decide ((k : Int) - 1 ≤ g.n) = true := decide_eq_true (by omega)
      have e1 : thereG (·.1) g ((k : Int) - 1) = endsZ (·.1) g.es g.es.length ((k : Int) - 1) := thereG_all hm true _
      have e2 : thereG (·.2) g ((k : Int) - 1) = endsZ (·.2) g.es g.es.length ((k : Int) - 1) := thereG_all hm false _
      have hz1 (f : Edge → Int) : (endsZ f g.es g.es.length ((k : Int) - 1)).length ≤ 9223372036854775807 := by have := endsZ_len (f := f) (es := g.es) (k := g.es.length) (x := (k : Int) - 1); omega
      have z1 : (k : Int) - 1 < 0 ∨ g.n ≤ (k : Int) - 1 → (endsZ (·.1) g.es g.es.length ((k : Int) - 1)).length = 0 := fun hx => by rw [show endsZ (·.1) g.es g.es.length ((k : Int) - 1) = [] from thereG_end hm true hx]; rfl
      have z2 : (k : Int) - 1 < 0 ∨ g.n ≤ (k : Int) - 1 → (endsZ (·.2) g.es g.es.length ((k : Int) - 1)).length = 0 := fun hx => by rw [show endsZ (·.2) g.es g.es.length ((k : Int) - 1) = [] from thereG_end hm false hx]; rfl
      have y1 := endsZ_len (f := (·.1)) (es := g.es) (k := g.es.length) (x := (k : Int) - 1)
      have y2 := endsZ_len (f := (·.2)) (es := g.es) (k := g.es.length) (x := (k : Int) - 1)
      rw [← vw_eq]
      repeat' (first | (first | ((with_reducible (first | apply oA | apply oB)); exact rfl; intro K hK; simp only [go_sem, simprocAttr, hb1, e1, e2, endF_t, endF_f]) | (with_reducible apply oC) | ((with_reducible refine oD ?_ ?_); first | fail | kernel_rfl) | ((with_reducible (first | apply oE | apply oF)); (iterate 3 exact rfl); all_goals (intro h; first | (exact absurd h (by decide)) | ((try simp only [go_sem, simprocAttr, hb1, e1, e2, endF_t, endF_f] at h); first | (intro K hK; simp only [go_sem, simprocAttr, hb1, e1, e2, endF_t, endF_f]) | (simp only [go_sem, simprocAttr, hb1, e1, e2, endF_t, endF_f])))) | ((with_reducible (first | apply oG | apply oH)); (iterate 3 exact rfl); simp only [go_sem, simprocAttr, hb1, e1, e2, endF_t, endF_f]) | ((with_reducible apply oI); (iterate 2 exact rfl); (intro K hK; simp only [go_sem, simprocAttr, hb1, e1, e2, endF_t, endF_f])) | (with_reducible (first | apply oJ | exact oK))) | (refine hK _ ?_; clear hK K; simp only [LA.app, ASt.put, ASt.kill, subT, rmk, putM, rml, kl, AV.sub, AV.subs, AObj.sub, go_sem, simprocAttr, hb1, e1, e2, endF_t, endF_f]) | (first | fail | (with_reducible (first | apply wA | apply wB | apply wC hX hC | apply wD hX hC | apply wE hX hC hmix | apply wF hX hC hmix | apply wG | apply wH)) | ((with_reducible (first | apply wI | apply wJ)); simp only [athen, ablock, reduceIte, Nat.reduceEqDiff]) | ((with_reducible apply wK); simp only [go_sem, simprocAttr, hb1, e1, e2, endF_t, endF_f]) | ((with_reducible apply wL); exact rfl; all_goals (try (intro h; try simp only [go_sem, simprocAttr, hb1, e1, e2, endF_t, endF_f] at h))) | ((with_reducible apply wM); exact rfl; all_goals (intro h; first | (exact absurd h (by decide)) | (try simp only [go_sem, simprocAttr, hb1, e1, e2, endF_t, endF_f] at h)))) | (with_reducible apply And.intro) | omega | first | (refine acall_simple hX hC hP (outs_spec g hm ((k : Int) - 1)) rfl rfl rfl (by simp only [go_sem, simprocAttr, hb1, e1, e2, endF_t, endF_f]) rfl ?_; simp only [go_sem, simprocAttr, hb1, e1, e2, endF_t, endF_f]) | (refine acall_simple hX hC hP (ins_spec g hm ((k : Int) - 1)) rfl rfl rfl (by simp only [go_sem, simprocAttr, hb1, e1, e2, endF_t, endF_f]) rfl ?_; simp only [go_sem, simprocAttr, hb1, e1, e2, endF_t, endF_f]) | (refine acall_simple hX hC hP (ends_spec g ((k : Int) - 1) true hl1) rfl rfl rfl (by simp only [go_sem, simprocAttr, hb1, e1, e2, endF_t, endF_f]) rfl ?_; simp only [go_sem, simprocAttr, hb1, e1, e2, endF_t, endF_f]) | (refine acall_simple hX hC hP (ends_spec g ((k : Int) - 1) false hl1) rfl rfl rfl (by simp only [go_sem, simprocAttr, hb1, e1, e2, endF_t, endF_f]) rfl ?_; simp only [go_sem, simprocAttr, hb1, e1, e2, endF_t, endF_f]) | (refine acall_simple hX hC hP (sameInts_spec (endsZ (·.1) g.es g.es.length ((k : Int) - 1)) (endsZ (·.1) g.es g.es.length ((k : Int) - 1)) (hz1 _)) rfl rfl rfl (by simp only [go_sem, simprocAttr, hb1, e1, e2, endF_t, endF_f]) rfl ?_; simp only [go_sem, simprocAttr, hb1, e1, e2, endF_t, endF_f]) | (refine acall_simple hX hC hP (sameInts_spec (endsZ (·.2) g.es g.es.length ((k : Int) - 1)) (endsZ (·.2) g.es g.es.length ((k : Int) - 1)) (hz1 _)) rfl rfl rfl (by simp only [go_sem, simprocAttr, hb1, e1, e2, endF_t, endF_f]) rfl ?_; simp only [go_sem, simprocAttr, hb1, e1, e2, endF_t, endF_f]) | (intro h))
      all_goals (refine ⟨k + 1, by omega, ?_, by omega⟩)
      all_goals (refine Le.of ?_ ?_ <;> simp [go_sem, simprocAttr, hb1, e1, e2, endF_t, endF_f, vw_eq])
      all_goals omega
    · have hb1 : decide ((k : Int) - 1 ≤ g.n) = false := decide_eq_false (by omega)
      repeat' (first | (first | ((with_reducible (first | apply oA | apply oB)); exact rfl; intro K hK; simp only [go_sem, simprocAttr, hb1, vw_eq, endF_t, endF_f]) | (with_reducible apply oC) | ((with_reducible refine oD ?_ ?_); first | fail | kernel_rfl) | ((with_reducible (first | apply oE | apply oF)); (iterate 3 exact rfl); all_goals (intro h; first | (exact absurd h (by decide)) | ((try simp only [go_sem, simprocAttr, hb1, vw_eq, endF_t, endF_f] at h); first | (intro K hK; simp only [go_sem, simprocAttr, hb1, vw_eq, endF_t, endF_f]) | (simp only [go_sem, simprocAttr, hb1, vw_eq, endF_t, endF_f])))) | ((with_reducible (first | apply oG | apply oH)); (iterate 3 exact rfl); simp only [go_sem, simprocAttr, hb1, vw_eq, endF_t, endF_f]) | ((with_reducible apply oI); (iterate 2 exact rfl); (intro K hK; simp only [go_sem, simprocAttr, hb1, vw_eq, endF_t, endF_f])) | (with_reducible (first | apply oJ | exact oK))) | (refine hK _ ?_; clear hK K; simp only [LA.app, ASt.put, ASt.kill, subT, rmk, putM, rml, kl, AV.sub, AV.subs, AObj.sub, go_sem, simprocAttr, hb1, vw_eq, endF_t, endF_f]) | (first | fail | (with_reducible (first | apply wA | apply wB | apply wC hX hC | apply wD hX hC | apply wE hX hC hmix | apply wF hX hC hmix | apply wG | apply wH)) | ((with_reducible (first | apply wI | apply wJ)); simp only [athen, ablock, reduceIte, Nat.reduceEqDiff]) | ((with_reducible apply wK); simp only [go_sem, simprocAttr, hb1, vw_eq, endF_t, endF_f]) | ((with_reducible apply wL); exact rfl; all_goals (try (intro h; try simp only [go_sem, simprocAttr, hb1, vw_eq, endF_t, endF_f] at h))) | ((with_reducible apply wM); exact rfl; all_goals (intro h; first | (exact absurd h (by decide)) | (try simp only [go_sem, simprocAttr, hb1, vw_eq, endF_t, endF_f] at h)))) | (with_reducible apply And.intro) | omega | first | (refine acall_simple hX hC hP (order_spec g hm) rfl rfl rfl (by simp only [go_sem, simprocAttr, hb1, vw_eq, endF_t, endF_f]) rfl ?_; simp only [go_sem, simprocAttr, hb1, vw_eq, endF_t, endF_f]) | (refine acall_simple hX hC hP (refOrder_spec g hm) rfl rfl rfl (by simp only [go_sem, simprocAttr, hb1, vw_eq, endF_t, endF_f]) rfl ?_; simp only [go_sem, simprocAttr, hb1, vw_eq, endF_t, endF_f]) | (refine acall_simple hX hC hP (sameInts_spec (ordG g) (ordG g) hlo) rfl rfl rfl (by simp only [go_sem, simprocAttr, hb1, vw_eq, endF_t, endF_f]) rfl ?_; simp only [go_sem, simprocAttr, hb1, vw_eq, endF_t, endF_f]) | (refine acall_simple hX hC hP (sources_spec g hm) rfl rfl rfl (by simp only [go_sem, simprocAttr, hb1, vw_eq, endF_t, endF_f]) rfl ?_; simp only [go_sem, simprocAttr, hb1, vw_eq, endF_t, endF_f]) | (refine acall_simple hX hC hP (sinks_spec g hm) rfl rfl rfl (by simp only [go_sem, simprocAttr, hb1, vw_eq, endF_t, endF_f]) rfl ?_; simp only [go_sem, simprocAttr, hb1, vw_eq, endF_t, endF_f]) | (refine acall_simple hX hC hP (refBare_spec g true hl1 hn1) rfl rfl rfl (by simp only [go_sem, simprocAttr, hb1, vw_eq, endF_t, endF_f]) rfl ?_; simp only [go_sem, simprocAttr, hb1, vw_eq, endF_t, endF_f]) | (refine acall_simple hX hC hP (refBare_spec g false hl1 hn1) rfl rfl rfl (by simp only [go_sem, simprocAttr, hb1, vw_eq, endF_t, endF_f]) rfl ?_; simp only [go_sem, simprocAttr, hb1, vw_eq, endF_t, endF_f]) | (refine acall_simple hX hC hP (sameInts_spec (bareG (·.1) g) (bareG (·.1) g) (hls _)) rfl rfl rfl (by simp only [go_sem, simprocAttr, hb1, vw_eq, endF_t, endF_f]) rfl ?_; simp only [go_sem, simprocAttr, hb1, vw_eq, endF_t, endF_f]) | (refine acall_simple hX hC hP (sameInts_spec (bareG (·.2) g) (bareG (·.2) g) (hls _)) rfl rfl rfl (by simp only [go_sem, simprocAttr, hb1, vw_eq, endF_t, endF_f]) rfl ?_; simp only [go_sem, simprocAttr, hb1, vw_eq, endF_t, endF_f]) | (refine acall_simple hX hC hP (same_spec g g hl) rfl rfl rfl (by simp only [go_sem, simprocAttr, hb1, vw_eq, endF_t, endF_f]) rfl ?_; simp only [go_sem, simprocAttr, hb1, vw_eq, endF_t, endF_f]) | (intro h))
      all_goals trace_state
end Go.Ab
end
section
namespace Go.Ab
open Go.Proofs
attribute [local congr] ACall.congr
set_option maxRecDepth 10000

theorem values_spec (l : List Int) : Spec Try.prog 68 (Args [.d (sI l)]) [] (.fn 88 [] [.ptr 10000 0]) [(10000, .box [.d (sI l)])] := by
  (refine Spec.introR (C := T.cfg [] []) (rs := [.t 2]) [(10000, 1)] (T.cfg_ok _ _) Try.func68 rfl rfl Try.ntmps68 Try.results68 (by simp [AObj.isNest]) (by simp [AObj.isNest]) (by simp [look]) (by simp [asN]) (by kernel_rfl) ?_; intro X hX hP hC hXn hXm vals hA; refine ⟨_, by simp, hA, ?_⟩; have hmix : X.P.follows .mixedOrders = true := (by rw [hP]; exact T.mixed); clear hXn hXm)
  repeat' (first | (first | ((with_reducible (first | apply oA | apply oB)); exact rfl; intro K hK; simp only [go_sem, simprocAttr]) | (with_reducible apply oC) | ((with_reducible refine oD ?_ ?_); first | fail | kernel_rfl) | ((with_reducible (first | apply oE | apply oF)); (iterate 3 exact rfl); all_goals (intro h; first | (exact absurd h (by decide)) | ((try simp only [go_sem, simprocAttr] at h); first | (intro K hK; simp only [go_sem, simprocAttr]) | (simp only [go_sem, simprocAttr])))) | ((with_reducible (first | apply oG | apply oH)); (iterate 3 exact rfl); simp only [go_sem, simprocAttr]) | ((with_reducible apply oI); (iterate 2 exact rfl); (intro K hK; simp only [go_sem, simprocAttr])) | (with_reducible (first | apply oJ | exact oK))) | (refine hK _ ?_; clear hK K; simp only [LA.app, ASt.put, ASt.kill, subT, rmk, putM, rml, kl, AV.sub, AV.subs, AObj.sub, go_sem, simprocAttr]) | (first | fail | (with_reducible (first | apply wA | apply wB | apply wC hX hC | apply wD hX hC | apply wE hX hC hmix | apply wF hX hC hmix | apply wG | apply wH)) | ((with_reducible (first | apply wI | apply wJ)); simp only [athen, ablock, reduceIte, Nat.reduceEqDiff]) | ((with_reducible apply wK); simp only [go_sem, simprocAttr]) | ((with_reducible apply wL); exact rfl; all_goals (try (intro h; try simp only [go_sem, simprocAttr] at h))) | ((with_reducible apply wM); exact rfl; all_goals (intro h; first | (exact absurd h (by decide)) | (try simp only [go_sem, simprocAttr] at h)))) | (with_reducible apply And.intro) | omega | fail | (intro h))
theorem srt_mem {l : List Int} {x : Int} : x ∈ srt l ↔ x ∈ l := by simp [srt]
theorem srt_le {l : List Int} {i j : Nat} (hij : i < j) (hj : j < (srt l).length) : (srt l).getD i 0 ≤ (srt l).getD j 0 := by
  have hp : (srt l).Pairwise (fun x y => decide (x ≤ y) = true) := by
    unfold srt
    exact List.pairwise_mergeSort (by simp; omega) (by simp; omega) l
  have := (List.pairwise_iff_getElem.1 hp) i j (by omega) hj hij
  simpa [List.getD_eq_getElem?_getD, List.getElem?_eq_getElem (show i < (srt l).length by omega), List.getElem?_eq_getElem hj] using this
/-- Numbers from 0 on, in order. -/
def upB (l : List Int) (k : Nat) : Bool := (List.range k).all fun i => decide (l.getD i 0 = (i : Int))
theorem upB_next {l : List Int} {k : Nat} : upB l (k + 1) = (upB l k && decide (l.getD k 0 = (k : Int))) := by simp [upB, List.range_succ]
theorem eachS_eq (l : List Int) (n : Int) : (upB (srt l) (srt l).length && decide ((l.length : Int) = n)) = eachB l n := by
  rw [Bool.eq_iff_iff]
  simp only [Bool.and_eq_true, decide_eq_true_eq, upB, List.all_eq_true, List.mem_range]
  constructor
  · rintro ⟨h1, h2⟩
    refine eachB_iff.2 ⟨h2, fun x hx => ?_⟩
    obtain ⟨hx0, hx1⟩ := allN_mem.1 hx
    rw [← srt_mem]
    have := h1 x.toNat (by rw [srt_length]; omega)
    have hm := getD_mem (l := srt l) (m := x.toNat) (by rw [srt_length]; omega)
    rw [this] at hm
    rwa [show ((x.toNat : Nat) : Int) = x from by omega] at hm
  · intro h
    obtain ⟨h2, h3⟩ := eachB_iff.1 h
    have hs : eachB (srt l) n = true := eachB_iff.2 ⟨by rw [srt_length]; exact h2, fun x hx => srt_mem.2 (h3 x hx)⟩
    refine ⟨fun i hi => ?_, h2⟩
    have hlt : ∀ i j, i < j → j < (srt l).length → (srt l).getD i 0 < (srt l).getD j 0 := by
      intro i j hij hj
      have h1 := srt_le hij hj
      have h4 : (srt l).getD i 0 ≠ (srt l).getD j 0 := fun e => by have := eachB_once hs (show i < (srt l).length by omega) hj e; omega
      omega
    have hlo : ∀ i, i < (srt l).length → (i : Int) ≤ (srt l).getD i 0 := by
      intro i
      induction i with
      | zero => intro h; exact (eachB_lo hs _ (getD_mem h)).1
      | succ i ih => intro h; have := ih (by omega); have := hlt i (i + 1) (by omega) h; omega
    have hhi : ∀ d i, i + d + 1 = (srt l).length → (srt l).getD i 0 ≤ i := by
      intro d
      induction d with
      | zero =>
        intro i h
        have := (eachB_lo hs _ (getD_mem (show i < (srt l).length by omega))).2
        rw [srt_length] at h; omega
      | succ d ih =>
        intro i h
        have := ih (i + 1) (by omega)
        have := hlt i (i + 1) (by omega) (by omega)
        omega
    have h5 := hlo i hi
    have h6 := hhi ((srt l).length - 1 - i) i (by omega)
    omega
theorem eachP_spec (l : List Int) (n : Int) (hl : l.length ≤ 1000000) : Spec Try.prog 64 (Args [.d (sI l), eN n]) [] (eB (eachB l n)) [] := by
  rw [← eachS_eq]
  (refine Spec.intro (C := T.cfg [] []) (rs := [.t 4]) (T.cfg_ok _ _) Try.func64 rfl rfl Try.ntmps64 Try.results64 (by simp [AObj.isNest]) (by simp [AObj.isNest]) (by kernel_rfl) ?_; intro X hX hP hC hXn hXm vals hA; refine ⟨_, by simp, hA, ?_⟩; have hmix : X.P.follows .mixedOrders = true := (by rw [hP]; exact T.mixed); clear hXn hXm)
  repeat' (first | (first | ((with_reducible (first | apply oA | apply oB)); exact rfl; intro K hK; simp only [go_sem, simprocAttr, srt_length]) | (with_reducible apply oC) | ((with_reducible refine oD ?_ ?_); first | fail | kernel_rfl) | ((with_reducible (first | apply oE | apply oF)); (iterate 3 exact rfl); all_goals (intro h; first | (exact absurd h (by decide)) | ((try simp only [go_sem, simprocAttr, srt_length] at h); first | (intro K hK; simp only [go_sem, simprocAttr, srt_length]) | (simp only [go_sem, simprocAttr, srt_length])))) | ((with_reducible (first | apply oG | apply oH)); (iterate 3 exact rfl); simp only [go_sem, simprocAttr, srt_length]) | ((with_reducible apply oI); (iterate 2 exact rfl); (intro K hK; simp only [go_sem, simprocAttr, srt_length])) | (with_reducible (first | apply oJ | exact oK))) | (refine hK _ ?_; clear hK K; simp only [LA.app, ASt.put, ASt.kill, subT, rmk, putM, rml, kl, AV.sub, AV.subs, AObj.sub, go_sem, simprocAttr, srt_length]) | (first | fail | (with_reducible (first | apply wA | apply wB | apply wC hX hC | apply wD hX hC | apply wE hX hC hmix | apply wF hX hC hmix | apply wG | apply wH)) | ((with_reducible (first | apply wI | apply wJ)); simp only [athen, ablock, reduceIte, Nat.reduceEqDiff]) | ((with_reducible apply wK); simp only [go_sem, simprocAttr, srt_length]) | ((with_reducible apply wL); exact rfl; all_goals (try (intro h; try simp only [go_sem, simprocAttr, srt_length] at h))) | ((with_reducible apply wM); exact rfl; all_goals (intro h; first | (exact absurd h (by decide)) | (try simp only [go_sem, simprocAttr, srt_length] at h)))) | (with_reducible apply And.intro) | omega | first | (refine acall_gen hX hC hP [(10000, 9)] (values_spec l) rfl rfl rfl ?_ ?_ ?_ ?_ ?_ ?_ ?_ ?_ ?_ ?_ ?_ ?_ ?_ ?_; (focus (simp only [go_sem, simprocAttr, srt_length]; done)); (iterate 12 (focus (simp [go_sem, simprocAttr, srt_length]; done))); simp only [go_sem, simprocAttr, srt_length, List.map_cons, List.map_nil]) | (refine acall_rob hX hC hP [(10000, 9)] (sorted_spec l hl) rfl rfl rfl ?_ ?_ ?_ ?_ ?_ ?_ rfl rfl ?_ ?_; (focus (simp only [go_sem, simprocAttr, srt_length]; done)); (iterate 6 (focus (simp [go_sem, simprocAttr, srt_length]; done))); simp only [go_sem, simprocAttr, srt_length, List.map_cons, List.map_nil]) | (intro h))
  refine awp_loopP (fun k : Nat => k ≤ l.length ∧ upB (srt l) k = true) (fun k => ⟨[(1, eN n), (5, .d (sI (srt l))), (11, .d (sI (srt l))), (12, eN l.length), (13, eN k)], [(9, .box [.d (sI l)])]⟩) (fun k => l.length - k) 0 (by simp [upB]) ?_ ?_
  · (refine ⟨leT_spec ?_, fun _ _ h => h⟩; simp [go_sem, simprocAttr, srt_length])
  rintro k ⟨hk, hu⟩
  repeat' (first | (first | ((with_reducible (first | apply oA | apply oB)); exact rfl; intro K hK; simp only [go_sem, simprocAttr, srt_length]) | (with_reducible apply oC) | ((with_reducible refine oD ?_ ?_); first | fail | kernel_rfl) | ((with_reducible (first | apply oE | apply oF)); (iterate 3 exact rfl); all_goals (intro h; first | (exact absurd h (by decide)) | ((try simp only [go_sem, simprocAttr, srt_length] at h); first | (intro K hK; simp only [go_sem, simprocAttr, srt_length]) | (simp only [go_sem, simprocAttr, srt_length])))) | ((with_reducible (first | apply oG | apply oH)); (iterate 3 exact rfl); simp only [go_sem, simprocAttr, srt_length]) | ((with_reducible apply oI); (iterate 2 exact rfl); (intro K hK; simp only [go_sem, simprocAttr, srt_length])) | (with_reducible (first | apply oJ | exact oK))) | (refine hK _ ?_; clear hK K; simp only [LA.app, ASt.put, ASt.kill, subT, rmk, putM, rml, kl, AV.sub, AV.subs, AObj.sub, go_sem, simprocAttr, srt_length]) | (first | fail | (with_reducible (first | apply wA | apply wB | apply wC hX hC | apply wD hX hC | apply wE hX hC hmix | apply wF hX hC hmix | apply wG | apply wH)) | ((with_reducible (first | apply wI | apply wJ)); simp only [athen, ablock, reduceIte, Nat.reduceEqDiff]) | ((with_reducible apply wK); simp only [go_sem, simprocAttr, srt_length]) | ((with_reducible apply wL); exact rfl; all_goals (try (intro h; try simp only [go_sem, simprocAttr, srt_length] at h))) | ((with_reducible apply wM); exact rfl; all_goals (intro h; first | (exact absurd h (by decide)) | (try simp only [go_sem, simprocAttr, srt_length] at h)))) | (with_reducible apply And.intro) | omega | first | (refine acall_gen hX hC hP [(10000, 9)] (values_spec l) rfl rfl rfl ?_ ?_ ?_ ?_ ?_ ?_ ?_ ?_ ?_ ?_ ?_ ?_ ?_ ?_; (focus (simp only [go_sem, simprocAttr, srt_length]; done)); (iterate 12 (focus (simp [go_sem, simprocAttr, srt_length]; done))); simp only [go_sem, simprocAttr, srt_length, List.map_cons, List.map_nil]) | (refine acall_rob hX hC hP [(10000, 9)] (sorted_spec l hl) rfl rfl rfl ?_ ?_ ?_ ?_ ?_ ?_ rfl rfl ?_ ?_; (focus (simp only [go_sem, simprocAttr, srt_length]; done)); (iterate 6 (focus (simp [go_sem, simprocAttr, srt_length]; done))); simp only [go_sem, simprocAttr, srt_length, List.map_cons, List.map_nil]) | (intro h))
  · have hn : upB (srt l) l.length = false := by
      unfold upB
      rw [List.all_eq_false]
      exact ⟨k, List.mem_range.2 (by omega), by simpa [List.getD_eq_getElem?_getD] using h⟩
    rw [hn, Bool.false_and]
  · refine ⟨k + 1, ⟨by omega, by rw [upB_next, hu, Bool.true_and]; exact decide_eq_true h⟩, ?_, by omega⟩
    (refine ⟨leT_spec ?_, fun _ _ h => h⟩; simp [go_sem, simprocAttr, srt_length])
  · have : k = l.length := by omega
    subst this
    rw [hu, Bool.true_and]
/-- The first k edges of the order, under the new names. -/
def renK (g : Gr) (names order : List Int) (k : Nat) : List Edge := (List.range k).map fun i => (names.getD (g.es.getD (order.getD i 0).toNat (0, 0)).1.toNat 0, names.getD (g.es.getD (order.getD i 0).toNat (0, 0)).2.toNat 0)
def renG (g : Gr) (names order : List Int) : Gr := ⟨g.n, renK g names order order.length⟩
theorem renK_next {g : Gr} {names order : List Int} {k : Nat} : renK g names order (k + 1) = renK g names order k ++ [(names.getD (g.es.getD (order.getD k 0).toNat (0, 0)).1.toNat 0, names.getD (g.es.getD (order.getD k 0).toNat (0, 0)).2.toNat 0)] := by
  simp [renK, List.range_succ]
theorem renK_length {g : Gr} {names order : List Int} {k : Nat} : (renK g names order k).length = k := by simp [renK]
def renOk (g : Gr) (names order : List Int) : Bool := mayB g && eachB names g.n && eachB order g.es.length
def renR (g : Gr) (names order : List Int) : Gr := if renOk g names order then renG g names order else ⟨0, []⟩
theorem rename_spec (g : Gr) (names order : List Int) (hl : g.es.length ≤ 9223372036854775807) (hn1 : names.length ≤ 1000000) (ho1 : order.length ≤ 1000000) :
    Spec Try.prog 30 (Args [eG g, .d (sI names), .d (sI order)]) [] (.tup [eG (renR g names order), eN (if renOk g names order then 0 else 1)]) [] := by
  (refine Spec.intro (C := T.cfg [] []) (rs := [.c 6 24, .t 7]) (T.cfg_ok _ _) Try.func30 rfl rfl Try.ntmps30 Try.results30 (by simp [AObj.isNest]) (by simp [AObj.isNest]) (by kernel_rfl) ?_; intro X hX hP hC hXn hXm vals hA; refine ⟨_, by simp, hA, ?_⟩; have hmix : X.P.follows .mixedOrders = true := (by rw [hP]; exact T.mixed); clear hXn hXm)
  cases hok : renOk g names order with
  | false =>
    cases h1 : mayB g with
    | false =>
      repeat' (first | (first | ((with_reducible (first | apply oA | apply oB)); exact rfl; intro K hK; simp only [go_sem, simprocAttr, renR, hok, Bool.false_eq_true, if_false, h1]) | (with_reducible apply oC) | ((with_reducible refine oD ?_ ?_); first | fail | kernel_rfl) | ((with_reducible (first | apply oE | apply oF)); (iterate 3 exact rfl); all_goals (intro h; first | (exact absurd h (by decide)) | ((try simp only [go_sem, simprocAttr, renR, hok, Bool.false_eq_true, if_false, h1] at h); first | (intro K hK; simp only [go_sem, simprocAttr, renR, hok, Bool.false_eq_true, if_false, h1]) | (simp only [go_sem, simprocAttr, renR, hok, Bool.false_eq_true, if_false, h1])))) | ((with_reducible (first | apply oG | apply oH)); (iterate 3 exact rfl); simp only [go_sem, simprocAttr, renR, hok, Bool.false_eq_true, if_false, h1]) | ((with_reducible apply oI); (iterate 2 exact rfl); (intro K hK; simp only [go_sem, simprocAttr, renR, hok, Bool.false_eq_true, if_false, h1])) | (with_reducible (first | apply oJ | exact oK))) | (refine hK _ ?_; clear hK K; simp only [LA.app, ASt.put, ASt.kill, subT, rmk, putM, rml, kl, AV.sub, AV.subs, AObj.sub, go_sem, simprocAttr, renR, hok, Bool.false_eq_true, if_false, h1]) | (first | fail | (with_reducible (first | apply wA | apply wB | apply wC hX hC | apply wD hX hC | apply wE hX hC hmix | apply wF hX hC hmix | apply wG | apply wH)) | ((with_reducible (first | apply wI | apply wJ)); simp only [athen, ablock, reduceIte, Nat.reduceEqDiff]) | ((with_reducible apply wK); simp only [go_sem, simprocAttr, renR, hok, Bool.false_eq_true, if_false, h1]) | ((with_reducible apply wL); exact rfl; all_goals (try (intro h; try simp only [go_sem, simprocAttr, renR, hok, Bool.false_eq_true, if_false, h1] at h))) | ((with_reducible apply wM); exact rfl; all_goals (intro h; first | (exact absurd h (by decide)) | (try simp only [go_sem, simprocAttr, renR, hok, Bool.false_eq_true, if_false, h1] at h)))) | (with_reducible apply And.intro) | omega | first | (refine acall_simple hX hC hP (may_spec g hl) rfl rfl rfl (by simp only [go_sem, simprocAttr, renR, hok, Bool.false_eq_true, if_false, h1]) rfl ?_; simp only [go_sem, simprocAttr, renR, hok, Bool.false_eq_true, if_false, h1]) | (refine acall_simple hX hC hP (eachP_spec names g.n hn1) rfl rfl rfl (by simp only [go_sem, simprocAttr, renR, hok, Bool.false_eq_true, if_false, h1]) rfl ?_; simp only [go_sem, simprocAttr, renR, hok, Bool.false_eq_true, if_false, h1]) | (refine acall_simple hX hC hP (eachP_spec order (g.es.length : Int) ho1) rfl rfl rfl (by simp only [go_sem, simprocAttr, renR, hok, Bool.false_eq_true, if_false, h1]) rfl ?_; simp only [go_sem, simprocAttr, renR, hok, Bool.false_eq_true, if_false, h1]) | (intro h))
    | true =>
    cases h2 : eachB names g.n with
    | false =>
      repeat' (first | (first | ((with_reducible (first | apply oA | apply oB)); exact rfl; intro K hK; simp only [go_sem, simprocAttr, renR, hok, Bool.false_eq_true, if_false, h1, h2]) | (with_reducible apply oC) | ((with_reducible refine oD ?_ ?_); first | fail | kernel_rfl) | ((with_reducible (first | apply oE | apply oF)); (iterate 3 exact rfl); all_goals (intro h; first | (exact absurd h (by decide)) | ((try simp only [go_sem, simprocAttr, renR, hok, Bool.false_eq_true, if_false, h1, h2] at h); first | (intro K hK; simp only [go_sem, simprocAttr, renR, hok, Bool.false_eq_true, if_false, h1, h2]) | (simp only [go_sem, simprocAttr, renR, hok, Bool.false_eq_true, if_false, h1, h2])))) | ((with_reducible (first | apply oG | apply oH)); (iterate 3 exact rfl); simp only [go_sem, simprocAttr, renR, hok, Bool.false_eq_true, if_false, h1, h2]) | ((with_reducible apply oI); (iterate 2 exact rfl); (intro K hK; simp only [go_sem, simprocAttr, renR, hok, Bool.false_eq_true, if_false, h1, h2])) | (with_reducible (first | apply oJ | exact oK))) | (refine hK _ ?_; clear hK K; simp only [LA.app, ASt.put, ASt.kill, subT, rmk, putM, rml, kl, AV.sub, AV.subs, AObj.sub, go_sem, simprocAttr, renR, hok, Bool.false_eq_true, if_false, h1, h2]) | (first | fail | (with_reducible (first | apply wA | apply wB | apply wC hX hC | apply wD hX hC | apply wE hX hC hmix | apply wF hX hC hmix | apply wG | apply wH)) | ((with_reducible (first | apply wI | apply wJ)); simp only [athen, ablock, reduceIte, Nat.reduceEqDiff]) | ((with_reducible apply wK); simp only [go_sem, simprocAttr, renR, hok, Bool.false_eq_true, if_false, h1, h2]) | ((with_reducible apply wL); exact rfl; all_goals (try (intro h; try simp only [go_sem, simprocAttr, renR, hok, Bool.false_eq_true, if_false, h1, h2] at h))) | ((with_reducible apply wM); exact rfl; all_goals (intro h; first | (exact absurd h (by decide)) | (try simp only [go_sem, simprocAttr, renR, hok, Bool.false_eq_true, if_false, h1, h2] at h)))) | (with_reducible apply And.intro) | omega | first | (refine acall_simple hX hC hP (may_spec g hl) rfl rfl rfl (by simp only [go_sem, simprocAttr, renR, hok, Bool.false_eq_true, if_false, h1, h2]) rfl ?_; simp only [go_sem, simprocAttr, renR, hok, Bool.false_eq_true, if_false, h1, h2]) | (refine acall_simple hX hC hP (eachP_spec names g.n hn1) rfl rfl rfl (by simp only [go_sem, simprocAttr, renR, hok, Bool.false_eq_true, if_false, h1, h2]) rfl ?_; simp only [go_sem, simprocAttr, renR, hok, Bool.false_eq_true, if_false, h1, h2]) | (refine acall_simple hX hC hP (eachP_spec order (g.es.length : Int) ho1) rfl rfl rfl (by simp only [go_sem, simprocAttr, renR, hok, Bool.false_eq_true, if_false, h1, h2]) rfl ?_; simp only [go_sem, simprocAttr, renR, hok, Bool.false_eq_true, if_false, h1, h2]) | (intro h))
    | true =>
    have h3 : eachB order g.es.length = false := by simpa [renOk, h1, h2] using hok
    repeat' (first | (first | ((with_reducible (first | apply oA | apply oB)); exact rfl; intro K hK; simp only [go_sem, simprocAttr, renR, hok, Bool.false_eq_true, if_false, h1, h2, h3]) | (with_reducible apply oC) | ((with_reducible refine oD ?_ ?_); first | fail | kernel_rfl) | ((with_reducible (first | apply oE | apply oF)); (iterate 3 exact rfl); all_goals (intro h; first | (exact absurd h (by decide)) | ((try simp only [go_sem, simprocAttr, renR, hok, Bool.false_eq_true, if_false, h1, h2, h3] at h); first | (intro K hK; simp only [go_sem, simprocAttr, renR, hok, Bool.false_eq_true, if_false, h1, h2, h3]) | (simp only [go_sem, simprocAttr, renR, hok, Bool.false_eq_true, if_false, h1, h2, h3])))) | ((with_reducible (first | apply oG | apply oH)); (iterate 3 exact rfl); simp only [go_sem, simprocAttr, renR, hok, Bool.false_eq_true, if_false, h1, h2, h3]) | ((with_reducible apply oI); (iterate 2 exact rfl); (intro K hK; simp only [go_sem, simprocAttr, renR, hok, Bool.false_eq_true, if_false, h1, h2, h3])) | (with_reducible (first | apply oJ | exact oK))) | (refine hK _ ?_; clear hK K; simp only [LA.app, ASt.put, ASt.kill, subT, rmk, putM, rml, kl, AV.sub, AV.subs, AObj.sub, go_sem, simprocAttr, renR, hok, Bool.false_eq_true, if_false, h1, h2, h3]) | (first | fail | (with_reducible (first | apply wA | apply wB | apply wC hX hC | apply wD hX hC | apply wE hX hC hmix | apply wF hX hC hmix | apply wG | apply wH)) | ((with_reducible (first | apply wI | apply wJ)); simp only [athen, ablock, reduceIte, Nat.reduceEqDiff]) | ((with_reducible apply wK); simp only [go_sem, simprocAttr, renR, hok, Bool.false_eq_true, if_false, h1, h2, h3]) | ((with_reducible apply wL); exact rfl; all_goals (try (intro h; try simp only [go_sem, simprocAttr, renR, hok, Bool.false_eq_true, if_false, h1, h2, h3] at h))) | ((with_reducible apply wM); exact rfl; all_goals (intro h; first | (exact absurd h (by decide)) | (try simp only [go_sem, simprocAttr, renR, hok, Bool.false_eq_true, if_false, h1, h2, h3] at h)))) | (with_reducible apply And.intro) | omega | first | (refine acall_simple hX hC hP (may_spec g hl) rfl rfl rfl (by simp only [go_sem, simprocAttr, renR, hok, Bool.false_eq_true, if_false, h1, h2, h3]) rfl ?_; simp only [go_sem, simprocAttr, renR, hok, Bool.false_eq_true, if_false, h1, h2, h3]) | (refine acall_simple hX hC hP (eachP_spec names g.n hn1) rfl rfl rfl (by simp only [go_sem, simprocAttr, renR, hok, Bool.false_eq_true, if_false, h1, h2, h3]) rfl ?_; simp only [go_sem, simprocAttr, renR, hok, Bool.false_eq_true, if_false, h1, h2, h3]) | (refine acall_simple hX hC hP (eachP_spec order (g.es.length : Int) ho1) rfl rfl rfl (by simp only [go_sem, simprocAttr, renR, hok, Bool.false_eq_true, if_false, h1, h2, h3]) rfl ?_; simp only [go_sem, simprocAttr, renR, hok, Bool.false_eq_true, if_false, h1, h2, h3]) | (intro h))
  | true =>
  obtain ⟨⟨h1, h2⟩, h3⟩ : (mayB g = true ∧ eachB names g.n = true) ∧ eachB order g.es.length = true := by simpa [renOk] using hok
  have hol := (eachB_iff.1 h3).1
  have hnl := (eachB_iff.1 h2).1
  repeat' (first | (first | ((with_reducible (first | apply oA | apply oB)); exact rfl; intro K hK; simp only [go_sem, simprocAttr, renR, hok, if_true, h1, h2, h3]) | (with_reducible apply oC) | ((with_reducible refine oD ?_ ?_); first | fail | kernel_rfl) | ((with_reducible (first | apply oE | apply oF)); (iterate 3 exact rfl); all_goals (intro h; first | (exact absurd h (by decide)) | ((try simp only [go_sem, simprocAttr, renR, hok, if_true, h1, h2, h3] at h); first | (intro K hK; simp only [go_sem, simprocAttr, renR, hok, if_true, h1, h2, h3]) | (simp only [go_sem, simprocAttr, renR, hok, if_true, h1, h2, h3])))) | ((with_reducible (first | apply oG | apply oH)); (iterate 3 exact rfl); simp only [go_sem, simprocAttr, renR, hok, if_true, h1, h2, h3]) | ((with_reducible apply oI); (iterate 2 exact rfl); (intro K hK; simp only [go_sem, simprocAttr, renR, hok, if_true, h1, h2, h3])) | (with_reducible (first | apply oJ | exact oK))) | (refine hK _ ?_; clear hK K; simp only [LA.app, ASt.put, ASt.kill, subT, rmk, putM, rml, kl, AV.sub, AV.subs, AObj.sub, go_sem, simprocAttr, renR, hok, if_true, h1, h2, h3]) | (first | fail | (with_reducible (first | apply wA | apply wB | apply wC hX hC | apply wD hX hC | apply wE hX hC hmix | apply wF hX hC hmix | apply wG | apply wH)) | ((with_reducible (first | apply wI | apply wJ)); simp only [athen, ablock, reduceIte, Nat.reduceEqDiff]) | ((with_reducible apply wK); simp only [go_sem, simprocAttr, renR, hok, if_true, h1, h2, h3]) | ((with_reducible apply wL); exact rfl; all_goals (try (intro h; try simp only [go_sem, simprocAttr, renR, hok, if_true, h1, h2, h3] at h))) | ((with_reducible apply wM); exact rfl; all_goals (intro h; first | (exact absurd h (by decide)) | (try simp only [go_sem, simprocAttr, renR, hok, if_true, h1, h2, h3] at h)))) | (with_reducible apply And.intro) | omega | first | (refine acall_simple hX hC hP (may_spec g hl) rfl rfl rfl (by simp only [go_sem, simprocAttr, renR, hok, if_true, h1, h2, h3]) rfl ?_; simp only [go_sem, simprocAttr, renR, hok, if_true, h1, h2, h3]) | (refine acall_simple hX hC hP (eachP_spec names g.n hn1) rfl rfl rfl (by simp only [go_sem, simprocAttr, renR, hok, if_true, h1, h2, h3]) rfl ?_; simp only [go_sem, simprocAttr, renR, hok, if_true, h1, h2, h3]) | (refine acall_simple hX hC hP (eachP_spec order (g.es.length : Int) ho1) rfl rfl rfl (by simp only [go_sem, simprocAttr, renR, hok, if_true, h1, h2, h3]) rfl ?_; simp only [go_sem, simprocAttr, renR, hok, if_true, h1, h2, h3]) | (intro h))
  (refine awp_newB hX 8 1 59 (.tip 55 2 []) rfl rfl rfl (by simp only [go_sem, simprocAttr, renR, hok, if_true, h1, h2, h3]) (by decide) (by simp [go_sem, simprocAttr, renR, hok, if_true, h1, h2, h3]) ⟨55, 2, by decide, .inr rfl⟩ ?_; simp only [LA.app, ASt.put, ASt.kill, subT, rmk, putM, rml, kl, AV.sub, AV.subs, AObj.sub, List.set_cons_zero, List.set_cons_succ, go_sem, simprocAttr, renR, hok, if_true, h1, h2, h3])
  refine awp_loopP (fun k : Nat => k ≤ order.length) (fun k => ⟨[(1, .d (sI names)), (3, .ptr 3 0), (6, .ptr 6 0), (8, .ptr 8 0), (34, .d (sI order)), (35, eN order.length), (36, eN k)], [(59, .tip 55 2 ((renK g names order k).map rE)), (8, .box [eN g.n, .ref 59]), (6, .box [eN 0, .nil 55]), (3, .box [eN g.n, .d (sE g.es)])]⟩) (fun k => order.length - k) 0 (by simp) ?_ ?_
  · refine Le.of ?_ ?_ <;> simp [go_sem, simprocAttr, renR, hok, if_true, h1, h2, h3, renK]
  rintro k hk
  rcases Nat.lt_or_ge k order.length with hlt | hge
  · have hb : decide ((k : Int) < (order.length : Int)) = true := decide_eq_true (by omega)
    obtain ⟨ho2, ho3⟩ := eachB_lo h3 _ (getD_mem hlt)
    obtain ⟨he1, he2⟩ := mayB_e h1 (show (order.getD k 0).toNat < g.es.length by omega)
    have hrl := renK_length (g := g) (names := names) (order := order) (k := k)
    repeat' (first | (first | ((with_reducible (first | apply oA | apply oB)); exact rfl; intro K hK; simp only [go_sem, simprocAttr, hb, renK_length]) | (with_reducible apply oC) | ((with_reducible refine oD ?_ ?_); first | fail | kernel_rfl) | ((with_reducible (first | apply oE | apply oF)); (iterate 3 exact rfl); all_goals (intro h; first | (exact absurd h (by decide)) | ((try simp only [go_sem, simprocAttr, hb, renK_length] at h); first | (intro K hK; simp only [go_sem, simprocAttr, hb, renK_length]) | (simp only [go_sem, simprocAttr, hb, renK_length])))) | ((with_reducible (first | apply oG | apply oH)); (iterate 3 exact rfl); simp only [go_sem, simprocAttr, hb, renK_length]) | ((with_reducible apply oI); (iterate 2 exact rfl); (intro K hK; simp only [go_sem, simprocAttr, hb, renK_length])) | (with_reducible (first | apply oJ | exact oK))) | (refine hK _ ?_; clear hK K; simp only [LA.app, ASt.put, ASt.kill, subT, rmk, putM, rml, kl, AV.sub, AV.subs, AObj.sub, go_sem, simprocAttr, hb, renK_length]) | (first | fail | (with_reducible (first | apply wA | apply wB | apply wC hX hC | apply wD hX hC | apply wE hX hC hmix | apply wF hX hC hmix | apply wG | apply wH)) | ((with_reducible (first | apply wI | apply wJ)); simp only [athen, ablock, reduceIte, Nat.reduceEqDiff]) | ((with_reducible apply wK); simp only [go_sem, simprocAttr, hb, renK_length]) | ((with_reducible apply wL); exact rfl; all_goals (try (intro h; try simp only [go_sem, simprocAttr, hb, renK_length] at h))) | ((with_reducible apply wM); exact rfl; all_goals (intro h; first | (exact absurd h (by decide)) | (try simp only [go_sem, simprocAttr, hb, renK_length] at h)))) | (with_reducible apply And.intro) | omega | first | (refine acall_simple hX hC hP (may_spec g hl) rfl rfl rfl (by simp only [go_sem, simprocAttr, hb, renK_length]) rfl ?_; simp only [go_sem, simprocAttr, hb, renK_length]) | (refine acall_simple hX hC hP (eachP_spec names g.n hn1) rfl rfl rfl (by simp only [go_sem, simprocAttr, hb, renK_length]) rfl ?_; simp only [go_sem, simprocAttr, hb, renK_length]) | (refine acall_simple hX hC hP (eachP_spec order (g.es.length : Int) ho1) rfl rfl rfl (by simp only [go_sem, simprocAttr, hb, renK_length]) rfl ?_; simp only [go_sem, simprocAttr, hb, renK_length]) | (intro h))
    refine ⟨k + 1, by omega, ?_, by omega⟩
    refine Le.of ?_ ?_ <;> simp [go_sem, simprocAttr, hb, renK_length, renK_next, rE]
  · have hb : decide ((k : Int) < (order.length : Int)) = false := decide_eq_false (by omega)
    obtain rfl : k = order.length := by omega
    repeat' (first | (first | ((with_reducible (first | apply oA | apply oB)); exact rfl; intro K hK; simp only [go_sem, simprocAttr, renR, hok, if_true, renG, hb]) | (with_reducible apply oC) | ((with_reducible refine oD ?_ ?_); first | fail | kernel_rfl) | ((with_reducible (first | apply oE | apply oF)); (iterate 3 exact rfl); all_goals (intro h; first | (exact absurd h (by decide)) | ((try simp only [go_sem, simprocAttr, renR, hok, if_true, renG, hb] at h); first | (intro K hK; simp only [go_sem, simprocAttr, renR, hok, if_true, renG, hb]) | (simp only [go_sem, simprocAttr, renR, hok, if_true, renG, hb])))) | ((with_reducible (first | apply oG | apply oH)); (iterate 3 exact rfl); simp only [go_sem, simprocAttr, renR, hok, if_true, renG, hb]) | ((with_reducible apply oI); (iterate 2 exact rfl); (intro K hK; simp only [go_sem, simprocAttr, renR, hok, if_true, renG, hb])) | (with_reducible (first | apply oJ | exact oK))) | (refine hK _ ?_; clear hK K; simp only [LA.app, ASt.put, ASt.kill, subT, rmk, putM, rml, kl, AV.sub, AV.subs, AObj.sub, go_sem, simprocAttr, renR, hok, if_true, renG, hb]) | (first | fail | (with_reducible (first | apply wA | apply wB | apply wC hX hC | apply wD hX hC | apply wE hX hC hmix | apply wF hX hC hmix | apply wG | apply wH)) | ((with_reducible (first | apply wI | apply wJ)); simp only [athen, ablock, reduceIte, Nat.reduceEqDiff]) | ((with_reducible apply wK); simp only [go_sem, simprocAttr, renR, hok, if_true, renG, hb]) | ((with_reducible apply wL); exact rfl; all_goals (try (intro h; try simp only [go_sem, simprocAttr, renR, hok, if_true, renG, hb] at h))) | ((with_reducible apply wM); exact rfl; all_goals (intro h; first | (exact absurd h (by decide)) | (try simp only [go_sem, simprocAttr, renR, hok, if_true, renG, hb] at h)))) | (with_reducible apply And.intro) | omega | first | (refine acall_simple hX hC hP (may_spec g hl) rfl rfl rfl (by simp only [go_sem, simprocAttr, renR, hok, if_true, renG, hb]) rfl ?_; simp only [go_sem, simprocAttr, renR, hok, if_true, renG, hb]) | (refine acall_simple hX hC hP (eachP_spec names g.n hn1) rfl rfl rfl (by simp only [go_sem, simprocAttr, renR, hok, if_true, renG, hb]) rfl ?_; simp only [go_sem, simprocAttr, renR, hok, if_true, renG, hb]) | (refine acall_simple hX hC hP (eachP_spec order (g.es.length : Int) ho1) rfl rfl rfl (by simp only [go_sem, simprocAttr, renR, hok, if_true, renG, hb]) rfl ?_; simp only [go_sem, simprocAttr, renR, hok, if_true, renG, hb]) | (intro h))
theorem refRename_spec (g : Gr) (names order : List Int) (hok : renOk g names order = true) :
    Spec Try.prog 32 (Args [eG g, .d (sI names), .d (sI order)]) [] (eG (renG g names order)) [] := by
  obtain ⟨⟨h1, h2⟩, h3⟩ : (mayB g = true ∧ eachB names g.n = true) ∧ eachB order g.es.length = true := by simpa [renOk] using hok
  have hol := (eachB_iff.1 h3).1
  have hnl := (eachB_iff.1 h2).1
  have hn := mayB_n h1
  (refine Spec.intro (C := T.cfg [] []) (rs := [.c 6 24]) (T.cfg_ok _ _) Try.func32 rfl rfl Try.ntmps32 Try.results32 (by simp [AObj.isNest]) (by simp [AObj.isNest]) (by kernel_rfl) ?_; intro X hX hP hC hXn hXm vals hA; refine ⟨_, by simp, hA, ?_⟩; have hmix : X.P.follows .mixedOrders = true := (by rw [hP]; exact T.mixed); clear hXn hXm)
  repeat' (first | (first | ((with_reducible (first | apply oA | apply oB)); exact rfl; intro K hK; simp only [go_sem, simprocAttr]) | (with_reducible apply oC) | ((with_reducible refine oD ?_ ?_); first | fail | kernel_rfl) | ((with_reducible (first | apply oE | apply oF)); (iterate 3 exact rfl); all_goals (intro h; first | (exact absurd h (by decide)) | ((try simp only [go_sem, simprocAttr] at h); first | (intro K hK; simp only [go_sem, simprocAttr]) | (simp only [go_sem, simprocAttr])))) | ((with_reducible (first | apply oG | apply oH)); (iterate 3 exact rfl); simp only [go_sem, simprocAttr]) | ((with_reducible apply oI); (iterate 2 exact rfl); (intro K hK; simp only [go_sem, simprocAttr])) | (with_reducible (first | apply oJ | exact oK))) | (refine hK _ ?_; clear hK K; simp only [LA.app, ASt.put, ASt.kill, subT, rmk, putM, rml, kl, AV.sub, AV.subs, AObj.sub, go_sem, simprocAttr]) | (first | fail | (with_reducible (first | apply wA | apply wB | apply wC hX hC | apply wD hX hC | apply wE hX hC hmix | apply wF hX hC hmix | apply wG | apply wH)) | ((with_reducible (first | apply wI | apply wJ)); simp only [athen, ablock, reduceIte, Nat.reduceEqDiff]) | ((with_reducible apply wK); simp only [go_sem, simprocAttr]) | ((with_reducible apply wL); exact rfl; all_goals (try (intro h; try simp only [go_sem, simprocAttr] at h))) | ((with_reducible apply wM); exact rfl; all_goals (intro h; first | (exact absurd h (by decide)) | (try simp only [go_sem, simprocAttr] at h)))) | (with_reducible apply And.intro) | omega | fail | (intro h))
  (refine awp_newB hX 7 1 41 (.tip 55 2 []) rfl rfl rfl (by simp only [go_sem, simprocAttr]) (by decide) (by simp [go_sem, simprocAttr]) ⟨55, 2, by decide, .inr rfl⟩ ?_; simp only [LA.app, ASt.put, ASt.kill, subT, rmk, putM, rml, kl, AV.sub, AV.subs, AObj.sub, List.set_cons_zero, List.set_cons_succ, go_sem, simprocAttr])
  refine awp_loopP (fun k : Nat => k ≤ order.length) (fun k => ⟨[(1, .d (sI names)), (2, .d (sI order)), (3, .ptr 3 0), (6, .ptr 6 0), (7, .ptr 7 0), (8, eN k)], [(41, .tip 55 2 ((renK g names order k).map rE)), (7, .box [eN g.n, .ref 41]), (6, .box [eN 0, .nil 55]), (3, .box [eN g.n, .d (sE g.es)])]⟩) (fun k => order.length - k) 0 (by simp) ?_ ?_
  · refine Le.of ?_ ?_ <;> simp [go_sem, simprocAttr, renK]
  rintro k hk
  rcases Nat.lt_or_ge k order.length with hlt | hge
  · have hb : decide ((k : Int) < (order.length : Int)) = true := decide_eq_true (by omega)
    obtain ⟨ho2, ho3⟩ := eachB_lo h3 _ (getD_mem hlt)
    obtain ⟨he1, he2⟩ := mayB_e h1 (show (order.getD k 0).toNat < g.es.length by omega)
    have hrl := renK_length (g := g) (names := names) (order := order) (k := k)
    repeat' (first | (first | ((with_reducible (first | apply oA | apply oB)); exact rfl; intro K hK; simp only [go_sem, simprocAttr, hb, renK_length]) | (with_reducible apply oC) | ((with_reducible refine oD ?_ ?_); first | fail | kernel_rfl) | ((with_reducible (first | apply oE | apply oF)); (iterate 3 exact rfl); all_goals (intro h; first | (exact absurd h (by decide)) | ((try simp only [go_sem, simprocAttr, hb, renK_length] at h); first | (intro K hK; simp only [go_sem, simprocAttr, hb, renK_length]) | (simp only [go_sem, simprocAttr, hb, renK_length])))) | ((with_reducible (first | apply oG | apply oH)); (iterate 3 exact rfl); simp only [go_sem, simprocAttr, hb, renK_length]) | ((with_reducible apply oI); (iterate 2 exact rfl); (intro K hK; simp only [go_sem, simprocAttr, hb, renK_length])) | (with_reducible (first | apply oJ | exact oK))) | (refine hK _ ?_; clear hK K; simp only [LA.app, ASt.put, ASt.kill, subT, rmk, putM, rml, kl, AV.sub, AV.subs, AObj.sub, go_sem, simprocAttr, hb, renK_length]) | (first | fail | (with_reducible (first | apply wA | apply wB | apply wC hX hC | apply wD hX hC | apply wE hX hC hmix | apply wF hX hC hmix | apply wG | apply wH)) | ((with_reducible (first | apply wI | apply wJ)); simp only [athen, ablock, reduceIte, Nat.reduceEqDiff]) | ((with_reducible apply wK); simp only [go_sem, simprocAttr, hb, renK_length]) | ((with_reducible apply wL); exact rfl; all_goals (try (intro h; try simp only [go_sem, simprocAttr, hb, renK_length] at h))) | ((with_reducible apply wM); exact rfl; all_goals (intro h; first | (exact absurd h (by decide)) | (try simp only [go_sem, simprocAttr, hb, renK_length] at h)))) | (with_reducible apply And.intro) | omega | fail | (intro h))
    refine ⟨k + 1, by omega, ?_, by omega⟩
    refine Le.of ?_ ?_ <;> simp [go_sem, simprocAttr, hb, renK_length, renK_next, rE]
  · have hb : decide ((k : Int) < (order.length : Int)) = false := decide_eq_false (by omega)
    obtain rfl : k = order.length := by omega
    repeat' (first | (first | ((with_reducible (first | apply oA | apply oB)); exact rfl; intro K hK; simp only [go_sem, simprocAttr, renG, hb]) | (with_reducible apply oC) | ((with_reducible refine oD ?_ ?_); first | fail | kernel_rfl) | ((with_reducible (first | apply oE | apply oF)); (iterate 3 exact rfl); all_goals (intro h; first | (exact absurd h (by decide)) | ((try simp only [go_sem, simprocAttr, renG, hb] at h); first | (intro K hK; simp only [go_sem, simprocAttr, renG, hb]) | (simp only [go_sem, simprocAttr, renG, hb])))) | ((with_reducible (first | apply oG | apply oH)); (iterate 3 exact rfl); simp only [go_sem, simprocAttr, renG, hb]) | ((with_reducible apply oI); (iterate 2 exact rfl); (intro K hK; simp only [go_sem, simprocAttr, renG, hb])) | (with_reducible (first | apply oJ | exact oK))) | (refine hK _ ?_; clear hK K; simp only [LA.app, ASt.put, ASt.kill, subT, rmk, putM, rml, kl, AV.sub, AV.subs, AObj.sub, go_sem, simprocAttr, renG, hb]) | (first | fail | (with_reducible (first | apply wA | apply wB | apply wC hX hC | apply wD hX hC | apply wE hX hC hmix | apply wF hX hC hmix | apply wG | apply wH)) | ((with_reducible (first | apply wI | apply wJ)); simp only [athen, ablock, reduceIte, Nat.reduceEqDiff]) | ((with_reducible apply wK); simp only [go_sem, simprocAttr, renG, hb]) | ((with_reducible apply wL); exact rfl; all_goals (try (intro h; try simp only [go_sem, simprocAttr, renG, hb] at h))) | ((with_reducible apply wM); exact rfl; all_goals (intro h; first | (exact absurd h (by decide)) | (try simp only [go_sem, simprocAttr, renG, hb] at h)))) | (with_reducible apply And.intro) | omega | fail | (intro h))
end Go.Ab
end
section
namespace Go.Ab

/-- An edge leads from a to b. -/
def Ed (g : Gr) (a b : Int) : Prop := ∃ i, i < g.es.length ∧ tl g i = a ∧ hd g i = b
/-- Each leads to the next one, the last one to the first. -/
def Cyc (g : Gr) (l : List Int) : Prop := ∀ i, i < l.length → Ed g (l.getD i 0) (l.getD ((i + 1) % l.length) 0)
/-- A way back: each vertex but the first has an edge to the one before. -/
def Chain' (g : Gr) (way : List Int) (at_ : Int) : Prop := ∀ p, p < way.length → Ed g ((way ++ [at_]).getD (p + 1) 0) (way.getD p 0)
theorem getD_last {l : List Int} {a : Int} : (l ++ [a]).getD l.length 0 = a := by
  rw [List.getD_eq_getElem?_getD, List.getElem?_append_right (Nat.le_refl _)]; simp
theorem wayF_chain {g : Gr} (hm : mayB g = true) : ∀ (f : Nat) (way : List Int) (a : Nat), a < g.n.toNat → (a : Int) ∉ runG g → Chain' g way a → left g way ≤ f →
    Chain' g (wayF g (wts g (runG g)) f way a).1 (wayF g (wts g (runG g)) f way a).2 ∧ 0 ≤ (wayF g (wts g (runG g)) f way a).2 ∧ (wayF g (wts g (runG g)) f way a).2 ∈ (wayF g (wts g (runG g)) f way a).1
  | f, way, a, ha, hn, hc, hl => by
    by_cases hmem : (a : Int) ∈ way
    · rw [wayF_end (.inr hmem)]
      exact ⟨hc, by simp only; omega, hmem⟩
    · have hla := left_app ha hmem
      cases f with
      | zero => omega
      | succ f =>
        obtain ⟨⟨i, hi, hhd, htl, hnr⟩, _⟩ := backG_spec hm (Q_of hm ha hn)
        have htr := tl_range hm hi
        rw [htl] at htr
        obtain ⟨b, hbe⟩ : ∃ b : Nat, backG g (wts g (runG g)) a = b := ⟨(backG g (wts g (runG g)) a).toNat, by omega⟩
        rw [hbe] at hnr htr htl
        have e1 : wayF g (wts g (runG g)) (f + 1) way a = wayF g (wts g (runG g)) f (way ++ [(a : Int)]) b := by
          simp only [wayF]; rw [if_neg (by intro h; rcases h with h | h; omega; exact hmem h), hbe]
        rw [e1]
        refine wayF_chain hm f (way ++ [(a : Int)]) b (by omega) hnr ?_ (by omega)
        intro p hp
        rw [List.length_append, List.length_singleton] at hp
        by_cases hpl : p < way.length
        · have := hc p hpl
          rw [getD_app (by simp; omega), getD_app hpl]
          exact this
        · have : p = way.length := by omega
          subst this
          have e2 := getD_last (l := way ++ [(a : Int)]) (a := (b : Int))
          rw [List.length_append, List.length_singleton] at e2
          rw [e2, getD_last]
          exact ⟨i, hi, htl, hhd⟩
theorem getD_drop {l : List Int} {k p : Nat} : (l.drop k).getD p 0 = l.getD (k + p) 0 := by
  rw [List.getD_eq_getElem?_getD, List.getElem?_drop, ← List.getD_eq_getElem?_getD]
theorem Cyc.turn {g : Gr} {l : List Int} (h : ∀ p, p < l.length → Ed g (l.getD ((p + 1) % l.length) 0) (l.getD p 0)) (h0 : 0 < l.length) : Cyc g (turnL l.reverse) := by
  have h0r : 0 < l.reverse.length := by simpa using h0
  obtain ⟨k, hk1, hk2, _⟩ := idxI_mem (minL_mem h0r)
  rw [List.length_reverse] at hk2
  have e1 : turnL l.reverse = l.reverse.drop k ++ l.reverse.take k := by simp only [turnL, hk1, Int.toNat_natCast]
  have hlen : (turnL l.reverse).length = l.length := by rw [e1]; simp; omega
  have hg : ∀ i, i < l.length → (turnL l.reverse).getD i 0 = l.getD (l.length - 1 - (i + k) % l.length) 0 := by
    intro i hi
    rw [e1, List.getD_eq_getElem?_getD]
    by_cases hik : i < l.length - k
    · rw [List.getElem?_append_left (by simp; omega), List.getElem?_drop, List.getElem?_reverse (by omega), Nat.mod_eq_of_lt (by omega), ← List.getD_eq_getElem?_getD]
      congr 1; omega
    · rw [List.getElem?_append_right (by simp; omega), List.length_drop, List.length_reverse, List.getElem?_take, if_pos (by omega), List.getElem?_reverse (by omega), ← List.getD_eq_getElem?_getD]
      have : (i + k) % l.length = i + k - l.length := by rw [Nat.mod_eq_sub_mod (by omega), Nat.mod_eq_of_lt (by omega)]
      rw [this]; congr 1; omega
  intro i hi
  rw [hlen] at hi ⊢
  rw [hg i hi, hg _ (Nat.mod_lt _ h0)]
  have hmm : ((i + 1) % l.length + k) % l.length = ((i + k) % l.length + 1) % l.length := by
    rw [Nat.mod_add_mod, Nat.mod_add_mod]; congr 1; omega
  rw [hmm]
  have hj := Nat.mod_lt (i + k) h0
  generalize (i + k) % l.length = j at hj ⊢
  by_cases hlast : j + 1 < l.length
  · rw [Nat.mod_eq_of_lt hlast]
    have := h (l.length - 1 - (j + 1)) (by omega)
    rw [Nat.mod_eq_of_lt (by omega), show l.length - 1 - (j + 1) + 1 = l.length - 1 - j from by omega] at this
    exact this
  · have : j + 1 = l.length := by omega
    rw [this, Nat.mod_self]
    have := h (l.length - 1) (by omega)
    rw [show l.length - 1 + 1 = l.length from by omega, Nat.mod_self] at this
    rw [show l.length - 1 - j = 0 from by omega]
    exact this
/-- Is there a way to number vertices so that edges rise? -/
def Acyc (g : Gr) : Prop := ∃ r : Int → Nat, ∀ i, i < g.es.length → r (tl g i) < r (hd g i)
theorem okG_iff {g : Gr} (hm : mayB g = true) : okG g = true ↔ Acyc g := by
  constructor
  · intro h
    refine ⟨fun v => ((atK g.n.toNat (runG g) (runG g).length).getD v.toNat 0).toNat, fun i hi => ?_⟩
    have h1 := rises_at (ord_right hm h) hi
    have h2 := atK_nonneg (n := g.n.toNat) (l := runG g) (k := (runG g).length) (y := (tl g i).toNat)
    simp only; omega
  · rintro ⟨r, hr⟩
    cases h : okG g with
    | true => rfl
    | false =>
      exfalso
      obtain ⟨y, hy, hn⟩ := okG_not hm h
      have key : ∀ (p : Nat) (y : Nat), y < g.n.toNat → (y : Int) ∉ runG g → r y = p → False := by
        intro p
        induction p using Nat.strongRecOn with
        | _ p ih =>
          intro y hy hn hp
          obtain ⟨t, i, hi, h1, rfl, h2⟩ := Q_of hm hy hn
          have htr := tl_range hm hi
          have hlt := hr i hi
          rw [h1, hp] at hlt
          have e : ((tl g i).toNat : Int) = tl g i := by omega
          exact ih (r (tl g i)) hlt (tl g i).toNat (by omega) (by rw [e]; exact h2) (by rw [e])
      exact key _ y hy hn rfl
theorem cycG_ok {g : Gr} (hm : mayB g = true) (h : okG g = true) : cycG g = [] := by
  have hall := (eachB_iff.1 (okG_all hm h)).2
  have hn := mayB_n hm
  rcases start_eq hm with ⟨h1, h2⟩ | ⟨a, ha, h1, h2, h3⟩
  · have : wayG g = ([], -1) := by
      unfold wayG; rw [h1]; exact wayF_end (.inl (by omega)) _
    simp only [cycG, this]
    rw [if_pos (by omega)]
  · exact absurd (hall a (allN_mem.2 (by omega))) h3
theorem cycG_not {g : Gr} (hm : mayB g = true) (h : okG g = false) : 0 < (cycG g).length ∧ Cyc g (cycG g) := by
  obtain ⟨y, hy, hny⟩ := okG_not hm h
  have hn := mayB_n hm
  rcases start_eq hm with ⟨h1, h2⟩ | ⟨a, ha, h1, h2, h3⟩
  · exfalso
    rcases findI_spec (f := fun n : Int => decide (0 < n)) (l := wts g (runG g)) 0 with ⟨_, h4⟩ | ⟨k, h4, _⟩
    · have h5 := (wt_pos hm hy).2 hny
      have h6 := h4 ((wts g (runG g)).getD y 0) (by rw [List.getD_eq_getElem?_getD, wts_get hy]; exact List.mem_of_getElem? (wts_get hy))
      rw [wts_getD hy] at h6
      exact absurd h5 (of_decide_eq_false h6)
    · omega
  · obtain ⟨h4, h5, h6⟩ := wayF_chain hm g.n.toNat [] a ha h3 (fun p hp => by simp at hp) left_gx
    have hw : wayG g = wayF g (wts g (runG g)) g.n.toNat [] a := by unfold wayG; rw [h1]
    rw [← hw] at h4 h5 h6
    obtain ⟨k, hk1, hk2, hk3⟩ := idxI_mem h6
    have hc : cycG g = turnL ((wayG g).1.drop k).reverse := by
      simp only [cycG]
      rw [if_neg (by omega), hk1, Int.toNat_natCast]
    have hlen : ((wayG g).1.drop k).length = (wayG g).1.length - k := by simp
    have h0 : 0 < ((wayG g).1.drop k).length := by omega
    refine ⟨?_, ?_⟩
    · rw [hc]
      simp only [turnL, List.length_append, List.length_drop, List.length_take, List.length_reverse]
      omega
    · rw [hc]
      refine Cyc.turn (fun p hp => ?_) h0
      rw [hlen] at hp ⊢
      have h7 := h4 (k + p) (by omega)
      rw [getD_drop (p := p)]
      by_cases hlast : p + 1 < (wayG g).1.length - k
      · rw [Nat.mod_eq_of_lt hlast, getD_drop]
        rw [getD_app (by omega)] at h7
        exact h7
      · have : p + 1 = (wayG g).1.length - k := by omega
        rw [this, Nat.mod_self, getD_drop, Nat.add_zero, hk3]
        rw [show k + p + 1 = (wayG g).1.length from by omega, getD_last] at h7
        exact h7
end Go.Ab
end
section
namespace Go.Ab

def nm (names : List Int) (v : Int) : Int := names.getD v.toNat 0
structure RenOk (g : Gr) (names order : List Int) : Prop where
  may : mayB g = true
  nms : eachB names g.n = true
  ord : eachB order (g.es.length : Int) = true
theorem renOk_iff {g : Gr} {names order : List Int} : renOk g names order = true ↔ RenOk g names order := by
  simp only [renOk, Bool.and_eq_true]
  exact ⟨fun ⟨⟨a, b⟩, c⟩ => ⟨a, b, c⟩, fun ⟨a, b, c⟩ => ⟨⟨a, b⟩, c⟩⟩
section
variable {g : Gr} {names order : List Int} (h : RenOk g names order)
include h
theorem RenOk.len : (renG g names order).es.length = g.es.length := by
  have := (eachB_iff.1 h.ord).1
  simp only [renG, renK_length]; omega
theorem RenOk.edge {i : Nat} (hi : i < g.es.length) : ∃ j, j < g.es.length ∧ order.getD i 0 = (j : Int) ∧ (renG g names order).es.getD i (0, 0) = (nm names (tl g j), nm names (hd g j)) := by
  have hol := (eachB_iff.1 h.ord).1
  have := eachB_lo h.ord _ (getD_mem (l := order) (m := i) (by omega))
  refine ⟨(order.getD i 0).toNat, by omega, by omega, ?_⟩
  simp only [renG, renK, nm, tl, hd]
  rw [List.getD_eq_getElem?_getD, List.getElem?_map, List.getElem?_range (by omega)]
  rfl
theorem RenOk.back {j : Nat} (hj : j < g.es.length) : ∃ i, i < g.es.length ∧ order.getD i 0 = (j : Int) ∧ (renG g names order).es.getD i (0, 0) = (nm names (tl g j), nm names (hd g j)) := by
  obtain ⟨hol, hall⟩ := eachB_iff.1 h.ord
  obtain ⟨i, hi, hil, he⟩ := idxI_mem (hall (j : Int) (allN_mem.2 (by omega)))
  obtain ⟨j', _, h2, h3⟩ := h.edge (i := i) (by omega)
  have : j' = j := by omega
  subst this
  exact ⟨i, by omega, he, h3⟩
theorem RenOk.inj {a b : Int} (ha : 0 ≤ a ∧ a < g.n) (hb : 0 ≤ b ∧ b < g.n) (e : nm names a = nm names b) : a = b := by
  have hnl := (eachB_iff.1 h.nms).1
  have := eachB_once h.nms (i := a.toNat) (j := b.toNat) (by omega) (by omega) e
  omega
theorem RenOk.range {a : Int} (ha : 0 ≤ a ∧ a < g.n) : 0 ≤ nm names a ∧ nm names a < g.n := by
  have hnl := (eachB_iff.1 h.nms).1
  exact eachB_lo h.nms _ (getD_mem (by omega))
theorem RenOk.inv {a : Int} (ha : 0 ≤ a ∧ a < g.n) : idxI names (nm names a) = a := by
  have hnl := (eachB_iff.1 h.nms).1
  obtain ⟨k, hk, hkl, he⟩ := idxI_mem (getD_mem (l := names) (m := a.toNat) (by omega))
  have h2 := eachB_once h.nms hkl (j := a.toNat) (by omega) he
  have h3 : idxI names (nm names a) = k := hk
  omega
theorem RenOk.of {v : Int} (hv : 0 ≤ v ∧ v < g.n) : ∃ a, (0 ≤ a ∧ a < g.n) ∧ nm names a = v := by
  obtain ⟨hnl, hall⟩ := eachB_iff.1 h.nms
  obtain ⟨k, hk, hkl, he⟩ := idxI_mem (hall v (allN_mem.2 (by omega)))
  exact ⟨k, by omega, he⟩
theorem RenOk.may' : mayB (renG g names order) = true := by
  have hn := mayB_n h.may
  have hlen := h.len
  have hall : (renG g names order).es.any (outE (renG g names order)) = false := by
    rw [List.any_eq_false]
    intro e he
    obtain ⟨i, hi, rfl⟩ := List.getElem_of_mem he
    obtain ⟨j, hj, _, h3⟩ := h.edge (i := i) (by omega)
    rw [List.getD_eq_getElem?_getD, List.getElem?_eq_getElem hi, Option.getD_some] at h3
    rw [h3]
    have h4 := h.range (tl_range h.may hj)
    have h5 := h.range (hd_range h.may hj)
    have e1 : (renG g names order).n = g.n := rfl
    simp only [outE, outB, e1, Bool.or_eq_true, decide_eq_true_eq]
    omega
  have e1 : (renG g names order).n = g.n := rfl
  simp only [mayB, hall, e1, Bool.not_false, Bool.and_true, Bool.and_eq_true, decide_eq_true_eq]
  omega
omit h in
theorem ren_tl {i j : Nat} (e : (renG g names order).es.getD i (0, 0) = (nm names (tl g j), nm names (hd g j))) : tl (renG g names order) i = nm names (tl g j) ∧ hd (renG g names order) i = nm names (hd g j) := ⟨congrArg Prod.fst e, congrArg Prod.snd e⟩
/-- Loops. -/
theorem RenOk.loop : (0 ≤ loopI (renG g names order)) ↔ 0 ≤ loopI g := by
  have key : ∀ g : Gr, (0 ≤ loopI g) ↔ ∃ i, i < g.es.length ∧ tl g i = hd g i := by
    intro g
    have := findI_any (fun e : Edge => decide (e.1 = e.2)) g.es
    rw [show (0 ≤ loopI g) ↔ g.es.any (fun e : Edge => decide (e.1 = e.2)) = true from by rw [← this]; simp [loopI], List.any_eq_true]
    constructor
    · rintro ⟨e, he, h2⟩
      obtain ⟨i, hi, rfl⟩ := List.getElem_of_mem he
      refine ⟨i, hi, ?_⟩
      simpa [tl, hd, List.getD_eq_getElem?_getD, List.getElem?_eq_getElem hi] using h2
    · rintro ⟨i, hi, h2⟩
      refine ⟨_, List.getElem_mem hi, ?_⟩
      simpa [tl, hd, List.getD_eq_getElem?_getD, List.getElem?_eq_getElem hi] using h2
  rw [key, key, h.len]
  constructor
  · rintro ⟨i, hi, e⟩
    obtain ⟨j, hj, _, h3⟩ := h.edge hi
    obtain ⟨e1, e2⟩ := ren_tl h3
    exact ⟨j, hj, h.inj (tl_range h.may hj) (hd_range h.may hj) (by rw [← e1, ← e2, e])⟩
  · rintro ⟨j, hj, e⟩
    obtain ⟨i, hi, _, h3⟩ := h.back hj
    obtain ⟨e1, e2⟩ := ren_tl h3
    exact ⟨i, hi, by rw [e1, e2, e]⟩
omit h in
theorem twice_iff (g : Gr) : (0 ≤ twiceI g) ↔ ∃ i k, i < g.es.length ∧ k < g.es.length ∧ i ≠ k ∧ g.es.getD i (0, 0) = g.es.getD k (0, 0) := by
  have := findI_any (twiceB g) (List.range g.es.length)
  rw [show (0 ≤ twiceI g) ↔ (List.range g.es.length).any (twiceB g) = true from by rw [← this]; simp [twiceI], List.any_eq_true]
  constructor
  · rintro ⟨i, hi, h2⟩
    have hil := List.mem_range.1 hi
    have h3 := of_decide_eq_true h2
    rw [List.mem_iff_getElem?] at h3
    obtain ⟨k, hk⟩ := h3
    rw [List.getElem?_take] at hk
    split at hk
    · rename_i hki
      exact ⟨i, k, hil, by omega, by omega, by rw [List.getD_eq_getElem?_getD (i := k), hk]; rfl⟩
    · cases hk
  · rintro ⟨i, k, hi, hk, hne, e⟩
    have main : ∀ i k, k < i → i < g.es.length → g.es.getD i (0, 0) = g.es.getD k (0, 0) → twiceB g i = true := by
      intro i k hki hi e
      refine decide_eq_true ?_
      rw [e, List.mem_iff_getElem?]
      refine ⟨k, ?_⟩
      rw [List.getElem?_take, if_pos hki, List.getD_eq_getElem?_getD, List.getElem?_eq_getElem (by omega)]; rfl
    rcases Nat.lt_or_gt_of_ne hne with hlt | hgt
    · exact ⟨k, List.mem_range.2 hk, main k i hlt hk e.symm⟩
    · exact ⟨i, List.mem_range.2 hi, main i k hgt hi e⟩
theorem RenOk.twice : (0 ≤ twiceI (renG g names order)) ↔ 0 ≤ twiceI g := by
  have hol := (eachB_iff.1 h.ord).1
  rw [twice_iff, twice_iff, h.len]
  constructor
  · rintro ⟨i, k, hi, hk, hne, e⟩
    obtain ⟨j, hj, ho, h3⟩ := h.edge hi
    obtain ⟨j', hj', ho', h3'⟩ := h.edge hk
    refine ⟨j, j', hj, hj', fun e' => ?_, ?_⟩
    · subst e'
      exact hne (eachB_once h.ord (by omega) (by omega) (by rw [ho, ho']))
    · rw [h3, h3', Prod.mk.injEq] at e
      have e1 := h.inj (tl_range h.may hj) (tl_range h.may hj') e.1
      have e2 := h.inj (hd_range h.may hj) (hd_range h.may hj') e.2
      exact Prod.ext e1 e2
  · rintro ⟨j, j', hj, hj', hne, e⟩
    obtain ⟨i, hi, ho, h3⟩ := h.back hj
    obtain ⟨k, hk, ho', h3'⟩ := h.back hj'
    refine ⟨i, k, hi, hk, fun e' => ?_, ?_⟩
    · subst e'; omega
    · have e1 : tl g j = tl g j' := congrArg Prod.fst e
      have e2 : hd g j = hd g j' := congrArg Prod.snd e
      rw [h3, h3', e1, e2]
theorem RenOk.acyc : okG (renG g names order) = okG g := by
  rw [Bool.eq_iff_iff, okG_iff h.may', okG_iff h.may]
  constructor
  · rintro ⟨r, hr⟩
    refine ⟨fun v => r (nm names v), fun j hj => ?_⟩
    obtain ⟨i, hi, _, h3⟩ := h.back hj
    obtain ⟨e1, e2⟩ := ren_tl h3
    have := hr i (by rw [h.len]; exact hi)
    rwa [e1, e2] at this
  · rintro ⟨r, hr⟩
    refine ⟨fun v => r (idxI names v), fun i hi => ?_⟩
    rw [h.len] at hi
    obtain ⟨j, hj, _, h3⟩ := h.edge hi
    obtain ⟨e1, e2⟩ := ren_tl h3
    have := hr j hj
    rw [e1, e2]; simp only; rw [h.inv (tl_range h.may hj), h.inv (hd_range h.may hj)]
    exact this
omit h in
theorem bare_mem {g : Gr} {y : Int} : y ∈ bareG (·.2) g ↔ (0 ≤ y ∧ y < g.n) ∧ ∀ i, i < g.es.length → hd g i ≠ y := by
  simp only [bareG, bareK, List.mem_map, List.mem_filter, List.mem_range, decide_eq_true_eq]
  have he : ∀ x : Nat, x < g.n.toNat → (((endsL (·.2) g).getD x []).length = 0 ↔ ∀ i, i < g.es.length → hd g i ≠ (x : Int)) := by
    intro x hx
    have e : (endsL (·.2) g).getD x [] = endsZ (·.2) g.es g.es.length (x : Int) := by
      simp [endsL, List.getD_eq_getElem?_getD, List.getElem?_range hx, endsK_eq]
    rw [e, List.length_eq_zero_iff]
    simp only [endsZ, List.map_eq_nil_iff, List.filter_eq_nil_iff, List.mem_range, decide_eq_true_eq]
    rfl
  constructor
  · rintro ⟨x, ⟨hx, h0⟩, rfl⟩
    refine ⟨by simp; omega, (he x hx).1 h0⟩
  · rintro ⟨⟨h1, h2⟩, h3⟩
    have e : ((y.toNat : Nat) : Int) = y := by omega
    exact ⟨y.toNat, ⟨by omega, (he _ (by omega)).2 (by rw [e]; exact h3)⟩, e⟩
omit h in
theorem bare_nodup {f : Edge → Int} {g : Gr} : (bareG f g).Nodup := by
  unfold bareG bareK
  refine List.Pairwise.map _ (fun a b h e => h (Int.ofNat.inj e)) (List.Pairwise.filter _ List.nodup_range)
theorem RenOk.bare : (bareG (·.2) (renG g names order)).length = (bareG (·.2) g).length := by
  have e1 : (renG g names order).n = g.n := rfl
  have h1 : ((bareG (·.2) g).map (nm names)).length ≤ (bareG (·.2) (renG g names order)).length := by
    refine Nat.le_trans (count_le _ (bareG (·.2) (renG g names order)) ?_ ?_) List.countP_le_length
    · rw [List.nodup_iff_pairwise_ne] 
      refine List.Pairwise.map _ (fun a b h => h) ?_
      refine List.Pairwise.imp_of_mem ?_ bare_nodup
      intro a b ha hb hab e
      exact hab (h.inj (bare_mem.1 ha).1 (bare_mem.1 hb).1 e)
    · intro v hv
      obtain ⟨y, hy, rfl⟩ := List.mem_map.1 hv
      obtain ⟨hy1, hy2⟩ := bare_mem.1 hy
      refine bare_mem.2 ⟨h.range hy1, fun i hi e => ?_⟩
      rw [h.len] at hi
      obtain ⟨j, hj, _, h3⟩ := h.edge hi
      rw [(ren_tl h3).2] at e
      exact hy2 j hj (h.inj (hd_range h.may hj) hy1 e)
  have h2 : ((bareG (·.2) (renG g names order)).map (idxI names)).length ≤ (bareG (·.2) g).length := by
    have hsplit : ∀ v ∈ bareG (·.2) (renG g names order), ∃ a, (0 ≤ a ∧ a < g.n) ∧ nm names a = v := fun v hv => h.of (bare_mem.1 hv).1
    refine Nat.le_trans (count_le _ (bareG (·.2) g) ?_ ?_) List.countP_le_length
    · rw [List.nodup_iff_pairwise_ne]
      refine List.Pairwise.map _ (fun a b h => h) ?_
      refine List.Pairwise.imp_of_mem ?_ bare_nodup
      intro a b ha hb hab e
      obtain ⟨a', ha', rfl⟩ := hsplit a ha
      obtain ⟨b', hb', rfl⟩ := hsplit b hb
      rw [h.inv ha', h.inv hb'] at e
      exact hab (by rw [e])
    · intro v hv
      obtain ⟨y, hy, rfl⟩ := List.mem_map.1 hv
      obtain ⟨a, ha, rfl⟩ := hsplit y hy
      rw [h.inv ha]
      refine bare_mem.2 ⟨ha, fun j hj e => ?_⟩
      obtain ⟨i, hi, _, h3⟩ := h.back hj
      refine (bare_mem.1 hy).2 i (by rw [h.len]; exact hi) ?_
      rw [(ren_tl h3).2, e]
  simp only [List.length_map] at h1 h2
  omega
/-- The faults are of one kind. -/
theorem RenOk.kind : (chkG (renG g names order)).1 = (chkG g).1 := by
  have hm := h.may'
  have hc : (0 < (cycG (renG g names order)).length) ↔ 0 < (cycG g).length := by
    have key : ∀ g : Gr, mayB g = true → ((0 < (cycG g).length) ↔ okG g = false) := by
      intro g hm
      cases ho : okG g with
      | true => rw [cycG_ok hm ho]; simp
      | false => simp [(cycG_not hm ho).1]
    rw [key _ hm, key _ h.may, h.acyc]
  have h1 := h.loop
  have h2 := h.twice
  have h3 := h.bare
  simp only [chkG, chkOf, hm, h.may]
  simp only [Bool.true_eq_false, if_false, h1, h2, hc, h3]
  split
  · rfl
  split
  · rfl
  split
  · rfl
  split <;> rfl
end
/-- What is told of a graph that may be. -/
theorem chk_cases {g : Gr} (hm : mayB g = true) :
    (chkG g).1 = 13 ∧ (chkG g).2.2 = [] ∧ okG g = false ∨ (chkG g).1 = 14 ∧ (chkG g).2.2 = [] ∨ (chkG g).1 = 15 ∧ okG g = false ∧ Cyc g (chkG g).2.2 ∨
    (chkG g).1 = 16 ∧ okG g = true ∧ (∀ a ∈ (chkG g).2.2, ∀ i, i < g.es.length → hd g i ≠ a) ∨ (chkG g).1 = 0 ∧ (chkG g).2.2 = [] ∧ okG g = true := by
  unfold chkG chkOf
  rw [if_neg (by simp [hm])]
  split
  · rename_i hl
    refine .inl ⟨rfl, rfl, ?_⟩
    cases ho : okG g with
    | false => rfl
    | true =>
      exfalso
      obtain ⟨r, hr⟩ := (okG_iff hm).1 ho
      have := findI_any (fun e : Edge => decide (e.1 = e.2)) g.es
      have h2 : g.es.any (fun e : Edge => decide (e.1 = e.2)) = true := by rw [← this]; exact decide_eq_true hl
      obtain ⟨e, he, h3⟩ := List.any_eq_true.1 h2
      obtain ⟨i, hi, rfl⟩ := List.getElem_of_mem he
      have h4 := hr i hi
      have h5 : tl g i = hd g i := by simpa [tl, hd, List.getD_eq_getElem?_getD, List.getElem?_eq_getElem hi] using h3
      rw [h5] at h4; omega
  split
  · exact .inr (.inl ⟨rfl, rfl⟩)
  split
  · rename_i hc
    refine .inr (.inr (.inl ⟨rfl, ?_⟩))
    cases ho : okG g with
    | false => exact ⟨rfl, (cycG_not hm ho).2⟩
    | true => rw [cycG_ok hm ho] at hc; simp at hc
  rename_i hc
  have ho : okG g = true := by
    cases ho : okG g with
    | true => rfl
    | false => exact absurd (cycG_not hm ho).1 hc
  split
  · refine .inr (.inr (.inr (.inl ⟨rfl, ho, fun a ha => ?_⟩)))
    exact (bare_mem.1 (List.mem_of_mem_take ha)).2
  · exact .inr (.inr (.inr (.inr ⟨rfl, rfl, ho⟩)))
end Go.Ab
end
section
namespace Go.Ab
open Go.Proofs
attribute [local congr] ACall.congr
set_option maxRecDepth 10000
set_option maxHeartbeats 8000000

def edgeB (g : Gr) (a b : Int) : Bool := g.es.any fun e => decide (e.1 = a) && decide (e.2 = b)
theorem edge_spec (g : Gr) (a b : Int) (hl : g.es.length ≤ 9223372036854775807) : Spec Try.prog 33 (Args [eN a, eN b, .ptr 10000 0]) [(10000, rG g)] (eB (edgeB g a b)) [(10000, rG g)] := by
  unfold rG
  (refine Spec.intro (C := T.cfg [] []) (rs := [.t 5]) (T.cfg_ok _ _) Try.func33 rfl rfl Try.ntmps33 Try.results33 (by simp [AObj.isNest]) (by simp [AObj.isNest]) (by kernel_rfl) ?_; intro X hX hP hC hXn hXm vals hA; refine ⟨_, by simp, hA, ?_⟩; have hmix : X.P.follows .mixedOrders = true := (by rw [hP]; exact T.mixed); clear hXn hXm)
  repeat' (first | (first | ((with_reducible (first | apply oA | apply oB)); exact rfl; intro K hK; simp only [go_sem, simprocAttr]) | (with_reducible apply oC) | ((with_reducible refine oD ?_ ?_); first | fail | kernel_rfl) | ((with_reducible (first | apply oE | apply oF)); (iterate 3 exact rfl); all_goals (intro h; first | (exact absurd h (by decide)) | ((try simp only [go_sem, simprocAttr] at h); first | (intro K hK; simp only [go_sem, simprocAttr]) | (simp only [go_sem, simprocAttr])))) | ((with_reducible (first | apply oG | apply oH)); (iterate 3 exact rfl); simp only [go_sem, simprocAttr]) | ((with_reducible apply oI); (iterate 2 exact rfl); (intro K hK; simp only [go_sem, simprocAttr])) | (with_reducible (first | apply oJ | exact oK))) | (refine hK _ ?_; clear hK K; simp only [LA.app, ASt.put, ASt.kill, subT, rmk, putM, rml, kl, AV.sub, AV.subs, AObj.sub, go_sem, simprocAttr]) | (first | fail | (with_reducible (first | apply wA | apply wB | apply wC hX hC | apply wD hX hC | apply wE hX hC hmix | apply wF hX hC hmix | apply wG | apply wH)) | ((with_reducible (first | apply wI | apply wJ)); simp only [athen, ablock, reduceIte, Nat.reduceEqDiff]) | ((with_reducible apply wK); simp only [go_sem, simprocAttr]) | ((with_reducible apply wL); exact rfl; all_goals (try (intro h; try simp only [go_sem, simprocAttr] at h))) | ((with_reducible apply wM); exact rfl; all_goals (intro h; first | (exact absurd h (by decide)) | (try simp only [go_sem, simprocAttr] at h)))) | (with_reducible apply And.intro) | omega | fail | (intro h))
  refine awp_loopP (fun k : Nat => k ≤ g.es.length ∧ (g.es.take k).any (fun e => decide (e.1 = a) && decide (e.2 = b)) = false) (fun k => ⟨[(0, eN a), (1, eN b), (9, .d (sE g.es)), (10, eN g.es.length), (11, eN k)], [(10000, .rob [eN g.n, .d (sE g.es)])]⟩) (fun k => g.es.length - k) 0 (by simp) ?_ ?_
  · (refine Le.of ?_ ?_ <;> simp [go_sem, simprocAttr])
  rintro k ⟨hk, hp⟩
  repeat' (first | (first | ((with_reducible (first | apply oA | apply oB)); exact rfl; intro K hK; simp only [go_sem, simprocAttr]) | (with_reducible apply oC) | ((with_reducible refine oD ?_ ?_); first | fail | kernel_rfl) | ((with_reducible (first | apply oE | apply oF)); (iterate 3 exact rfl); all_goals (intro h; first | (exact absurd h (by decide)) | ((try simp only [go_sem, simprocAttr] at h); first | (intro K hK; simp only [go_sem, simprocAttr]) | (simp only [go_sem, simprocAttr])))) | ((with_reducible (first | apply oG | apply oH)); (iterate 3 exact rfl); simp only [go_sem, simprocAttr]) | ((with_reducible apply oI); (iterate 2 exact rfl); (intro K hK; simp only [go_sem, simprocAttr])) | (with_reducible (first | apply oJ | exact oK))) | (refine hK _ ?_; clear hK K; simp only [LA.app, ASt.put, ASt.kill, subT, rmk, putM, rml, kl, AV.sub, AV.subs, AObj.sub, go_sem, simprocAttr]) | (first | fail | (with_reducible (first | apply wA | apply wB | apply wC hX hC | apply wD hX hC | apply wE hX hC hmix | apply wF hX hC hmix | apply wG | apply wH)) | ((with_reducible (first | apply wI | apply wJ)); simp only [athen, ablock, reduceIte, Nat.reduceEqDiff]) | ((with_reducible apply wK); simp only [go_sem, simprocAttr]) | ((with_reducible apply wL); exact rfl; all_goals (try (intro h; try simp only [go_sem, simprocAttr] at h))) | ((with_reducible apply wM); exact rfl; all_goals (intro h; first | (exact absurd h (by decide)) | (try simp only [go_sem, simprocAttr] at h)))) | (with_reducible apply And.intro) | omega | fail | (intro h))
  · have : edgeB g a b = true := any_at (d := (0, 0)) (k := k) (by omega) (by simp only [Bool.and_eq_true, decide_eq_true_eq]; omega)
    rw [this]
  · refine ⟨k + 1, ⟨by omega, any_next (0, 0) (by omega) hp ?_⟩, ?_, by omega⟩
    · simp only [Bool.and_eq_false_iff, decide_eq_false_iff_not]; exact .inr h
    · (refine Le.of ?_ ?_ <;> simp [go_sem, simprocAttr])
  · refine ⟨k + 1, ⟨by omega, any_next (0, 0) (by omega) hp ?_⟩, ?_, by omega⟩
    · simp only [Bool.and_eq_false_iff, decide_eq_false_iff_not]; exact .inl (by assumption)
    · (refine Le.of ?_ ?_ <;> simp [go_sem, simprocAttr])
  · rw [List.take_of_length_le (by omega)] at hp
    exact hp.symm
theorem edgeB_iff {g : Gr} {a b : Int} : edgeB g a b = true ↔ Ed g a b := by
  simp only [edgeB, List.any_eq_true, Bool.and_eq_true, decide_eq_true_eq]
  constructor
  · rintro ⟨e, he, h1, h2⟩
    obtain ⟨i, hi, rfl⟩ := List.getElem_of_mem he
    exact ⟨i, hi, by simpa [tl, List.getD_eq_getElem?_getD, List.getElem?_eq_getElem hi] using h1, by simpa [hd, List.getD_eq_getElem?_getD, List.getElem?_eq_getElem hi] using h2⟩
  · rintro ⟨i, hi, h1, h2⟩
    exact ⟨_, List.getElem_mem hi, by simpa [tl, List.getD_eq_getElem?_getD, List.getElem?_eq_getElem hi] using h1, by simpa [hd, List.getD_eq_getElem?_getD, List.getElem?_eq_getElem hi] using h2⟩
theorem graphKinds_spec (g : Gr) (names order : List Int) (hl : g.es.length ≤ 9223372036854775807) (hln : names.length ≤ 9223372036854775807) (hlo : order.length ≤ 9223372036854775807) :
    Spec Try.prog 7 (Args [eG g, .d (sI names), .d (sI order)]) [] (eB true) [] := by
  (refine Spec.intro (C := T.cfg [] []) (rs := [.t 6]) (T.cfg_ok _ _) Try.func7 rfl rfl Try.ntmps7 Try.results7 (by simp [AObj.isNest]) (by simp [AObj.isNest]) (by kernel_rfl) ?_; intro X hX hP hC hXn hXm vals hA; refine ⟨_, by simp, hA, ?_⟩; have hmix : X.P.follows .mixedOrders = true := (by rw [hP]; exact T.mixed); clear hXn hXm)
  cases hok : renOk g names order with
  | false =>
    cases h1 : mayB g with
    | false =>
      repeat' (first | (first | ((with_reducible (first | apply oA | apply oB)); exact rfl; intro K hK; simp only [go_sem, simprocAttr, h1]) | (with_reducible apply oC) | ((with_reducible refine oD ?_ ?_); first | fail | kernel_rfl) | ((with_reducible (first | apply oE | apply oF)); (iterate 3 exact rfl); all_goals (intro h; first | (exact absurd h (by decide)) | ((try simp only [go_sem, simprocAttr, h1] at h); first | (intro K hK; simp only [go_sem, simprocAttr, h1]) | (simp only [go_sem, simprocAttr, h1])))) | ((with_reducible (first | apply oG | apply oH)); (iterate 3 exact rfl); simp only [go_sem, simprocAttr, h1]) | ((with_reducible apply oI); (iterate 2 exact rfl); (intro K hK; simp only [go_sem, simprocAttr, h1])) | (with_reducible (first | apply oJ | exact oK))) | (refine hK _ ?_; clear hK K; simp only [LA.app, ASt.put, ASt.kill, subT, rmk, putM, rml, kl, AV.sub, AV.subs, AObj.sub, go_sem, simprocAttr, h1]) | (first | fail | (with_reducible (first | apply wA | apply wB | apply wC hX hC | apply wD hX hC | apply wE hX hC hmix | apply wF hX hC hmix | apply wG | apply wH)) | ((with_reducible (first | apply wI | apply wJ)); simp only [athen, ablock, reduceIte, Nat.reduceEqDiff]) | ((with_reducible apply wK); simp only [go_sem, simprocAttr, h1]) | ((with_reducible apply wL); exact rfl; all_goals (try (intro h; try simp only [go_sem, simprocAttr, h1] at h))) | ((with_reducible apply wM); exact rfl; all_goals (intro h; first | (exact absurd h (by decide)) | (try simp only [go_sem, simprocAttr, h1] at h)))) | (with_reducible apply And.intro) | omega | first | (refine acall_simple hX hC hP (speaks_spec) rfl rfl rfl (by simp only [go_sem, simprocAttr, h1]) rfl ?_; simp only [go_sem, simprocAttr, h1]) | (refine acall_simple hX hC hP (refMay_spec g hl) rfl rfl rfl (by simp only [go_sem, simprocAttr, h1]) rfl ?_; simp only [go_sem, simprocAttr, h1]) | (refine acall_simple hX hC hP (each_spec names g.n hln) rfl rfl rfl (by simp only [go_sem, simprocAttr, h1]) rfl ?_; simp only [go_sem, simprocAttr, h1]) | (refine acall_simple hX hC hP (each_spec order (g.es.length : Int) hlo) rfl rfl rfl (by simp only [go_sem, simprocAttr, h1]) rfl ?_; simp only [go_sem, simprocAttr, h1]) | (intro h))
    | true =>
    cases h2 : eachB names g.n with
    | false =>
      repeat' (first | (first | ((with_reducible (first | apply oA | apply oB)); exact rfl; intro K hK; simp only [go_sem, simprocAttr, h1, h2]) | (with_reducible apply oC) | ((with_reducible refine oD ?_ ?_); first | fail | kernel_rfl) | ((with_reducible (first | apply oE | apply oF)); (iterate 3 exact rfl); all_goals (intro h; first | (exact absurd h (by decide)) | ((try simp only [go_sem, simprocAttr, h1, h2] at h); first | (intro K hK; simp only [go_sem, simprocAttr, h1, h2]) | (simp only [go_sem, simprocAttr, h1, h2])))) | ((with_reducible (first | apply oG | apply oH)); (iterate 3 exact rfl); simp only [go_sem, simprocAttr, h1, h2]) | ((with_reducible apply oI); (iterate 2 exact rfl); (intro K hK; simp only [go_sem, simprocAttr, h1, h2])) | (with_reducible (first | apply oJ | exact oK))) | (refine hK _ ?_; clear hK K; simp only [LA.app, ASt.put, ASt.kill, subT, rmk, putM, rml, kl, AV.sub, AV.subs, AObj.sub, go_sem, simprocAttr, h1, h2]) | (first | fail | (with_reducible (first | apply wA | apply wB | apply wC hX hC | apply wD hX hC | apply wE hX hC hmix | apply wF hX hC hmix | apply wG | apply wH)) | ((with_reducible (first | apply wI | apply wJ)); simp only [athen, ablock, reduceIte, Nat.reduceEqDiff]) | ((with_reducible apply wK); simp only [go_sem, simprocAttr, h1, h2]) | ((with_reducible apply wL); exact rfl; all_goals (try (intro h; try simp only [go_sem, simprocAttr, h1, h2] at h))) | ((with_reducible apply wM); exact rfl; all_goals (intro h; first | (exact absurd h (by decide)) | (try simp only [go_sem, simprocAttr, h1, h2] at h)))) | (with_reducible apply And.intro) | omega | first | (refine acall_simple hX hC hP (speaks_spec) rfl rfl rfl (by simp only [go_sem, simprocAttr, h1, h2]) rfl ?_; simp only [go_sem, simprocAttr, h1, h2]) | (refine acall_simple hX hC hP (refMay_spec g hl) rfl rfl rfl (by simp only [go_sem, simprocAttr, h1, h2]) rfl ?_; simp only [go_sem, simprocAttr, h1, h2]) | (refine acall_simple hX hC hP (each_spec names g.n hln) rfl rfl rfl (by simp only [go_sem, simprocAttr, h1, h2]) rfl ?_; simp only [go_sem, simprocAttr, h1, h2]) | (refine acall_simple hX hC hP (each_spec order (g.es.length : Int) hlo) rfl rfl rfl (by simp only [go_sem, simprocAttr, h1, h2]) rfl ?_; simp only [go_sem, simprocAttr, h1, h2]) | (intro h))
    | true =>
    have h3 : eachB order g.es.length = false := by simpa [renOk, h1, h2] using hok
    repeat' (first | (first | ((with_reducible (first | apply oA | apply oB)); exact rfl; intro K hK; simp only [go_sem, simprocAttr, h1, h2, h3]) | (with_reducible apply oC) | ((with_reducible refine oD ?_ ?_); first | fail | kernel_rfl) | ((with_reducible (first | apply oE | apply oF)); (iterate 3 exact rfl); all_goals (intro h; first | (exact absurd h (by decide)) | ((try simp only [go_sem, simprocAttr, h1, h2, h3] at h); first | (intro K hK; simp only [go_sem, simprocAttr, h1, h2, h3]) | (simp only [go_sem, simprocAttr, h1, h2, h3])))) | ((with_reducible (first | apply oG | apply oH)); (iterate 3 exact rfl); simp only [go_sem, simprocAttr, h1, h2, h3]) | ((with_reducible apply oI); (iterate 2 exact rfl); (intro K hK; simp only [go_sem, simprocAttr, h1, h2, h3])) | (with_reducible (first | apply oJ | exact oK))) | (refine hK _ ?_; clear hK K; simp only [LA.app, ASt.put, ASt.kill, subT, rmk, putM, rml, kl, AV.sub, AV.subs, AObj.sub, go_sem, simprocAttr, h1, h2, h3]) | (first | fail | (with_reducible (first | apply wA | apply wB | apply wC hX hC | apply wD hX hC | apply wE hX hC hmix | apply wF hX hC hmix | apply wG | apply wH)) | ((with_reducible (first | apply wI | apply wJ)); simp only [athen, ablock, reduceIte, Nat.reduceEqDiff]) | ((with_reducible apply wK); simp only [go_sem, simprocAttr, h1, h2, h3]) | ((with_reducible apply wL); exact rfl; all_goals (try (intro h; try simp only [go_sem, simprocAttr, h1, h2, h3] at h))) | ((with_reducible apply wM); exact rfl; all_goals (intro h; first | (exact absurd h (by decide)) | (try simp only [go_sem, simprocAttr, h1, h2, h3] at h)))) | (with_reducible apply And.intro) | omega | first | (refine acall_simple hX hC hP (speaks_spec) rfl rfl rfl (by simp only [go_sem, simprocAttr, h1, h2, h3]) rfl ?_; simp only [go_sem, simprocAttr, h1, h2, h3]) | (refine acall_simple hX hC hP (refMay_spec g hl) rfl rfl rfl (by simp only [go_sem, simprocAttr, h1, h2, h3]) rfl ?_; simp only [go_sem, simprocAttr, h1, h2, h3]) | (refine acall_simple hX hC hP (each_spec names g.n hln) rfl rfl rfl (by simp only [go_sem, simprocAttr, h1, h2, h3]) rfl ?_; simp only [go_sem, simprocAttr, h1, h2, h3]) | (refine acall_simple hX hC hP (each_spec order (g.es.length : Int) hlo) rfl rfl rfl (by simp only [go_sem, simprocAttr, h1, h2, h3]) rfl ?_; simp only [go_sem, simprocAttr, h1, h2, h3]) | (intro h))
  | true =>
  have hR := renOk_iff.1 hok
  have h1 := hR.may
  have h2 := hR.nms
  have h3 := hR.ord
  have hn := mayB_n h1
  have hol := (eachB_iff.1 h3).1
  have hnl := (eachB_iff.1 h2).1
  have hn1 : names.length ≤ 1000000 := by omega
  have ho1 : order.length ≤ 1000000 := by omega
  have hl1 : g.es.length ≤ 1000 := by omega
  have hxl := hR.len
  have hxm := hR.may'
  obtain ⟨x, hx⟩ : ∃ x, x = renG g names order := ⟨_, rfl⟩
  have hkind := hR.kind
  have hrn : renR g names order = x := by rw [hx]; simp [renR, hok]
  rw [← hx] at hxl hxm hkind
  have hlx : x.es.length ≤ 1000 := by omega
  have hlx' : x.es.length ≤ 9223372036854775807 := by omega
  have hcl := chk_len x hlx
  repeat' (first | (first | ((with_reducible (first | apply oA | apply oB)); exact rfl; intro K hK; simp only [go_sem, simprocAttr, hok, if_true, h1, h2, h3, hrn, hkind]) | (with_reducible apply oC) | ((with_reducible refine oD ?_ ?_); first | fail | kernel_rfl) | ((with_reducible (first | apply oE | apply oF)); (iterate 3 exact rfl); all_goals (intro h; first | (exact absurd h (by decide)) | ((try simp only [go_sem, simprocAttr, hok, if_true, h1, h2, h3, hrn, hkind] at h); first | (intro K hK; simp only [go_sem, simprocAttr, hok, if_true, h1, h2, h3, hrn, hkind]) | (simp only [go_sem, simprocAttr, hok, if_true, h1, h2, h3, hrn, hkind])))) | ((with_reducible (first | apply oG | apply oH)); (iterate 3 exact rfl); simp only [go_sem, simprocAttr, hok, if_true, h1, h2, h3, hrn, hkind]) | ((with_reducible apply oI); (iterate 2 exact rfl); (intro K hK; simp only [go_sem, simprocAttr, hok, if_true, h1, h2, h3, hrn, hkind])) | (with_reducible (first | apply oJ | exact oK))) | (refine hK _ ?_; clear hK K; simp only [LA.app, ASt.put, ASt.kill, subT, rmk, putM, rml, kl, AV.sub, AV.subs, AObj.sub, go_sem, simprocAttr, hok, if_true, h1, h2, h3, hrn, hkind]) | (first | fail | (with_reducible (first | apply wA | apply wB | apply wC hX hC | apply wD hX hC | apply wE hX hC hmix | apply wF hX hC hmix | apply wG | apply wH)) | ((with_reducible (first | apply wI | apply wJ)); simp only [athen, ablock, reduceIte, Nat.reduceEqDiff]) | ((with_reducible apply wK); simp only [go_sem, simprocAttr, hok, if_true, h1, h2, h3, hrn, hkind]) | ((with_reducible apply wL); exact rfl; all_goals (try (intro h; try simp only [go_sem, simprocAttr, hok, if_true, h1, h2, h3, hrn, hkind] at h))) | ((with_reducible apply wM); exact rfl; all_goals (intro h; first | (exact absurd h (by decide)) | (try simp only [go_sem, simprocAttr, hok, if_true, h1, h2, h3, hrn, hkind] at h)))) | (with_reducible apply And.intro) | omega | first | (refine acall_simple hX hC hP (speaks_spec) rfl rfl rfl (by simp only [go_sem, simprocAttr, hok, if_true, h1, h2, h3, hrn, hkind]) rfl ?_; simp only [go_sem, simprocAttr, hok, if_true, h1, h2, h3, hrn, hkind]) | (refine acall_simple hX hC hP (refMay_spec g hl) rfl rfl rfl (by simp only [go_sem, simprocAttr, hok, if_true, h1, h2, h3, hrn, hkind]) rfl ?_; simp only [go_sem, simprocAttr, hok, if_true, h1, h2, h3, hrn, hkind]) | (refine acall_simple hX hC hP (each_spec names g.n hln) rfl rfl rfl (by simp only [go_sem, simprocAttr, hok, if_true, h1, h2, h3, hrn, hkind]) rfl ?_; simp only [go_sem, simprocAttr, hok, if_true, h1, h2, h3, hrn, hkind]) | (refine acall_simple hX hC hP (each_spec order (g.es.length : Int) hlo) rfl rfl rfl (by simp only [go_sem, simprocAttr, hok, if_true, h1, h2, h3, hrn, hkind]) rfl ?_; simp only [go_sem, simprocAttr, hok, if_true, h1, h2, h3, hrn, hkind]) | (refine acall_simple hX hC hP (rename_spec g names order hl hn1 ho1) rfl rfl rfl (by simp only [go_sem, simprocAttr, hok, if_true, h1, h2, h3, hrn, hkind]) rfl ?_; simp only [go_sem, simprocAttr, hok, if_true, h1, h2, h3, hrn, hkind]) | (refine acall_simple hX hC hP (check_spec g hl1) rfl rfl rfl (by simp only [go_sem, simprocAttr, hok, if_true, h1, h2, h3, hrn, hkind]) rfl ?_; simp only [go_sem, simprocAttr, hok, if_true, h1, h2, h3, hrn, hkind]) | (refine acall_simple hX hC hP (check_spec x hlx) rfl rfl rfl (by simp only [go_sem, simprocAttr, hok, if_true, h1, h2, h3, hrn, hkind]) rfl ?_; simp only [go_sem, simprocAttr, hok, if_true, h1, h2, h3, hrn, hkind]) | (intro h))
  have hcs := chk_cases hxm
  rw [hkind] at hcs
  have hnx := mayB_n hxm
  generalize hL : (chkG x).2.2 = L at hcs hcl ⊢
  generalize (chkG g).1 = c at hcs ⊢
  refine awp_loopP (fun k : Nat => k ≤ L.length) (fun k => ⟨[(62, eN k), (61, eN L.length), (60, .d (sI L)), (11, .fn 33 [] [.ptr 7 0]), (7, .ptr 7 0), (10, .ptr 10 0), (8, eN 0)], [(10, .box [eN c, eN (chkG x).2.1, .d (sI L)]), (7, .box [eN x.n, .d (sE x.es)])]⟩) (fun k => L.length - k) 0 (by simp) ?_ ?_
  · refine Le.of ?_ ?_ <;> simp [go_sem, simprocAttr, hok, if_true, h1, h2, h3, hrn, hkind]
  rintro k hk
  rcases Nat.lt_or_ge k L.length with hlt | hge
  · have hb1 : decide ((k : Int) < (L.length : Int)) = true := decide_eq_true (by omega)
    have h0 : 0 < L.length := by omega
    have htm : ((k : Int) + 1).tmod (L.length : Int) = (((k + 1) % L.length : Nat) : Int) := by
      rw [Int.tmod_eq_emod_of_nonneg (by omega)]; rfl
    have hmod := Nat.mod_lt (k + 1) h0
    rcases hcs with ⟨_, rfl, _⟩ | ⟨_, rfl⟩ | ⟨rfl, ho, hcyc⟩ | ⟨rfl, ho, hsrc⟩ | ⟨_, rfl, _⟩
    · simp at hlt
    · simp at hlt
    · have he : edgeB x (L.getD k 0) (L.getD ((k + 1) % L.length) 0) = true := edgeB_iff.2 (hcyc k hlt)
      repeat' (first | (first | ((with_reducible (first | apply oA | apply oB)); exact rfl; intro K hK; simp only [go_sem, simprocAttr, hb1, htm, he]) | (with_reducible apply oC) | ((with_reducible refine oD ?_ ?_); first | fail | kernel_rfl) | ((with_reducible (first | apply oE | apply oF)); (iterate 3 exact rfl); all_goals (intro h; first | (exact absurd h (by decide)) | ((try simp only [go_sem, simprocAttr, hb1, htm, he] at h); first | (intro K hK; simp only [go_sem, simprocAttr, hb1, htm, he]) | (simp only [go_sem, simprocAttr, hb1, htm, he])))) | ((with_reducible (first | apply oG | apply oH)); (iterate 3 exact rfl); simp only [go_sem, simprocAttr, hb1, htm, he]) | ((with_reducible apply oI); (iterate 2 exact rfl); (intro K hK; simp only [go_sem, simprocAttr, hb1, htm, he])) | (with_reducible (first | apply oJ | exact oK))) | (refine hK _ ?_; clear hK K; simp only [LA.app, ASt.put, ASt.kill, subT, rmk, putM, rml, kl, AV.sub, AV.subs, AObj.sub, go_sem, simprocAttr, hb1, htm, he]) | (first | fail | (with_reducible (first | apply wA | apply wB | apply wC hX hC | apply wD hX hC | apply wE hX hC hmix | apply wF hX hC hmix | apply wG | apply wH)) | ((with_reducible (first | apply wI | apply wJ)); simp only [athen, ablock, reduceIte, Nat.reduceEqDiff]) | ((with_reducible apply wK); simp only [go_sem, simprocAttr, hb1, htm, he]) | ((with_reducible apply wL); exact rfl; all_goals (try (intro h; try simp only [go_sem, simprocAttr, hb1, htm, he] at h))) | ((with_reducible apply wM); exact rfl; all_goals (intro h; first | (exact absurd h (by decide)) | (try simp only [go_sem, simprocAttr, hb1, htm, he] at h)))) | (with_reducible apply And.intro) | omega | first | (refine acall_rob hX hC hP [(10000, 7)] (edge_spec x (L.getD k 0) (L.getD ((k + 1) % L.length) 0) hlx') rfl rfl rfl ?_ ?_ ?_ ?_ ?_ ?_ rfl rfl ?_ ?_; (focus (simp only [go_sem, simprocAttr, hb1, htm, he]; done)); (iterate 6 (focus (simp [go_sem, simprocAttr, hb1, htm, he]; done))); simp only [go_sem, simprocAttr, hb1, htm, he, List.map_cons, List.map_nil]) | (intro h))
      refine awp_loopP (fun b : Nat => (b : Int) ≤ x.n) (fun b => ⟨[(13, eN (L.getD k 0)), (14, eN b), (62, eN k), (61, eN L.length), (60, .d (sI L)), (11, .fn 33 [] [.ptr 7 0]), (7, .ptr 7 0), (10, .ptr 10 0), (8, eN 0)], [(10, .box [eN 15, eN (chkG x).2.1, .d (sI L)]), (7, .box [eN x.n, .d (sE x.es)])]⟩) (fun b => x.n.toNat - b) 0 (by omega) ?_ ?_
      · refine Le.of ?_ ?_ <;> simp [go_sem, simprocAttr]
      rintro b hb
      repeat' (first | (first | ((with_reducible (first | apply oA | apply oB)); exact rfl; intro K hK; simp only [go_sem, simprocAttr]) | (with_reducible apply oC) | ((with_reducible refine oD ?_ ?_); first | fail | kernel_rfl) | ((with_reducible (first | apply oE | apply oF)); (iterate 3 exact rfl); all_goals (intro h; first | (exact absurd h (by decide)) | ((try simp only [go_sem, simprocAttr] at h); first | (intro K hK; simp only [go_sem, simprocAttr]) | (simp only [go_sem, simprocAttr])))) | ((with_reducible (first | apply oG | apply oH)); (iterate 3 exact rfl); simp only [go_sem, simprocAttr]) | ((with_reducible apply oI); (iterate 2 exact rfl); (intro K hK; simp only [go_sem, simprocAttr])) | (with_reducible (first | apply oJ | exact oK))) | (refine hK _ ?_; clear hK K; simp only [LA.app, ASt.put, ASt.kill, subT, rmk, putM, rml, kl, AV.sub, AV.subs, AObj.sub, go_sem, simprocAttr]) | (first | fail | (with_reducible (first | apply wA | apply wB | apply wC hX hC | apply wD hX hC | apply wE hX hC hmix | apply wF hX hC hmix | apply wG | apply wH)) | ((with_reducible (first | apply wI | apply wJ)); simp only [athen, ablock, reduceIte, Nat.reduceEqDiff]) | ((with_reducible apply wK); simp only [go_sem, simprocAttr]) | ((with_reducible apply wL); exact rfl; all_goals (try (intro h; try simp only [go_sem, simprocAttr] at h))) | ((with_reducible apply wM); exact rfl; all_goals (intro h; first | (exact absurd h (by decide)) | (try simp only [go_sem, simprocAttr] at h)))) | (with_reducible apply And.intro) | omega | first | (refine acall_rob hX hC hP [(10000, 7)] (edge_spec x (L.getD k 0) (L.getD ((k + 1) % L.length) 0) hlx') rfl rfl rfl ?_ ?_ ?_ ?_ ?_ ?_ rfl rfl ?_ ?_; (focus (simp only [go_sem, simprocAttr]; done)); (iterate 6 (focus (simp [go_sem, simprocAttr]; done))); simp only [go_sem, simprocAttr, List.map_cons, List.map_nil]) | (intro h))
      refine ⟨k + 1, by omega, ?_, by omega⟩
      refine Le.of ?_ ?_ <;> simp [go_sem, simprocAttr]
    · have ha : ∀ b : Int, edgeB x b (L.getD k 0) = false := fun b => by
        cases h : edgeB x b (L.getD k 0) with
        | false => rfl
        | true =>
          obtain ⟨i, hi, _, h5⟩ := edgeB_iff.1 h
          exact absurd h5 (hsrc _ (getD_mem hlt) i hi)
      repeat' (first | (first | ((with_reducible (first | apply oA | apply oB)); exact rfl; intro K hK; simp only [go_sem, simprocAttr, hb1]) | (with_reducible apply oC) | ((with_reducible refine oD ?_ ?_); first | fail | kernel_rfl) | ((with_reducible (first | apply oE | apply oF)); (iterate 3 exact rfl); all_goals (intro h; first | (exact absurd h (by decide)) | ((try simp only [go_sem, simprocAttr, hb1] at h); first | (intro K hK; simp only [go_sem, simprocAttr, hb1]) | (simp only [go_sem, simprocAttr, hb1])))) | ((with_reducible (first | apply oG | apply oH)); (iterate 3 exact rfl); simp only [go_sem, simprocAttr, hb1]) | ((with_reducible apply oI); (iterate 2 exact rfl); (intro K hK; simp only [go_sem, simprocAttr, hb1])) | (with_reducible (first | apply oJ | exact oK))) | (refine hK _ ?_; clear hK K; simp only [LA.app, ASt.put, ASt.kill, subT, rmk, putM, rml, kl, AV.sub, AV.subs, AObj.sub, go_sem, simprocAttr, hb1]) | (first | fail | (with_reducible (first | apply wA | apply wB | apply wC hX hC | apply wD hX hC | apply wE hX hC hmix | apply wF hX hC hmix | apply wG | apply wH)) | ((with_reducible (first | apply wI | apply wJ)); simp only [athen, ablock, reduceIte, Nat.reduceEqDiff]) | ((with_reducible apply wK); simp only [go_sem, simprocAttr, hb1]) | ((with_reducible apply wL); exact rfl; all_goals (try (intro h; try simp only [go_sem, simprocAttr, hb1] at h))) | ((with_reducible apply wM); exact rfl; all_goals (intro h; first | (exact absurd h (by decide)) | (try simp only [go_sem, simprocAttr, hb1] at h)))) | (with_reducible apply And.intro) | omega | first | (refine acall_rob hX hC hP [(10000, 7)] (edge_spec x (L.getD k 0) (L.getD ((k + 1) % L.length) 0) hlx') rfl rfl rfl ?_ ?_ ?_ ?_ ?_ ?_ rfl rfl ?_ ?_; (focus (simp only [go_sem, simprocAttr, hb1]; done)); (iterate 6 (focus (simp [go_sem, simprocAttr, hb1]; done))); simp only [go_sem, simprocAttr, hb1, List.map_cons, List.map_nil]) | (intro h))
      refine awp_loopP (fun b : Nat => (b : Int) ≤ x.n) (fun b => ⟨[(13, eN (L.getD k 0)), (14, eN b), (62, eN k), (61, eN L.length), (60, .d (sI L)), (11, .fn 33 [] [.ptr 7 0]), (7, .ptr 7 0), (10, .ptr 10 0), (8, eN 0)], [(10, .box [eN 16, eN (chkG x).2.1, .d (sI L)]), (7, .box [eN x.n, .d (sE x.es)])]⟩) (fun b => x.n.toNat - b) 0 (by omega) ?_ ?_
      · refine Le.of ?_ ?_ <;> simp [go_sem, simprocAttr]
      rintro b hb
      rcases Classical.em ((b : Int) < x.n) with hbl | hbg
      · have hb2 : decide ((b : Int) < x.n) = true := decide_eq_true hbl
        repeat' (first | (first | ((with_reducible (first | apply oA | apply oB)); exact rfl; intro K hK; simp only [go_sem, simprocAttr, hb2, ha]) | (with_reducible apply oC) | ((with_reducible refine oD ?_ ?_); first | fail | kernel_rfl) | ((with_reducible (first | apply oE | apply oF)); (iterate 3 exact rfl); all_goals (intro h; first | (exact absurd h (by decide)) | ((try simp only [go_sem, simprocAttr, hb2, ha] at h); first | (intro K hK; simp only [go_sem, simprocAttr, hb2, ha]) | (simp only [go_sem, simprocAttr, hb2, ha])))) | ((with_reducible (first | apply oG | apply oH)); (iterate 3 exact rfl); simp only [go_sem, simprocAttr, hb2, ha]) | ((with_reducible apply oI); (iterate 2 exact rfl); (intro K hK; simp only [go_sem, simprocAttr, hb2, ha])) | (with_reducible (first | apply oJ | exact oK))) | (refine hK _ ?_; clear hK K; simp only [LA.app, ASt.put, ASt.kill, subT, rmk, putM, rml, kl, AV.sub, AV.subs, AObj.sub, go_sem, simprocAttr, hb2, ha]) | (first | fail | (with_reducible (first | apply wA | apply wB | apply wC hX hC | apply wD hX hC | apply wE hX hC hmix | apply wF hX hC hmix | apply wG | apply wH)) | ((with_reducible (first | apply wI | apply wJ)); simp only [athen, ablock, reduceIte, Nat.reduceEqDiff]) | ((with_reducible apply wK); simp only [go_sem, simprocAttr, hb2, ha]) | ((with_reducible apply wL); exact rfl; all_goals (try (intro h; try simp only [go_sem, simprocAttr, hb2, ha] at h))) | ((with_reducible apply wM); exact rfl; all_goals (intro h; first | (exact absurd h (by decide)) | (try simp only [go_sem, simprocAttr, hb2, ha] at h)))) | (with_reducible apply And.intro) | omega | first | (refine acall_rob hX hC hP [(10000, 7)] (edge_spec x (b : Int) (L.getD k 0) hlx') rfl rfl rfl ?_ ?_ ?_ ?_ ?_ ?_ rfl rfl ?_ ?_; (focus (simp only [go_sem, simprocAttr, hb2, ha]; done)); (iterate 6 (focus (simp [go_sem, simprocAttr, hb2, ha]; done))); simp only [go_sem, simprocAttr, hb2, ha, List.map_cons, List.map_nil]) | (intro h))
        refine ⟨b + 1, by omega, ?_, by omega⟩
        refine Le.of ?_ ?_ <;> simp [go_sem, simprocAttr]
      · have hb2 : decide ((b : Int) < x.n) = false := decide_eq_false (by omega)
        repeat' (first | (first | ((with_reducible (first | apply oA | apply oB)); exact rfl; intro K hK; simp only [go_sem, simprocAttr, hb2]) | (with_reducible apply oC) | ((with_reducible refine oD ?_ ?_); first | fail | kernel_rfl) | ((with_reducible (first | apply oE | apply oF)); (iterate 3 exact rfl); all_goals (intro h; first | (exact absurd h (by decide)) | ((try simp only [go_sem, simprocAttr, hb2] at h); first | (intro K hK; simp only [go_sem, simprocAttr, hb2]) | (simp only [go_sem, simprocAttr, hb2])))) | ((with_reducible (first | apply oG | apply oH)); (iterate 3 exact rfl); simp only [go_sem, simprocAttr, hb2]) | ((with_reducible apply oI); (iterate 2 exact rfl); (intro K hK; simp only [go_sem, simprocAttr, hb2])) | (with_reducible (first | apply oJ | exact oK))) | (refine hK _ ?_; clear hK K; simp only [LA.app, ASt.put, ASt.kill, subT, rmk, putM, rml, kl, AV.sub, AV.subs, AObj.sub, go_sem, simprocAttr, hb2]) | (first | fail | (with_reducible (first | apply wA | apply wB | apply wC hX hC | apply wD hX hC | apply wE hX hC hmix | apply wF hX hC hmix | apply wG | apply wH)) | ((with_reducible (first | apply wI | apply wJ)); simp only [athen, ablock, reduceIte, Nat.reduceEqDiff]) | ((with_reducible apply wK); simp only [go_sem, simprocAttr, hb2]) | ((with_reducible apply wL); exact rfl; all_goals (try (intro h; try simp only [go_sem, simprocAttr, hb2] at h))) | ((with_reducible apply wM); exact rfl; all_goals (intro h; first | (exact absurd h (by decide)) | (try simp only [go_sem, simprocAttr, hb2] at h)))) | (with_reducible apply And.intro) | omega | first | (refine acall_rob hX hC hP [(10000, 7)] (edge_spec x (b : Int) (L.getD k 0) hlx') rfl rfl rfl ?_ ?_ ?_ ?_ ?_ ?_ rfl rfl ?_ ?_; (focus (simp only [go_sem, simprocAttr, hb2]; done)); (iterate 6 (focus (simp [go_sem, simprocAttr, hb2]; done))); simp only [go_sem, simprocAttr, hb2, List.map_cons, List.map_nil]) | (intro h))
        refine ⟨k + 1, by omega, ?_, by omega⟩
        refine Le.of ?_ ?_ <;> simp [go_sem, simprocAttr]
    · simp at hlt
  · have hb1 : decide ((k : Int) < (L.length : Int)) = false := decide_eq_false (by omega)
    rcases hcs with ⟨rfl, _, ho⟩ | ⟨rfl, _⟩ | ⟨rfl, ho, _⟩ | ⟨rfl, ho, _⟩ | ⟨rfl, _, ho⟩
    · 
      repeat' (first | (first | ((with_reducible (first | apply oA | apply oB)); exact rfl; intro K hK; simp only [go_sem, simprocAttr, hb1, ho]) | (with_reducible apply oC) | ((with_reducible refine oD ?_ ?_); first | fail | kernel_rfl) | ((with_reducible (first | apply oE | apply oF)); (iterate 3 exact rfl); all_goals (intro h; first | (exact absurd h (by decide)) | ((try simp only [go_sem, simprocAttr, hb1, ho] at h); first | (intro K hK; simp only [go_sem, simprocAttr, hb1, ho]) | (simp only [go_sem, simprocAttr, hb1, ho])))) | ((with_reducible (first | apply oG | apply oH)); (iterate 3 exact rfl); simp only [go_sem, simprocAttr, hb1, ho]) | ((with_reducible apply oI); (iterate 2 exact rfl); (intro K hK; simp only [go_sem, simprocAttr, hb1, ho])) | (with_reducible (first | apply oJ | exact oK))) | (refine hK _ ?_; clear hK K; simp only [LA.app, ASt.put, ASt.kill, subT, rmk, putM, rml, kl, AV.sub, AV.subs, AObj.sub, go_sem, simprocAttr, hb1, ho]) | (first | fail | (with_reducible (first | apply wA | apply wB | apply wC hX hC | apply wD hX hC | apply wE hX hC hmix | apply wF hX hC hmix | apply wG | apply wH)) | ((with_reducible (first | apply wI | apply wJ)); simp only [athen, ablock, reduceIte, Nat.reduceEqDiff]) | ((with_reducible apply wK); simp only [go_sem, simprocAttr, hb1, ho]) | ((with_reducible apply wL); exact rfl; all_goals (try (intro h; try simp only [go_sem, simprocAttr, hb1, ho] at h))) | ((with_reducible apply wM); exact rfl; all_goals (intro h; first | (exact absurd h (by decide)) | (try simp only [go_sem, simprocAttr, hb1, ho] at h)))) | (with_reducible apply And.intro) | omega | first | (refine acall_simple hX hC hP (of_spec x hxm) rfl rfl rfl (by simp only [go_sem, simprocAttr, hb1, ho]) rfl ?_; simp only [go_sem, simprocAttr, hb1, ho]) | (refine acall_simple hX hC hP (order_spec x hxm) rfl rfl rfl (by simp only [go_sem, simprocAttr, hb1, ho]) rfl ?_; simp only [go_sem, simprocAttr, hb1, ho]) | (intro h))
    · cases ho : okG x <;> (
      repeat' (first | (first | ((with_reducible (first | apply oA | apply oB)); exact rfl; intro K hK; simp only [go_sem, simprocAttr, hb1, ho]) | (with_reducible apply oC) | ((with_reducible refine oD ?_ ?_); first | fail | kernel_rfl) | ((with_reducible (first | apply oE | apply oF)); (iterate 3 exact rfl); all_goals (intro h; first | (exact absurd h (by decide)) | ((try simp only [go_sem, simprocAttr, hb1, ho] at h); first | (intro K hK; simp only [go_sem, simprocAttr, hb1, ho]) | (simp only [go_sem, simprocAttr, hb1, ho])))) | ((with_reducible (first | apply oG | apply oH)); (iterate 3 exact rfl); simp only [go_sem, simprocAttr, hb1, ho]) | ((with_reducible apply oI); (iterate 2 exact rfl); (intro K hK; simp only [go_sem, simprocAttr, hb1, ho])) | (with_reducible (first | apply oJ | exact oK))) | (refine hK _ ?_; clear hK K; simp only [LA.app, ASt.put, ASt.kill, subT, rmk, putM, rml, kl, AV.sub, AV.subs, AObj.sub, go_sem, simprocAttr, hb1, ho]) | (first | fail | (with_reducible (first | apply wA | apply wB | apply wC hX hC | apply wD hX hC | apply wE hX hC hmix | apply wF hX hC hmix | apply wG | apply wH)) | ((with_reducible (first | apply wI | apply wJ)); simp only [athen, ablock, reduceIte, Nat.reduceEqDiff]) | ((with_reducible apply wK); simp only [go_sem, simprocAttr, hb1, ho]) | ((with_reducible apply wL); exact rfl; all_goals (try (intro h; try simp only [go_sem, simprocAttr, hb1, ho] at h))) | ((with_reducible apply wM); exact rfl; all_goals (intro h; first | (exact absurd h (by decide)) | (try simp only [go_sem, simprocAttr, hb1, ho] at h)))) | (with_reducible apply And.intro) | omega | first | (refine acall_simple hX hC hP (of_spec x hxm) rfl rfl rfl (by simp only [go_sem, simprocAttr, hb1, ho]) rfl ?_; simp only [go_sem, simprocAttr, hb1, ho]) | (refine acall_simple hX hC hP (order_spec x hxm) rfl rfl rfl (by simp only [go_sem, simprocAttr, hb1, ho]) rfl ?_; simp only [go_sem, simprocAttr, hb1, ho]) | (intro h)))
    · 
      repeat' (first | (first | ((with_reducible (first | apply oA | apply oB)); exact rfl; intro K hK; simp only [go_sem, simprocAttr, hb1, ho]) | (with_reducible apply oC) | ((with_reducible refine oD ?_ ?_); first | fail | kernel_rfl) | ((with_reducible (first | apply oE | apply oF)); (iterate 3 exact rfl); all_goals (intro h; first | (exact absurd h (by decide)) | ((try simp only [go_sem, simprocAttr, hb1, ho] at h); first | (intro K hK; simp only [go_sem, simprocAttr, hb1, ho]) | (simp only [go_sem, simprocAttr, hb1, ho])))) | ((with_reducible (first | apply oG | apply oH)); (iterate 3 exact rfl); simp only [go_sem, simprocAttr, hb1, ho]) | ((with_reducible apply oI); (iterate 2 exact rfl); (intro K hK; simp only [go_sem, simprocAttr, hb1, ho])) | (with_reducible (first | apply oJ | exact oK))) | (refine hK _ ?_; clear hK K; simp only [LA.app, ASt.put, ASt.kill, subT, rmk, putM, rml, kl, AV.sub, AV.subs, AObj.sub, go_sem, simprocAttr, hb1, ho]) | (first | fail | (with_reducible (first | apply wA | apply wB | apply wC hX hC | apply wD hX hC | apply wE hX hC hmix | apply wF hX hC hmix | apply wG | apply wH)) | ((with_reducible (first | apply wI | apply wJ)); simp only [athen, ablock, reduceIte, Nat.reduceEqDiff]) | ((with_reducible apply wK); simp only [go_sem, simprocAttr, hb1, ho]) | ((with_reducible apply wL); exact rfl; all_goals (try (intro h; try simp only [go_sem, simprocAttr, hb1, ho] at h))) | ((with_reducible apply wM); exact rfl; all_goals (intro h; first | (exact absurd h (by decide)) | (try simp only [go_sem, simprocAttr, hb1, ho] at h)))) | (with_reducible apply And.intro) | omega | first | (refine acall_simple hX hC hP (of_spec x hxm) rfl rfl rfl (by simp only [go_sem, simprocAttr, hb1, ho]) rfl ?_; simp only [go_sem, simprocAttr, hb1, ho]) | (refine acall_simple hX hC hP (order_spec x hxm) rfl rfl rfl (by simp only [go_sem, simprocAttr, hb1, ho]) rfl ?_; simp only [go_sem, simprocAttr, hb1, ho]) | (intro h))
    · 
      repeat' (first | (first | ((with_reducible (first | apply oA | apply oB)); exact rfl; intro K hK; simp only [go_sem, simprocAttr, hb1, ho]) | (with_reducible apply oC) | ((with_reducible refine oD ?_ ?_); first | fail | kernel_rfl) | ((with_reducible (first | apply oE | apply oF)); (iterate 3 exact rfl); all_goals (intro h; first | (exact absurd h (by decide)) | ((try simp only [go_sem, simprocAttr, hb1, ho] at h); first | (intro K hK; simp only [go_sem, simprocAttr, hb1, ho]) | (simp only [go_sem, simprocAttr, hb1, ho])))) | ((with_reducible (first | apply oG | apply oH)); (iterate 3 exact rfl); simp only [go_sem, simprocAttr, hb1, ho]) | ((with_reducible apply oI); (iterate 2 exact rfl); (intro K hK; simp only [go_sem, simprocAttr, hb1, ho])) | (with_reducible (first | apply oJ | exact oK))) | (refine hK _ ?_; clear hK K; simp only [LA.app, ASt.put, ASt.kill, subT, rmk, putM, rml, kl, AV.sub, AV.subs, AObj.sub, go_sem, simprocAttr, hb1, ho]) | (first | fail | (with_reducible (first | apply wA | apply wB | apply wC hX hC | apply wD hX hC | apply wE hX hC hmix | apply wF hX hC hmix | apply wG | apply wH)) | ((with_reducible (first | apply wI | apply wJ)); simp only [athen, ablock, reduceIte, Nat.reduceEqDiff]) | ((with_reducible apply wK); simp only [go_sem, simprocAttr, hb1, ho]) | ((with_reducible apply wL); exact rfl; all_goals (try (intro h; try simp only [go_sem, simprocAttr, hb1, ho] at h))) | ((with_reducible apply wM); exact rfl; all_goals (intro h; first | (exact absurd h (by decide)) | (try simp only [go_sem, simprocAttr, hb1, ho] at h)))) | (with_reducible apply And.intro) | omega | first | (refine acall_simple hX hC hP (of_spec x hxm) rfl rfl rfl (by simp only [go_sem, simprocAttr, hb1, ho]) rfl ?_; simp only [go_sem, simprocAttr, hb1, ho]) | (refine acall_simple hX hC hP (order_spec x hxm) rfl rfl rfl (by simp only [go_sem, simprocAttr, hb1, ho]) rfl ?_; simp only [go_sem, simprocAttr, hb1, ho]) | (intro h))
    · 
      repeat' (first | (first | ((with_reducible (first | apply oA | apply oB)); exact rfl; intro K hK; simp only [go_sem, simprocAttr, hb1, ho]) | (with_reducible apply oC) | ((with_reducible refine oD ?_ ?_); first | fail | kernel_rfl) | ((with_reducible (first | apply oE | apply oF)); (iterate 3 exact rfl); all_goals (intro h; first | (exact absurd h (by decide)) | ((try simp only [go_sem, simprocAttr, hb1, ho] at h); first | (intro K hK; simp only [go_sem, simprocAttr, hb1, ho]) | (simp only [go_sem, simprocAttr, hb1, ho])))) | ((with_reducible (first | apply oG | apply oH)); (iterate 3 exact rfl); simp only [go_sem, simprocAttr, hb1, ho]) | ((with_reducible apply oI); (iterate 2 exact rfl); (intro K hK; simp only [go_sem, simprocAttr, hb1, ho])) | (with_reducible (first | apply oJ | exact oK))) | (refine hK _ ?_; clear hK K; simp only [LA.app, ASt.put, ASt.kill, subT, rmk, putM, rml, kl, AV.sub, AV.subs, AObj.sub, go_sem, simprocAttr, hb1, ho]) | (first | fail | (with_reducible (first | apply wA | apply wB | apply wC hX hC | apply wD hX hC | apply wE hX hC hmix | apply wF hX hC hmix | apply wG | apply wH)) | ((with_reducible (first | apply wI | apply wJ)); simp only [athen, ablock, reduceIte, Nat.reduceEqDiff]) | ((with_reducible apply wK); simp only [go_sem, simprocAttr, hb1, ho]) | ((with_reducible apply wL); exact rfl; all_goals (try (intro h; try simp only [go_sem, simprocAttr, hb1, ho] at h))) | ((with_reducible apply wM); exact rfl; all_goals (intro h; first | (exact absurd h (by decide)) | (try simp only [go_sem, simprocAttr, hb1, ho] at h)))) | (with_reducible apply And.intro) | omega | first | (refine acall_simple hX hC hP (of_spec x hxm) rfl rfl rfl (by simp only [go_sem, simprocAttr, hb1, ho]) rfl ?_; simp only [go_sem, simprocAttr, hb1, ho]) | (refine acall_simple hX hC hP (order_spec x hxm) rfl rfl rfl (by simp only [go_sem, simprocAttr, hb1, ho]) rfl ?_; simp only [go_sem, simprocAttr, hb1, ho]) | (intro h))
end Go.Ab
end
