/- A part of the proof. -/
import Derived.Test.YtilamojcledkaaaGreatL2P11
set_option linter.unusedSimpArgs false
set_option linter.unusedVariables false
section
namespace Go.Ab
open Go.Proofs
attribute [local congr] ACall.congr
set_option maxRecDepth 10000
def lfG (g : Gr) : List Bool := leftK g g.n.toNat
theorem lfG_eq {g : Gr} : leftK g g.n.toNat = lfG g := rfl
def stR (g : Gr) : Int := if findI (fun b : Bool => b) (lfG g) < 0 then g.n else findI (fun b : Bool => b) (lfG g)
def backRS (g : Gr) (x : Int) (b : Int) (i : Nat) : Int := if hd g i = x ∧ (lfG g).getD (tl g i).toNat false = true then min b (tl g i) else b
def backR (g : Gr) (x : Int) (k : Nat) : Int := (List.range k).foldl (backRS g x) g.n
def wayR (g : Gr) : Nat → List Int → Int → List Int × Int
 | 0, way, x => (way, x)
 | f + 1, way, x => if x ∈ way then (way, x) else wayR g f (way ++ [x]) (backR g x g.es.length)
def gx (g : Gr) : Gr := ⟨g.n + 1, g.es⟩
def wayRG (g : Gr) : List Int × Int := wayR g (g.n.toNat + 1) [] (stR g)
def rotR (l : List Int) (m k : Nat) : List Int := (List.range k).map fun i => l.getD ((m + l.length - i) % l.length) 0
def turnR (l : List Int) : List Int := rotR l (idxI l (minL l)).toNat l.length
def rcycG (g : Gr) : List Int := if stR g = g.n then [] else turnR ((wayRG g).1.drop (idxI (wayRG g).1 (wayRG g).2).toNat)
theorem backR_next {g : Gr} {x : Int} {k : Nat} : backR g x (k + 1) = backRS g x (backR g x k) k := by
 simp [backR, List.range_succ]
theorem backR_range {g : Gr} (hm : mayB g = true) {x : Int} : ∀ {k : Nat}, k ≤ g.es.length → 0 ≤ backR g x k ∧ backR g x k ≤ g.n
 | 0, _ => by have := mayB_n hm; simp [backR]; omega
 | k + 1, h => by
  have ih := backR_range hm (x := x) (k := k) (by omega)
  obtain ⟨⟨h1, h2⟩, _⟩ := mayB_e hm (k := k) (by omega)
  rw [backR_next]; unfold backRS tl
  split <;> omega
theorem rotR_next {l : List Int} {m k : Nat} : rotR l m (k + 1) = rotR l m k ++ [l.getD ((m + l.length - k) % l.length) 0] := by
 simp [rotR, List.range_succ]
theorem wayR_end {g : Gr} {way : List Int} {a : Int} (h : a ∈ way) : ∀ f, wayR g f way a = (way, a)
 | 0 => rfl
 | f + 1 => by simp only [wayR]; rw [if_pos h]
theorem minL_le : ∀ {l : List Int} {x : Int}, x ∈ l → minL l ≤ x
 | a :: r, x, h => by
  have : ∀ (r : List Int) (a : Int), r.foldl min a ≤ a ∧ ∀ x ∈ r, r.foldl min a ≤ x := by
   intro r
   induction r with
   | nil => intro a; exact ⟨Int.le_refl _, by simp⟩
   | cons b r ih =>
    intro a
    obtain ⟨h1, h2⟩ := ih (min a b)
    simp only [List.foldl_cons]
    refine ⟨by omega, fun x hx => ?_⟩
    rcases List.mem_cons.1 hx with rfl | hx
    ·omega
    ·exact h2 x hx
  obtain ⟨h1, h2⟩ := this r a
  rcases List.mem_cons.1 h with rfl | h
  ·exact h1
  ·exact h2 x h
theorem getD_mem {l : List Int} {m : Nat} (h : m < l.length) : l.getD m 0 ∈ l := by
 rw [List.getD_eq_getElem?_getD, List.getElem?_eq_getElem h]; exact List.getElem_mem h
theorem minL_idx {l : List Int} {m : Nat} (hm : m < l.length) (h1 : ∀ j, j < l.length → l.getD m 0 ≤ l.getD j 0) (h2 : ∀ j, j < m → l.getD m 0 < l.getD j 0) : idxI l (minL l) = m := by
 have hmin : minL l = l.getD m 0 := by
  have g1 := minL_le (getD_mem hm)
  obtain ⟨j, hj, e⟩ := List.getElem_of_mem (minL_mem (l := l) (by omega))
  have g2 := h1 j hj
  rw [List.getD_eq_getElem?_getD (l := l) (i := j), List.getElem?_eq_getElem hj, Option.getD_some, e] at g2
  omega
 refine findI_at (d := 0) hm (fun j hj => ?_) ?_
 ·have := h2 j hj
  rw [hmin]; simp only [decide_eq_false_iff_not]; omega
 ·rw [hmin]; simp
theorem rcycle_spec (g : Gr) (hm : mayB g = true) : Spec Tryz.prog 99 (Args [eG g]) [] (.d (sI (rcycG g))) [] := by
 have hn := mayB_n hm
 have hlf : (lfG g).length = g.n.toNat := leftK_length
 (refine Spec.intro (C := T.cfg [] []) (rs := [.t 2]) (T.cfg_ok _ _) Tryz.func99 rfl rfl Tryz.ntmps99 Tryz.results99 (by simp [AObj.isNest]) (by simp [AObj.isNest]) (by kernel_rfl) ?_; intro X hX hP hC hXn hXm vals hA; refine ⟨_, by simp, hA, ?_⟩; have hmix : X.P.follows .mixedOrders = true := (by rw [hP]; exact T.mixed); clear hXn hXm)
 repeat' (first | fail | ((first | ((with_reducible (first | apply oA | apply oB)); exact rfl; intro K hK) | (refine hK _ ?_; clear hK K) | ((with_reducible (first | apply oG | apply oH)); iterate 3 exact rfl) | ((with_reducible apply oI); (iterate 2 exact rfl); intro K hK) | (with_reducible (first | apply wI | apply wJ | apply wK))); try simp only [go_sem, simprocAttr, lfG_eq]) | fail | (with_reducible (first | apply oC | apply oJ | exact oK | apply wA | apply wB | apply wC hX hC | apply wD hX hC | apply wE hX hC hmix | apply wF hX hC hmix | apply wG | apply wH | apply And.intro)) | ((with_reducible refine oD ?_ ?_); first | fail | kernel_rfl) | ((with_reducible (first | apply oE | apply oF)); (iterate 3 exact rfl); all_goals (intro h; first | (exact absurd h (by decide)) | ((try simp only [go_sem, simprocAttr, lfG_eq] at h); (try with_reducible intro K hK); simp only [go_sem, simprocAttr, lfG_eq]))) | ((first | ((with_reducible apply wL); exact rfl) | ((with_reducible apply wM); exact rfl)); all_goals (try ((with_reducible intro h); first | (exact absurd h (by decide)) | (try simp only [go_sem, simprocAttr, lfG_eq] at h)))) | omega | ((first | first | refine acall_simple hX hC hP (left_spec g hm) rfl rfl rfl (by simp only [go_sem, simprocAttr, lfG_eq]) rfl ?_ | (refine acall_lend hX hC hP (has_spec way x hlway) rfl rfl rfl ?_ ?_ ?_ ?_; iterate 3 (focus (simp only [go_sem, simprocAttr, lfG_eq]; done))) | (refine acall_lend hX hC hP (has_spec way (a : Int) hlway) rfl rfl rfl ?_ ?_ ?_ ?_; iterate 3 (focus (simp only [go_sem, simprocAttr, lfG_eq]; done)))); try simp only [go_sem, simprocAttr, lfG_eq]) | (intro h))
 refine awp_loopP (fun k : Nat => k ≤ g.n.toNat ∧ ∀ j, j < k → (lfG g).getD j false = false) (fun k => ⟨[(1, .ptr 1 0), (4, eN k), (3, .d (sB (lfG g)))], [(1, .box [eN g.n, .d (sE g.es)])]⟩) (fun k => g.n.toNat - k) 0 (by simp) ?_ ?_
 ·refine Le.of ?_ ?_ <;> simp [go_sem, simprocAttr, lfG]
 rintro k ⟨hk, hno⟩
 rcases Nat.lt_or_ge k g.n.toNat with hlt | hge
 ·have hb : decide ((k : Int) < g.n) = true := decide_eq_true (by omega)
  cases hkb : (lfG g).getD k false with
  | false =>
   repeat' (first | fail | ((first | ((with_reducible (first | apply oA | apply oB)); exact rfl; intro K hK) | (refine hK _ ?_; clear hK K) | ((with_reducible (first | apply oG | apply oH)); iterate 3 exact rfl) | ((with_reducible apply oI); (iterate 2 exact rfl); intro K hK) | (with_reducible (first | apply wI | apply wJ | apply wK))); try simp only [go_sem, simprocAttr, hb, hkb, hlf]) | fail | (with_reducible (first | apply oC | apply oJ | exact oK | apply wA | apply wB | apply wC hX hC | apply wD hX hC | apply wE hX hC hmix | apply wF hX hC hmix | apply wG | apply wH | apply And.intro)) | ((with_reducible refine oD ?_ ?_); first | fail | kernel_rfl) | ((with_reducible (first | apply oE | apply oF)); (iterate 3 exact rfl); all_goals (intro h; first | (exact absurd h (by decide)) | ((try simp only [go_sem, simprocAttr, hb, hkb, hlf] at h); (try with_reducible intro K hK); simp only [go_sem, simprocAttr, hb, hkb, hlf]))) | ((first | ((with_reducible apply wL); exact rfl) | ((with_reducible apply wM); exact rfl)); all_goals (try ((with_reducible intro h); first | (exact absurd h (by decide)) | (try simp only [go_sem, simprocAttr, hb, hkb, hlf] at h)))) | omega | ((first | first | refine acall_simple hX hC hP (left_spec g hm) rfl rfl rfl (by simp only [go_sem, simprocAttr, hb, hkb, hlf]) rfl ?_ | (refine acall_lend hX hC hP (has_spec way x hlway) rfl rfl rfl ?_ ?_ ?_ ?_; iterate 3 (focus (simp only [go_sem, simprocAttr, hb, hkb, hlf]; done))) | (refine acall_lend hX hC hP (has_spec way (a : Int) hlway) rfl rfl rfl ?_ ?_ ?_ ?_; iterate 3 (focus (simp only [go_sem, simprocAttr, hb, hkb, hlf]; done)))); try simp only [go_sem, simprocAttr, hb, hkb, hlf]) | (intro h))
   refine ⟨k + 1, ⟨by omega, fun j hj => ?_⟩, ?_, by omega⟩
   ·by_cases hjk : j = k
    ·subst hjk; exact hkb
    ·exact hno j (by omega)
   ·(refine Le.of ?_ ?_ <;> simp [go_sem, simprocAttr, hb, hkb, hlf])
  | true =>
   have hst : stR g = k := by
    have : findI (fun b : Bool => b) (lfG g) = k := findI_at (d := false) (by omega) hno hkb
    unfold stR; rw [this, if_neg (by omega)]
   have hne : decide ((k : Int) = g.n) = false := decide_eq_false (by omega)
   repeat' (first | fail | ((first | ((with_reducible (first | apply oA | apply oB)); exact rfl; intro K hK) | (refine hK _ ?_; clear hK K) | ((with_reducible (first | apply oG | apply oH)); iterate 3 exact rfl) | ((with_reducible apply oI); (iterate 2 exact rfl); intro K hK) | (with_reducible (first | apply wI | apply wJ | apply wK))); try simp only [go_sem, simprocAttr, hb, hkb, hlf, hne]) | fail | (with_reducible (first | apply oC | apply oJ | exact oK | apply wA | apply wB | apply wC hX hC | apply wD hX hC | apply wE hX hC hmix | apply wF hX hC hmix | apply wG | apply wH | apply And.intro)) | ((with_reducible refine oD ?_ ?_); first | fail | kernel_rfl) | ((with_reducible (first | apply oE | apply oF)); (iterate 3 exact rfl); all_goals (intro h; first | (exact absurd h (by decide)) | ((try simp only [go_sem, simprocAttr, hb, hkb, hlf, hne] at h); (try with_reducible intro K hK); simp only [go_sem, simprocAttr, hb, hkb, hlf, hne]))) | ((first | ((with_reducible apply wL); exact rfl) | ((with_reducible apply wM); exact rfl)); all_goals (try ((with_reducible intro h); first | (exact absurd h (by decide)) | (try simp only [go_sem, simprocAttr, hb, hkb, hlf, hne] at h)))) | omega | ((first | first | refine acall_simple hX hC hP (left_spec g hm) rfl rfl rfl (by simp only [go_sem, simprocAttr, hb, hkb, hlf, hne]) rfl ?_ | (refine acall_lend hX hC hP (has_spec way x hlway) rfl rfl rfl ?_ ?_ ?_ ?_; iterate 3 (focus (simp only [go_sem, simprocAttr, hb, hkb, hlf, hne]; done))) | (refine acall_lend hX hC hP (has_spec way (a : Int) hlway) rfl rfl rfl ?_ ?_ ?_ ?_; iterate 3 (focus (simp only [go_sem, simprocAttr, hb, hkb, hlf, hne]; done)))); try simp only [go_sem, simprocAttr, hb, hkb, hlf, hne]) | (intro h))
   clear hno hb hne hkb
   (refine awp_mv hX 5 31 39 (by simp only [go_sem, simprocAttr]) rfl (by first | exact .inl rfl | exact .inr rfl) (by decide) ?_; simp only [go_sem, simprocAttr])
   refine awp_loopP (fun i : List Int × Int => Way (gx g) i.1 ∧ (0 ≤ i.2 ∧ i.2 ≤ g.n) ∧ wayR g (left (gx g) i.1) i.1 i.2 = wayRG g) (fun i => ⟨[(1, .ptr 1 0), (4, eN i.2), (3, .d (sB (lfG g))), (5, .ref 39)], [(1, .box [eN g.n, .d (sE g.es)]), (39, .tip 3 1 (i.1.map rI))]⟩) (fun i => left (gx g) i.1) ([], (k : Int)) ⟨Way.nil _, by simp only; omega, ?_⟩ ?_ ?_
   ·simp only [left_nil, wayRG, gx, hst]
    rw [show (g.n + 1).toNat = g.n.toNat + 1 from by omega]
   ·refine Le.of ?_ ?_ <;> simp [go_sem, simprocAttr]
   rintro ⟨way, x⟩ ⟨hway, hx, hrun⟩
   simp only at hway hx hrun ⊢
   have hwl : way.length ≤ 65 := by have := hway.fuel; simp only [gx] at this; omega
   have hlway : way.length ≤ 9223372036854775807 := by omega
   by_cases hmem : x ∈ way
   ·have hend := wayR_end (g := g) hmem (left (gx g) way)
    rw [hrun] at hend
    obtain ⟨m, hm1, hm2, _⟩ := idxI_mem hmem
    have hneg : decide ((m : Int) < 0) = false := decide_eq_false (by omega)
    obtain ⟨l, hlE⟩ : ∃ l, l = way.drop m := ⟨_, rfl⟩
    have hll : l.length = way.length - m := by rw [hlE]; simp
    have hcyc : rcycG g = turnR l := by
     simp only [rcycG, hend, hm1, Int.toNat_natCast, ← hlE]
     rw [if_neg (by omega)]
    repeat' (first | fail | ((first | ((with_reducible (first | apply oA | apply oB)); exact rfl; intro K hK) | (refine hK _ ?_; clear hK K) | ((with_reducible (first | apply oG | apply oH)); iterate 3 exact rfl) | ((with_reducible apply oI); (iterate 2 exact rfl); intro K hK) | (with_reducible (first | apply wI | apply wJ | apply wK))); try simp only [go_sem, simprocAttr, hm1, hneg, ← List.map_take, ← List.map_drop, List.take_length, ← hlE]) | fail | (with_reducible (first | apply oC | apply oJ | exact oK | apply wA | apply wB | apply wC hX hC | apply wD hX hC | apply wE hX hC hmix | apply wF hX hC hmix | apply wG | apply wH | apply And.intro)) | ((with_reducible refine oD ?_ ?_); first | fail | kernel_rfl) | ((with_reducible (first | apply oE | apply oF)); (iterate 3 exact rfl); all_goals (intro h; first | (exact absurd h (by decide)) | ((try simp only [go_sem, simprocAttr, hm1, hneg, ← List.map_take, ← List.map_drop, List.take_length, ← hlE] at h); (try with_reducible intro K hK); simp only [go_sem, simprocAttr, hm1, hneg, ← List.map_take, ← List.map_drop, List.take_length, ← hlE]))) | ((first | ((with_reducible apply wL); exact rfl) | ((with_reducible apply wM); exact rfl)); all_goals (try ((with_reducible intro h); first | (exact absurd h (by decide)) | (try simp only [go_sem, simprocAttr, hm1, hneg, ← List.map_take, ← List.map_drop, List.take_length, ← hlE] at h)))) | omega | ((first | first | refine acall_simple hX hC hP (left_spec g hm) rfl rfl rfl (by simp only [go_sem, simprocAttr, hm1, hneg, ← List.map_take, ← List.map_drop, List.take_length, ← hlE]) rfl ?_ | (refine acall_lend hX hC hP (has_spec way x hlway) rfl rfl rfl ?_ ?_ ?_ ?_; iterate 3 (focus (simp only [go_sem, simprocAttr, hm1, hneg, ← List.map_take, ← List.map_drop, List.take_length, ← hlE]; done))) | (refine acall_lend hX hC hP (has_spec way (a : Int) hlway) rfl rfl rfl ?_ ?_ ?_ ?_; iterate 3 (focus (simp only [go_sem, simprocAttr, hm1, hneg, ← List.map_take, ← List.map_drop, List.take_length, ← hlE]; done)))); try simp only [go_sem, simprocAttr, hm1, hneg, ← List.map_take, ← List.map_drop, List.take_length, ← hlE]) | (intro h))
    clear hrun hway hend hm1 hneg hlE
    have hl0 : 0 < l.length := by omega
    have hlm : l.length ≤ 65 := by omega
    refine awp_loopP (fun i : Nat × Nat => i.1 ≤ l.length ∧ i.2 < l.length ∧ (∀ j, j < i.1 → l.getD i.2 0 ≤ l.getD j 0) ∧ (∀ j, j < i.2 → l.getD i.2 0 < l.getD j 0)) (fun i => ⟨[(9, eN i.1), (8, eN i.2), (5, .d (sI l))], []⟩) (fun i => l.length - i.1) (0, 0) ⟨by simp, hl0, by simp, by simp⟩ ?_ ?_
    ·refine Le.of ?_ ?_ <;> simp [go_sem, simprocAttr]
    rintro ⟨i, q⟩ ⟨hi, hq, hq1, hq2⟩
    simp only at hi hq hq1 hq2 ⊢
    rcases Nat.lt_or_ge i l.length with hil | hig
    ·have hb : decide ((i : Int) < (l.length : Int)) = true := decide_eq_true (by omega)
     repeat' (first | fail | ((first | ((with_reducible (first | apply oA | apply oB)); exact rfl; intro K hK) | (refine hK _ ?_; clear hK K) | ((with_reducible (first | apply oG | apply oH)); iterate 3 exact rfl) | ((with_reducible apply oI); (iterate 2 exact rfl); intro K hK) | (with_reducible (first | apply wI | apply wJ | apply wK))); try simp only [go_sem, simprocAttr, hb]) | fail | (with_reducible (first | apply oC | apply oJ | exact oK | apply wA | apply wB | apply wC hX hC | apply wD hX hC | apply wE hX hC hmix | apply wF hX hC hmix | apply wG | apply wH | apply And.intro)) | ((with_reducible refine oD ?_ ?_); first | fail | kernel_rfl) | ((with_reducible (first | apply oE | apply oF)); (iterate 3 exact rfl); all_goals (intro h; first | (exact absurd h (by decide)) | ((try simp only [go_sem, simprocAttr, hb] at h); (try with_reducible intro K hK); simp only [go_sem, simprocAttr, hb]))) | ((first | ((with_reducible apply wL); exact rfl) | ((with_reducible apply wM); exact rfl)); all_goals (try ((with_reducible intro h); first | (exact absurd h (by decide)) | (try simp only [go_sem, simprocAttr, hb] at h)))) | omega | ((first | first | refine acall_simple hX hC hP (left_spec g hm) rfl rfl rfl (by simp only [go_sem, simprocAttr, hb]) rfl ?_ | (refine acall_lend hX hC hP (has_spec way x hlway) rfl rfl rfl ?_ ?_ ?_ ?_; iterate 3 (focus (simp only [go_sem, simprocAttr, hb]; done))) | (refine acall_lend hX hC hP (has_spec way (a : Int) hlway) rfl rfl rfl ?_ ?_ ?_ ?_; iterate 3 (focus (simp only [go_sem, simprocAttr, hb]; done)))); try simp only [go_sem, simprocAttr, hb]) | (intro h))
     ·refine ⟨(i + 1, i), ⟨by simp only; omega, hil, fun j hj => ?_, fun j hj => ?_⟩, ?_, by simp only; omega⟩
      ·simp only at hj ⊢
       by_cases hji : j = i
       ·subst hji; exact Int.le_refl _
       ·have := hq1 j (by omega); omega
      ·simp only at hj ⊢
       have := hq1 j hj; omega
      ·refine Le.of ?_ ?_ <;> simp [go_sem, simprocAttr]
     ·refine ⟨(i + 1, q), ⟨by simp only; omega, hq, fun j hj => ?_, hq2⟩, ?_, by simp only; omega⟩
      ·simp only at hj ⊢
       by_cases hji : j = i
       ·subst hji; omega
       ·exact hq1 j (by omega)
      ·refine Le.of ?_ ?_ <;> simp [go_sem, simprocAttr]
    ·have hb : decide ((i : Int) < (l.length : Int)) = false := decide_eq_false (by omega)
     obtain rfl : i = l.length := by omega
     have hidx := minL_idx hq hq1 hq2
     repeat' (first | fail | ((first | ((with_reducible (first | apply oA | apply oB)); exact rfl; intro K hK) | (refine hK _ ?_; clear hK K) | ((with_reducible (first | apply oG | apply oH)); iterate 3 exact rfl) | ((with_reducible apply oI); (iterate 2 exact rfl); intro K hK) | (with_reducible (first | apply wI | apply wJ | apply wK))); try simp only [go_sem, simprocAttr, hb]) | fail | (with_reducible (first | apply oC | apply oJ | exact oK | apply wA | apply wB | apply wC hX hC | apply wD hX hC | apply wE hX hC hmix | apply wF hX hC hmix | apply wG | apply wH | apply And.intro)) | ((with_reducible refine oD ?_ ?_); first | fail | kernel_rfl) | ((with_reducible (first | apply oE | apply oF)); (iterate 3 exact rfl); all_goals (intro h; first | (exact absurd h (by decide)) | ((try simp only [go_sem, simprocAttr, hb] at h); (try with_reducible intro K hK); simp only [go_sem, simprocAttr, hb]))) | ((first | ((with_reducible apply wL); exact rfl) | ((with_reducible apply wM); exact rfl)); all_goals (try ((with_reducible intro h); first | (exact absurd h (by decide)) | (try simp only [go_sem, simprocAttr, hb] at h)))) | omega | ((first | first | refine acall_simple hX hC hP (left_spec g hm) rfl rfl rfl (by simp only [go_sem, simprocAttr, hb]) rfl ?_ | (refine acall_lend hX hC hP (has_spec way x hlway) rfl rfl rfl ?_ ?_ ?_ ?_; iterate 3 (focus (simp only [go_sem, simprocAttr, hb]; done))) | (refine acall_lend hX hC hP (has_spec way (a : Int) hlway) rfl rfl rfl ?_ ?_ ?_ ?_; iterate 3 (focus (simp only [go_sem, simprocAttr, hb]; done)))); try simp only [go_sem, simprocAttr, hb]) | (intro h))
     clear hi hb hig
     (refine awp_mv hX 10 98 119 (by simp only [go_sem, simprocAttr]) rfl (by first | exact .inl rfl | exact .inr rfl) (by decide) ?_; simp only [go_sem, simprocAttr])
     refine awp_loopP (fun i : Nat => i ≤ l.length) (fun i => ⟨[(5, .d (sI l)), (8, eN q), (11, eN i), (10, .ref 119)], [(119, .tip 3 1 ((rotR l q i).map rI))]⟩) (fun i => l.length - i) 0 (by simp) ?_ ?_
     ·refine Le.of ?_ ?_ <;> simp [go_sem, simprocAttr, rotR]
     rintro i hi
     have hrl : (rotR l q i).length = i := by simp [rotR]
     rcases Nat.lt_or_ge i l.length with hil | hig
     ·have hb : decide ((i : Int) < (l.length : Int)) = true := decide_eq_true (by omega)
      have htm : ((q : Int) + (l.length : Int) - (i : Int)).tmod (l.length : Int) = (((q + l.length - i) % l.length : Nat) : Int) := by
       rw [show (q : Int) + (l.length : Int) - (i : Int) = ((q + l.length - i : Nat) : Int) from by omega]
       rw [Int.tmod_eq_emod_of_nonneg (by omega)]; rfl
      have hmod : (q + l.length - i) % l.length < l.length := Nat.mod_lt _ hl0
      repeat' (first | fail | ((first | ((with_reducible (first | apply oA | apply oB)); exact rfl; intro K hK) | (refine hK _ ?_; clear hK K) | ((with_reducible (first | apply oG | apply oH)); iterate 3 exact rfl) | ((with_reducible apply oI); (iterate 2 exact rfl); intro K hK) | (with_reducible (first | apply wI | apply wJ | apply wK))); try simp only [go_sem, simprocAttr, hb, htm]) | fail | (with_reducible (first | apply oC | apply oJ | exact oK | apply wA | apply wB | apply wC hX hC | apply wD hX hC | apply wE hX hC hmix | apply wF hX hC hmix | apply wG | apply wH | apply And.intro)) | ((with_reducible refine oD ?_ ?_); first | fail | kernel_rfl) | ((with_reducible (first | apply oE | apply oF)); (iterate 3 exact rfl); all_goals (intro h; first | (exact absurd h (by decide)) | ((try simp only [go_sem, simprocAttr, hb, htm] at h); (try with_reducible intro K hK); simp only [go_sem, simprocAttr, hb, htm]))) | ((first | ((with_reducible apply wL); exact rfl) | ((with_reducible apply wM); exact rfl)); all_goals (try ((with_reducible intro h); first | (exact absurd h (by decide)) | (try simp only [go_sem, simprocAttr, hb, htm] at h)))) | omega | ((first | first | refine acall_simple hX hC hP (left_spec g hm) rfl rfl rfl (by simp only [go_sem, simprocAttr, hb, htm]) rfl ?_ | (refine acall_lend hX hC hP (has_spec way x hlway) rfl rfl rfl ?_ ?_ ?_ ?_; iterate 3 (focus (simp only [go_sem, simprocAttr, hb, htm]; done))) | (refine acall_lend hX hC hP (has_spec way (a : Int) hlway) rfl rfl rfl ?_ ?_ ?_ ?_; iterate 3 (focus (simp only [go_sem, simprocAttr, hb, htm]; done)))); try simp only [go_sem, simprocAttr, hb, htm]) | (intro h))
      refine ⟨i + 1, by omega, ?_, by omega⟩
      rw [rotR_next]
      refine Le.of ?_ ?_ <;> simp [go_sem, simprocAttr, rI]
     ·have hb : decide ((i : Int) < (l.length : Int)) = false := decide_eq_false (by omega)
      obtain rfl : i = l.length := by omega
      repeat' (first | fail | ((first | ((with_reducible (first | apply oA | apply oB)); exact rfl; intro K hK) | (refine hK _ ?_; clear hK K) | ((with_reducible (first | apply oG | apply oH)); iterate 3 exact rfl) | ((with_reducible apply oI); (iterate 2 exact rfl); intro K hK) | (with_reducible (first | apply wI | apply wJ | apply wK))); try simp only [go_sem, simprocAttr, hb]) | fail | (with_reducible (first | apply oC | apply oJ | exact oK | apply wA | apply wB | apply wC hX hC | apply wD hX hC | apply wE hX hC hmix | apply wF hX hC hmix | apply wG | apply wH | apply And.intro)) | ((with_reducible refine oD ?_ ?_); first | fail | kernel_rfl) | ((with_reducible (first | apply oE | apply oF)); (iterate 3 exact rfl); all_goals (intro h; first | (exact absurd h (by decide)) | ((try simp only [go_sem, simprocAttr, hb] at h); (try with_reducible intro K hK); simp only [go_sem, simprocAttr, hb]))) | ((first | ((with_reducible apply wL); exact rfl) | ((with_reducible apply wM); exact rfl)); all_goals (try ((with_reducible intro h); first | (exact absurd h (by decide)) | (try simp only [go_sem, simprocAttr, hb] at h)))) | omega | ((first | first | refine acall_simple hX hC hP (left_spec g hm) rfl rfl rfl (by simp only [go_sem, simprocAttr, hb]) rfl ?_ | (refine acall_lend hX hC hP (has_spec way x hlway) rfl rfl rfl ?_ ?_ ?_ ?_; iterate 3 (focus (simp only [go_sem, simprocAttr, hb]; done))) | (refine acall_lend hX hC hP (has_spec way (a : Int) hlway) rfl rfl rfl ?_ ?_ ?_ ?_; iterate 3 (focus (simp only [go_sem, simprocAttr, hb]; done)))); try simp only [go_sem, simprocAttr, hb]) | (intro h))
      rw [hcyc, turnR, hidx]; rfl
   ·have hi : idxI way x = -1 := by
     rcases findI_spec (f := fun y : Int => decide (x = y)) (l := way) 0 with ⟨h1, _⟩ | ⟨q, _, h2, h3, _⟩
     ·exact h1
     ·exact absurd (by rw [of_decide_eq_true h3, List.getD_eq_getElem?_getD, List.getElem?_eq_getElem h2]; exact List.getElem_mem h2) hmem
    obtain ⟨a, rfl⟩ : ∃ a : Nat, x = a := ⟨x.toNat, by omega⟩
    have han : a < (gx g).n.toNat := by simp only [gx]; omega
    repeat' (first | fail | ((first | ((with_reducible (first | apply oA | apply oB)); exact rfl; intro K hK) | (refine hK _ ?_; clear hK K) | ((with_reducible (first | apply oG | apply oH)); iterate 3 exact rfl) | ((with_reducible apply oI); (iterate 2 exact rfl); intro K hK) | (with_reducible (first | apply wI | apply wJ | apply wK))); try simp only [go_sem, simprocAttr, hi]) | fail | (with_reducible (first | apply oC | apply oJ | exact oK | apply wA | apply wB | apply wC hX hC | apply wD hX hC | apply wE hX hC hmix | apply wF hX hC hmix | apply wG | apply wH | apply And.intro)) | ((with_reducible refine oD ?_ ?_); first | fail | kernel_rfl) | ((with_reducible (first | apply oE | apply oF)); (iterate 3 exact rfl); all_goals (intro h; first | (exact absurd h (by decide)) | ((try simp only [go_sem, simprocAttr, hi] at h); (try with_reducible intro K hK); simp only [go_sem, simprocAttr, hi]))) | ((first | ((with_reducible apply wL); exact rfl) | ((with_reducible apply wM); exact rfl)); all_goals (try ((with_reducible intro h); first | (exact absurd h (by decide)) | (try simp only [go_sem, simprocAttr, hi] at h)))) | omega | ((first | first | refine acall_simple hX hC hP (left_spec g hm) rfl rfl rfl (by simp only [go_sem, simprocAttr, hi]) rfl ?_ | (refine acall_lend hX hC hP (has_spec way x hlway) rfl rfl rfl ?_ ?_ ?_ ?_; iterate 3 (focus (simp only [go_sem, simprocAttr, hi]; done))) | (refine acall_lend hX hC hP (has_spec way (a : Int) hlway) rfl rfl rfl ?_ ?_ ?_ ?_; iterate 3 (focus (simp only [go_sem, simprocAttr, hi]; done)))); try simp only [go_sem, simprocAttr, hi]) | (intro h))
    refine awp_loopP (fun j : Nat => j ≤ g.es.length) (fun j => ⟨[(1, .ptr 1 0), (4, eN a), (3, .d (sB (lfG g))), (5, .ref 39), (6, eN (backR g a j)), (7, eN j)], [(1, .box [eN g.n, .d (sE g.es)]), (39, .tip 3 1 ((way ++ [(a : Int)]).map rI))]⟩) (fun j => g.es.length - j) 0 (by simp) ?_ ?_
    ·refine Le.of ?_ ?_ <;> simp [go_sem, simprocAttr, rI, backR]
    rintro j hj
    rcases Nat.lt_or_ge j g.es.length with hjl | hjg
    ·have hb2 : decide ((j : Int) < (g.es.length : Int)) = true := decide_eq_true (by omega)
     obtain ⟨⟨he0, he1⟩, _⟩ := mayB_e hm hjl
     have hnx : backR g a (j + 1) = if (g.es.getD j (0, 0)).2 = (a : Int) ∧ (lfG g).getD (g.es.getD j (0, 0)).1.toNat false = true then min (backR g a j) (g.es.getD j (0, 0)).1 else backR g a j := backR_next
     repeat' (first | fail | ((first | ((with_reducible (first | apply oA | apply oB)); exact rfl; intro K hK) | (refine hK _ ?_; clear hK K) | ((with_reducible (first | apply oG | apply oH)); iterate 3 exact rfl) | ((with_reducible apply oI); (iterate 2 exact rfl); intro K hK) | (with_reducible (first | apply wI | apply wJ | apply wK))); try simp only [go_sem, simprocAttr, hb2, hlf]) | fail | (with_reducible (first | apply oC | apply oJ | exact oK | apply wA | apply wB | apply wC hX hC | apply wD hX hC | apply wE hX hC hmix | apply wF hX hC hmix | apply wG | apply wH | apply And.intro)) | ((with_reducible refine oD ?_ ?_); first | fail | kernel_rfl) | ((with_reducible (first | apply oE | apply oF)); (iterate 3 exact rfl); all_goals (intro h; first | (exact absurd h (by decide)) | ((try simp only [go_sem, simprocAttr, hb2, hlf] at h); (try with_reducible intro K hK); simp only [go_sem, simprocAttr, hb2, hlf]))) | ((first | ((with_reducible apply wL); exact rfl) | ((with_reducible apply wM); exact rfl)); all_goals (try ((with_reducible intro h); first | (exact absurd h (by decide)) | (try simp only [go_sem, simprocAttr, hb2, hlf] at h)))) | omega | ((first | first | refine acall_simple hX hC hP (left_spec g hm) rfl rfl rfl (by simp only [go_sem, simprocAttr, hb2, hlf]) rfl ?_ | (refine acall_lend hX hC hP (has_spec way x hlway) rfl rfl rfl ?_ ?_ ?_ ?_; iterate 3 (focus (simp only [go_sem, simprocAttr, hb2, hlf]; done))) | (refine acall_lend hX hC hP (has_spec way (a : Int) hlway) rfl rfl rfl ?_ ?_ ?_ ?_; iterate 3 (focus (simp only [go_sem, simprocAttr, hb2, hlf]; done)))); try simp only [go_sem, simprocAttr, hb2, hlf]) | (intro h))
     all_goals (first | rw [if_pos ⟨by assumption, by assumption⟩] at hnx | rw [if_neg (fun e => by first | exact absurd e.1 (by assumption) | simp_all)] at hnx)
     all_goals (refine ⟨j + 1, by omega, ?_, by omega⟩; refine Le.of ?_ ?_ <;> simp [go_sem, simprocAttr, hnx])
    ·have hb2 : decide ((j : Int) < (g.es.length : Int)) = false := decide_eq_false (by omega)
     obtain rfl : j = g.es.length := by omega
     repeat' (first | fail | ((first | ((with_reducible (first | apply oA | apply oB)); exact rfl; intro K hK) | (refine hK _ ?_; clear hK K) | ((with_reducible (first | apply oG | apply oH)); iterate 3 exact rfl) | ((with_reducible apply oI); (iterate 2 exact rfl); intro K hK) | (with_reducible (first | apply wI | apply wJ | apply wK))); try simp only [go_sem, simprocAttr, hb2]) | fail | (with_reducible (first | apply oC | apply oJ | exact oK | apply wA | apply wB | apply wC hX hC | apply wD hX hC | apply wE hX hC hmix | apply wF hX hC hmix | apply wG | apply wH | apply And.intro)) | ((with_reducible refine oD ?_ ?_); first | fail | kernel_rfl) | ((with_reducible (first | apply oE | apply oF)); (iterate 3 exact rfl); all_goals (intro h; first | (exact absurd h (by decide)) | ((try simp only [go_sem, simprocAttr, hb2] at h); (try with_reducible intro K hK); simp only [go_sem, simprocAttr, hb2]))) | ((first | ((with_reducible apply wL); exact rfl) | ((with_reducible apply wM); exact rfl)); all_goals (try ((with_reducible intro h); first | (exact absurd h (by decide)) | (try simp only [go_sem, simprocAttr, hb2] at h)))) | omega | ((first | first | refine acall_simple hX hC hP (left_spec g hm) rfl rfl rfl (by simp only [go_sem, simprocAttr, hb2]) rfl ?_ | (refine acall_lend hX hC hP (has_spec way x hlway) rfl rfl rfl ?_ ?_ ?_ ?_; iterate 3 (focus (simp only [go_sem, simprocAttr, hb2]; done))) | (refine acall_lend hX hC hP (has_spec way (a : Int) hlway) rfl rfl rfl ?_ ?_ ?_ ?_; iterate 3 (focus (simp only [go_sem, simprocAttr, hb2]; done)))); try simp only [go_sem, simprocAttr, hb2]) | (intro h))
     refine ⟨(way ++ [(a : Int)], backR g a g.es.length), ⟨hway.next han hmem, backR_range hm (Nat.le_refl _), ?_⟩, ?_, ?_⟩
     ·simp only
      rw [← hrun, left_app han hmem]
      simp only [wayR]
      rw [if_neg hmem]
     ·refine Le.of ?_ ?_ <;> simp [go_sem, simprocAttr]
     ·have := left_app han hmem; simp only; omega
 ·have hb : decide ((k : Int) < g.n) = false := decide_eq_false (by omega)
  have hst : stR g = g.n := by
   have : findI (fun b : Bool => b) (lfG g) = -1 := findI_none false fun j hj => hno j (by omega)
   unfold stR; rw [this, if_pos (by omega)]
  have hne : decide ((k : Int) = g.n) = true := decide_eq_true (by omega)
  repeat' (first | fail | ((first | ((with_reducible (first | apply oA | apply oB)); exact rfl; intro K hK) | (refine hK _ ?_; clear hK K) | ((with_reducible (first | apply oG | apply oH)); iterate 3 exact rfl) | ((with_reducible apply oI); (iterate 2 exact rfl); intro K hK) | (with_reducible (first | apply wI | apply wJ | apply wK))); try simp only [go_sem, simprocAttr, hb, hne]) | fail | (with_reducible (first | apply oC | apply oJ | exact oK | apply wA | apply wB | apply wC hX hC | apply wD hX hC | apply wE hX hC hmix | apply wF hX hC hmix | apply wG | apply wH | apply And.intro)) | ((with_reducible refine oD ?_ ?_); first | fail | kernel_rfl) | ((with_reducible (first | apply oE | apply oF)); (iterate 3 exact rfl); all_goals (intro h; first | (exact absurd h (by decide)) | ((try simp only [go_sem, simprocAttr, hb, hne] at h); (try with_reducible intro K hK); simp only [go_sem, simprocAttr, hb, hne]))) | ((first | ((with_reducible apply wL); exact rfl) | ((with_reducible apply wM); exact rfl)); all_goals (try ((with_reducible intro h); first | (exact absurd h (by decide)) | (try simp only [go_sem, simprocAttr, hb, hne] at h)))) | omega | ((first | first | refine acall_simple hX hC hP (left_spec g hm) rfl rfl rfl (by simp only [go_sem, simprocAttr, hb, hne]) rfl ?_ | (refine acall_lend hX hC hP (has_spec way x hlway) rfl rfl rfl ?_ ?_ ?_ ?_; iterate 3 (focus (simp only [go_sem, simprocAttr, hb, hne]; done))) | (refine acall_lend hX hC hP (has_spec way (a : Int) hlway) rfl rfl rfl ?_ ?_ ?_ ?_; iterate 3 (focus (simp only [go_sem, simprocAttr, hb, hne]; done)))); try simp only [go_sem, simprocAttr, hb, hne]) | (intro h))
  simp only [rcycG]; rw [if_pos hst]; rfl
end Go.Ab
end
section
namespace Go.Ab
open Go.Proofs
attribute [local congr] ACall.congr
set_option maxRecDepth 10000
def rchkG (g : Gr) : Int × Int × List Int := chkOf g (rcycG g) (bareG (·.2) g)
theorem take_mem {l : List Edge} {k : Nat} {x : Edge} : x ∈ l.take k ↔ ∃ j, j < k ∧ j < l.length ∧ l.getD j (0, 0) = x := by
 rw [List.mem_iff_getElem?]
 constructor
 ·rintro ⟨j, hj⟩
  rw [List.getElem?_take] at hj
  split at hj
  ·exact ⟨j, by assumption, (List.getElem?_eq_some_iff.1 hj).1, by rw [List.getD_eq_getElem?_getD, hj]; rfl⟩
  ·cases hj
 ·rintro ⟨j, h1, h2, h3⟩
  refine ⟨j, ?_⟩
  rw [List.getElem?_take, if_pos h1, List.getElem?_eq_getElem h2]
  rw [List.getD_eq_getElem?_getD, List.getElem?_eq_getElem h2] at h3
  exact congrArg some h3
theorem refCheck_spec (g : Gr) (hl0 : g.es.length ≤ 1000) : Spec Tryz.prog 59 (Args [eG g]) [] (.tup [eN (rchkG g).1, eN (rchkG g).2.1, .d (sI (rchkG g).2.2)]) [] := by
 have hl : g.es.length ≤ 9223372036854775807 := by omega
 (refine Spec.intro (C := T.cfg [] []) (rs := [.t 2, .t 3, .t 4]) (T.cfg_ok _ _) Tryz.func59 rfl rfl Tryz.ntmps59 Tryz.results59 (by simp [AObj.isNest]) (by simp [AObj.isNest]) (by kernel_rfl) ?_; intro X hX hP hC hXn hXm vals hA; refine ⟨_, by simp, hA, ?_⟩; have hmix : X.P.follows .mixedOrders = true := (by rw [hP]; exact T.mixed); clear hXn hXm)
 cases hm : mayB g with
 | false =>
  repeat' (first | fail | ((first | ((with_reducible (first | apply oA | apply oB)); exact rfl; intro K hK) | (refine hK _ ?_; clear hK K) | ((with_reducible (first | apply oG | apply oH)); iterate 3 exact rfl) | ((with_reducible apply oI); (iterate 2 exact rfl); intro K hK) | (with_reducible (first | apply wI | apply wJ | apply wK))); try simp only [go_sem, simprocAttr, hm]) | fail | (with_reducible (first | apply oC | apply oJ | exact oK | apply wA | apply wB | apply wC hX hC | apply wD hX hC | apply wE hX hC hmix | apply wF hX hC hmix | apply wG | apply wH | apply And.intro)) | ((with_reducible refine oD ?_ ?_); first | fail | kernel_rfl) | ((with_reducible (first | apply oE | apply oF)); (iterate 3 exact rfl); all_goals (intro h; first | (exact absurd h (by decide)) | ((try simp only [go_sem, simprocAttr, hm] at h); (try with_reducible intro K hK); simp only [go_sem, simprocAttr, hm]))) | ((first | ((with_reducible apply wL); exact rfl) | ((with_reducible apply wM); exact rfl)); all_goals (try ((with_reducible intro h); first | (exact absurd h (by decide)) | (try simp only [go_sem, simprocAttr, hm] at h)))) | omega | ((first | first | refine acall_simple hX hC hP (refMay_spec g hl) rfl rfl rfl (by simp only [go_sem, simprocAttr, hm]) rfl ?_ | refine acall_simple hX hC hP (rcycle_spec g hm) rfl rfl rfl (by simp only [go_sem, simprocAttr, hm]) rfl ?_ | refine acall_simple hX hC hP (refBare_spec g true hl0 hn0) rfl rfl rfl (by simp only [go_sem, simprocAttr, hm]) rfl ?_); try simp only [go_sem, simprocAttr, hm]) | (intro h))
  all_goals simp [rchkG, chkOf, hm]
 | true =>
 have hn := mayB_n hm
 have hn0 : 0 ≤ g.n ∧ g.n ≤ 1000 := by omega
 repeat' (first | fail | ((first | ((with_reducible (first | apply oA | apply oB)); exact rfl; intro K hK) | (refine hK _ ?_; clear hK K) | ((with_reducible (first | apply oG | apply oH)); iterate 3 exact rfl) | ((with_reducible apply oI); (iterate 2 exact rfl); intro K hK) | (with_reducible (first | apply wI | apply wJ | apply wK))); try simp only [go_sem, simprocAttr, hm]) | fail | (with_reducible (first | apply oC | apply oJ | exact oK | apply wA | apply wB | apply wC hX hC | apply wD hX hC | apply wE hX hC hmix | apply wF hX hC hmix | apply wG | apply wH | apply And.intro)) | ((with_reducible refine oD ?_ ?_); first | fail | kernel_rfl) | ((with_reducible (first | apply oE | apply oF)); (iterate 3 exact rfl); all_goals (intro h; first | (exact absurd h (by decide)) | ((try simp only [go_sem, simprocAttr, hm] at h); (try with_reducible intro K hK); simp only [go_sem, simprocAttr, hm]))) | ((first | ((with_reducible apply wL); exact rfl) | ((with_reducible apply wM); exact rfl)); all_goals (try ((with_reducible intro h); first | (exact absurd h (by decide)) | (try simp only [go_sem, simprocAttr, hm] at h)))) | omega | ((first | first | refine acall_simple hX hC hP (refMay_spec g hl) rfl rfl rfl (by simp only [go_sem, simprocAttr, hm]) rfl ?_ | refine acall_simple hX hC hP (rcycle_spec g hm) rfl rfl rfl (by simp only [go_sem, simprocAttr, hm]) rfl ?_ | refine acall_simple hX hC hP (refBare_spec g true hl0 hn0) rfl rfl rfl (by simp only [go_sem, simprocAttr, hm]) rfl ?_); try simp only [go_sem, simprocAttr, hm]) | (intro h))
 refine awp_loopP (fun k : Nat => k ≤ g.es.length ∧ ∀ j, j < k → decide ((g.es.getD j (0, 0)).1 = (g.es.getD j (0, 0)).2) = false) (fun k => ⟨[(5, eN k), (1, .ptr 1 0)], [(1, .box [eN g.n, .d (sE g.es)])]⟩) (fun k => g.es.length - k) 0 (by simp) ?_ ?_
 ·(refine Le.of ?_ ?_ <;> simp [go_sem, simprocAttr, hm])
 rintro k ⟨hk, hno⟩
 rcases Nat.lt_or_ge k g.es.length with hlt | hge
 ·have hb2 : decide ((k : Int) < (g.es.length : Int)) = true := decide_eq_true (by omega)
  repeat' (first | fail | ((first | ((with_reducible (first | apply oA | apply oB)); exact rfl; intro K hK) | (refine hK _ ?_; clear hK K) | ((with_reducible (first | apply oG | apply oH)); iterate 3 exact rfl) | ((with_reducible apply oI); (iterate 2 exact rfl); intro K hK) | (with_reducible (first | apply wI | apply wJ | apply wK))); try simp only [go_sem, simprocAttr, hm, hb2]) | fail | (with_reducible (first | apply oC | apply oJ | exact oK | apply wA | apply wB | apply wC hX hC | apply wD hX hC | apply wE hX hC hmix | apply wF hX hC hmix | apply wG | apply wH | apply And.intro)) | ((with_reducible refine oD ?_ ?_); first | fail | kernel_rfl) | ((with_reducible (first | apply oE | apply oF)); (iterate 3 exact rfl); all_goals (intro h; first | (exact absurd h (by decide)) | ((try simp only [go_sem, simprocAttr, hm, hb2] at h); (try with_reducible intro K hK); simp only [go_sem, simprocAttr, hm, hb2]))) | ((first | ((with_reducible apply wL); exact rfl) | ((with_reducible apply wM); exact rfl)); all_goals (try ((with_reducible intro h); first | (exact absurd h (by decide)) | (try simp only [go_sem, simprocAttr, hm, hb2] at h)))) | omega | ((first | first | refine acall_simple hX hC hP (refMay_spec g hl) rfl rfl rfl (by simp only [go_sem, simprocAttr, hm, hb2]) rfl ?_ | refine acall_simple hX hC hP (rcycle_spec g hm) rfl rfl rfl (by simp only [go_sem, simprocAttr, hm, hb2]) rfl ?_ | refine acall_simple hX hC hP (refBare_spec g true hl0 hn0) rfl rfl rfl (by simp only [go_sem, simprocAttr, hm, hb2]) rfl ?_); try simp only [go_sem, simprocAttr, hm, hb2]) | (intro h))
  any_goals (
   have hlo : loopI g = (k : Int) := findI_at (d := (0, 0)) hlt hno (decide_eq_true h)
   have hc : rchkG g = (13, loopI g, []) := by
    simp only [rchkG, chkOf]; rw [if_neg (by simp [hm]), if_pos (by omega)]
   rw [hc] <;> first | rfl | exact hlo.symm)
  refine ⟨k + 1, ⟨by omega, fun j hj => ?_⟩, ?_, by omega⟩
  ·by_cases hjk : j = k
   ·subst hjk; exact h
   ·simpa using hno j (by omega)
  ·(refine Le.of ?_ ?_ <;> simp [go_sem, simprocAttr, hm, hb2])
 ·have hb2 : decide ((k : Int) < (g.es.length : Int)) = false := decide_eq_false (by omega)
  have hlo : ¬ 0 ≤ loopI g := by
   have : loopI g = -1 := findI_none (0, 0) fun j hj => hno j (by omega)
   omega
  repeat' (first | fail | ((first | ((with_reducible (first | apply oA | apply oB)); exact rfl; intro K hK) | (refine hK _ ?_; clear hK K) | ((with_reducible (first | apply oG | apply oH)); iterate 3 exact rfl) | ((with_reducible apply oI); (iterate 2 exact rfl); intro K hK) | (with_reducible (first | apply wI | apply wJ | apply wK))); try simp only [go_sem, simprocAttr, hm, hb2]) | fail | (with_reducible (first | apply oC | apply oJ | exact oK | apply wA | apply wB | apply wC hX hC | apply wD hX hC | apply wE hX hC hmix | apply wF hX hC hmix | apply wG | apply wH | apply And.intro)) | ((with_reducible refine oD ?_ ?_); first | fail | kernel_rfl) | ((with_reducible (first | apply oE | apply oF)); (iterate 3 exact rfl); all_goals (intro h; first | (exact absurd h (by decide)) | ((try simp only [go_sem, simprocAttr, hm, hb2] at h); (try with_reducible intro K hK); simp only [go_sem, simprocAttr, hm, hb2]))) | ((first | ((with_reducible apply wL); exact rfl) | ((with_reducible apply wM); exact rfl)); all_goals (try ((with_reducible intro h); first | (exact absurd h (by decide)) | (try simp only [go_sem, simprocAttr, hm, hb2] at h)))) | omega | ((first | first | refine acall_simple hX hC hP (refMay_spec g hl) rfl rfl rfl (by simp only [go_sem, simprocAttr, hm, hb2]) rfl ?_ | refine acall_simple hX hC hP (rcycle_spec g hm) rfl rfl rfl (by simp only [go_sem, simprocAttr, hm, hb2]) rfl ?_ | refine acall_simple hX hC hP (refBare_spec g true hl0 hn0) rfl rfl rfl (by simp only [go_sem, simprocAttr, hm, hb2]) rfl ?_); try simp only [go_sem, simprocAttr, hm, hb2]) | (intro h))
  clear hno hb2 hk hge
  refine awp_loopP (fun k : Nat => k ≤ g.es.length ∧ ∀ j, j < k → twiceB g j = false) (fun k => ⟨[(6, eN k), (1, .ptr 1 0)], [(1, .box [eN g.n, .d (sE g.es)])]⟩) (fun k => g.es.length - k) 0 (by simp) ?_ ?_
  ·(refine Le.of ?_ ?_ <;> simp [go_sem, simprocAttr])
  rintro k ⟨hk, htw⟩
  rcases Nat.lt_or_ge k g.es.length with hlt | hge
  ·have hb2 : decide ((k : Int) < (g.es.length : Int)) = true := decide_eq_true (by omega)
   repeat' (first | fail | ((first | ((with_reducible (first | apply oA | apply oB)); exact rfl; intro K hK) | (refine hK _ ?_; clear hK K) | ((with_reducible (first | apply oG | apply oH)); iterate 3 exact rfl) | ((with_reducible apply oI); (iterate 2 exact rfl); intro K hK) | (with_reducible (first | apply wI | apply wJ | apply wK))); try simp only [go_sem, simprocAttr, hm, hb2]) | fail | (with_reducible (first | apply oC | apply oJ | exact oK | apply wA | apply wB | apply wC hX hC | apply wD hX hC | apply wE hX hC hmix | apply wF hX hC hmix | apply wG | apply wH | apply And.intro)) | ((with_reducible refine oD ?_ ?_); first | fail | kernel_rfl) | ((with_reducible (first | apply oE | apply oF)); (iterate 3 exact rfl); all_goals (intro h; first | (exact absurd h (by decide)) | ((try simp only [go_sem, simprocAttr, hm, hb2] at h); (try with_reducible intro K hK); simp only [go_sem, simprocAttr, hm, hb2]))) | ((first | ((with_reducible apply wL); exact rfl) | ((with_reducible apply wM); exact rfl)); all_goals (try ((with_reducible intro h); first | (exact absurd h (by decide)) | (try simp only [go_sem, simprocAttr, hm, hb2] at h)))) | omega | ((first | first | refine acall_simple hX hC hP (refMay_spec g hl) rfl rfl rfl (by simp only [go_sem, simprocAttr, hm, hb2]) rfl ?_ | refine acall_simple hX hC hP (rcycle_spec g hm) rfl rfl rfl (by simp only [go_sem, simprocAttr, hm, hb2]) rfl ?_ | refine acall_simple hX hC hP (refBare_spec g true hl0 hn0) rfl rfl rfl (by simp only [go_sem, simprocAttr, hm, hb2]) rfl ?_); try simp only [go_sem, simprocAttr, hm, hb2]) | (intro h))
   refine awp_loopP (fun q : Nat => q ≤ k ∧ ∀ j, j < q → ¬ g.es.getD j (0, 0) = g.es.getD k (0, 0)) (fun q => ⟨[(6, eN k), (7, eN q), (1, .ptr 1 0)], [(1, .box [eN g.n, .d (sE g.es)])]⟩) (fun q => k - q) 0 (by simp) ?_ ?_
   ·(refine Le.of ?_ ?_ <;> simp [go_sem, simprocAttr, hm, hb2])
   rintro q ⟨hq, hne⟩
   rcases Nat.lt_or_ge q k with hqk | hqk
   ·have hb3 : decide ((q : Int) < (k : Int)) = true := decide_eq_true (by omega)
    repeat' (first | fail | ((first | ((with_reducible (first | apply oA | apply oB)); exact rfl; intro K hK) | (refine hK _ ?_; clear hK K) | ((with_reducible (first | apply oG | apply oH)); iterate 3 exact rfl) | ((with_reducible apply oI); (iterate 2 exact rfl); intro K hK) | (with_reducible (first | apply wI | apply wJ | apply wK))); try simp only [go_sem, simprocAttr, hb3, beqE]) | fail | (with_reducible (first | apply oC | apply oJ | exact oK | apply wA | apply wB | apply wC hX hC | apply wD hX hC | apply wE hX hC hmix | apply wF hX hC hmix | apply wG | apply wH | apply And.intro)) | ((with_reducible refine oD ?_ ?_); first | fail | kernel_rfl) | ((with_reducible (first | apply oE | apply oF)); (iterate 3 exact rfl); all_goals (intro h; first | (exact absurd h (by decide)) | ((try simp only [go_sem, simprocAttr, hb3, beqE] at h); (try with_reducible intro K hK); simp only [go_sem, simprocAttr, hb3, beqE]))) | ((first | ((with_reducible apply wL); exact rfl) | ((with_reducible apply wM); exact rfl)); all_goals (try ((with_reducible intro h); first | (exact absurd h (by decide)) | (try simp only [go_sem, simprocAttr, hb3, beqE] at h)))) | omega | ((first | first | refine acall_simple hX hC hP (refMay_spec g hl) rfl rfl rfl (by simp only [go_sem, simprocAttr, hb3, beqE]) rfl ?_ | refine acall_simple hX hC hP (rcycle_spec g hm) rfl rfl rfl (by simp only [go_sem, simprocAttr, hb3, beqE]) rfl ?_ | refine acall_simple hX hC hP (refBare_spec g true hl0 hn0) rfl rfl rfl (by simp only [go_sem, simprocAttr, hb3, beqE]) rfl ?_); try simp only [go_sem, simprocAttr, hb3, beqE]) | (intro h))
    any_goals (
     have htw' : twiceB g k = true := decide_eq_true (take_mem.2 ⟨q, hqk, by omega, h⟩)
     have htI : twiceI g = (k : Int) := findI_at (d := 0) (by simpa using hlt) (fun j hj => by rw [range_getD (by omega)]; exact htw j hj) (by rw [range_getD hlt]; exact htw')
     have hc : rchkG g = (14, twiceI g, []) := by
      simp only [rchkG, chkOf]; rw [if_neg (by simp [hm]), if_neg hlo, if_pos (by omega)]
     rw [hc] <;> first | rfl | exact htI.symm)
    refine ⟨q + 1, ⟨by omega, fun j hj => ?_⟩, ?_, by omega⟩
    ·by_cases hjk : j = q
     ·subst hjk; exact h
     ·exact hne j (by omega)
    ·refine Le.of ?_ ?_ <;> simp [go_sem, simprocAttr]
   ·have hb3 : decide ((q : Int) < (k : Int)) = false := decide_eq_false (by omega)
    repeat' (first | fail | ((first | ((with_reducible (first | apply oA | apply oB)); exact rfl; intro K hK) | (refine hK _ ?_; clear hK K) | ((with_reducible (first | apply oG | apply oH)); iterate 3 exact rfl) | ((with_reducible apply oI); (iterate 2 exact rfl); intro K hK) | (with_reducible (first | apply wI | apply wJ | apply wK))); try simp only [go_sem, simprocAttr, hb3]) | fail | (with_reducible (first | apply oC | apply oJ | exact oK | apply wA | apply wB | apply wC hX hC | apply wD hX hC | apply wE hX hC hmix | apply wF hX hC hmix | apply wG | apply wH | apply And.intro)) | ((with_reducible refine oD ?_ ?_); first | fail | kernel_rfl) | ((with_reducible (first | apply oE | apply oF)); (iterate 3 exact rfl); all_goals (intro h; first | (exact absurd h (by decide)) | ((try simp only [go_sem, simprocAttr, hb3] at h); (try with_reducible intro K hK); simp only [go_sem, simprocAttr, hb3]))) | ((first | ((with_reducible apply wL); exact rfl) | ((with_reducible apply wM); exact rfl)); all_goals (try ((with_reducible intro h); first | (exact absurd h (by decide)) | (try simp only [go_sem, simprocAttr, hb3] at h)))) | omega | ((first | first | refine acall_simple hX hC hP (refMay_spec g hl) rfl rfl rfl (by simp only [go_sem, simprocAttr, hb3]) rfl ?_ | refine acall_simple hX hC hP (rcycle_spec g hm) rfl rfl rfl (by simp only [go_sem, simprocAttr, hb3]) rfl ?_ | refine acall_simple hX hC hP (refBare_spec g true hl0 hn0) rfl rfl rfl (by simp only [go_sem, simprocAttr, hb3]) rfl ?_); try simp only [go_sem, simprocAttr, hb3]) | (intro h))
    refine ⟨k + 1, ⟨by omega, fun j hj => ?_⟩, ?_, by omega⟩
    ·by_cases hjk : j = k
     ·subst hjk
      refine decide_eq_false fun h => ?_
      obtain ⟨i, h1, _, h3⟩ := take_mem.1 h
      exact hne i (by omega) h3
     ·exact htw j (by omega)
    ·(refine Le.of ?_ ?_ <;> simp [go_sem, simprocAttr, hb3])
  ·have hb2 : decide ((k : Int) < (g.es.length : Int)) = false := decide_eq_false (by omega)
   have htw' : ¬ 0 ≤ twiceI g := by
    have : twiceI g = -1 := findI_none 0 fun j hj => by
     rw [List.length_range] at hj
     rw [range_getD hj]; exact htw j (by omega)
    omega
   repeat' (first | fail | ((first | ((with_reducible (first | apply oA | apply oB)); exact rfl; intro K hK) | (refine hK _ ?_; clear hK K) | ((with_reducible (first | apply oG | apply oH)); iterate 3 exact rfl) | ((with_reducible apply oI); (iterate 2 exact rfl); intro K hK) | (with_reducible (first | apply wI | apply wJ | apply wK))); try simp only [go_sem, simprocAttr, hm, hb2]) | fail | (with_reducible (first | apply oC | apply oJ | exact oK | apply wA | apply wB | apply wC hX hC | apply wD hX hC | apply wE hX hC hmix | apply wF hX hC hmix | apply wG | apply wH | apply And.intro)) | ((with_reducible refine oD ?_ ?_); first | fail | kernel_rfl) | ((with_reducible (first | apply oE | apply oF)); (iterate 3 exact rfl); all_goals (intro h; first | (exact absurd h (by decide)) | ((try simp only [go_sem, simprocAttr, hm, hb2] at h); (try with_reducible intro K hK); simp only [go_sem, simprocAttr, hm, hb2]))) | ((first | ((with_reducible apply wL); exact rfl) | ((with_reducible apply wM); exact rfl)); all_goals (try ((with_reducible intro h); first | (exact absurd h (by decide)) | (try simp only [go_sem, simprocAttr, hm, hb2] at h)))) | omega | ((first | first | refine acall_simple hX hC hP (refMay_spec g hl) rfl rfl rfl (by simp only [go_sem, simprocAttr, hm, hb2]) rfl ?_ | refine acall_simple hX hC hP (rcycle_spec g hm) rfl rfl rfl (by simp only [go_sem, simprocAttr, hm, hb2]) rfl ?_ | refine acall_simple hX hC hP (refBare_spec g true hl0 hn0) rfl rfl rfl (by simp only [go_sem, simprocAttr, hm, hb2]) rfl ?_); try simp only [go_sem, simprocAttr, hm, hb2]) | (intro h))
   all_goals (
    have hc : rchkG g = if 0 < (rcycG g).length then (15, 0, rcycG g) else if 1 < (bareG (endF false) g).length then (16, 0, (bareG (endF false) g).take 2) else (0, 0, []) := by
     show chkOf g (rcycG g) (bareG (endF false) g) = _
     simp only [chkOf]; rw [if_neg (by simp [hm]), if_neg hlo, if_neg htw']
    first | rw [if_pos (by omega)] at hc | (rw [if_neg (by omega)] at hc; first | rw [if_pos (by omega)] at hc | rw [if_neg (by omega)] at hc)
    rw [hc] <;> first | rfl | simp only [List.map_take])
end Go.Ab
end
section
namespace Go.Ab
def Ord (g : Gr) (out : List Int) : Prop := ∀ p, p < out.length → ∀ i, i < g.es.length → hd g i = out.getD p 0 → tl g i ∈ out.take p
theorem getD_app {l r : List Int} {p : Nat} (h : p < l.length) : (l ++ r).getD p 0 = l.getD p 0 := by
 rw [List.getD_eq_getElem?_getD, List.getD_eq_getElem?_getD, List.getElem?_append_left h]
theorem Ord.next {g : Gr} {out : List Int} (h : Ord g out) {x : Nat} (hb : ∀ i, i < g.es.length → hd g i = x → tl g i ∈ out) : Ord g (out ++ [(x : Int)]) := by
 intro p hp i hi hh
 rw [List.length_append, List.length_singleton] at hp
 by_cases hpl : p < out.length
 ·rw [getD_app hpl] at hh
  have := h p hpl i hi hh
  rw [List.take_append_of_le_length (by omega)]
  exact this
 ·have hpe : p = out.length := by omega
  subst hpe
  rw [List.getD_eq_getElem?_getD, List.getElem?_append_right (by omega)] at hh
  simp at hh
  rw [List.take_append_of_le_length (by omega), List.take_of_length_le (by omega)]
  exact hb i hi hh
theorem runF_props {g : Gr} (hm : mayB g = true) : ∀ f out, Placed g out → Ord g out → left g out ≤ f → Placed g (runF g f out) ∧ Ord g (runF g f out) ∧ idxI (wts g (runF g f out)) 0 < 0
 | f, out, hP, hO, hl => by
  rcases idxW (g := g) out with hx | ⟨x, hx, hxn, hw⟩
  ·rw [runF_end (by omega)]; exact ⟨hP, hO, by omega⟩
  ·obtain ⟨hP', _, hb⟩ := hP.next hm hxn hw
   have hn := left_next hP hP'
   cases f with
   | zero => omega
   | succ f =>
    have := runF_props hm f (out ++ [(x : Int)]) hP' (hO.next hb) (by omega)
    simp only [runF, hx]
    rw [if_neg (by omega)]
    exact this
theorem runG_props {g : Gr} (hm : mayB g = true) : Placed g (runG g) ∧ Ord g (runG g) ∧ idxI (wts g (runG g)) 0 < 0 :=
 runF_props hm _ _ (Placed.nil g) (fun p hp => by simp at hp) (by rw [left_nil]; exact Nat.le_refl _)
theorem wt_pos {g : Gr} (hm : mayB g = true) {y : Nat} (hy : y < g.n.toNat) : 0 < wt g (runG g) y ↔ (y : Int) ∉ runG g := by
 obtain ⟨_, _, hi⟩ := runG_props hm
 constructor
 ·intro h hin; simp [wt, hin] at h
 ·intro h
  have h0 : wt g (runG g) y ≠ 0 := by
   intro e
   rcases findI_spec (f := fun y : Int => decide (0 = y)) (l := wts g (runG g)) 0 with ⟨_, h2⟩ | ⟨k, h1, _⟩
   ·have := h2 _ (List.mem_of_getElem? (wts_get hy))
    rw [e] at this; simp at this
   ·have : idxI (wts g (runG g)) 0 = k := h1
    omega
  have : 0 ≤ wt g (runG g) y := by simp only [wt, h, if_false]; omega
  omega
theorem nextK_getD {g : Gr} {l : List Bool} {j y : Nat} (h : y < g.n.toNat) : (nextK g l j).getD y false = (List.range j).any fun i => decide (hd g i = (y : Int)) && (l.getD (tl g i).toNat false && l.getD (hd g i).toNat false) := by
 simp [nextK, List.getD_eq_getElem?_getD, List.getElem?_range h]
theorem left_yes {g : Gr} (hm : mayB g = true) : ∀ k y, y < g.n.toNat → (y : Int) ∉ runG g → (leftK g k).getD y false = true
 | 0, y, hy, _ => by simp [leftK, trueK, List.getD_eq_getElem?_getD, List.getElem?_range hy]; omega
 | k + 1, y, hy, h => by
  have hw := (wt_pos hm hy).2 h
  simp only [wt, h, if_false] at hw
  obtain ⟨i, hi, hp⟩ := List.countP_pos_iff.1 (Int.natCast_pos.1 hw)
  simp only [Bool.and_eq_true, decide_eq_true_eq, Bool.not_eq_true', decide_eq_false_iff_not] at hp
  have hil := List.mem_range.1 hi
  obtain ⟨⟨h1, h2⟩, _⟩ := mayB_e hm hil
  have ht : (g.es.getD i (0, 0)).1 = tl g i := rfl
  rw [ht] at h1 h2
  have e : ((tl g i).toNat : Int) = tl g i := by omega
  have g1 := left_yes hm k (tl g i).toNat (by omega) (by rw [e]; exact hp.2)
  have g2 := left_yes hm k y hy h
  show (nextK g (leftK g k) g.es.length).getD y false = true
  rw [nextK_getD hy, List.any_eq_true]
  refine ⟨i, hi, ?_⟩
  rw [hp.1, Int.toNat_natCast, g1, g2]; simp
theorem left_no {g : Gr} (hm : mayB g = true) : ∀ k p, p < k → p < (runG g).length → (leftK g k).getD ((runG g).getD p 0).toNat false = false
 | 0, p, h, _ => by omega
 | k + 1, p, h, hp => by
  obtain ⟨hP, hO, _⟩ := runG_props hm
  have hr := hP.lo _ (getD_mem hp)
  obtain ⟨y, hy⟩ : ∃ y : Nat, (runG g).getD p 0 = y := ⟨((runG g).getD p 0).toNat, by omega⟩
  have hyn : y < g.n.toNat := by omega
  rw [hy, Int.toNat_natCast]
  show (nextK g (leftK g k) g.es.length).getD y false = false
  rw [nextK_getD hyn, List.any_eq_false]
  intro i hi
  have hil := List.mem_range.1 hi
  simp only [Bool.and_eq_true, decide_eq_true_eq]
  rintro ⟨h1, h2, _⟩
  have ht := hO p hp i hil (by rw [h1, hy])
  rw [List.mem_iff_getElem?] at ht
  obtain ⟨q, hq⟩ := ht
  rw [List.getElem?_take] at hq
  split at hq
  ·rename_i hqp
   have := left_no hm k q (by omega) (by omega)
   rw [List.getD_eq_getElem?_getD (l := runG g), hq] at this
   rw [Option.getD_some, h2] at this
   cases this
  ·cases hq
theorem lf_iff {g : Gr} (hm : mayB g = true) {y : Nat} (hy : y < g.n.toNat) : (lfG g).getD y false = true ↔ (y : Int) ∉ runG g := by
 constructor
 ·intro h hin
  obtain ⟨hP, _, _⟩ := runG_props hm
  obtain ⟨p, hp, e⟩ := List.getElem_of_mem hin
  have hl := hP.fuel
  have := left_no hm g.n.toNat p (by omega) hp
  rw [List.getD_eq_getElem?_getD (l := runG g), List.getElem?_eq_getElem hp, Option.getD_some, e, Int.toNat_natCast] at this
  have h2 : (leftK g g.n.toNat).getD y false = true := h
  rw [this] at h2; cases h2
 ·intro h; exact left_yes hm _ y hy h
theorem lf_eq {g : Gr} (hm : mayB g = true) {y : Nat} (hy : y < g.n.toNat) : (lfG g).getD y false = decide (0 < (wts g (runG g)).getD y 0) := by
 rw [wts_getD hy, Bool.eq_iff_iff, lf_iff hm hy, decide_eq_true_eq, wt_pos hm hy]
theorem start_eq {g : Gr} (hm : mayB g = true) : (findI (fun n => decide (0 < n)) (wts g (runG g)) = -1 ∧ stR g = g.n) ∨ ∃ a : Nat, a < g.n.toNat ∧ findI (fun n => decide (0 < n)) (wts g (runG g)) = a ∧ stR g = a ∧ (a : Int) ∉ runG g := by
 have hlf : (lfG g).length = g.n.toNat := leftK_length
 rcases findI_spec (f := fun n : Int => decide (0 < n)) (l := wts g (runG g)) 0 with ⟨h1, h2⟩ | ⟨k, h1, h2, h3, h4⟩
 ·refine .inl ⟨h1, ?_⟩
  have : findI (fun b : Bool => b) (lfG g) = -1 := findI_none false fun j hj => by
   rw [hlf] at hj
   rw [lf_eq hm hj]
   exact h2 _ (by rw [List.getD_eq_getElem?_getD, wts_get hj]; exact List.mem_of_getElem? (wts_get hj))
  unfold stR; rw [this, if_pos (by omega)]
 ·rw [wts_length] at h2
  refine .inr ⟨k, h2, h1, ?_, ?_⟩
  ·have : findI (fun b : Bool => b) (lfG g) = k := findI_at (d := false) (by omega) (fun j hj => by
    rw [lf_eq hm (by omega)]; exact h4 j hj) (by rw [lf_eq hm h2]; exact h3)
   unfold stR; rw [this, if_neg (by omega)]
  ·rw [← wt_pos hm h2]
   rw [wts_getD h2] at h3
   exact of_decide_eq_true h3
def Q (g : Gr) (a : Nat) (t : Int) : Prop := ∃ i, i < g.es.length ∧ hd g i = (a : Int) ∧ tl g i = t ∧ t ∉ runG g
theorem tl_range {g : Gr} (hm : mayB g = true) {i : Nat} (hi : i < g.es.length) : 0 ≤ tl g i ∧ tl g i < g.n := (mayB_e hm hi).1
theorem hd_range {g : Gr} (hm : mayB g = true) {i : Nat} (hi : i < g.es.length) : 0 ≤ hd g i ∧ hd g i < g.n := (mayB_e hm hi).2
theorem waits_iff {g : Gr} (hm : mayB g = true) {i : Nat} (hi : i < g.es.length) : 0 < (wts g (runG g)).getD (tl g i).toNat 0 ↔ tl g i ∉ runG g := by
 have h := tl_range hm hi
 have e : ((tl g i).toNat : Int) = tl g i := by omega
 rw [wts_getD (by omega), wt_pos hm (by omega), e]
theorem backF_least {g : Gr} (hm : mayB g = true) : ∀ (l : List Int) (b : Int), (∀ e ∈ l, ∃ i : Nat, e = i ∧ i < g.es.length) →
  (b = -1 ∨ 0 ≤ b) → (l.foldl (backS g (wts g (runG g))) b = b ∨ ∃ i : Nat, (i : Int) ∈ l ∧ tl g i ∉ runG g ∧ l.foldl (backS g (wts g (runG g))) b = tl g i) ∧ (0 ≤ b → l.foldl (backS g (wts g (runG g))) b ≤ b) ∧
   (∀ i : Nat, (i : Int) ∈ l → tl g i ∉ runG g → 0 ≤ l.foldl (backS g (wts g (runG g))) b ∧ l.foldl (backS g (wts g (runG g))) b ≤ tl g i)
 | [], b, _, _ => ⟨.inl rfl, fun _ => Int.le_refl _, by simp⟩
 | e :: l, b, he, hb => by
  obtain ⟨i, rfl, hi⟩ := he e List.mem_cons_self
  have htr := tl_range hm hi
  have hw := waits_iff hm hi
  have hstep : backS g (wts g (runG g)) b (i : Int) = if tl g i ∉ runG g ∧ (b < 0 ∨ tl g i < b) then tl g i else b := by
   simp only [backS, Int.toNat_natCast, hw]
  have hb' : backS g (wts g (runG g)) b (i : Int) = -1 ∨ 0 ≤ backS g (wts g (runG g)) b (i : Int) := by
   rw [hstep]; split
   ·exact .inr htr.1
   ·exact hb
  obtain ⟨h1, h2, h3⟩ := backF_least hm l (backS g (wts g (runG g)) b (i : Int)) (fun e h => he e (List.mem_cons_of_mem _ h)) hb'
  simp only [List.foldl_cons]
  generalize hr : l.foldl (backS g (wts g (runG g))) (backS g (wts g (runG g)) b (i : Int)) = r at h1 h2 h3 ⊢
  refine ⟨?_, ?_, ?_⟩
  ·rcases h1 with h1 | ⟨j, hj, h4, h5⟩
   ·rw [hstep] at h1
    split at h1
    ·rename_i hc
     exact .inr ⟨i, by simp, hc.1, h1⟩
    ·exact .inl h1
   ·exact .inr ⟨j, by simp [hj], h4, h5⟩
  ·intro h0
   rw [hstep] at h2
   split at h2
   ·rename_i hc; have := h2 htr.1; omega
   ·exact h2 h0
  ·intro j hj hjn
   rcases List.mem_cons.1 hj with hj | hj
   ·have : j = i := Int.ofNat.inj hj
    subst this
    rw [hstep] at h1 h2
    split at h1
    ·rename_i hc
     rw [if_pos hc] at h2
     have := h2 htr.1
     rcases h1 with h1 | ⟨q, hq, h4, h5⟩
     ·omega
     ·obtain ⟨i', e', hi'⟩ := he q (List.mem_cons_of_mem _ hq)
      have : q = i' := Int.ofNat.inj e'
      subst this
      have := tl_range hm hi'; omega
    ·rename_i hc
     rw [if_neg hc] at h2
     have hbn : ¬ (b < 0 ∨ tl g j < b) := fun h => hc ⟨hjn, h⟩
     have := h2 (by omega)
     rcases h1 with h1 | ⟨q, hq, h4, h5⟩
     ·omega
     ·obtain ⟨i', e', hi'⟩ := he q (List.mem_cons_of_mem _ hq)
      have : q = i' := Int.ofNat.inj e'
      subst this
      have := tl_range hm hi'; omega
   ·exact h3 j hj hjn
theorem backG_spec {g : Gr} (hm : mayB g = true) {a : Nat} (h : ∃ t, Q g a t) : Q g a (backG g (wts g (runG g)) a) ∧ ∀ t, Q g a t → backG g (wts g (runG g)) a ≤ t := by
 have hin : ∀ i, i < g.es.length → hd g i = (a : Int) → (i : Int) ∈ inL g a := by
  intro i hi hh
  simp only [inL, endsK, List.mem_map, List.mem_filter, List.mem_range, decide_eq_true_eq]
  exact ⟨i, ⟨hi, hh⟩, rfl⟩
 obtain ⟨h1, _, h3⟩ := backF_least hm (inL g a) (-1) inL_ok (.inl rfl)
 have hG : backG g (wts g (runG g)) a = (inL g a).foldl (backS g (wts g (runG g))) (-1) := by simp [backG, backF]
 rw [← hG] at h1 h3
 have hle : ∀ t, Q g a t → 0 ≤ backG g (wts g (runG g)) a ∧ backG g (wts g (runG g)) a ≤ t := by
  rintro t ⟨i, h4, h5, rfl, h6⟩
  exact h3 i (hin i h4 h5) h6
 obtain ⟨t, ht⟩ := h
 have h0 := (hle t ht).1
 refine ⟨?_, fun t ht => (hle t ht).2⟩
 rcases h1 with h1 | ⟨i, hi, h4, h5⟩
 ·omega
 ·obtain ⟨i', e', hi', hh⟩ := inL_mem hi
  have : i = i' := Int.ofNat.inj e'
  subst this
  exact ⟨i, hi', hh, h5.symm, by rw [h5]; exact h4⟩
theorem backR_spec {g : Gr} (hm : mayB g = true) {a : Nat} : ∀ k, k ≤ g.es.length → (backR g a k = g.n ∨ Q g a (backR g a k)) ∧ backR g a k ≤ g.n ∧ ∀ i, i < k → hd g i = (a : Int) → tl g i ∉ runG g → backR g a k ≤ tl g i
 | 0, _ => ⟨.inl rfl, Int.le_refl _, by simp⟩
 | k + 1, hk => by
  obtain ⟨h1, h2, h3⟩ := backR_spec hm (a := a) k (by omega)
  have htr := tl_range hm (i := k) (by omega)
  have e : ((tl g k).toNat : Int) = tl g k := by omega
  have hlf := lf_iff hm (y := (tl g k).toNat) (by omega)
  rw [e] at hlf
  rw [backR_next]
  unfold backRS
  split
  ·rename_i hc0
   have hc : hd g k = (a : Int) ∧ tl g k ∉ runG g := ⟨hc0.1, hlf.1 hc0.2⟩
   refine ⟨?_, by omega, ?_⟩
   ·by_cases hle : backR g a k ≤ tl g k
    ·rw [Int.min_eq_left hle]; exact h1
    ·rw [Int.min_eq_right (by omega)]; exact .inr ⟨k, by omega, hc.1, rfl, hc.2⟩
   ·intro i hi hh hn
    by_cases hik : i = k
    ·subst hik; omega
    ·have := h3 i (by omega) hh hn; omega
  ·rename_i hc
   refine ⟨h1, h2, ?_⟩
   intro i hi hh hn
   by_cases hik : i = k
   ·subst hik; exact absurd ⟨hh, hlf.2 hn⟩ hc
   ·exact h3 i (by omega) hh hn
theorem back_eq {g : Gr} (hm : mayB g = true) {a : Nat} (h : ∃ t, Q g a t) : backG g (wts g (runG g)) a = backR g a g.es.length ∧ Q g a (backR g a g.es.length) := by
 obtain ⟨h1, h2⟩ := backG_spec hm h
 obtain ⟨h3, h4, h5⟩ := backR_spec hm (a := a) g.es.length (Nat.le_refl _)
 have hb : backR g a g.es.length ≤ backG g (wts g (runG g)) a := by
  obtain ⟨i, h6, h7, h8, h9⟩ := h1
  rw [← h8] at h9 ⊢
  exact h5 i h6 h7 h9
 have hlt : backG g (wts g (runG g)) a < g.n := by
  obtain ⟨i, h6, h7, h8, h9⟩ := h1
  rw [← h8]; exact (tl_range hm h6).2
 rcases h3 with h3 | h3
 ·omega
 ·exact ⟨by have := h2 _ h3; omega, h3⟩
theorem Q_of {g : Gr} (hm : mayB g = true) {a : Nat} (ha : a < g.n.toNat) (h : (a : Int) ∉ runG g) : ∃ t, Q g a t := by
 have hw := (wt_pos hm ha).2 h
 simp only [wt, h, if_false] at hw
 obtain ⟨i, hi, hp⟩ := List.countP_pos_iff.1 (Int.natCast_pos.1 hw)
 simp only [Bool.and_eq_true, decide_eq_true_eq, Bool.not_eq_true', decide_eq_false_iff_not] at hp
 exact ⟨tl g i, i, List.mem_range.1 hi, hp.1, rfl, hp.2⟩
theorem way_eq {g : Gr} (hm : mayB g = true) : ∀ (f f' : Nat) (way : List Int) (a : Nat), way.Nodup → a < g.n.toNat → (a : Int) ∉ runG g → left g way ≤ f → left g way ≤ f' →
  wayF g (wts g (runG g)) f way a = wayR g f' way a ∧ (0 ≤ (wayR g f' way a).2 ∧ (wayR g f' way a).2 ∈ (wayR g f' way a).1 ∧ (wayR g f' way a).1.Nodup)
 | f, f', way, a, hd, ha, hn, h1, h2 => by
  by_cases hmem : (a : Int) ∈ way
  ·rw [wayF_end (.inr hmem), wayR_end hmem]
   exact ⟨rfl, by simp only; omega, hmem, hd⟩
  ·have hla := left_app ha hmem
   cases f with
   | zero => omega
   | succ f =>
    cases f' with
    | zero => omega
    | succ f' =>
     obtain ⟨hb, hq⟩ := back_eq hm (Q_of hm ha hn)
     obtain ⟨i, hi, _, ht, hnr⟩ := hq
     have htr := tl_range hm hi
     rw [ht] at htr
     obtain ⟨b, hbe⟩ : ∃ b : Nat, backR g a g.es.length = b := ⟨(backR g a g.es.length).toNat, by omega⟩
     rw [hbe] at hb hnr htr
     have hd' : (way ++ [(a : Int)]).Nodup := by
      rw [List.nodup_append]
      refine ⟨hd, by simp, ?_⟩
      intro x hx y hy e
      simp at hy
      rw [← hy, ← e] at hmem; exact hmem hx
     have ih := way_eq hm f f' (way ++ [(a : Int)]) b hd' (by omega) hnr (by omega) (by omega)
     have e1 : wayF g (wts g (runG g)) (f + 1) way a = wayF g (wts g (runG g)) f (way ++ [(a : Int)]) b := by
      simp only [wayF]; rw [if_neg (by intro h; rcases h with h | h; omega; exact hmem h), hb]
     have e2 : wayR g (f' + 1) way a = wayR g f' (way ++ [(a : Int)]) b := by
      simp only [wayR]; rw [if_neg hmem, hbe]
     rw [e1, e2]; exact ih
theorem left_gx {g : Gr} {way : List Int} : left g way ≤ g.n.toNat := by
 unfold left
 have := List.countP_le_length (p := fun y : Nat => !decide ((y : Int) ∈ way)) (l := List.range g.n.toNat)
 simpa using this
theorem nodup_getD {l : List Int} (h : l.Nodup) {i j : Nat} (hi : i < l.length) (hj : j < l.length) (e : l.getD i 0 = l.getD j 0) : i = j := by
 rw [List.getD_eq_getElem?_getD, List.getD_eq_getElem?_getD, List.getElem?_eq_getElem hi, List.getElem?_eq_getElem hj] at e
 exact (List.getElem_inj h).1 e
theorem getD_rev {l : List Int} {i : Nat} (hi : i < l.length) : l.reverse.getD i 0 = l.getD (l.length - 1 - i) 0 := by
 rw [List.getD_eq_getElem?_getD, List.getD_eq_getElem?_getD, List.getElem?_reverse hi]
theorem turn_eq {l : List Int} (hd : l.Nodup) (h0 : 0 < l.length) : turnL l.reverse = turnR l := by
 obtain ⟨m, hm1, hm2, hm3⟩ := idxI_mem (minL_mem h0)
 have h0r : 0 < l.reverse.length := by simpa using h0
 obtain ⟨k, hk1, hk2, hk3⟩ := idxI_mem (minL_mem h0r)
 have hmin : minL l.reverse = minL l := by
  have h1 := minL_le (List.mem_reverse.2 (minL_mem h0))
  have h2 := minL_le (List.mem_reverse.1 (minL_mem h0r))
  omega
 rw [List.length_reverse] at hk2
 have hk : l.length - 1 - k = m := nodup_getD hd (by omega) hm2 (by rw [← getD_rev hk2, hk3, hm3, hmin])
 have e1 : turnL l.reverse = l.reverse.drop k ++ l.reverse.take k := by
  simp only [turnL, hk1, Int.toNat_natCast]
 have e2 : turnR l = rotR l m l.length := by simp only [turnR, hm1, Int.toNat_natCast]
 rw [e1, e2]
 refine List.ext_getElem? fun i => ?_
 by_cases hi : i < l.length
 ·have hr : (rotR l m l.length)[i]? = some (l.getD ((m + l.length - i) % l.length) 0) := by
   simp [rotR, List.getElem?_range hi]
  rw [hr]
  by_cases hik : i < l.length - k
  ·rw [List.getElem?_append_left (by simp; omega), List.getElem?_drop, List.getElem?_reverse (by omega)]
   have : (m + l.length - i) % l.length = m - i := by
    rw [show m + l.length - i = (m - i) + l.length from by omega, Nat.add_mod_right, Nat.mod_eq_of_lt (by omega)]
   rw [this, show l.length - 1 - (k + i) = m - i from by omega, List.getD_eq_getElem?_getD, List.getElem?_eq_getElem (by omega)]; rfl
  ·rw [List.getElem?_append_right (by simp; omega), List.length_drop, List.length_reverse, List.getElem?_take, if_pos (by omega), List.getElem?_reverse (by omega)]
   have : (m + l.length - i) % l.length = m + l.length - i := Nat.mod_eq_of_lt (by omega)
   rw [this, show l.length - 1 - (i - (l.length - k)) = m + l.length - i from by omega, List.getD_eq_getElem?_getD, List.getElem?_eq_getElem (by omega)]; rfl
 ·rw [List.getElem?_eq_none (by simp; omega), List.getElem?_eq_none (by simp [rotR]; omega)]
theorem cyc_eq {g : Gr} (hm : mayB g = true) : cycG g = rcycG g := by
 have hn := mayB_n hm
 rcases start_eq hm with ⟨h1, h2⟩ | ⟨a, ha, h1, h2, h3⟩
 ·have : wayG g = ([], -1) := by
   unfold wayG; rw [h1]; exact wayF_end (.inl (by omega)) _
  simp only [cycG, rcycG, this]
  rw [if_pos (by omega), if_pos h2]
 ·obtain ⟨he, h4, h5, h6⟩ := way_eq hm g.n.toNat (g.n.toNat + 1) [] a (by simp) ha h3 left_gx (Nat.le_succ_of_le left_gx)
  have hw : wayG g = wayRG g := by
   unfold wayG wayRG; rw [h1, h2]; exact he
  have hr : wayR g (g.n.toNat + 1) [] a = wayRG g := by unfold wayRG; rw [h2]
  rw [hr] at h4 h5 h6
  simp only [cycG, rcycG, hw]
  rw [if_neg (by omega), if_neg (by omega)]
  obtain ⟨k, hk1, hk2, _⟩ := idxI_mem h5
  rw [hk1, Int.toNat_natCast]
  exact turn_eq (List.Pairwise.drop h6) (by simp; omega)
theorem chk_eq (g : Gr) : chkG g = rchkG g := by
 unfold chkG rchkG
 cases hm : mayB g with
 | false => simp [chkOf, hm]
 | true => rw [cyc_eq hm]
end Go.Ab
end
section
namespace Go.Ab
end Go.Ab
end
section
namespace Go.Ab
open Go.Proofs
attribute [local congr] ACall.congr
set_option maxRecDepth 10000
def g0 : Gr := ⟨3, [(0, 1), (1, 2), (2, 1)]⟩
end Go.Ab
end
section
namespace Go.Ab
open Go.Proofs
attribute [local congr] ACall.congr
set_option maxRecDepth 10000
def okG (g : Gr) : Bool := decide (g.n ≤ ((runG g).length : Int))
def ordG (g : Gr) : List Int := if okG g then runG g else []
def eachB (l : List Int) (n : Int) : Bool := decide ((l.length : Int) = n) && (List.range n.toNat).all fun x : Nat => decide ((x : Int) ∈ l)
theorem idxI_neg {l : List Int} {x : Int} : decide (idxI l x < 0) = !decide (x ∈ l) := by
 rw [Bool.eq_iff_iff]
 simp only [decide_eq_true_eq, Bool.not_eq_true', decide_eq_false_iff_not]
 constructor
 ·intro h hm
  obtain ⟨k, hk, _⟩ := idxI_mem hm
  omega
 ·intro h
  rcases findI_spec (f := fun y : Int => decide (x = y)) (l := l) 0 with ⟨h1, _⟩ | ⟨q, _, h2, h3, _⟩
  ·unfold idxI; omega
  ·exact absurd (by rw [of_decide_eq_true h3]; exact getD_mem h2) h
theorem each_spec (l : List Int) (n : Int) (hl : l.length ≤ 9223372036854775807) : Spec Tryz.prog 21 (Args [.d (sI l), eN n]) [] (eB (eachB l n)) [] := by
 (refine Spec.intro (C := T.cfg [] []) (rs := [.t 4]) (T.cfg_ok _ _) Tryz.func21 rfl rfl Tryz.ntmps21 Tryz.results21 (by simp [AObj.isNest]) (by simp [AObj.isNest]) (by kernel_rfl) ?_; intro X hX hP hC hXn hXm vals hA; refine ⟨_, by simp, hA, ?_⟩; have hmix : X.P.follows .mixedOrders = true := (by rw [hP]; exact T.mixed); clear hXn hXm)
 repeat' (first | fail | ((first | ((with_reducible (first | apply oA | apply oB)); exact rfl; intro K hK) | (refine hK _ ?_; clear hK K) | ((with_reducible (first | apply oG | apply oH)); iterate 3 exact rfl) | ((with_reducible apply oI); (iterate 2 exact rfl); intro K hK) | (with_reducible (first | apply wI | apply wJ | apply wK))); try simp only [go_sem, simprocAttr, idxI_neg]) | fail | (with_reducible (first | apply oC | apply oJ | exact oK | apply wA | apply wB | apply wC hX hC | apply wD hX hC | apply wE hX hC hmix | apply wF hX hC hmix | apply wG | apply wH | apply And.intro)) | ((with_reducible refine oD ?_ ?_); first | fail | kernel_rfl) | ((with_reducible (first | apply oE | apply oF)); (iterate 3 exact rfl); all_goals (intro h; first | (exact absurd h (by decide)) | ((try simp only [go_sem, simprocAttr, idxI_neg] at h); (try with_reducible intro K hK); simp only [go_sem, simprocAttr, idxI_neg]))) | ((first | ((with_reducible apply wL); exact rfl) | ((with_reducible apply wM); exact rfl)); all_goals (try ((with_reducible intro h); first | (exact absurd h (by decide)) | (try simp only [go_sem, simprocAttr, idxI_neg] at h)))) | omega | ((first | refine acall_simple hX hC hP (has_spec l (k : Int) hl) rfl rfl rfl (by simp only [go_sem, simprocAttr, idxI_neg]) rfl ?_); try simp only [go_sem, simprocAttr, idxI_neg]) | (intro h))
 ·have hne : ¬ (l.length : Int) = n := by assumption
  simp [eachB, hne]
 have hln : (l.length : Int) = n := by assumption
 refine awp_loopP (fun k : Nat => (k : Int) ≤ n ∧ ∀ j, j < k → (j : Int) ∈ l) (fun k => ⟨[(0, .d (sI l)), (1, eN n), (5, eN k)], []⟩) (fun k => n.toNat - k) 0 (by simp; omega) ?_ ?_
 ·(refine ⟨leT_spec ?_, fun _ _ h => h⟩; simp [go_sem, simprocAttr, idxI_neg])
 rintro k ⟨hk, hin⟩
 repeat' (first | fail | ((first | ((with_reducible (first | apply oA | apply oB)); exact rfl; intro K hK) | (refine hK _ ?_; clear hK K) | ((with_reducible (first | apply oG | apply oH)); iterate 3 exact rfl) | ((with_reducible apply oI); (iterate 2 exact rfl); intro K hK) | (with_reducible (first | apply wI | apply wJ | apply wK))); try simp only [go_sem, simprocAttr, idxI_neg]) | fail | (with_reducible (first | apply oC | apply oJ | exact oK | apply wA | apply wB | apply wC hX hC | apply wD hX hC | apply wE hX hC hmix | apply wF hX hC hmix | apply wG | apply wH | apply And.intro)) | ((with_reducible refine oD ?_ ?_); first | fail | kernel_rfl) | ((with_reducible (first | apply oE | apply oF)); (iterate 3 exact rfl); all_goals (intro h; first | (exact absurd h (by decide)) | ((try simp only [go_sem, simprocAttr, idxI_neg] at h); (try with_reducible intro K hK); simp only [go_sem, simprocAttr, idxI_neg]))) | ((first | ((with_reducible apply wL); exact rfl) | ((with_reducible apply wM); exact rfl)); all_goals (try ((with_reducible intro h); first | (exact absurd h (by decide)) | (try simp only [go_sem, simprocAttr, idxI_neg] at h)))) | omega | ((first | refine acall_simple hX hC hP (has_spec l (k : Int) hl) rfl rfl rfl (by simp only [go_sem, simprocAttr, idxI_neg]) rfl ?_); try simp only [go_sem, simprocAttr, idxI_neg]) | (intro h))
 ·have hlt : (k : Int) < n := by assumption
  have hm : (List.range n.toNat).all (fun x : Nat => decide ((x : Int) ∈ l)) = false := by
   rw [List.all_eq_false]
   exact ⟨k, List.mem_range.2 (by omega), by simpa using h⟩
  simp only [eachB, hm, Bool.and_false]
 ·refine ⟨k + 1, ⟨by omega, fun j hj => ?_⟩, ?_, by omega⟩
  ·by_cases hjk : j = k
   ·subst hjk; exact h
   ·exact hin j (by omega)
  ·(refine ⟨leT_spec ?_, fun _ _ h => h⟩; simp [go_sem, simprocAttr, idxI_neg])
 ·have hm : (List.range n.toNat).all (fun x : Nat => decide ((x : Int) ∈ l)) = true := by
   rw [List.all_eq_true]
   intro x hx
   exact decide_eq_true (hin x (by have := List.mem_range.1 hx; omega))
  simp only [eachB, hm, Bool.and_true]
  exact (decide_eq_true hln).symm
end Go.Ab
end
section
namespace Go.Ab
open Go.Proofs
attribute [local congr] ACall.congr
set_option maxRecDepth 10000
theorem count_le : ∀ (xs l : List Int), xs.Nodup → (∀ x ∈ xs, x ∈ l) → xs.length ≤ l.countP (fun y => decide (y ∈ xs))
 | [], _, _, _ => Nat.zero_le _
 | a :: r, l, hd, h => by
  obtain ⟨h1, h2⟩ := List.nodup_cons.1 hd
  have ih := count_le r l h2 fun x hx => h x (List.mem_cons_of_mem _ hx)
  have hp := countP_parts (p := fun y => decide (y ∈ a :: r)) (q := fun y => decide (y ∈ r)) (r := fun y => decide (y = a)) (l := l) (fun y _ => by
   by_cases hy : y = a
   ·subst hy; simp [h1]
   ·simp [hy])
  have ha : 0 < l.countP (fun y => decide (y = a)) := List.countP_pos_iff.2 ⟨a, h a List.mem_cons_self, by simp⟩
  rw [hp, List.length_cons]; omega
def allN (n : Nat) : List Int := (List.range n).map Int.ofNat
theorem allN_mem {n : Nat} {x : Int} : x ∈ allN n ↔ 0 ≤ x ∧ x < n := by
 simp only [allN, List.mem_map, List.mem_range]
 constructor
 ·rintro ⟨a, h, rfl⟩; simp; omega
 ·intro h; exact ⟨x.toNat, by omega, by simp; omega⟩
theorem allN_nodup {n : Nat} : (allN n).Nodup := by
 unfold allN
 exact List.Pairwise.map _ (fun a b h e => h (Int.ofNat.inj e)) List.nodup_range
theorem eachB_iff {l : List Int} {n : Int} : eachB l n = true ↔ (l.length : Int) = n ∧ ∀ x ∈ allN n.toNat, x ∈ l := by
 simp only [eachB, Bool.and_eq_true, decide_eq_true_eq, List.all_eq_true, List.mem_range]
 constructor
 ·rintro ⟨h1, h2⟩
  refine ⟨h1, fun x hx => ?_⟩
  obtain ⟨a, b⟩ := allN_mem.1 hx
  have := h2 x.toNat (by omega)
  rwa [show ((x.toNat : Nat) : Int) = x from by omega] at this
 ·rintro ⟨h1, h2⟩
  exact ⟨h1, fun x hx => h2 _ (allN_mem.2 (by omega))⟩
theorem eachB_lo {l : List Int} {n : Int} (h : eachB l n = true) : ∀ x ∈ l, 0 ≤ x ∧ x < n := by
 obtain ⟨h1, h2⟩ := eachB_iff.1 h
 have hc := count_le (allN n.toNat) l allN_nodup h2
 have hlen : (allN n.toNat).length = n.toNat := by simp [allN]
 have he : l.countP (fun y => decide (y ∈ allN n.toNat)) = l.length := by
  have := List.countP_le_length (p := fun y => decide (y ∈ allN n.toNat)) (l := l)
  omega
 intro x hx
 have := List.countP_eq_length.1 he x hx
 have := allN_mem.1 (of_decide_eq_true this)
 omega
def atK (n : Nat) (l : List Int) : Nat → List Int
 | 0 => List.replicate n 0
 | k + 1 => (atK n l k).set (l.getD k 0).toNat k
theorem atK_length {n : Nat} {l : List Int} : ∀ {k : Nat}, (atK n l k).length = n
 | 0 => by simp [atK]
 | k + 1 => by simp [atK, atK_length (k := k)]
def risesB (g : Gr) (l : List Int) (j : Nat) : Bool := (List.range j).all fun i => decide ((atK g.n.toNat l l.length).getD (tl g i).toNat 0 < (atK g.n.toNat l l.length).getD (hd g i).toNat 0)
def rightB (g : Gr) (l : List Int) : Bool := eachB l g.n && risesB g l g.es.length
attribute [go_sem] atK_length
end Go.Ab
end
section
namespace Go.Ab
def Sel (g : Gr) (out : List Int) : Prop := ∀ p, p < out.length → out.getD p 0 = idxI (wts g (out.take p)) 0 ∧ 0 ≤ out.getD p 0
theorem okG_all {g : Gr} (hm : mayB g = true) (h : okG g = true) : eachB (runG g) g.n = true := by
 obtain ⟨hP, _, _⟩ := runG_props hm
 have hn := mayB_n hm
 have hf := hP.fuel
 have hok := of_decide_eq_true h
 refine eachB_iff.2 ⟨by omega, fun x hx => ?_⟩
 obtain ⟨h1, h2⟩ := allN_mem.1 hx
 have h0 : (List.range g.n.toNat).countP (fun y : Nat => !decide ((y : Int) ∈ runG g)) = 0 := by omega
 have := List.countP_eq_zero.1 h0 x.toNat (List.mem_range.2 (by omega))
 rw [show ((x.toNat : Nat) : Int) = x from by omega] at this
 simpa using this
theorem okG_not {g : Gr} (hm : mayB g = true) (h : okG g = false) : ∃ y : Nat, y < g.n.toNat ∧ (y : Int) ∉ runG g := by
 obtain ⟨hP, _, _⟩ := runG_props hm
 have hn := mayB_n hm
 have hf := hP.fuel
 have hok := of_decide_eq_false h
 have h0 : 0 < (List.range g.n.toNat).countP (fun y : Nat => !decide ((y : Int) ∈ runG g)) := by omega
 obtain ⟨y, hy, hp⟩ := List.countP_pos_iff.1 h0
 exact ⟨y, List.mem_range.1 hy, by simpa using hp⟩
theorem rises_at {g : Gr} {l : List Int} (h : rightB g l = true) {i : Nat} (hi : i < g.es.length) : (atK g.n.toNat l l.length).getD (tl g i).toNat 0 < (atK g.n.toNat l l.length).getD (hd g i).toNat 0 := by
 simp only [rightB, Bool.and_eq_true] at h
 have := List.all_eq_true.1 h.2 i (List.mem_range.2 hi)
 exact of_decide_eq_true this
theorem atK_nonneg {n : Nat} {l : List Int} : ∀ {k : Nat} {y : Nat}, 0 ≤ (atK n l k).getD y 0
 | 0, y => by
  simp only [atK, List.getD_eq_getElem?_getD, List.getElem?_replicate]
  split <;> simp
 | k + 1, y => by
  have ih := atK_nonneg (n := n) (l := l) (k := k) (y := y)
  simp only [atK, List.getD_eq_getElem?_getD, List.getElem?_set] at ih ⊢
  split
  ·split <;> simp
  ·exact ih
theorem eraseIdx_mem {l : List Int} {i j : Nat} (hij : i < j) (hj : j < l.length) (e : l.getD i 0 = l.getD j 0) : ∀ x ∈ l, x ∈ l.eraseIdx i := by
 intro x hx
 obtain ⟨k, hk, rfl⟩ := List.getElem_of_mem hx
 rw [List.mem_iff_getElem?]
 rcases Nat.lt_trichotomy k i with h | h | h
 ·exact ⟨k, by rw [List.getElem?_eraseIdx, if_pos h, List.getElem?_eq_getElem hk]⟩
 ·subst h
  refine ⟨j - 1, ?_⟩
  rw [List.getElem?_eraseIdx, if_neg (by omega), show j - 1 + 1 = j from by omega, List.getElem?_eq_getElem hj]
  rw [List.getD_eq_getElem?_getD, List.getD_eq_getElem?_getD, List.getElem?_eq_getElem hk, List.getElem?_eq_getElem hj] at e
  exact congrArg some e.symm
 ·exact ⟨k - 1, by rw [List.getElem?_eraseIdx, if_neg (by omega), show k - 1 + 1 = k from by omega, List.getElem?_eq_getElem hk]⟩
theorem eachB_once {l : List Int} {n : Int} (h : eachB l n = true) {i j : Nat} (hi : i < l.length) (hj : j < l.length) (e : l.getD i 0 = l.getD j 0) : i = j := by
 obtain ⟨h1, h2⟩ := eachB_iff.1 h
 have key : ∀ i j, i < j → j < l.length → l.getD i 0 = l.getD j 0 → False := by
  intro i j hij hj e
  have hc := count_le (allN n.toNat) (l.eraseIdx i) allN_nodup fun x hx => eraseIdx_mem hij hj e x (h2 x hx)
  have hlen : (allN n.toNat).length = n.toNat := by simp [allN]
  have hle := List.countP_le_length (p := fun y => decide (y ∈ allN n.toNat)) (l := l.eraseIdx i)
  rw [List.length_eraseIdx_of_lt (by omega)] at hle
  omega
 rcases Nat.lt_trichotomy i j with h | h | h
 ·exact (key i j h hj e).elim
 ·exact h
 ·exact (key j i h hi e.symm).elim
theorem atK_at {l : List Int} {n : Int} (h : eachB l n = true) {p : Nat} : ∀ {k : Nat}, p < k → k ≤ l.length → (atK n.toNat l k).getD (l.getD p 0).toNat 0 = p
 | 0, hp, _ => by omega
 | k + 1, hp, hk => by
  have hlo := eachB_lo h
  have hp1 := hlo _ (getD_mem (l := l) (m := p) (by omega))
  have hk1 := hlo _ (getD_mem (l := l) (m := k) (by omega))
  simp only [atK, List.getD_eq_getElem?_getD (l := (atK n.toNat l k).set _ _), List.getElem?_set, atK_length]
  by_cases hpk : p = k
  ·subst hpk
   rw [if_pos rfl, if_pos (by omega)]; rfl
  ·have hne : ¬ (l.getD k 0).toNat = (l.getD p 0).toNat := fun e => hpk (eachB_once h (i := p) (j := k) (by omega) (by omega) (by omega))
   rw [if_neg hne, ← List.getD_eq_getElem?_getD]
   exact atK_at h (by omega) (by omega)
theorem ord_right {g : Gr} (hm : mayB g = true) (h : okG g = true) : rightB g (runG g) = true := by
 have he := okG_all hm h
 obtain ⟨hP, hO, _⟩ := runG_props hm
 have hall := (eachB_iff.1 he).2
 simp only [rightB, he, Bool.true_and, risesB, List.all_eq_true, List.mem_range, decide_eq_true_eq]
 intro i hi
 have hh := hd_range hm hi
 obtain ⟨p, hp, e⟩ := List.getElem_of_mem (hall (hd g i) (allN_mem.2 (by omega)))
 have e' : (runG g).getD p 0 = hd g i := by rw [List.getD_eq_getElem?_getD, List.getElem?_eq_getElem hp]; exact e
 have ht := hO p hp i hi e'.symm
 rw [List.mem_iff_getElem?] at ht
 obtain ⟨q, hq⟩ := ht
 rw [List.getElem?_take] at hq
 split at hq
 ·rename_i hqp
  have e2 : (runG g).getD q 0 = tl g i := by rw [List.getD_eq_getElem?_getD, hq]; rfl
  rw [← e', ← e2, atK_at he hp (Nat.le_refl _), atK_at he (by omega) (Nat.le_refl _)]
  omega
 ·cases hq
end Go.Ab
end
section
namespace Go.Ab
open Go.Proofs
attribute [local congr] ACall.congr
set_option maxRecDepth 10000
end Go.Ab
end
section
namespace Go.Ab
open Go.Proofs
attribute [local congr] ACall.congr
set_option maxRecDepth 10000
def gz : Gr := ⟨0, []⟩
def vz : D := .pt [.sc (.int .i64 0), .sl 2 [], .sl 1 [], .sl 1 []]
def thereG (f : Edge → Int) (g : Gr) (x : Int) : List Int := if 0 ≤ x ∧ x < g.n then endsZ f g.es g.es.length x else []
theorem there_spec (f : Edge → Int) (g : Gr) (hm : mayB g = true) (x : Int) : Spec Tryz.prog 72 (Args [.d (vw g), .d (.sl 1 (vwl f g)), eN x]) [] (.d (sI (thereG f g x))) [] := by
 rw [vw_eq]
 have hn := mayB_n hm
 have hl' : (endsZ f g.es g.es.length x).length ≤ 1000000 := by have := endsZ_len (f := f) (es := g.es) (k := g.es.length) (x := x); omega
 (refine Spec.intro (C := T.cfg [] []) (rs := [.t 6]) (T.cfg_ok _ _) Tryz.func72 rfl rfl Tryz.ntmps72 Tryz.results72 (by simp [AObj.isNest]) (by simp [AObj.isNest]) (by kernel_rfl) ?_; intro X hX hP hC hXn hXm vals hA; refine ⟨_, by simp, hA, ?_⟩; have hmix : X.P.follows .mixedOrders = true := (by rw [hP]; exact T.mixed); clear hXn hXm)
 by_cases hx : 0 ≤ x ∧ x < g.n
 ·have hv := vwl_getD (f := f) (g := g) (x := x.toNat) (by omega)
  have he : endsK f g.es g.es.length x.toNat = endsZ f g.es g.es.length x := by rw [endsK_eq, show ((x.toNat : Nat) : Int) = x from by omega]
  rw [he] at hv
  have hb1 : decide (x < 0) = false := decide_eq_false (by omega)
  have hb2 : decide (g.n ≤ x) = false := decide_eq_false (by omega)
  have ht : thereG f g x = endsZ f g.es g.es.length x := if_pos hx
  repeat' (first | fail | ((first | ((with_reducible (first | apply oA | apply oB)); exact rfl; intro K hK) | (refine hK _ ?_; clear hK K) | ((with_reducible (first | apply oG | apply oH)); iterate 3 exact rfl) | ((with_reducible apply oI); (iterate 2 exact rfl); intro K hK) | (with_reducible (first | apply wI | apply wJ | apply wK))); try simp only [go_sem, simprocAttr, hv, hb1, hb2]) | fail | (with_reducible (first | apply oC | apply oJ | exact oK | apply wA | apply wB | apply wC hX hC | apply wD hX hC | apply wE hX hC hmix | apply wF hX hC hmix | apply wG | apply wH | apply And.intro)) | ((with_reducible refine oD ?_ ?_); first | fail | kernel_rfl) | ((with_reducible (first | apply oE | apply oF)); (iterate 3 exact rfl); all_goals (intro h; first | (exact absurd h (by decide)) | ((try simp only [go_sem, simprocAttr, hv, hb1, hb2] at h); (try with_reducible intro K hK); simp only [go_sem, simprocAttr, hv, hb1, hb2]))) | ((first | ((with_reducible apply wL); exact rfl) | ((with_reducible apply wM); exact rfl)); all_goals (try ((with_reducible intro h); first | (exact absurd h (by decide)) | (try simp only [go_sem, simprocAttr, hv, hb1, hb2] at h)))) | omega | ((first | first | refine acall_simple hX hC hP (cloneI_spec (endsZ f g.es g.es.length x) hl') rfl rfl rfl (by simp only [go_sem, simprocAttr, hv, hb1, hb2]) rfl ?_); try simp only [go_sem, simprocAttr, hv, hb1, hb2]) | (intro h))
  simp [ht]
 ·have ht : thereG f g x = [] := if_neg hx
  repeat' (first | fail | ((first | ((with_reducible (first | apply oA | apply oB)); exact rfl; intro K hK) | (refine hK _ ?_; clear hK K) | ((with_reducible (first | apply oG | apply oH)); iterate 3 exact rfl) | ((with_reducible apply oI); (iterate 2 exact rfl); intro K hK) | (with_reducible (first | apply wI | apply wJ | apply wK))); try simp only [go_sem, simprocAttr, ht]) | fail | (with_reducible (first | apply oC | apply oJ | exact oK | apply wA | apply wB | apply wC hX hC | apply wD hX hC | apply wE hX hC hmix | apply wF hX hC hmix | apply wG | apply wH | apply And.intro)) | ((with_reducible refine oD ?_ ?_); first | fail | kernel_rfl) | ((with_reducible (first | apply oE | apply oF)); (iterate 3 exact rfl); all_goals (intro h; first | (exact absurd h (by decide)) | ((try simp only [go_sem, simprocAttr, ht] at h); (try with_reducible intro K hK); simp only [go_sem, simprocAttr, ht]))) | ((first | ((with_reducible apply wL); exact rfl) | ((with_reducible apply wM); exact rfl)); all_goals (try ((with_reducible intro h); first | (exact absurd h (by decide)) | (try simp only [go_sem, simprocAttr, ht] at h)))) | omega | ((first | first | refine acall_simple hX hC hP (cloneI_spec (endsZ f g.es g.es.length x) hl') rfl rfl rfl (by simp only [go_sem, simprocAttr, ht]) rfl ?_); try simp only [go_sem, simprocAttr, ht]) | (intro h))
theorem outs_spec (g : Gr) (hm : mayB g = true) (x : Int) : Spec Tryz.prog 35 (Args [.d (vw g), eN x]) [] (.d (sI (thereG (·.1) g x))) [] := by
 (refine Spec.intro (C := T.cfg [] []) (rs := [.t 4]) (T.cfg_ok _ _) Tryz.func35 rfl rfl Tryz.ntmps35 Tryz.results35 (by simp [AObj.isNest]) (by simp [AObj.isNest]) (by kernel_rfl) ?_; intro X hX hP hC hXn hXm vals hA; refine ⟨_, by simp, hA, ?_⟩; have hmix : X.P.follows .mixedOrders = true := (by rw [hP]; exact T.mixed); clear hXn hXm)
 repeat' (first | fail | ((first | ((with_reducible (first | apply oA | apply oB)); exact rfl; intro K hK) | (refine hK _ ?_; clear hK K) | ((with_reducible (first | apply oG | apply oH)); iterate 3 exact rfl) | ((with_reducible apply oI); (iterate 2 exact rfl); intro K hK) | (with_reducible (first | apply wI | apply wJ | apply wK))); try simp only [go_sem, simprocAttr, vw_eq]) | fail | (with_reducible (first | apply oC | apply oJ | exact oK | apply wA | apply wB | apply wC hX hC | apply wD hX hC | apply wE hX hC hmix | apply wF hX hC hmix | apply wG | apply wH | apply And.intro)) | ((with_reducible refine oD ?_ ?_); first | fail | kernel_rfl) | ((with_reducible (first | apply oE | apply oF)); (iterate 3 exact rfl); all_goals (intro h; first | (exact absurd h (by decide)) | ((try simp only [go_sem, simprocAttr, vw_eq] at h); (try with_reducible intro K hK); simp only [go_sem, simprocAttr, vw_eq]))) | ((first | ((with_reducible apply wL); exact rfl) | ((with_reducible apply wM); exact rfl)); all_goals (try ((with_reducible intro h); first | (exact absurd h (by decide)) | (try simp only [go_sem, simprocAttr, vw_eq] at h)))) | omega | ((first | first | refine acall_simple hX hC hP (there_spec (·.1) g hm x) rfl rfl rfl (by simp only [go_sem, simprocAttr, vw_eq]) rfl ?_); try simp only [go_sem, simprocAttr, vw_eq]) | (intro h))
theorem ins_spec (g : Gr) (hm : mayB g = true) (x : Int) : Spec Tryz.prog 131 (Args [.d (vw g), eN x]) [] (.d (sI (thereG (·.2) g x))) [] := by
 (refine Spec.intro (C := T.cfg [] []) (rs := [.t 4]) (T.cfg_ok _ _) Tryz.func131 rfl rfl Tryz.ntmps131 Tryz.results131 (by simp [AObj.isNest]) (by simp [AObj.isNest]) (by kernel_rfl) ?_; intro X hX hP hC hXn hXm vals hA; refine ⟨_, by simp, hA, ?_⟩; have hmix : X.P.follows .mixedOrders = true := (by rw [hP]; exact T.mixed); clear hXn hXm)
 repeat' (first | fail | ((first | ((with_reducible (first | apply oA | apply oB)); exact rfl; intro K hK) | (refine hK _ ?_; clear hK K) | ((with_reducible (first | apply oG | apply oH)); iterate 3 exact rfl) | ((with_reducible apply oI); (iterate 2 exact rfl); intro K hK) | (with_reducible (first | apply wI | apply wJ | apply wK))); try simp only [go_sem, simprocAttr, vw_eq]) | fail | (with_reducible (first | apply oC | apply oJ | exact oK | apply wA | apply wB | apply wC hX hC | apply wD hX hC | apply wE hX hC hmix | apply wF hX hC hmix | apply wG | apply wH | apply And.intro)) | ((with_reducible refine oD ?_ ?_); first | fail | kernel_rfl) | ((with_reducible (first | apply oE | apply oF)); (iterate 3 exact rfl); all_goals (intro h; first | (exact absurd h (by decide)) | ((try simp only [go_sem, simprocAttr, vw_eq] at h); (try with_reducible intro K hK); simp only [go_sem, simprocAttr, vw_eq]))) | ((first | ((with_reducible apply wL); exact rfl) | ((with_reducible apply wM); exact rfl)); all_goals (try ((with_reducible intro h); first | (exact absurd h (by decide)) | (try simp only [go_sem, simprocAttr, vw_eq] at h)))) | omega | ((first | first | refine acall_simple hX hC hP (there_spec (·.2) g hm x) rfl rfl rfl (by simp only [go_sem, simprocAttr, vw_eq]) rfl ?_); try simp only [go_sem, simprocAttr, vw_eq]) | (intro h))
end Go.Ab
end
section
namespace Go.Ab
open Go.Proofs
attribute [local congr] ACall.congr
set_option maxRecDepth 10000
abbrev It := Int × Int × Int
def rT (t : It) : List D := [.sc (.int .i64 t.1), .sc (.int .i64 t.2.1), .sc (.int .i64 t.2.2)]
def eT (t : It) : AV := .agg [.d (.sc (.int .i64 t.1)), .d (.sc (.int .i64 t.2.1)), .d (.sc (.int .i64 t.2.2))]
def sT (ts : List It) : D := .sl 3 (ts.map rT)
theorem getD_rT (ps : List It) (i : Nat) : (ps.map rT).getD i [.sc (.int .i64 0), .sc (.int .i64 0), .sc (.int .i64 0)] = rT (ps.getD i (0, 0, 0)) := by
 simp only [List.getD_eq_getElem?_getD, List.getElem?_map]
 cases ps[i]? <;> rfl
theorem rT_eq (t : It) : rT t = [.sc (.int .i64 t.1), .sc (.int .i64 t.2.1), .sc (.int .i64 t.2.2)] := rfl
attribute [go_sem] getD_rT rT_eq eT sT
theorem flatI {l : List Int} : ∀ r ∈ l.map rI, ∀ x ∈ r, ∃ v, x = D.sc v := by
 intro r hr x hx
 obtain ⟨y, _, rfl⟩ := List.mem_map.1 hr
 simp only [rI, List.mem_singleton] at hx
 exact ⟨_, hx⟩
theorem flatT {l : List It} : ∀ r ∈ l.map rT, ∀ x ∈ r, ∃ v, x = D.sc v := by
 intro r hr x hx
 obtain ⟨y, _, rfl⟩ := List.mem_map.1 hr
 simp only [rT, List.mem_cons, List.not_mem_nil, or_false] at hx
 rcases hx with h | h | h <;> exact ⟨_, h⟩
theorem getD_memX {α : Type} {l : List α} {m : Nat} {d : α} (h : m < l.length) : l.getD m d ∈ l := by
 rw [List.getD_eq_getElem?_getD, List.getElem?_eq_getElem h]; exact List.getElem_mem h
theorem cloneT_spec (ps : List It) (hl : ps.length ≤ 1000000) :
  Spec Tryz.prog 90 (Args [.d (sT ps)]) [] (.ref 10000) [(10000, .tip 62 3 (ps.map rT))] := by
 (refine Spec.introR (C := T.cfg [] []) (rs := [.t 2]) [(10000, 7)] (T.cfg_ok _ _) Tryz.func90 rfl rfl Tryz.ntmps90 Tryz.results90 (by simp [AObj.isNest]) (by simp [AObj.isNest]) (by first | (simp [look]; done) | (simp [asN]; done) | (intro l hl; simp only [asN]; repeat (rw [if_neg (fun e => by subst e; simp [look] at hl)]))) (by first | (simp [look]; done) | (simp [asN]; done) | (intro l hl; simp only [asN]; repeat (rw [if_neg (fun e => by subst e; simp [look] at hl)]))) (by kernel_rfl) ?_; intro X hX hP hC hXn hXm vals hA; refine ⟨_, by simp, hA, ?_⟩; have hmix : X.P.follows .mixedOrders = true := (by rw [hP]; exact T.mixed); clear hXn hXm)
 repeat' (first | (show awp _ .ret _ _; (try simp only [go_sem, simprocAttr]); refine awp_new hX 2 7 (.tip 62 3 []) ?_ ?_ (by decide) ⟨62, 3, by decide, .inr rfl⟩ ?_; (iterate 2 (focus (simp only [go_sem, simprocAttr]; done))); simp only [go_sem, simprocAttr]) | ((first | ((with_reducible (first | apply oA | apply oB)); exact rfl; intro K hK) | (refine hK _ ?_; clear hK K) | ((with_reducible (first | apply oG | apply oH)); iterate 3 exact rfl) | ((with_reducible apply oI); (iterate 2 exact rfl); intro K hK) | (with_reducible (first | apply wI | apply wJ | apply wK))); try simp only [go_sem, simprocAttr]) | fail | (with_reducible (first | apply oC | apply oJ | exact oK | apply wA | apply wB | apply wC hX hC | apply wD hX hC | apply wE hX hC hmix | apply wF hX hC hmix | apply wG | apply wH | apply And.intro)) | ((with_reducible refine oD ?_ ?_); first | fail | kernel_rfl) | ((with_reducible (first | apply oE | apply oF)); (iterate 3 exact rfl); all_goals (intro h; first | (exact absurd h (by decide)) | ((try simp only [go_sem, simprocAttr] at h); (try with_reducible intro K hK); simp only [go_sem, simprocAttr]))) | ((first | ((with_reducible apply wL); exact rfl) | ((with_reducible apply wM); exact rfl)); all_goals (try ((with_reducible intro h); first | (exact absurd h (by decide)) | (try simp only [go_sem, simprocAttr] at h)))) | omega | ((first | fail); try simp only [go_sem, simprocAttr]) | (intro h))
 exact h.symm
theorem indexFuncT_spec {m : List (Nat × AObj)} (hR : Robs m) (f : Nat) (caps : List AV) (g : It → Bool) (ps : List It) (hf : ∀ p ∈ ps, Spec Tryz.prog f (Args (eT p :: caps)) m (eB (g p)) m) (hl : ps.length ≤ 9223372036854775807) :
  Spec Tryz.prog 170 (Args [.d (sT ps), .fn f [] caps]) m (eN (findI g ps)) m := by
 (refine Spec.intro (C := T.cfg [] []) (rs := [.t 4]) (T.cfg_ok _ _) Tryz.func170 rfl rfl Tryz.ntmps170 Tryz.results170 (fun p hp => ⟨(Robs.low hR p hp).1, Robs.nest hR p hp⟩) (fun p hp => ⟨(Robs.low hR p hp).2, Robs.nest hR p hp⟩) (by kernel_rfl) ?_; intro X hX hP hC hXn hXm vals hA; refine ⟨_, by simp, hA, ?_⟩; have hmix : X.P.follows .mixedOrders = true := (by rw [hP]; exact T.mixed); clear hXn hXm)
 repeat' (first | fail | ((first | ((with_reducible (first | apply oA | apply oB)); exact rfl; intro K hK) | (refine hK _ ?_; clear hK K) | ((with_reducible (first | apply oG | apply oH)); iterate 3 exact rfl) | ((with_reducible apply oI); (iterate 2 exact rfl); intro K hK) | (with_reducible (first | apply wI | apply wJ | apply wK))); try simp only [go_sem, simprocAttr]) | fail | (with_reducible (first | apply oC | apply oJ | exact oK | apply wA | apply wB | apply wC hX hC | apply wD hX hC | apply wE hX hC hmix | apply wF hX hC hmix | apply wG | apply wH | apply And.intro)) | ((with_reducible refine oD ?_ ?_); first | fail | kernel_rfl) | ((with_reducible (first | apply oE | apply oF)); (iterate 3 exact rfl); all_goals (intro h; first | (exact absurd h (by decide)) | ((try simp only [go_sem, simprocAttr] at h); (try with_reducible intro K hK); simp only [go_sem, simprocAttr]))) | ((first | ((with_reducible apply wL); exact rfl) | ((with_reducible apply wM); exact rfl)); all_goals (try ((with_reducible intro h); first | (exact absurd h (by decide)) | (try simp only [go_sem, simprocAttr] at h)))) | omega | ((first | fail); try simp only [go_sem, simprocAttr]) | (intro h))
 refine awp_loopP (fun k : Nat => k ≤ ps.length ∧ ∀ j, j < k → g (ps.getD j (0, 0, 0)) = false) (fun k => ⟨[(0, .d (sT ps)), (1, .fn f [] caps), (7, eN ps.length), (8, eN k)], m⟩) (fun k => ps.length - k) 0 (by simp) ?_ ?_
 ·(refine ⟨leT_spec ?_, fun _ _ h => h⟩; simp [go_sem, simprocAttr])
 rintro k ⟨hk, hg⟩
 rcases Nat.lt_or_ge k ps.length with hlt | hge
 ·have hb : decide ((k : Int) < (ps.length : Int)) = true := decide_eq_true (by omega)
  have hf' := hf (ps.getD k (0, 0, 0)) (getD_memX hlt)
  repeat' (first | fail | ((first | ((with_reducible (first | apply oA | apply oB)); exact rfl; intro K hK) | (refine hK _ ?_; clear hK K) | ((with_reducible (first | apply oG | apply oH)); iterate 3 exact rfl) | ((with_reducible apply oI); (iterate 2 exact rfl); intro K hK) | (with_reducible (first | apply wI | apply wJ | apply wK))); try simp only [go_sem, simprocAttr, hb]) | fail | (with_reducible (first | apply oC | apply oJ | exact oK | apply wA | apply wB | apply wC hX hC | apply wD hX hC | apply wE hX hC hmix | apply wF hX hC hmix | apply wG | apply wH | apply And.intro)) | ((with_reducible refine oD ?_ ?_); first | fail | kernel_rfl) | ((with_reducible (first | apply oE | apply oF)); (iterate 3 exact rfl); all_goals (intro h; first | (exact absurd h (by decide)) | ((try simp only [go_sem, simprocAttr, hb] at h); (try with_reducible intro K hK); simp only [go_sem, simprocAttr, hb]))) | ((first | ((with_reducible apply wL); exact rfl) | ((with_reducible apply wM); exact rfl)); all_goals (try ((with_reducible intro h); first | (exact absurd h (by decide)) | (try simp only [go_sem, simprocAttr, hb] at h)))) | omega | ((first | (first | (refine acall_same hX hC hP hR (hf') rfl rfl rfl ?_ ?_ rfl rfl ?_; (focus (simp only [go_sem, simprocAttr, hb]; done)); (focus (first | (intro p hp; exact mem_look (Robs.nd hR) hp) | (simp [go_sem, simprocAttr, hb]; done)))) | (refine acall_same hX hC hP hR (hf') rfl rfl rfl ?_ ?_ ?_ rfl ?_; (focus (simp only [go_sem, simprocAttr, hb]; done)); (focus (first | (intro p hp; exact mem_look (Robs.nd hR) hp) | (simp [go_sem, simprocAttr, hb]; done))); (focus (simp [go_sem, simprocAttr, hb]; done))))); try simp only [go_sem, simprocAttr, hb]) | (intro h))
  ·exact (findI_at (by omega) hg h).symm
  ·exact leR_robs hR
  ·refine ⟨k + 1, ⟨by omega, fun j hj => ?_⟩, ?_, by omega⟩
   ·by_cases hjk : j = k
    ·subst hjk; exact h
    ·exact hg j (by omega)
   ·(refine ⟨leT_spec ?_, fun _ _ h => h⟩; simp [go_sem, simprocAttr, hb])
 ·have hb : decide ((k : Int) < (ps.length : Int)) = false := decide_eq_false (by omega)
  repeat' (first | fail | ((first | ((with_reducible (first | apply oA | apply oB)); exact rfl; intro K hK) | (refine hK _ ?_; clear hK K) | ((with_reducible (first | apply oG | apply oH)); iterate 3 exact rfl) | ((with_reducible apply oI); (iterate 2 exact rfl); intro K hK) | (with_reducible (first | apply wI | apply wJ | apply wK))); try simp only [go_sem, simprocAttr, hb]) | fail | (with_reducible (first | apply oC | apply oJ | exact oK | apply wA | apply wB | apply wC hX hC | apply wD hX hC | apply wE hX hC hmix | apply wF hX hC hmix | apply wG | apply wH | apply And.intro)) | ((with_reducible refine oD ?_ ?_); first | fail | kernel_rfl) | ((with_reducible (first | apply oE | apply oF)); (iterate 3 exact rfl); all_goals (intro h; first | (exact absurd h (by decide)) | ((try simp only [go_sem, simprocAttr, hb] at h); (try with_reducible intro K hK); simp only [go_sem, simprocAttr, hb]))) | ((first | ((with_reducible apply wL); exact rfl) | ((with_reducible apply wM); exact rfl)); all_goals (try ((with_reducible intro h); first | (exact absurd h (by decide)) | (try simp only [go_sem, simprocAttr, hb] at h)))) | omega | ((first | (first | (refine acall_same hX hC hP hR (hf') rfl rfl rfl ?_ ?_ rfl rfl ?_; (focus (simp only [go_sem, simprocAttr, hb]; done)); (focus (first | (intro p hp; exact mem_look (Robs.nd hR) hp) | (simp [go_sem, simprocAttr, hb]; done)))) | (refine acall_same hX hC hP hR (hf') rfl rfl rfl ?_ ?_ ?_ rfl ?_; (focus (simp only [go_sem, simprocAttr, hb]; done)); (focus (first | (intro p hp; exact mem_look (Robs.nd hR) hp) | (simp [go_sem, simprocAttr, hb]; done))); (focus (simp [go_sem, simprocAttr, hb]; done))))); try simp only [go_sem, simprocAttr, hb]) | (intro h))
  ·exact (findI_none (0, 0, 0) fun j hj => hg j (by omega)).symm
  ·exact leR_robs hR
theorem containsFuncT_spec {m : List (Nat × AObj)} (hR : Robs m) (f : Nat) (caps : List AV) (g : It → Bool) (ps : List It) (hf : ∀ p ∈ ps, Spec Tryz.prog f (Args (eT p :: caps)) m (eB (g p)) m) (hl : ps.length ≤ 9223372036854775807) :
  Spec Tryz.prog 155 (Args [.d (sT ps), .fn f [] caps]) m (eB (ps.any g)) m := by
 (refine Spec.intro (C := T.cfg [] []) (rs := [.t 4]) (T.cfg_ok _ _) Tryz.func155 rfl rfl Tryz.ntmps155 Tryz.results155 (fun p hp => ⟨(Robs.low hR p hp).1, Robs.nest hR p hp⟩) (fun p hp => ⟨(Robs.low hR p hp).2, Robs.nest hR p hp⟩) (by kernel_rfl) ?_; intro X hX hP hC hXn hXm vals hA; refine ⟨_, by simp, hA, ?_⟩; have hmix : X.P.follows .mixedOrders = true := (by rw [hP]; exact T.mixed); clear hXn hXm)
 repeat' (first | fail | ((first | ((with_reducible (first | apply oA | apply oB)); exact rfl; intro K hK) | (refine hK _ ?_; clear hK K) | ((with_reducible (first | apply oG | apply oH)); iterate 3 exact rfl) | ((with_reducible apply oI); (iterate 2 exact rfl); intro K hK) | (with_reducible (first | apply wI | apply wJ | apply wK))); try simp only [go_sem, simprocAttr]) | fail | (with_reducible (first | apply oC | apply oJ | exact oK | apply wA | apply wB | apply wC hX hC | apply wD hX hC | apply wE hX hC hmix | apply wF hX hC hmix | apply wG | apply wH | apply And.intro)) | ((with_reducible refine oD ?_ ?_); first | fail | kernel_rfl) | ((with_reducible (first | apply oE | apply oF)); (iterate 3 exact rfl); all_goals (intro h; first | (exact absurd h (by decide)) | ((try simp only [go_sem, simprocAttr] at h); (try with_reducible intro K hK); simp only [go_sem, simprocAttr]))) | ((first | ((with_reducible apply wL); exact rfl) | ((with_reducible apply wM); exact rfl)); all_goals (try ((with_reducible intro h); first | (exact absurd h (by decide)) | (try simp only [go_sem, simprocAttr] at h)))) | omega | ((first | (first | (refine acall_same hX hC hP hR (indexFuncT_spec hR f caps g ps hf hl) rfl rfl rfl ?_ ?_ rfl rfl ?_; (focus (simp only [go_sem, simprocAttr]; done)); (focus (first | (intro p hp; exact mem_look (Robs.nd hR) hp) | (simp [go_sem, simprocAttr]; done)))) | (refine acall_same hX hC hP hR (indexFuncT_spec hR f caps g ps hf hl) rfl rfl rfl ?_ ?_ ?_ rfl ?_; (focus (simp only [go_sem, simprocAttr]; done)); (focus (first | (intro p hp; exact mem_look (Robs.nd hR) hp) | (simp [go_sem, simprocAttr]; done))); (focus (simp [go_sem, simprocAttr]; done))))); try simp only [go_sem, simprocAttr]) | (intro h))
 ·exact findI_any g ps
 ·exact leR_robs hR
theorem growT_spec (n : Int) (h0 : 0 < n) (hl : n ≤ 1000000) : Spec Tryz.prog 157 (Args [.nil 62, eN n]) [] (.ref 10000) [(10000, .own 62 3 [])] := by
 (refine Spec.introR (C := T.cfg [] []) (rs := [.t 4]) [(10000, 25)] (T.cfg_ok _ _) Tryz.func157 rfl rfl Tryz.ntmps157 Tryz.results157 (by simp [AObj.isNest]) (by simp [AObj.isNest]) (by first | (simp [look]; done) | (simp [asN]; done) | (intro l hl; simp only [asN]; repeat (rw [if_neg (fun e => by subst e; simp [look] at hl)]))) (by first | (simp [look]; done) | (simp [asN]; done) | (intro l hl; simp only [asN]; repeat (rw [if_neg (fun e => by subst e; simp [look] at hl)]))) (by kernel_rfl) ?_; intro X hX hP hC hXn hXm vals hA; refine ⟨_, by simp, hA, ?_⟩; have hmix : X.P.follows .mixedOrders = true := (by rw [hP]; exact T.mixed); clear hXn hXm)
 repeat' (first | fail | ((first | ((with_reducible (first | apply oA | apply oB)); exact rfl; intro K hK) | (refine hK _ ?_; clear hK K) | ((with_reducible (first | apply oG | apply oH)); iterate 3 exact rfl) | ((with_reducible apply oI); (iterate 2 exact rfl); intro K hK) | (with_reducible (first | apply wI | apply wJ | apply wK))); try simp only [go_sem, simprocAttr]) | fail | (with_reducible (first | apply oC | apply oJ | exact oK | apply wA | apply wB | apply wC hX hC | apply wD hX hC | apply wE hX hC hmix | apply wF hX hC hmix | apply wG | apply wH | apply And.intro)) | ((with_reducible refine oD ?_ ?_); first | fail | kernel_rfl) | ((with_reducible (first | apply oE | apply oF)); (iterate 3 exact rfl); all_goals (intro h; first | (exact absurd h (by decide)) | ((try simp only [go_sem, simprocAttr] at h); (try with_reducible intro K hK); simp only [go_sem, simprocAttr]))) | ((first | ((with_reducible apply wL); exact rfl) | ((with_reducible apply wM); exact rfl)); all_goals (try ((with_reducible intro h); first | (exact absurd h (by decide)) | (try simp only [go_sem, simprocAttr] at h)))) | omega | ((first | fail); try simp only [go_sem, simprocAttr]) | (intro h))
def vT (ls : List (List It)) : List (List D) := ls.map fun l => [sT l]
theorem vT_length {ls : List (List It)} : (vT ls).length = ls.length := by simp [vT]
theorem vT_getD {ls : List (List It)} {k : Nat} (h : k < ls.length) (d : List D) : (vT ls).getD k d = [sT (ls.getD k [])] := by
 simp [vT, List.getD_eq_getElem?_getD, List.getElem?_eq_getElem h]
attribute [go_sem] vT_length
theorem flat_nextX {α : Type} {ls : List (List α)} {k : Nat} (h : k < ls.length) : (ls.take (k + 1)).flatten = (ls.take k).flatten ++ ls.getD k [] := by
 rw [List.take_add_one, List.flatten_append, List.getElem?_eq_getElem h, List.getD_eq_getElem?_getD, List.getElem?_eq_getElem h]
 simp
theorem flat_leX {α : Type} {ls : List (List α)} {k : Nat} : (ls.take k).flatten.length ≤ ls.flatten.length := by
 have := congrArg (fun x => x.flatten.length) (List.take_append_drop k ls)
 simp only [List.flatten_append, List.length_append] at this
 omega
theorem concatT_spec (ls : List (List It)) (hn : ls.length ≤ 1000) (h0 : 0 < ls.flatten.length) (hl : ls.flatten.length ≤ 1000000) : Spec Tryz.prog 133 (Args [.d (.sl 1 (vT ls))]) [] (.d (sT ls.flatten)) [] := by
 (refine Spec.intro (C := T.cfg [] []) (rs := [.t 2]) (T.cfg_ok _ _) Tryz.func133 rfl rfl Tryz.ntmps133 Tryz.results133 (by simp [AObj.isNest]) (by simp [AObj.isNest]) (by kernel_rfl) ?_; intro X hX hP hC hXn hXm vals hA; refine ⟨_, by simp, hA, ?_⟩; have hmix : X.P.follows .mixedOrders = true := (by rw [hP]; exact T.mixed); clear hXn hXm)
 repeat' (first | fail | ((first | ((with_reducible (first | apply oA | apply oB)); exact rfl; intro K hK) | (refine hK _ ?_; clear hK K) | ((with_reducible (first | apply oG | apply oH)); iterate 3 exact rfl) | ((with_reducible apply oI); (iterate 2 exact rfl); intro K hK) | (with_reducible (first | apply wI | apply wJ | apply wK))); try simp only [go_sem, simprocAttr]) | fail | (with_reducible (first | apply oC | apply oJ | exact oK | apply wA | apply wB | apply wC hX hC | apply wD hX hC | apply wE hX hC hmix | apply wF hX hC hmix | apply wG | apply wH | apply And.intro)) | ((with_reducible refine oD ?_ ?_); first | fail | kernel_rfl) | ((with_reducible (first | apply oE | apply oF)); (iterate 3 exact rfl); all_goals (intro h; first | (exact absurd h (by decide)) | ((try simp only [go_sem, simprocAttr] at h); (try with_reducible intro K hK); simp only [go_sem, simprocAttr]))) | ((first | ((with_reducible apply wL); exact rfl) | ((with_reducible apply wM); exact rfl)); all_goals (try ((with_reducible intro h); first | (exact absurd h (by decide)) | (try simp only [go_sem, simprocAttr] at h)))) | omega | ((first | (refine acall_gen hX hC hP [(10000, 33)] (growT_spec (ls.flatten.length : Int) (by omega) (by omega)) rfl rfl rfl ?_ ?_ ?_ ?_ ?_ ?_ ?_ ?_ ?_ ?_ ?_ ?_ ?_ ?_; (focus (simp only [go_sem, simprocAttr]; done)); (iterate 12 (focus (simp [go_sem, simprocAttr]; done))); simp only [go_sem, simprocAttr, List.map_cons, List.map_nil])); try simp only [go_sem, simprocAttr]) | (intro h))
 refine awp_loopP (fun k : Nat => k ≤ ls.length) (fun k => ⟨[(0, .d (.sl 1 (vT ls))), (9, .d (.sl 1 (vT ls))), (10, eN ls.length), (11, eN k), (3, eN ((ls.take k).flatten.length))], []⟩) (fun k => ls.length - k) 0 (by omega) ?_ ?_
 ·(refine Le.of ?_ ?_ <;> simp [go_sem, simprocAttr])
 ·rintro k hk
  rcases Nat.lt_or_ge k ls.length with hlt | hge
  ·have hb : decide ((k : Int) < (ls.length : Int)) = true := decide_eq_true (by omega)
   have hv := vT_getD hlt
   have hf := flat_nextX hlt
   have hf1 := flat_leX (ls := ls) (k := k)
   have hf2 := flat_leX (ls := ls) (k := k + 1)
   rw [hf, List.length_append] at hf2
   have hneg : decide (((ls.take k).flatten.length : Int) + ((ls.getD k []).length : Int) < 0) = false := decide_eq_false (by omega)
   repeat' (first | fail | ((first | ((with_reducible (first | apply oA | apply oB)); exact rfl; intro K hK) | (refine hK _ ?_; clear hK K) | ((with_reducible (first | apply oG | apply oH)); iterate 3 exact rfl) | ((with_reducible apply oI); (iterate 2 exact rfl); intro K hK) | (with_reducible (first | apply wI | apply wJ | apply wK))); try simp only [go_sem, simprocAttr, hb, hv, hneg]) | fail | (with_reducible (first | apply oC | apply oJ | exact oK | apply wA | apply wB | apply wC hX hC | apply wD hX hC | apply wE hX hC hmix | apply wF hX hC hmix | apply wG | apply wH | apply And.intro)) | ((with_reducible refine oD ?_ ?_); first | fail | kernel_rfl) | ((with_reducible (first | apply oE | apply oF)); (iterate 3 exact rfl); all_goals (intro h; first | (exact absurd h (by decide)) | ((try simp only [go_sem, simprocAttr, hb, hv, hneg] at h); (try with_reducible intro K hK); simp only [go_sem, simprocAttr, hb, hv, hneg]))) | ((first | ((with_reducible apply wL); exact rfl) | ((with_reducible apply wM); exact rfl)); all_goals (try ((with_reducible intro h); first | (exact absurd h (by decide)) | (try simp only [go_sem, simprocAttr, hb, hv, hneg] at h)))) | omega | ((first | (refine acall_gen hX hC hP [(10000, 33)] (growT_spec (ls.flatten.length : Int) (by omega) (by omega)) rfl rfl rfl ?_ ?_ ?_ ?_ ?_ ?_ ?_ ?_ ?_ ?_ ?_ ?_ ?_ ?_; (focus (simp only [go_sem, simprocAttr, hb, hv, hneg]; done)); (iterate 12 (focus (simp [go_sem, simprocAttr, hb, hv, hneg]; done))); simp only [go_sem, simprocAttr, hb, hv, hneg, List.map_cons, List.map_nil])); try simp only [go_sem, simprocAttr, hb, hv, hneg]) | (intro h))
   refine ⟨k + 1, by omega, ?_, by omega⟩
   simp only [hf]
   refine Le.of ?_ ?_ <;> simp [go_sem, simprocAttr, hb, hv, hneg]
  ·have hb : decide ((k : Int) < (ls.length : Int)) = false := decide_eq_false (by omega)
   have ht : ls.take k = ls := List.take_of_length_le (by omega)
   repeat' (first | fail | ((first | ((with_reducible (first | apply oA | apply oB)); exact rfl; intro K hK) | (refine hK _ ?_; clear hK K) | ((with_reducible (first | apply oG | apply oH)); iterate 3 exact rfl) | ((with_reducible apply oI); (iterate 2 exact rfl); intro K hK) | (with_reducible (first | apply wI | apply wJ | apply wK))); try simp only [go_sem, simprocAttr, hb, ht]) | fail | (with_reducible (first | apply oC | apply oJ | exact oK | apply wA | apply wB | apply wC hX hC | apply wD hX hC | apply wE hX hC hmix | apply wF hX hC hmix | apply wG | apply wH | apply And.intro)) | ((with_reducible refine oD ?_ ?_); first | fail | kernel_rfl) | ((with_reducible (first | apply oE | apply oF)); (iterate 3 exact rfl); all_goals (intro h; first | (exact absurd h (by decide)) | ((try simp only [go_sem, simprocAttr, hb, ht] at h); (try with_reducible intro K hK); simp only [go_sem, simprocAttr, hb, ht]))) | ((first | ((with_reducible apply wL); exact rfl) | ((with_reducible apply wM); exact rfl)); all_goals (try ((with_reducible intro h); first | (exact absurd h (by decide)) | (try simp only [go_sem, simprocAttr, hb, ht] at h)))) | omega | ((first | (refine acall_gen hX hC hP [(10000, 33)] (growT_spec (ls.flatten.length : Int) (by omega) (by omega)) rfl rfl rfl ?_ ?_ ?_ ?_ ?_ ?_ ?_ ?_ ?_ ?_ ?_ ?_ ?_ ?_; (focus (simp only [go_sem, simprocAttr, hb, ht]; done)); (iterate 12 (focus (simp [go_sem, simprocAttr, hb, ht]; done))); simp only [go_sem, simprocAttr, hb, ht, List.map_cons, List.map_nil])); try simp only [go_sem, simprocAttr, hb, ht]) | (intro h))
   refine awp_loopP (fun k : Nat => k ≤ ls.length) (fun k => ⟨[(25, .d (.sl 1 (vT ls))), (26, eN ls.length), (27, eN k), (6, .ref 33)], [(33, .own 62 3 ((ls.take k).flatten.map rT))]⟩) (fun k => ls.length - k) 0 (by omega) ?_ ?_
   ·(refine Le.of ?_ ?_ <;> simp [go_sem, simprocAttr, hb, ht])
   ·clear hb ht hk hge
    rintro k hk
    rcases Nat.lt_or_ge k ls.length with hlt | hge
    ·have hb : decide ((k : Int) < (ls.length : Int)) = true := decide_eq_true (by omega)
     have hv := vT_getD hlt
     have hf := flat_nextX hlt
     have hf1 := flat_leX (ls := ls) (k := k)
     have hf2 := flat_leX (ls := ls) (k := k + 1)
     rw [hf, List.length_append] at hf2
     repeat' (first | fail | ((first | ((with_reducible (first | apply oA | apply oB)); exact rfl; intro K hK) | (refine hK _ ?_; clear hK K) | ((with_reducible (first | apply oG | apply oH)); iterate 3 exact rfl) | ((with_reducible apply oI); (iterate 2 exact rfl); intro K hK) | (with_reducible (first | apply wI | apply wJ | apply wK))); try simp only [go_sem, simprocAttr, hb, hv]) | fail | (with_reducible (first | apply oC | apply oJ | exact oK | apply wA | apply wB | apply wC hX hC | apply wD hX hC | apply wE hX hC hmix | apply wF hX hC hmix | apply wG | apply wH | apply And.intro)) | ((with_reducible refine oD ?_ ?_); first | fail | kernel_rfl) | ((with_reducible (first | apply oE | apply oF)); (iterate 3 exact rfl); all_goals (intro h; first | (exact absurd h (by decide)) | ((try simp only [go_sem, simprocAttr, hb, hv] at h); (try with_reducible intro K hK); simp only [go_sem, simprocAttr, hb, hv]))) | ((first | ((with_reducible apply wL); exact rfl) | ((with_reducible apply wM); exact rfl)); all_goals (try ((with_reducible intro h); first | (exact absurd h (by decide)) | (try simp only [go_sem, simprocAttr, hb, hv] at h)))) | omega | ((first | (refine acall_gen hX hC hP [(10000, 33)] (growT_spec (ls.flatten.length : Int) (by omega) (by omega)) rfl rfl rfl ?_ ?_ ?_ ?_ ?_ ?_ ?_ ?_ ?_ ?_ ?_ ?_ ?_ ?_; (focus (simp only [go_sem, simprocAttr, hb, hv]; done)); (iterate 12 (focus (simp [go_sem, simprocAttr, hb, hv]; done))); simp only [go_sem, simprocAttr, hb, hv, List.map_cons, List.map_nil])); try simp only [go_sem, simprocAttr, hb, hv]) | (intro h))
     refine ⟨k + 1, by omega, ?_, by omega⟩
     simp only [hf]
     refine Le.of ?_ ?_ <;> simp [go_sem, simprocAttr, hb, hv]
    ·have hb : decide ((k : Int) < (ls.length : Int)) = false := decide_eq_false (by omega)
     have ht : ls.take k = ls := List.take_of_length_le (by omega)
     repeat' (first | fail | ((first | ((with_reducible (first | apply oA | apply oB)); exact rfl; intro K hK) | (refine hK _ ?_; clear hK K) | ((with_reducible (first | apply oG | apply oH)); iterate 3 exact rfl) | ((with_reducible apply oI); (iterate 2 exact rfl); intro K hK) | (with_reducible (first | apply wI | apply wJ | apply wK))); try simp only [go_sem, simprocAttr, hb, ht]) | fail | (with_reducible (first | apply oC | apply oJ | exact oK | apply wA | apply wB | apply wC hX hC | apply wD hX hC | apply wE hX hC hmix | apply wF hX hC hmix | apply wG | apply wH | apply And.intro)) | ((with_reducible refine oD ?_ ?_); first | fail | kernel_rfl) | ((with_reducible (first | apply oE | apply oF)); (iterate 3 exact rfl); all_goals (intro h; first | (exact absurd h (by decide)) | ((try simp only [go_sem, simprocAttr, hb, ht] at h); (try with_reducible intro K hK); simp only [go_sem, simprocAttr, hb, ht]))) | ((first | ((with_reducible apply wL); exact rfl) | ((with_reducible apply wM); exact rfl)); all_goals (try ((with_reducible intro h); first | (exact absurd h (by decide)) | (try simp only [go_sem, simprocAttr, hb, ht] at h)))) | omega | ((first | (refine acall_gen hX hC hP [(10000, 33)] (growT_spec (ls.flatten.length : Int) (by omega) (by omega)) rfl rfl rfl ?_ ?_ ?_ ?_ ?_ ?_ ?_ ?_ ?_ ?_ ?_ ?_ ?_ ?_; (focus (simp only [go_sem, simprocAttr, hb, ht]; done)); (iterate 12 (focus (simp [go_sem, simprocAttr, hb, ht]; done))); simp only [go_sem, simprocAttr, hb, ht, List.map_cons, List.map_nil])); try simp only [go_sem, simprocAttr, hb, ht]) | (intro h))
end Go.Ab
end
section
namespace Go.Ab
open Go.Proofs
attribute [local congr] ACall.congr
set_option maxRecDepth 10000
set_option maxHeartbeats 1000000
structure Fr where
 row : List It
 pl : List Int
def frD (g : Gr) (f : Fr) : D := .pt [sT f.row, vw g, sI f.pl]
def spanK (row : List It) (x : Int) : Nat → Int × Int × Int
 | 0 => (-1, 0, 0)
 | k + 1 => if (row.getD k (0, 0, 0)).2.2 = x then (if (spanK row x k).1 = -1 then (k : Int) else (spanK row x k).1, (k : Int) + 1, (spanK row x k).2.2 + 1) else spanK row x k
def spanF (row : List It) (x : Int) : Int × Int × Int := spanK row x row.length
theorem spanK_next {row : List It} {x : Int} {k : Nat} : spanK row x (k + 1) = if (row.getD k (0, 0, 0)).2.2 = x then (if (spanK row x k).1 = -1 then (k : Int) else (spanK row x k).1, (k : Int) + 1, (spanK row x k).2.2 + 1) else spanK row x k := rfl
theorem spanK_ok {row : List It} {x : Int} : ∀ k : Nat, (spanK row x k = (-1, 0, 0) ∧ ∀ j, j < k → (row.getD j (0, 0, 0)).2.2 ≠ x) ∨
  ∃ a b c : Nat, spanK row x k = ((a : Int), (b : Int), (c : Int)) ∧ a < b ∧ b ≤ k ∧ 0 < c ∧ c ≤ k ∧ (row.getD a (0, 0, 0)).2.2 = x ∧ (row.getD (b - 1) (0, 0, 0)).2.2 = x ∧ (∀ j, j < a → (row.getD j (0, 0, 0)).2.2 ≠ x) ∧ (∀ j, b ≤ j → j < k → (row.getD j (0, 0, 0)).2.2 ≠ x)
 | 0 => .inl ⟨rfl, fun j hj => by omega⟩
 | k + 1 => by
  rw [spanK_next]
  by_cases hx : (row.getD k (0, 0, 0)).2.2 = x
  ·rw [if_pos hx]
   right
   rcases spanK_ok (row := row) (x := x) k with ⟨h1, h2⟩ | ⟨a, b, c, h1, h2, h3, h4, h5, h6, h7, h8, h9⟩
   ·refine ⟨k, k + 1, 1, by rw [h1]; rfl, by omega, by omega, by omega, by omega, hx, hx, h2, fun j h1 h2 => by omega⟩
   ·refine ⟨a, k + 1, c + 1, by rw [h1]; simp only [Prod.mk.injEq]; exact ⟨by rw [if_neg (by omega)], by omega, by omega⟩, by omega, by omega, by omega, by omega, h6, hx, h8, fun j h1 h2 => by omega⟩
  ·rw [if_neg hx]
   rcases spanK_ok (row := row) (x := x) k with ⟨h1, h2⟩ | ⟨a, b, c, h1, h2, h3, h4, h5, h6, h7, h8, h9⟩
   ·refine .inl ⟨h1, fun j hj => ?_⟩
    by_cases hjk : j = k
    ·subst hjk; exact hx
    ·exact h2 j (by omega)
   ·refine .inr ⟨a, b, c, h1, h2, by omega, h4, by omega, h6, h7, h8, fun j h10 h11 => ?_⟩
    by_cases hjk : j = k
    ·subst hjk; exact hx
    ·exact h9 j h10 (by omega)
theorem span_spec (ds : List D) (row : List It) (x : Int) (hl : row.length ≤ 1000000) : Spec Tryz.prog 87 (Args [.d (.pt (sT row :: ds)), eN x]) [] (.tup [eN (spanF row x).1, eN (spanF row x).2.1, eN (spanF row x).2.2]) [] := by
 (refine Spec.intro (C := T.cfg [] []) (rs := [.t 4, .t 5, .t 6]) (T.cfg_ok _ _) Tryz.func87 rfl rfl Tryz.ntmps87 Tryz.results87 (by simp [AObj.isNest]) (by simp [AObj.isNest]) (by kernel_rfl) ?_; intro X hX hP hC hXn hXm vals hA; refine ⟨_, by simp, hA, ?_⟩; have hmix : X.P.follows .mixedOrders = true := (by rw [hP]; exact T.mixed); clear hXn hXm)
 repeat' (first | fail | ((first | ((with_reducible (first | apply oA | apply oB)); exact rfl; intro K hK) | (refine hK _ ?_; clear hK K) | ((with_reducible (first | apply oG | apply oH)); iterate 3 exact rfl) | ((with_reducible apply oI); (iterate 2 exact rfl); intro K hK) | (with_reducible (first | apply wI | apply wJ | apply wK))); try simp only [go_sem, simprocAttr, spanF]) | fail | (with_reducible (first | apply oC | apply oJ | exact oK | apply wA | apply wB | apply wC hX hC | apply wD hX hC | apply wE hX hC hmix | apply wF hX hC hmix | apply wG | apply wH | apply And.intro)) | ((with_reducible refine oD ?_ ?_); first | fail | kernel_rfl) | ((with_reducible (first | apply oE | apply oF)); (iterate 3 exact rfl); all_goals (intro h; first | (exact absurd h (by decide)) | ((try simp only [go_sem, simprocAttr, spanF] at h); (try with_reducible intro K hK); simp only [go_sem, simprocAttr, spanF]))) | ((first | ((with_reducible apply wL); exact rfl) | ((with_reducible apply wM); exact rfl)); all_goals (try ((with_reducible intro h); first | (exact absurd h (by decide)) | (try simp only [go_sem, simprocAttr, spanF] at h)))) | omega | ((first | fail); try simp only [go_sem, simprocAttr, spanF]) | (intro h))
 refine awp_loopP (fun k : Nat => k ≤ row.length) (fun k => ⟨[(1, eN x), (12, .d (sT row)), (13, eN row.length), (14, eN k), (4, eN (spanK row x k).1), (5, eN (spanK row x k).2.1), (6, eN (spanK row x k).2.2)], []⟩) (fun k => row.length - k) 0 (by simp) ?_ ?_
 ·refine Le.of ?_ ?_ <;> simp [go_sem, simprocAttr, spanF, spanK]
 rintro k hk
 rcases Nat.lt_or_ge k row.length with hlt | hge
 ·have hb : decide ((k : Int) < (row.length : Int)) = true := decide_eq_true (by omega)
  have hok := spanK_ok (row := row) (x := x) k
  have hc : -1 ≤ (spanK row x k).2.2 ∧ (spanK row x k).2.2 ≤ k := by
   rcases hok with ⟨h1, _⟩ | ⟨a, b, c, h1, _, _, _, _, _⟩ <;> rw [h1] <;> simp only <;> omega
  have hnx := spanK_next (row := row) (x := x) (k := k)
  repeat' (first | fail | ((first | ((with_reducible (first | apply oA | apply oB)); exact rfl; intro K hK) | (refine hK _ ?_; clear hK K) | ((with_reducible (first | apply oG | apply oH)); iterate 3 exact rfl) | ((with_reducible apply oI); (iterate 2 exact rfl); intro K hK) | (with_reducible (first | apply wI | apply wJ | apply wK))); try simp only [go_sem, simprocAttr, hb]) | fail | (with_reducible (first | apply oC | apply oJ | exact oK | apply wA | apply wB | apply wC hX hC | apply wD hX hC | apply wE hX hC hmix | apply wF hX hC hmix | apply wG | apply wH | apply And.intro)) | ((with_reducible refine oD ?_ ?_); first | fail | kernel_rfl) | ((with_reducible (first | apply oE | apply oF)); (iterate 3 exact rfl); all_goals (intro h; first | (exact absurd h (by decide)) | ((try simp only [go_sem, simprocAttr, hb] at h); (try with_reducible intro K hK); simp only [go_sem, simprocAttr, hb]))) | ((first | ((with_reducible apply wL); exact rfl) | ((with_reducible apply wM); exact rfl)); all_goals (try ((with_reducible intro h); first | (exact absurd h (by decide)) | (try simp only [go_sem, simprocAttr, hb] at h)))) | omega | ((first | fail); try simp only [go_sem, simprocAttr, hb]) | (intro h))
  all_goals (first | rw [if_neg (by assumption)] at hnx | (rw [if_pos (by assumption)] at hnx; first | rw [if_pos (by assumption)] at hnx | rw [if_neg (by assumption)] at hnx))
  all_goals (refine ⟨k + 1, by omega, ?_, by omega⟩; refine Le.of ?_ ?_ <;> simp [go_sem, simprocAttr, hb, hnx])
 ·have hb : decide ((k : Int) < (row.length : Int)) = false := decide_eq_false (by omega)
  obtain rfl : k = row.length := by omega
  repeat' (first | fail | ((first | ((with_reducible (first | apply oA | apply oB)); exact rfl; intro K hK) | (refine hK _ ?_; clear hK K) | ((with_reducible (first | apply oG | apply oH)); iterate 3 exact rfl) | ((with_reducible apply oI); (iterate 2 exact rfl); intro K hK) | (with_reducible (first | apply wI | apply wJ | apply wK))); try simp only [go_sem, simprocAttr, hb, spanF]) | fail | (with_reducible (first | apply oC | apply oJ | exact oK | apply wA | apply wB | apply wC hX hC | apply wD hX hC | apply wE hX hC hmix | apply wF hX hC hmix | apply wG | apply wH | apply And.intro)) | ((with_reducible refine oD ?_ ?_); first | fail | kernel_rfl) | ((with_reducible (first | apply oE | apply oF)); (iterate 3 exact rfl); all_goals (intro h; first | (exact absurd h (by decide)) | ((try simp only [go_sem, simprocAttr, hb, spanF] at h); (try with_reducible intro K hK); simp only [go_sem, simprocAttr, hb, spanF]))) | ((first | ((with_reducible apply wL); exact rfl) | ((with_reducible apply wM); exact rfl)); all_goals (try ((with_reducible intro h); first | (exact absurd h (by decide)) | (try simp only [go_sem, simprocAttr, hb, spanF] at h)))) | omega | ((first | fail); try simp only [go_sem, simprocAttr, hb, spanF]) | (intro h))
def otherI (x : Int) (t : It) : Bool := decide (t.2.2 ≠ x) && decide (t.2.2 ≠ -1)
def bareF (row : List It) (x : Int) (a b : Nat) : Bool := !((row.take b).drop a).any (otherI x)
theorem robX (x : Int) : Robs [(10000, .rob [eN x])] := ⟨by simp [AObj.ro], by simp [nodupM, look], by simp, by simp [AObj.ids, AV.ids, AV.idss, eN]⟩
theorem bare1_spec (x : Int) (t : It) : Spec Tryz.prog 156 (Args [eT t, .ptr 10000 0]) [(10000, .rob [eN x])] (eB (otherI x t)) [(10000, .rob [eN x])] := by
 (refine Spec.intro (C := T.cfg [] []) (rs := [.t 3]) (T.cfg_ok _ _) Tryz.func156 rfl rfl Tryz.ntmps156 Tryz.results156 (fun p hp => ⟨(Robs.low (robX x) p hp).1, Robs.nest (robX x) p hp⟩) (fun p hp => ⟨(Robs.low (robX x) p hp).2, Robs.nest (robX x) p hp⟩) (by kernel_rfl) ?_; intro X hX hP hC hXn hXm vals hA; refine ⟨_, by simp, hA, ?_⟩; have hmix : X.P.follows .mixedOrders = true := (by rw [hP]; exact T.mixed); clear hXn hXm)
 repeat' (first | fail | ((first | ((with_reducible (first | apply oA | apply oB)); exact rfl; intro K hK) | (refine hK _ ?_; clear hK K) | ((with_reducible (first | apply oG | apply oH)); iterate 3 exact rfl) | ((with_reducible apply oI); (iterate 2 exact rfl); intro K hK) | (with_reducible (first | apply wI | apply wJ | apply wK))); try simp only [go_sem, simprocAttr]) | fail | (with_reducible (first | apply oC | apply oJ | exact oK | apply wA | apply wB | apply wC hX hC | apply wD hX hC | apply wE hX hC hmix | apply wF hX hC hmix | apply wG | apply wH | apply And.intro)) | ((with_reducible refine oD ?_ ?_); first | fail | kernel_rfl) | ((with_reducible (first | apply oE | apply oF)); (iterate 3 exact rfl); all_goals (intro h; first | (exact absurd h (by decide)) | ((try simp only [go_sem, simprocAttr] at h); (try with_reducible intro K hK); simp only [go_sem, simprocAttr]))) | ((first | ((with_reducible apply wL); exact rfl) | ((with_reducible apply wM); exact rfl)); all_goals (try ((with_reducible intro h); first | (exact absurd h (by decide)) | (try simp only [go_sem, simprocAttr] at h)))) | omega | ((first | fail); try simp only [go_sem, simprocAttr]) | (intro h))
 all_goals (simp only [otherI]; first | exact leR_robs (robX x) | simp [*])
theorem bareR_spec (ds : List D) (row : List It) (x : Int) (a b : Nat) (hab : a ≤ b) (hb : b ≤ row.length) (hl : row.length ≤ 1000000) : Spec Tryz.prog 132 (Args [.d (.pt (sT row :: ds)), eN x, eN a, eN b]) [] (eB (bareF row x a b)) [] := by
 have hsl : sT ((row.take b).drop a) = .sl 3 (((row.map rT).take b).drop a) := by simp [sT, List.map_take, List.map_drop]
 have hll : ((row.take b).drop a).length ≤ 9223372036854775807 := by simp; omega
 (refine Spec.intro (C := T.cfg [] []) (rs := [.t 8]) (T.cfg_ok _ _) Tryz.func132 rfl rfl Tryz.ntmps132 Tryz.results132 (by simp [AObj.isNest]) (by simp [AObj.isNest]) (by kernel_rfl) ?_; intro X hX hP hC hXn hXm vals hA; refine ⟨_, by simp, hA, ?_⟩; have hmix : X.P.follows .mixedOrders = true := (by rw [hP]; exact T.mixed); clear hXn hXm)
 repeat' (first | fail | ((first | ((with_reducible (first | apply oA | apply oB)); exact rfl; intro K hK) | (refine hK _ ?_; clear hK K) | ((with_reducible (first | apply oG | apply oH)); iterate 3 exact rfl) | ((with_reducible apply oI); (iterate 2 exact rfl); intro K hK) | (with_reducible (first | apply wI | apply wJ | apply wK))); try simp only [go_sem, simprocAttr, List.map_take, List.map_drop]) | fail | (with_reducible (first | apply oC | apply oJ | exact oK | apply wA | apply wB | apply wC hX hC | apply wD hX hC | apply wE hX hC hmix | apply wF hX hC hmix | apply wG | apply wH | apply And.intro)) | ((with_reducible refine oD ?_ ?_); first | fail | kernel_rfl) | ((with_reducible (first | apply oE | apply oF)); (iterate 3 exact rfl); all_goals (intro h; first | (exact absurd h (by decide)) | ((try simp only [go_sem, simprocAttr, List.map_take, List.map_drop] at h); (try with_reducible intro K hK); simp only [go_sem, simprocAttr, List.map_take, List.map_drop]))) | ((first | ((with_reducible apply wL); exact rfl) | ((with_reducible apply wM); exact rfl)); all_goals (try ((with_reducible intro h); first | (exact absurd h (by decide)) | (try simp only [go_sem, simprocAttr, List.map_take, List.map_drop] at h)))) | omega | ((first | (refine acall_rob hX hC hP [(10000, 5)] (containsFuncT_spec (robX x) _ [.ptr 10000 0] (otherI x) ((row.take b).drop a) (fun t _ => bare1_spec x t) hll) rfl rfl rfl ?_ ?_ ?_ ?_ ?_ ?_ rfl rfl ?_ ?_; (focus (simp only [go_sem, simprocAttr, List.map_take, List.map_drop]; done)); (iterate 6 (focus (simp [go_sem, simprocAttr, List.map_take, List.map_drop]; done))); simp only [go_sem, simprocAttr, List.map_take, List.map_drop, List.map_cons, List.map_nil])); try simp only [go_sem, simprocAttr, List.map_take, List.map_drop]) | (intro h))
 rfl
end Go.Ab
end
section
namespace Go.Ab
open Go.Proofs
attribute [local congr] ACall.congr
set_option maxRecDepth 10000
set_option maxHeartbeats 2000000
def readyF (g : Gr) (f : Fr) (x : Int) : Bool :=
 if x < 0 ∨ g.n ≤ x ∨ x ∈ f.pl then false else
 decide ((spanF f.row x).2.2 = ((thereG (·.2) g x).length : Int)) && (decide ((thereG (·.2) g x).length = 0) || bareF f.row x (spanF f.row x).1.toNat (spanF f.row x).2.1.toNat)
theorem thereG_len {f : Edge → Int} {g : Gr} {x : Int} : (thereG f g x).length ≤ g.es.length := by
 unfold thereG
 split
 ·exact endsZ_len
 ·simp
theorem ready_spec (g : Gr) (hm : mayB g = true) (f : Fr) (x : Int) (hr : f.row.length ≤ 1000000) (hpl : f.pl.length ≤ 1000000) : Spec Tryz.prog 86 (Args [.d (frD g f), eN x]) [] (eB (readyF g f x)) [] := by
 have hp : f.pl.length ≤ 9223372036854775807 := by omega
 have hn := mayB_n hm
 unfold frD
 by_cases hx : x < 0 ∨ g.n ≤ x ∨ x ∈ f.pl
 ·have hR : readyF g f x = false := if_pos hx
  (refine Spec.intro (C := T.cfg [] []) (rs := [.t 4]) (T.cfg_ok _ _) Tryz.func86 rfl rfl Tryz.ntmps86 Tryz.results86 (by simp [AObj.isNest]) (by simp [AObj.isNest]) (by kernel_rfl) ?_; intro X hX hP hC hXn hXm vals hA; refine ⟨_, by simp, hA, ?_⟩; have hmix : X.P.follows .mixedOrders = true := (by rw [hP]; exact T.mixed); clear hXn hXm)
  by_cases h1 : x < 0
  ·have hb1 : decide (x < 0) = true := decide_eq_true h1
   repeat' (first | fail | ((first | ((with_reducible (first | apply oA | apply oB)); exact rfl; intro K hK) | (refine hK _ ?_; clear hK K) | ((with_reducible (first | apply oG | apply oH)); iterate 3 exact rfl) | ((with_reducible apply oI); (iterate 2 exact rfl); intro K hK) | (with_reducible (first | apply wI | apply wJ | apply wK))); try simp only [go_sem, simprocAttr, vw_eq, hR, hb1]) | fail | (with_reducible (first | apply oC | apply oJ | exact oK | apply wA | apply wB | apply wC hX hC | apply wD hX hC | apply wE hX hC hmix | apply wF hX hC hmix | apply wG | apply wH | apply And.intro)) | ((with_reducible refine oD ?_ ?_); first | fail | kernel_rfl) | ((with_reducible (first | apply oE | apply oF)); (iterate 3 exact rfl); all_goals (intro h; first | (exact absurd h (by decide)) | ((try simp only [go_sem, simprocAttr, vw_eq, hR, hb1] at h); (try with_reducible intro K hK); simp only [go_sem, simprocAttr, vw_eq, hR, hb1]))) | ((first | ((with_reducible apply wL); exact rfl) | ((with_reducible apply wM); exact rfl)); all_goals (try ((with_reducible intro h); first | (exact absurd h (by decide)) | (try simp only [go_sem, simprocAttr, vw_eq, hR, hb1] at h)))) | omega | ((first | first | refine acall_simple hX hC hP (ins_spec g hm x) rfl rfl rfl (by simp only [go_sem, simprocAttr, vw_eq, hR, hb1]) rfl ?_ | refine acall_simple hX hC hP (containsI_spec f.pl x hp) rfl rfl rfl (by simp only [go_sem, simprocAttr, vw_eq, hR, hb1]) rfl ?_ | refine acall_simple hX hC hP (span_spec [vw g, sI f.pl] f.row x hr) rfl rfl rfl (by simp only [go_sem, simprocAttr, vw_eq, hR, hb1]) rfl ?_ | refine acall_simple hX hC hP (bareR_spec [vw g, sI f.pl] f.row x a b hab hbl hr) rfl rfl rfl (by simp only [go_sem, simprocAttr, vw_eq, hR, hb1]) rfl ?_); try simp only [go_sem, simprocAttr, vw_eq, hR, hb1]) | (intro h))
  have hb1 : decide (x < 0) = false := decide_eq_false h1
  by_cases h2 : g.n ≤ x
  ·have hb2 : decide (g.n ≤ x) = true := decide_eq_true h2
   repeat' (first | fail | ((first | ((with_reducible (first | apply oA | apply oB)); exact rfl; intro K hK) | (refine hK _ ?_; clear hK K) | ((with_reducible (first | apply oG | apply oH)); iterate 3 exact rfl) | ((with_reducible apply oI); (iterate 2 exact rfl); intro K hK) | (with_reducible (first | apply wI | apply wJ | apply wK))); try simp only [go_sem, simprocAttr, vw_eq, hR, hb1, hb2]) | fail | (with_reducible (first | apply oC | apply oJ | exact oK | apply wA | apply wB | apply wC hX hC | apply wD hX hC | apply wE hX hC hmix | apply wF hX hC hmix | apply wG | apply wH | apply And.intro)) | ((with_reducible refine oD ?_ ?_); first | fail | kernel_rfl) | ((with_reducible (first | apply oE | apply oF)); (iterate 3 exact rfl); all_goals (intro h; first | (exact absurd h (by decide)) | ((try simp only [go_sem, simprocAttr, vw_eq, hR, hb1, hb2] at h); (try with_reducible intro K hK); simp only [go_sem, simprocAttr, vw_eq, hR, hb1, hb2]))) | ((first | ((with_reducible apply wL); exact rfl) | ((with_reducible apply wM); exact rfl)); all_goals (try ((with_reducible intro h); first | (exact absurd h (by decide)) | (try simp only [go_sem, simprocAttr, vw_eq, hR, hb1, hb2] at h)))) | omega | ((first | first | refine acall_simple hX hC hP (ins_spec g hm x) rfl rfl rfl (by simp only [go_sem, simprocAttr, vw_eq, hR, hb1, hb2]) rfl ?_ | refine acall_simple hX hC hP (containsI_spec f.pl x hp) rfl rfl rfl (by simp only [go_sem, simprocAttr, vw_eq, hR, hb1, hb2]) rfl ?_ | refine acall_simple hX hC hP (span_spec [vw g, sI f.pl] f.row x hr) rfl rfl rfl (by simp only [go_sem, simprocAttr, vw_eq, hR, hb1, hb2]) rfl ?_ | refine acall_simple hX hC hP (bareR_spec [vw g, sI f.pl] f.row x a b hab hbl hr) rfl rfl rfl (by simp only [go_sem, simprocAttr, vw_eq, hR, hb1, hb2]) rfl ?_); try simp only [go_sem, simprocAttr, vw_eq, hR, hb1, hb2]) | (intro h))
  have hb2 : decide (g.n ≤ x) = false := decide_eq_false h2
  have h3 : x ∈ f.pl := by rcases hx with h | h | h; exact absurd h h1; exact absurd h h2; exact h
  have hb3 : decide (x ∈ f.pl) = true := decide_eq_true h3
  repeat' (first | fail | ((first | ((with_reducible (first | apply oA | apply oB)); exact rfl; intro K hK) | (refine hK _ ?_; clear hK K) | ((with_reducible (first | apply oG | apply oH)); iterate 3 exact rfl) | ((with_reducible apply oI); (iterate 2 exact rfl); intro K hK) | (with_reducible (first | apply wI | apply wJ | apply wK))); try simp only [go_sem, simprocAttr, vw_eq, hR, hb1, hb2, hb3]) | fail | (with_reducible (first | apply oC | apply oJ | exact oK | apply wA | apply wB | apply wC hX hC | apply wD hX hC | apply wE hX hC hmix | apply wF hX hC hmix | apply wG | apply wH | apply And.intro)) | ((with_reducible refine oD ?_ ?_); first | fail | kernel_rfl) | ((with_reducible (first | apply oE | apply oF)); (iterate 3 exact rfl); all_goals (intro h; first | (exact absurd h (by decide)) | ((try simp only [go_sem, simprocAttr, vw_eq, hR, hb1, hb2, hb3] at h); (try with_reducible intro K hK); simp only [go_sem, simprocAttr, vw_eq, hR, hb1, hb2, hb3]))) | ((first | ((with_reducible apply wL); exact rfl) | ((with_reducible apply wM); exact rfl)); all_goals (try ((with_reducible intro h); first | (exact absurd h (by decide)) | (try simp only [go_sem, simprocAttr, vw_eq, hR, hb1, hb2, hb3] at h)))) | omega | ((first | first | refine acall_simple hX hC hP (ins_spec g hm x) rfl rfl rfl (by simp only [go_sem, simprocAttr, vw_eq, hR, hb1, hb2, hb3]) rfl ?_ | refine acall_simple hX hC hP (containsI_spec f.pl x hp) rfl rfl rfl (by simp only [go_sem, simprocAttr, vw_eq, hR, hb1, hb2, hb3]) rfl ?_ | refine acall_simple hX hC hP (span_spec [vw g, sI f.pl] f.row x hr) rfl rfl rfl (by simp only [go_sem, simprocAttr, vw_eq, hR, hb1, hb2, hb3]) rfl ?_ | refine acall_simple hX hC hP (bareR_spec [vw g, sI f.pl] f.row x a b hab hbl hr) rfl rfl rfl (by simp only [go_sem, simprocAttr, vw_eq, hR, hb1, hb2, hb3]) rfl ?_); try simp only [go_sem, simprocAttr, vw_eq, hR, hb1, hb2, hb3]) | (intro h))
 ·have hb1 : decide (x < 0) = false := decide_eq_false fun h => hx (.inl h)
  have hb2 : decide (g.n ≤ x) = false := decide_eq_false fun h => hx (.inr (.inl h))
  have hb3 : decide (x ∈ f.pl) = false := decide_eq_false fun h => hx (.inr (.inr h))
  have hR : readyF g f x = (decide ((spanF f.row x).2.2 = ((thereG (·.2) g x).length : Int)) && (decide ((thereG (·.2) g x).length = 0) || bareF f.row x (spanF f.row x).1.toNat (spanF f.row x).2.1.toNat)) := if_neg hx
  by_cases h4 : (spanF f.row x).2.2 = ((thereG (·.2) g x).length : Int)
  ·have hb4 : decide ((spanF f.row x).2.2 = ((thereG (·.2) g x).length : Int)) = true := decide_eq_true h4
   by_cases h5 : (thereG (·.2) g x).length = 0
   ·have hb5 : decide (((thereG (·.2) g x).length : Int) = 0) = true := decide_eq_true (by omega)
    rw [hb4, decide_eq_true h5] at hR
    (refine Spec.intro (C := T.cfg [] []) (rs := [.t 4]) (T.cfg_ok _ _) Tryz.func86 rfl rfl Tryz.ntmps86 Tryz.results86 (by simp [AObj.isNest]) (by simp [AObj.isNest]) (by kernel_rfl) ?_; intro X hX hP hC hXn hXm vals hA; refine ⟨_, by simp, hA, ?_⟩; have hmix : X.P.follows .mixedOrders = true := (by rw [hP]; exact T.mixed); clear hXn hXm)
    repeat' (first | fail | ((first | ((with_reducible (first | apply oA | apply oB)); exact rfl; intro K hK) | (refine hK _ ?_; clear hK K) | ((with_reducible (first | apply oG | apply oH)); iterate 3 exact rfl) | ((with_reducible apply oI); (iterate 2 exact rfl); intro K hK) | (with_reducible (first | apply wI | apply wJ | apply wK))); try simp only [go_sem, simprocAttr, vw_eq, hR, hb1, hb2, hb3, hb4, hb5]) | fail | (with_reducible (first | apply oC | apply oJ | exact oK | apply wA | apply wB | apply wC hX hC | apply wD hX hC | apply wE hX hC hmix | apply wF hX hC hmix | apply wG | apply wH | apply And.intro)) | ((with_reducible refine oD ?_ ?_); first | fail | kernel_rfl) | ((with_reducible (first | apply oE | apply oF)); (iterate 3 exact rfl); all_goals (intro h; first | (exact absurd h (by decide)) | ((try simp only [go_sem, simprocAttr, vw_eq, hR, hb1, hb2, hb3, hb4, hb5] at h); (try with_reducible intro K hK); simp only [go_sem, simprocAttr, vw_eq, hR, hb1, hb2, hb3, hb4, hb5]))) | ((first | ((with_reducible apply wL); exact rfl) | ((with_reducible apply wM); exact rfl)); all_goals (try ((with_reducible intro h); first | (exact absurd h (by decide)) | (try simp only [go_sem, simprocAttr, vw_eq, hR, hb1, hb2, hb3, hb4, hb5] at h)))) | omega | ((first | first | refine acall_simple hX hC hP (ins_spec g hm x) rfl rfl rfl (by simp only [go_sem, simprocAttr, vw_eq, hR, hb1, hb2, hb3, hb4, hb5]) rfl ?_ | refine acall_simple hX hC hP (containsI_spec f.pl x hp) rfl rfl rfl (by simp only [go_sem, simprocAttr, vw_eq, hR, hb1, hb2, hb3, hb4, hb5]) rfl ?_ | refine acall_simple hX hC hP (span_spec [vw g, sI f.pl] f.row x hr) rfl rfl rfl (by simp only [go_sem, simprocAttr, vw_eq, hR, hb1, hb2, hb3, hb4, hb5]) rfl ?_ | refine acall_simple hX hC hP (bareR_spec [vw g, sI f.pl] f.row x a b hab hbl hr) rfl rfl rfl (by simp only [go_sem, simprocAttr, vw_eq, hR, hb1, hb2, hb3, hb4, hb5]) rfl ?_); try simp only [go_sem, simprocAttr, vw_eq, hR, hb1, hb2, hb3, hb4, hb5]) | (intro h))
   ·have hb5 : decide (((thereG (·.2) g x).length : Int) = 0) = false := decide_eq_false (by omega)
    rcases spanK_ok (row := f.row) (x := x) f.row.length with ⟨h6, _⟩ | ⟨a, b, c, h6, hab, hbl, _⟩
    ·exfalso
     have : (spanF f.row x).2.2 = 0 := by unfold spanF; rw [h6]
     omega
    ·have hsp : spanF f.row x = ((a : Int), (b : Int), (c : Int)) := h6
     have hab : a ≤ b := by omega
     rw [hb4, decide_eq_false h5, hsp] at hR
     simp only [Bool.true_and, Bool.false_or, Int.toNat_natCast] at hR
     rw [hsp] at hb4
     (refine Spec.intro (C := T.cfg [] []) (rs := [.t 4]) (T.cfg_ok _ _) Tryz.func86 rfl rfl Tryz.ntmps86 Tryz.results86 (by simp [AObj.isNest]) (by simp [AObj.isNest]) (by kernel_rfl) ?_; intro X hX hP hC hXn hXm vals hA; refine ⟨_, by simp, hA, ?_⟩; have hmix : X.P.follows .mixedOrders = true := (by rw [hP]; exact T.mixed); clear hXn hXm)
     repeat' (first | fail | ((first | ((with_reducible (first | apply oA | apply oB)); exact rfl; intro K hK) | (refine hK _ ?_; clear hK K) | ((with_reducible (first | apply oG | apply oH)); iterate 3 exact rfl) | ((with_reducible apply oI); (iterate 2 exact rfl); intro K hK) | (with_reducible (first | apply wI | apply wJ | apply wK))); try simp only [go_sem, simprocAttr, vw_eq, hR, hb1, hb2, hb3, hb4, hb5, hsp]) | fail | (with_reducible (first | apply oC | apply oJ | exact oK | apply wA | apply wB | apply wC hX hC | apply wD hX hC | apply wE hX hC hmix | apply wF hX hC hmix | apply wG | apply wH | apply And.intro)) | ((with_reducible refine oD ?_ ?_); first | fail | kernel_rfl) | ((with_reducible (first | apply oE | apply oF)); (iterate 3 exact rfl); all_goals (intro h; first | (exact absurd h (by decide)) | ((try simp only [go_sem, simprocAttr, vw_eq, hR, hb1, hb2, hb3, hb4, hb5, hsp] at h); (try with_reducible intro K hK); simp only [go_sem, simprocAttr, vw_eq, hR, hb1, hb2, hb3, hb4, hb5, hsp]))) | ((first | ((with_reducible apply wL); exact rfl) | ((with_reducible apply wM); exact rfl)); all_goals (try ((with_reducible intro h); first | (exact absurd h (by decide)) | (try simp only [go_sem, simprocAttr, vw_eq, hR, hb1, hb2, hb3, hb4, hb5, hsp] at h)))) | omega | ((first | first | refine acall_simple hX hC hP (ins_spec g hm x) rfl rfl rfl (by simp only [go_sem, simprocAttr, vw_eq, hR, hb1, hb2, hb3, hb4, hb5, hsp]) rfl ?_ | refine acall_simple hX hC hP (containsI_spec f.pl x hp) rfl rfl rfl (by simp only [go_sem, simprocAttr, vw_eq, hR, hb1, hb2, hb3, hb4, hb5, hsp]) rfl ?_ | refine acall_simple hX hC hP (span_spec [vw g, sI f.pl] f.row x hr) rfl rfl rfl (by simp only [go_sem, simprocAttr, vw_eq, hR, hb1, hb2, hb3, hb4, hb5, hsp]) rfl ?_ | refine acall_simple hX hC hP (bareR_spec [vw g, sI f.pl] f.row x a b hab hbl hr) rfl rfl rfl (by simp only [go_sem, simprocAttr, vw_eq, hR, hb1, hb2, hb3, hb4, hb5, hsp]) rfl ?_); try simp only [go_sem, simprocAttr, vw_eq, hR, hb1, hb2, hb3, hb4, hb5, hsp]) | (intro h))
  ·have hb4 : decide ((spanF f.row x).2.2 = ((thereG (·.2) g x).length : Int)) = false := decide_eq_false h4
   rw [hb4, Bool.false_and] at hR
   (refine Spec.intro (C := T.cfg [] []) (rs := [.t 4]) (T.cfg_ok _ _) Tryz.func86 rfl rfl Tryz.ntmps86 Tryz.results86 (by simp [AObj.isNest]) (by simp [AObj.isNest]) (by kernel_rfl) ?_; intro X hX hP hC hXn hXm vals hA; refine ⟨_, by simp, hA, ?_⟩; have hmix : X.P.follows .mixedOrders = true := (by rw [hP]; exact T.mixed); clear hXn hXm)
   repeat' (first | fail | ((first | ((with_reducible (first | apply oA | apply oB)); exact rfl; intro K hK) | (refine hK _ ?_; clear hK K) | ((with_reducible (first | apply oG | apply oH)); iterate 3 exact rfl) | ((with_reducible apply oI); (iterate 2 exact rfl); intro K hK) | (with_reducible (first | apply wI | apply wJ | apply wK))); try simp only [go_sem, simprocAttr, vw_eq, hR, hb1, hb2, hb3, hb4]) | fail | (with_reducible (first | apply oC | apply oJ | exact oK | apply wA | apply wB | apply wC hX hC | apply wD hX hC | apply wE hX hC hmix | apply wF hX hC hmix | apply wG | apply wH | apply And.intro)) | ((with_reducible refine oD ?_ ?_); first | fail | kernel_rfl) | ((with_reducible (first | apply oE | apply oF)); (iterate 3 exact rfl); all_goals (intro h; first | (exact absurd h (by decide)) | ((try simp only [go_sem, simprocAttr, vw_eq, hR, hb1, hb2, hb3, hb4] at h); (try with_reducible intro K hK); simp only [go_sem, simprocAttr, vw_eq, hR, hb1, hb2, hb3, hb4]))) | ((first | ((with_reducible apply wL); exact rfl) | ((with_reducible apply wM); exact rfl)); all_goals (try ((with_reducible intro h); first | (exact absurd h (by decide)) | (try simp only [go_sem, simprocAttr, vw_eq, hR, hb1, hb2, hb3, hb4] at h)))) | omega | ((first | first | refine acall_simple hX hC hP (ins_spec g hm x) rfl rfl rfl (by simp only [go_sem, simprocAttr, vw_eq, hR, hb1, hb2, hb3, hb4]) rfl ?_ | refine acall_simple hX hC hP (containsI_spec f.pl x hp) rfl rfl rfl (by simp only [go_sem, simprocAttr, vw_eq, hR, hb1, hb2, hb3, hb4]) rfl ?_ | refine acall_simple hX hC hP (span_spec [vw g, sI f.pl] f.row x hr) rfl rfl rfl (by simp only [go_sem, simprocAttr, vw_eq, hR, hb1, hb2, hb3, hb4]) rfl ?_ | refine acall_simple hX hC hP (bareR_spec [vw g, sI f.pl] f.row x a b hab hbl hr) rfl rfl rfl (by simp only [go_sem, simprocAttr, vw_eq, hR, hb1, hb2, hb3, hb4]) rfl ?_); try simp only [go_sem, simprocAttr, vw_eq, hR, hb1, hb2, hb3, hb4]) | (intro h))
theorem rowT_spec (ds : List D) (row : List It) (hr : row.length ≤ 1000000) : Spec Tryz.prog 54 (Args [.d (.pt (sT row :: ds))]) [] (.ref 10000) [(10000, .tip 62 3 (row.map rT))] := by
 (refine Spec.introR (C := T.cfg [] []) (rs := [.t 2]) [(10000, 7)] (T.cfg_ok _ _) Tryz.func54 rfl rfl Tryz.ntmps54 Tryz.results54 (by simp [AObj.isNest]) (by simp [AObj.isNest]) (by first | (simp [look]; done) | (simp [asN]; done) | (intro l hl; simp only [asN]; repeat (rw [if_neg (fun e => by subst e; simp [look] at hl)]))) (by first | (simp [look]; done) | (simp [asN]; done) | (intro l hl; simp only [asN]; repeat (rw [if_neg (fun e => by subst e; simp [look] at hl)]))) (by kernel_rfl) ?_; intro X hX hP hC hXn hXm vals hA; refine ⟨_, by simp, hA, ?_⟩; have hmix : X.P.follows .mixedOrders = true := (by rw [hP]; exact T.mixed); clear hXn hXm)
 repeat' (first | fail | ((first | ((with_reducible (first | apply oA | apply oB)); exact rfl; intro K hK) | (refine hK _ ?_; clear hK K) | ((with_reducible (first | apply oG | apply oH)); iterate 3 exact rfl) | ((with_reducible apply oI); (iterate 2 exact rfl); intro K hK) | (with_reducible (first | apply wI | apply wJ | apply wK))); try simp only [go_sem, simprocAttr]) | fail | (with_reducible (first | apply oC | apply oJ | exact oK | apply wA | apply wB | apply wC hX hC | apply wD hX hC | apply wE hX hC hmix | apply wF hX hC hmix | apply wG | apply wH | apply And.intro)) | ((with_reducible refine oD ?_ ?_); first | fail | kernel_rfl) | ((with_reducible (first | apply oE | apply oF)); (iterate 3 exact rfl); all_goals (intro h; first | (exact absurd h (by decide)) | ((try simp only [go_sem, simprocAttr] at h); (try with_reducible intro K hK); simp only [go_sem, simprocAttr]))) | ((first | ((with_reducible apply wL); exact rfl) | ((with_reducible apply wM); exact rfl)); all_goals (try ((with_reducible intro h); first | (exact absurd h (by decide)) | (try simp only [go_sem, simprocAttr] at h)))) | omega | ((first | (refine acall_gen hX hC hP [(10000, 7)] (cloneT_spec row hr) rfl rfl rfl ?_ ?_ ?_ ?_ ?_ ?_ ?_ ?_ ?_ ?_ ?_ ?_ ?_ ?_; (focus (simp only [go_sem, simprocAttr]; done)); (iterate 12 (focus (simp [go_sem, simprocAttr]; done))); simp only [go_sem, simprocAttr, List.map_cons, List.map_nil])); try simp only [go_sem, simprocAttr]) | (intro h))
end Go.Ab
end
section
namespace Go.Ab
open Go.Proofs
attribute [local congr] ACall.congr
set_option maxRecDepth 10000
set_option maxHeartbeats 2000000
theorem values_spec (l : List Int) : Spec Tryz.prog 84 (Args [.d (sI l)]) [] (.fn 130 [] [.ptr 10000 0]) [(10000, .box [.d (sI l)])] := by
 (refine Spec.introR (C := T.cfg [] []) (rs := [.t 2]) [(10000, 1)] (T.cfg_ok _ _) Tryz.func84 rfl rfl Tryz.ntmps84 Tryz.results84 (by simp [AObj.isNest]) (by simp [AObj.isNest]) (by first | (simp [look]; done) | (simp [asN]; done) | (intro l hl; simp only [asN]; repeat (rw [if_neg (fun e => by subst e; simp [look] at hl)]))) (by first | (simp [look]; done) | (simp [asN]; done) | (intro l hl; simp only [asN]; repeat (rw [if_neg (fun e => by subst e; simp [look] at hl)]))) (by kernel_rfl) ?_; intro X hX hP hC hXn hXm vals hA; refine ⟨_, by simp, hA, ?_⟩; have hmix : X.P.follows .mixedOrders = true := (by rw [hP]; exact T.mixed); clear hXn hXm)
 repeat' (first | fail | ((first | ((with_reducible (first | apply oA | apply oB)); exact rfl; intro K hK) | (refine hK _ ?_; clear hK K) | ((with_reducible (first | apply oG | apply oH)); iterate 3 exact rfl) | ((with_reducible apply oI); (iterate 2 exact rfl); intro K hK) | (with_reducible (first | apply wI | apply wJ | apply wK))); try simp only [go_sem, simprocAttr]) | fail | (with_reducible (first | apply oC | apply oJ | exact oK | apply wA | apply wB | apply wC hX hC | apply wD hX hC | apply wE hX hC hmix | apply wF hX hC hmix | apply wG | apply wH | apply And.intro)) | ((with_reducible refine oD ?_ ?_); first | fail | kernel_rfl) | ((with_reducible (first | apply oE | apply oF)); (iterate 3 exact rfl); all_goals (intro h; first | (exact absurd h (by decide)) | ((try simp only [go_sem, simprocAttr] at h); (try with_reducible intro K hK); simp only [go_sem, simprocAttr]))) | ((first | ((with_reducible apply wL); exact rfl) | ((with_reducible apply wM); exact rfl)); all_goals (try ((with_reducible intro h); first | (exact absurd h (by decide)) | (try simp only [go_sem, simprocAttr] at h)))) | omega | ((first | fail); try simp only [go_sem, simprocAttr]) | (intro h))
theorem equalI_spec (xs ys : List Int) (hlen : xs.length ≤ 9223372036854775807) : Spec Tryz.prog 85 (Args [.d (sI xs), .d (sI ys)]) [] (eB (decide (xs = ys))) [] := by
 (refine Spec.intro (C := T.cfg [] []) (rs := [.t 4]) (T.cfg_ok _ _) Tryz.func85 rfl rfl Tryz.ntmps85 Tryz.results85 (by simp [AObj.isNest]) (by simp [AObj.isNest]) (by kernel_rfl) ?_; intro X hX hP hC hXn hXm vals hA; refine ⟨_, by simp, hA, ?_⟩; have hmix : X.P.follows .mixedOrders = true := (by rw [hP]; exact T.mixed); clear hXn hXm)
 repeat' (first | fail | ((first | ((with_reducible (first | apply oA | apply oB)); exact rfl; intro K hK) | (refine hK _ ?_; clear hK K) | ((with_reducible (first | apply oG | apply oH)); iterate 3 exact rfl) | ((with_reducible apply oI); (iterate 2 exact rfl); intro K hK) | (with_reducible (first | apply wI | apply wJ | apply wK))); try simp only [go_sem, simprocAttr]) | fail | (with_reducible (first | apply oC | apply oJ | exact oK | apply wA | apply wB | apply wC hX hC | apply wD hX hC | apply wE hX hC hmix | apply wF hX hC hmix | apply wG | apply wH | apply And.intro)) | ((with_reducible refine oD ?_ ?_); first | fail | kernel_rfl) | ((with_reducible (first | apply oE | apply oF)); (iterate 3 exact rfl); all_goals (intro h; first | (exact absurd h (by decide)) | ((try simp only [go_sem, simprocAttr] at h); (try with_reducible intro K hK); simp only [go_sem, simprocAttr]))) | ((first | ((with_reducible apply wL); exact rfl) | ((with_reducible apply wM); exact rfl)); all_goals (try ((with_reducible intro h); first | (exact absurd h (by decide)) | (try simp only [go_sem, simprocAttr] at h)))) | omega | ((first | fail); try simp only [go_sem, simprocAttr]) | (intro h))
 ·have : xs ≠ ys := fun e => h (by rw [e])
  simp [this]
 refine awp_loopP (fun k : Nat => k ≤ xs.length ∧ xs.take k = ys.take k) (fun k => ⟨[(0, .d (sI xs)), (1, .d (sI ys)), (12, eN xs.length), (13, eN k)], []⟩) (fun k => xs.length - k) 0 (by simp) ?_ ?_
 ·(refine ⟨leT_spec ?_, fun _ _ h => h⟩; simp [go_sem, simprocAttr])
 rintro k ⟨hk, hp⟩
 have hlq : xs.length = ys.length := by omega
 repeat' (first | fail | ((first | ((with_reducible (first | apply oA | apply oB)); exact rfl; intro K hK) | (refine hK _ ?_; clear hK K) | ((with_reducible (first | apply oG | apply oH)); iterate 3 exact rfl) | ((with_reducible apply oI); (iterate 2 exact rfl); intro K hK) | (with_reducible (first | apply wI | apply wJ | apply wK))); try simp only [go_sem, simprocAttr]) | fail | (with_reducible (first | apply oC | apply oJ | exact oK | apply wA | apply wB | apply wC hX hC | apply wD hX hC | apply wE hX hC hmix | apply wF hX hC hmix | apply wG | apply wH | apply And.intro)) | ((with_reducible refine oD ?_ ?_); first | fail | kernel_rfl) | ((with_reducible (first | apply oE | apply oF)); (iterate 3 exact rfl); all_goals (intro h; first | (exact absurd h (by decide)) | ((try simp only [go_sem, simprocAttr] at h); (try with_reducible intro K hK); simp only [go_sem, simprocAttr]))) | ((first | ((with_reducible apply wL); exact rfl) | ((with_reducible apply wM); exact rfl)); all_goals (try ((with_reducible intro h); first | (exact absurd h (by decide)) | (try simp only [go_sem, simprocAttr] at h)))) | omega | ((first | fail); try simp only [go_sem, simprocAttr]) | (intro h))
 ·have : xs ≠ ys := fun e => h (by rw [e])
  simp [this]
 ·refine ⟨k + 1, ⟨by omega, take_next 0 (by omega) (by omega) hp h⟩, ?_, by omega⟩
  (refine ⟨leT_spec ?_, fun _ _ h => h⟩; simp [go_sem, simprocAttr])
 ·have : k = xs.length := by omega
  subst this
  rw [List.take_of_length_le (Nat.le_refl _), List.take_of_length_le (by omega)] at hp
  simp [hp]
def itemF (g : Gr) (x : Int) (i : Int) : It := (i, x, (g.es.getD i.toNat (0, 0)).2)
def aboveF (g : Gr) (x : Int) (outs : List Int) : List It := if outs = [] then [(-1, x, -1)] else outs.map (itemF g x)
theorem take_nextX {α β : Type} {f : α → β} {l : List α} {d : α} {k : Nat} (h : k < l.length) : (l.take (k + 1)).map f = (l.take k).map f ++ [f (l.getD k d)] := by
 rw [List.take_add_one, List.map_append, List.getElem?_eq_getElem h, List.getD_eq_getElem?_getD, List.getElem?_eq_getElem h]
 rfl
theorem above_spec (g : Gr) (f : Fr) (x : Int) (outs : List Int) (hl : outs.length ≤ 1000000) (ho : ∀ i ∈ outs, 0 ≤ i ∧ i < g.es.length) : Spec Tryz.prog 89 (Args [.d (frD g f), eN x, .d (sI outs)]) [] (.ref 10000) [(10000, .tip 62 3 ((aboveF g x outs).map rT))] := by
 unfold frD
 by_cases h0 : outs = []
 ·subst h0
  have hA : aboveF g x [] = [(-1, x, -1)] := if_pos rfl
  rw [hA]
  (refine Spec.introR (C := T.cfg [] []) (rs := [.t 6]) [(10000, 14)] (T.cfg_ok _ _) Tryz.func89 rfl rfl Tryz.ntmps89 Tryz.results89 (by simp [AObj.isNest]) (by simp [AObj.isNest]) (by first | (simp [look]; done) | (simp [asN]; done) | (intro l hl; simp only [asN]; repeat (rw [if_neg (fun e => by subst e; simp [look] at hl)]))) (by first | (simp [look]; done) | (simp [asN]; done) | (intro l hl; simp only [asN]; repeat (rw [if_neg (fun e => by subst e; simp [look] at hl)]))) (by kernel_rfl) ?_; intro X hX hP hC hXn hXm vals hA; refine ⟨_, by simp, hA, ?_⟩; have hmix : X.P.follows .mixedOrders = true := (by rw [hP]; exact T.mixed); clear hXn hXm)
  repeat' (first | fail | ((first | ((with_reducible (first | apply oA | apply oB)); exact rfl; intro K hK) | (refine hK _ ?_; clear hK K) | ((with_reducible (first | apply oG | apply oH)); iterate 3 exact rfl) | ((with_reducible apply oI); (iterate 2 exact rfl); intro K hK) | (with_reducible (first | apply wI | apply wJ | apply wK))); try simp only [go_sem, simprocAttr, vw_eq]) | fail | (with_reducible (first | apply oC | apply oJ | exact oK | apply wA | apply wB | apply wC hX hC | apply wD hX hC | apply wE hX hC hmix | apply wF hX hC hmix | apply wG | apply wH | apply And.intro)) | ((with_reducible refine oD ?_ ?_); first | fail | kernel_rfl) | ((with_reducible (first | apply oE | apply oF)); (iterate 3 exact rfl); all_goals (intro h; first | (exact absurd h (by decide)) | ((try simp only [go_sem, simprocAttr, vw_eq] at h); (try with_reducible intro K hK); simp only [go_sem, simprocAttr, vw_eq]))) | ((first | ((with_reducible apply wL); exact rfl) | ((with_reducible apply wM); exact rfl)); all_goals (try ((with_reducible intro h); first | (exact absurd h (by decide)) | (try simp only [go_sem, simprocAttr, vw_eq] at h)))) | omega | ((first | fail); try simp only [go_sem, simprocAttr, vw_eq]) | (intro h))
 ·have hA : aboveF g x outs = outs.map (itemF g x) := if_neg h0
  rw [hA]
  have hb0 : decide ((outs.length : Int) = 0) = false := decide_eq_false fun h => h0 (List.eq_nil_of_length_eq_zero (by omega))
  (refine Spec.introR (C := T.cfg [] []) (rs := [.t 6]) [(10000, 38)] (T.cfg_ok _ _) Tryz.func89 rfl rfl Tryz.ntmps89 Tryz.results89 (by simp [AObj.isNest]) (by simp [AObj.isNest]) (by first | (simp [look]; done) | (simp [asN]; done) | (intro l hl; simp only [asN]; repeat (rw [if_neg (fun e => by subst e; simp [look] at hl)]))) (by first | (simp [look]; done) | (simp [asN]; done) | (intro l hl; simp only [asN]; repeat (rw [if_neg (fun e => by subst e; simp [look] at hl)]))) (by kernel_rfl) ?_; intro X hX hP hC hXn hXm vals hA; refine ⟨_, by simp, hA, ?_⟩; have hmix : X.P.follows .mixedOrders = true := (by rw [hP]; exact T.mixed); clear hXn hXm)
  repeat' (first | fail | ((first | ((with_reducible (first | apply oA | apply oB)); exact rfl; intro K hK) | (refine hK _ ?_; clear hK K) | ((with_reducible (first | apply oG | apply oH)); iterate 3 exact rfl) | ((with_reducible apply oI); (iterate 2 exact rfl); intro K hK) | (with_reducible (first | apply wI | apply wJ | apply wK))); try simp only [go_sem, simprocAttr, vw_eq, hb0]) | fail | (with_reducible (first | apply oC | apply oJ | exact oK | apply wA | apply wB | apply wC hX hC | apply wD hX hC | apply wE hX hC hmix | apply wF hX hC hmix | apply wG | apply wH | apply And.intro)) | ((with_reducible refine oD ?_ ?_); first | fail | kernel_rfl) | ((with_reducible (first | apply oE | apply oF)); (iterate 3 exact rfl); all_goals (intro h; first | (exact absurd h (by decide)) | ((try simp only [go_sem, simprocAttr, vw_eq, hb0] at h); (try with_reducible intro K hK); simp only [go_sem, simprocAttr, vw_eq, hb0]))) | ((first | ((with_reducible apply wL); exact rfl) | ((with_reducible apply wM); exact rfl)); all_goals (try ((with_reducible intro h); first | (exact absurd h (by decide)) | (try simp only [go_sem, simprocAttr, vw_eq, hb0] at h)))) | omega | ((first | fail); try simp only [go_sem, simprocAttr, vw_eq, hb0]) | (intro h))
  (refine awp_new hX 6 38 (.tip 62 3 []) (by simp only [go_sem, simprocAttr, vw_eq, hb0]) (by simp only [go_sem, simprocAttr, vw_eq, hb0]) (by decide) ⟨62, 3, by decide, .inr rfl⟩ ?_; simp only [go_sem, simprocAttr, vw_eq, hb0])
  refine awp_loopP (fun k : Nat => k ≤ outs.length) (fun k => ⟨[(0, .d (frD g f)), (1, eN x), (15, .d (sI outs)), (16, eN outs.length), (17, eN k), (6, .ref 38)], [(38, .tip 62 3 (((outs.take k).map (itemF g x)).map rT))]⟩) (fun k => outs.length - k) 0 (by omega) ?_ ?_
  ·refine Le.of ?_ ?_ <;> simp [go_sem, simprocAttr, vw_eq, hb0, frD]
  unfold frD
  rintro k hk
  rcases Nat.lt_or_ge k outs.length with hlt | hge
  ·have hb : decide ((k : Int) < (outs.length : Int)) = true := decide_eq_true (by omega)
   have hnx := take_nextX (f := itemF g x) (d := 0) hlt
   have hoi := ho _ (getD_memX (d := 0) hlt)
   have hlk : (outs.take k).length = k := by simp; omega
   repeat' (first | fail | ((first | ((with_reducible (first | apply oA | apply oB)); exact rfl; intro K hK) | (refine hK _ ?_; clear hK K) | ((with_reducible (first | apply oG | apply oH)); iterate 3 exact rfl) | ((with_reducible apply oI); (iterate 2 exact rfl); intro K hK) | (with_reducible (first | apply wI | apply wJ | apply wK))); try simp only [go_sem, simprocAttr, vw_eq, hb, hlk]) | fail | (with_reducible (first | apply oC | apply oJ | exact oK | apply wA | apply wB | apply wC hX hC | apply wD hX hC | apply wE hX hC hmix | apply wF hX hC hmix | apply wG | apply wH | apply And.intro)) | ((with_reducible refine oD ?_ ?_); first | fail | kernel_rfl) | ((with_reducible (first | apply oE | apply oF)); (iterate 3 exact rfl); all_goals (intro h; first | (exact absurd h (by decide)) | ((try simp only [go_sem, simprocAttr, vw_eq, hb, hlk] at h); (try with_reducible intro K hK); simp only [go_sem, simprocAttr, vw_eq, hb, hlk]))) | ((first | ((with_reducible apply wL); exact rfl) | ((with_reducible apply wM); exact rfl)); all_goals (try ((with_reducible intro h); first | (exact absurd h (by decide)) | (try simp only [go_sem, simprocAttr, vw_eq, hb, hlk] at h)))) | omega | ((first | fail); try simp only [go_sem, simprocAttr, vw_eq, hb, hlk]) | (intro h))
   refine ⟨k + 1, by omega, ?_, by omega⟩
   refine Le.of ?_ ?_ <;> simp [go_sem, simprocAttr, vw_eq, hb, hlk, hnx, itemF]
  ·have hb : decide ((k : Int) < (outs.length : Int)) = false := decide_eq_false (by omega)
   obtain rfl : k = outs.length := by omega
   have ht : outs.take outs.length = outs := List.take_of_length_le (by omega)
   repeat' (first | fail | ((first | ((with_reducible (first | apply oA | apply oB)); exact rfl; intro K hK) | (refine hK _ ?_; clear hK K) | ((with_reducible (first | apply oG | apply oH)); iterate 3 exact rfl) | ((with_reducible apply oI); (iterate 2 exact rfl); intro K hK) | (with_reducible (first | apply wI | apply wJ | apply wK))); try simp only [go_sem, simprocAttr, vw_eq, hb, ht]) | fail | (with_reducible (first | apply oC | apply oJ | exact oK | apply wA | apply wB | apply wC hX hC | apply wD hX hC | apply wE hX hC hmix | apply wF hX hC hmix | apply wG | apply wH | apply And.intro)) | ((with_reducible refine oD ?_ ?_); first | fail | kernel_rfl) | ((with_reducible (first | apply oE | apply oF)); (iterate 3 exact rfl); all_goals (intro h; first | (exact absurd h (by decide)) | ((try simp only [go_sem, simprocAttr, vw_eq, hb, ht] at h); (try with_reducible intro K hK); simp only [go_sem, simprocAttr, vw_eq, hb, ht]))) | ((first | ((with_reducible apply wL); exact rfl) | ((with_reducible apply wM); exact rfl)); all_goals (try ((with_reducible intro h); first | (exact absurd h (by decide)) | (try simp only [go_sem, simprocAttr, vw_eq, hb, ht] at h)))) | omega | ((first | fail); try simp only [go_sem, simprocAttr, vw_eq, hb, ht]) | (intro h))
def frO (g : Gr) (f : Fr) : List (Nat × AObj) := [(10000, .box [.d (sT f.row), .d (vw g), .ref 10001]), (10001, .tip 3 1 (f.pl.map rI))]
theorem concat3_spec (row items : List It) (a b : Nat) (h0 : 0 < items.length) (hr : row.length ≤ 400000) (hi : items.length ≤ 100000) : Spec Tryz.prog 133 (Args [.d (.sl 1 [[.sl 3 (List.take a (row.map rT))], [.sl 3 (items.map rT)], [.sl 3 (List.drop b (row.map rT))]])]) [] (.d (sT (row.take a ++ items ++ row.drop b))) [] := by
 have hf : [row.take a, items, row.drop b].flatten = row.take a ++ items ++ row.drop b := by simp
 have hlen : [row.take a, items, row.drop b].flatten.length = min a row.length + items.length + (row.length - b) := by simp; omega
 have := concatT_spec [row.take a, items, row.drop b] (by simp) (by omega) (by omega)
 rw [hf] at this
 simpa only [vT, List.map_cons, List.map_nil, sT, List.map_take, List.map_drop] using this
theorem swap_spec (g : Gr) (row items : List It) (pl : List Int) (a b : Nat) (hab : a ≤ b) (hb : b ≤ row.length) (h0 : 0 < items.length) (hr : row.length ≤ 400000) (hi : items.length ≤ 100000) :
  Spec Tryz.prog 88 (Args [.ptr 10000 0, eN a, eN b, .ref 10003]) (frO g ⟨row, pl⟩ ++ [(10003, .tip 62 3 (items.map rT))]) (.d (sT ((row.take b).drop a))) (frO g ⟨row.take a ++ items ++ row.drop b, pl⟩) := by
 have hcl : ((row.take b).drop a).length ≤ 1000000 := by simp; omega
 have htk : List.take row.length (row.map rT) = row.map rT := List.take_of_length_le (by simp)
 unfold frO
 simp only [List.cons_append, List.nil_append]
 (refine Spec.intro (C := T.cfg [] []) (rs := [.t 8]) (T.cfg_ok _ _) Tryz.func88 rfl rfl Tryz.ntmps88 Tryz.results88 (by simp [AObj.isNest]) (by simp [AObj.isNest]) (by kernel_rfl) ?_; intro X hX hP hC hXn hXm vals hA; refine ⟨_, by simp, hA, ?_⟩; have hmix : X.P.follows .mixedOrders = true := (by rw [hP]; exact T.mixed); clear hXn hXm)
 repeat' (first | fail | ((first | ((with_reducible (first | apply oA | apply oB)); exact rfl; intro K hK) | (refine hK _ ?_; clear hK K) | ((with_reducible (first | apply oG | apply oH)); iterate 3 exact rfl) | ((with_reducible apply oI); (iterate 2 exact rfl); intro K hK) | (with_reducible (first | apply wI | apply wJ | apply wK))); try simp only [go_sem, simprocAttr, List.map_take, List.map_drop, htk]) | fail | (with_reducible (first | apply oC | apply oJ | exact oK | apply wA | apply wB | apply wC hX hC | apply wD hX hC | apply wE hX hC hmix | apply wF hX hC hmix | apply wG | apply wH | apply And.intro)) | ((with_reducible refine oD ?_ ?_); first | fail | kernel_rfl) | ((with_reducible (first | apply oE | apply oF)); (iterate 3 exact rfl); all_goals (intro h; first | (exact absurd h (by decide)) | ((try simp only [go_sem, simprocAttr, List.map_take, List.map_drop, htk] at h); (try with_reducible intro K hK); simp only [go_sem, simprocAttr, List.map_take, List.map_drop, htk]))) | ((first | ((with_reducible apply wL); exact rfl) | ((with_reducible apply wM); exact rfl)); all_goals (try ((with_reducible intro h); first | (exact absurd h (by decide)) | (try simp only [go_sem, simprocAttr, List.map_take, List.map_drop, htk] at h)))) | omega | ((first | first | (refine acall_gen hX hC hP [(10000, 17)] (cloneT_spec ((row.take b).drop a) hcl) rfl rfl rfl ?_ ?_ ?_ ?_ ?_ ?_ ?_ ?_ ?_ ?_ ?_ ?_ ?_ ?_; (focus (simp only [go_sem, simprocAttr, List.map_take, List.map_drop, htk]; done)); (iterate 12 (focus (simp [go_sem, simprocAttr, List.map_take, List.map_drop, htk]; done))); simp only [go_sem, simprocAttr, List.map_take, List.map_drop, htk, List.map_cons, List.map_nil]) | (refine acall_look hX hC hP (concat3_spec row items a b h0 hr hi) rfl rfl rfl ?_ ?_ rfl ?_; iterate 2 (focus (simp only [go_sem, simprocAttr, List.map_take, List.map_drop, htk]; done)))); try simp only [go_sem, simprocAttr, List.map_take, List.map_drop, htk]) | (intro h))
end Go.Ab
end
section
namespace Go.Ab
open Go.Proofs
attribute [local congr] ACall.congr
set_option maxRecDepth 10000
set_option maxHeartbeats 4000000
def frN (g : Gr) (f : Fr) : List (Nat × AObj) := [(10000, .box [.d (sT f.row), .d (vw g), .ref 10002]), (10002, .tip 3 1 (f.pl.map rI))]
def placeF (g : Gr) (f : Fr) (x : Int) (outs : List Int) : (List It × Int) × Fr :=
 if readyF g f x = false then (([], 3), f) else if srt outs ≠ thereG (·.1) g x then (([], 1), f) else
 (((f.row.take (spanF f.row x).2.1.toNat).drop (max (spanF f.row x).1 0).toNat, 0), ⟨f.row.take (max (spanF f.row x).1 0).toNat ++ aboveF g x outs ++ f.row.drop (spanF f.row x).2.1.toNat, f.pl ++ [x]⟩)
theorem endsZ_mem {f : Edge → Int} {es : List Edge} {k : Nat} {x i : Int} (h : i ∈ endsZ f es k x) : (0 ≤ i ∧ i < k) ∧ f (es.getD i.toNat (0, 0)) = x := by
 simp only [endsZ, List.mem_map, List.mem_filter, List.mem_range, decide_eq_true_eq] at h
 obtain ⟨j, ⟨h1, h2⟩, rfl⟩ := h
 exact ⟨⟨Int.natCast_nonneg j, by simp; omega⟩, h2⟩
theorem thereG_mem {f : Edge → Int} {g : Gr} {x i : Int} (h : i ∈ thereG f g x) : (0 ≤ i ∧ i < g.es.length) ∧ f (g.es.getD i.toNat (0, 0)) = x := by
 unfold thereG at h
 split at h
 ·exact endsZ_mem h
 ·cases h
theorem srt_memX {l : List Int} {x : Int} : x ∈ srt l ↔ x ∈ l := by simp [srt]
theorem spanF_nat (row : List It) (x : Int) : ∃ a b : Nat, max (spanF row x).1 0 = (a : Int) ∧ (spanF row x).2.1 = (b : Int) ∧ a ≤ b ∧ b ≤ row.length := by
 rcases spanK_ok (row := row) (x := x) row.length with ⟨h, _⟩ | ⟨a, b, c, h, h1, h2, _⟩
 ·exact ⟨0, 0, by unfold spanF; rw [h]; rfl, by unfold spanF; rw [h]; rfl, by omega, by omega⟩
 ·exact ⟨a, b, by unfold spanF; rw [h]; simp only; omega, by unfold spanF; rw [h], by omega, by omega⟩
theorem aboveF_len {g : Gr} {x : Int} {outs : List Int} : 0 < (aboveF g x outs).length ∧ (aboveF g x outs).length ≤ outs.length + 1 := by
 unfold aboveF
 split
 ·simp
 ·rename_i h
  have := List.length_pos_iff.2 h
  simp; omega
theorem place_spec (g : Gr) (hm : mayB g = true) (f : Fr) (x : Int) (outs : List Int) (hr : f.row.length ≤ 300000) (hp : f.pl.length ≤ 100000) (ho : outs.length ≤ 17592186043904) :
  Spec Tryz.prog 53 (Args [.ptr 10000 0, eN x, .d (sI outs)]) (frO g f) (.tup [.d (sT (placeF g f x outs).1.1), eN (placeF g f x outs).1.2]) (frN g (placeF g f x outs).2) := by
 have hr1 : f.row.length ≤ 1000000 := by omega
 have hp1 : f.pl.length ≤ 1000000 := by omega
 have hs : (srt outs).length ≤ 9223372036854775807 := by rw [srt_length]; omega
 have hn := mayB_n hm
 cases hR : readyF g f x with
 | false =>
  have hP : placeF g f x outs = (([], 3), f) := if_pos hR
  rw [hP]
  unfold frO frN
  (refine Spec.introR (C := T.cfg [] []) (rs := [.t 6, .t 7]) [(10002, 10001)] (T.cfg_ok _ _) Tryz.func53 rfl rfl Tryz.ntmps53 Tryz.results53 (by simp [AObj.isNest]) (by simp [AObj.isNest]) (by first | (simp [look]; done) | (simp [asN]; done) | (intro l hl; simp only [asN]; repeat (rw [if_neg (fun e => by subst e; simp [look] at hl)]))) (by first | (simp [look]; done) | (simp [asN]; done) | (intro l hl; simp only [asN]; repeat (rw [if_neg (fun e => by subst e; simp [look] at hl)]))) (by kernel_rfl) ?_; intro X hX hP hC hXn hXm vals hA; refine ⟨_, by simp, hA, ?_⟩; have hmix : X.P.follows .mixedOrders = true := (by rw [hP]; exact T.mixed); clear hXn hXm)
  repeat' (first | fail | ((first | ((with_reducible (first | apply oA | apply oB)); exact rfl; intro K hK) | (refine hK _ ?_; clear hK K) | ((with_reducible (first | apply oG | apply oH)); iterate 3 exact rfl) | ((with_reducible apply oI); (iterate 2 exact rfl); intro K hK) | (with_reducible (first | apply wI | apply wJ | apply wK))); try simp only [go_sem, simprocAttr, hR, frD]) | fail | (with_reducible (first | apply oC | apply oJ | exact oK | apply wA | apply wB | apply wC hX hC | apply wD hX hC | apply wE hX hC hmix | apply wF hX hC hmix | apply wG | apply wH | apply And.intro)) | ((with_reducible refine oD ?_ ?_); first | fail | kernel_rfl) | ((with_reducible (first | apply oE | apply oF)); (iterate 3 exact rfl); all_goals (intro h; first | (exact absurd h (by decide)) | ((try simp only [go_sem, simprocAttr, hR, frD] at h); (try with_reducible intro K hK); simp only [go_sem, simprocAttr, hR, frD]))) | ((first | ((with_reducible apply wL); exact rfl) | ((with_reducible apply wM); exact rfl)); all_goals (try ((with_reducible intro h); first | (exact absurd h (by decide)) | (try simp only [go_sem, simprocAttr, hR, frD] at h)))) | omega | ((first | first | (refine acall_lend hX hC hP (ready_spec g hm f x hr1 hp1) rfl rfl rfl ?_ ?_ ?_ ?_; iterate 3 (focus (simp only [go_sem, simprocAttr, hR, frD]; done))) | (refine acall_gen hX hC hP [(10000, 16)] (values_spec outs) rfl rfl rfl ?_ ?_ ?_ ?_ ?_ ?_ ?_ ?_ ?_ ?_ ?_ ?_ ?_ ?_; (focus (simp only [go_sem, simprocAttr, hR, frD]; done)); (iterate 12 (focus (simp [go_sem, simprocAttr, hR, frD]; done))); simp only [go_sem, simprocAttr, hR, frD, List.map_cons, List.map_nil]) | (refine acall_rob hX hC hP [(10000, 16)] (sortedB_spec outs ho) rfl rfl rfl ?_ ?_ ?_ ?_ ?_ ?_ rfl rfl ?_ ?_; (focus (simp only [go_sem, simprocAttr, hR, frD]; done)); (iterate 6 (focus (simp [go_sem, simprocAttr, hR, frD]; done))); simp only [go_sem, simprocAttr, hR, frD, List.map_cons, List.map_nil]) | refine acall_simple hX hC hP (outs_spec g hm x) rfl rfl rfl (by simp only [go_sem, simprocAttr, hR, frD]) rfl ?_ | refine acall_simple hX hC hP (equalI_spec (srt outs) (thereG (·.1) g x) hs) rfl rfl rfl (by simp only [go_sem, simprocAttr, hR, frD]) rfl ?_ | (refine acall_lend hX hC hP (span_spec [vw g, sI f.pl] f.row x hr1) rfl rfl rfl ?_ ?_ ?_ ?_; iterate 3 (focus (simp only [go_sem, simprocAttr, hR, frD]; done)))); try simp only [go_sem, simprocAttr, hR, frD]) | (intro h))
 | true =>
 have hR' : ¬ readyF g f x = false := by rw [hR]; simp
 by_cases hE : ¬ srt outs = thereG (·.1) g x
 ·have hb1 : decide (srt outs = thereG (·.1) g x) = false := decide_eq_false hE
  have hP : placeF g f x outs = (([], 1), f) := by unfold placeF; rw [if_neg hR', if_pos hE]
  rw [hP]
  unfold frO frN
  (refine Spec.introR (C := T.cfg [] []) (rs := [.t 6, .t 7]) [(10002, 10001)] (T.cfg_ok _ _) Tryz.func53 rfl rfl Tryz.ntmps53 Tryz.results53 (by simp [AObj.isNest]) (by simp [AObj.isNest]) (by first | (simp [look]; done) | (simp [asN]; done) | (intro l hl; simp only [asN]; repeat (rw [if_neg (fun e => by subst e; simp [look] at hl)]))) (by first | (simp [look]; done) | (simp [asN]; done) | (intro l hl; simp only [asN]; repeat (rw [if_neg (fun e => by subst e; simp [look] at hl)]))) (by kernel_rfl) ?_; intro X hX hP hC hXn hXm vals hA; refine ⟨_, by simp, hA, ?_⟩; have hmix : X.P.follows .mixedOrders = true := (by rw [hP]; exact T.mixed); clear hXn hXm)
  repeat' (first | fail | ((first | ((with_reducible (first | apply oA | apply oB)); exact rfl; intro K hK) | (refine hK _ ?_; clear hK K) | ((with_reducible (first | apply oG | apply oH)); iterate 3 exact rfl) | ((with_reducible apply oI); (iterate 2 exact rfl); intro K hK) | (with_reducible (first | apply wI | apply wJ | apply wK))); try simp only [go_sem, simprocAttr, hR, hb1, frD]) | fail | (with_reducible (first | apply oC | apply oJ | exact oK | apply wA | apply wB | apply wC hX hC | apply wD hX hC | apply wE hX hC hmix | apply wF hX hC hmix | apply wG | apply wH | apply And.intro)) | ((with_reducible refine oD ?_ ?_); first | fail | kernel_rfl) | ((with_reducible (first | apply oE | apply oF)); (iterate 3 exact rfl); all_goals (intro h; first | (exact absurd h (by decide)) | ((try simp only [go_sem, simprocAttr, hR, hb1, frD] at h); (try with_reducible intro K hK); simp only [go_sem, simprocAttr, hR, hb1, frD]))) | ((first | ((with_reducible apply wL); exact rfl) | ((with_reducible apply wM); exact rfl)); all_goals (try ((with_reducible intro h); first | (exact absurd h (by decide)) | (try simp only [go_sem, simprocAttr, hR, hb1, frD] at h)))) | omega | ((first | first | (refine acall_lend hX hC hP (ready_spec g hm f x hr1 hp1) rfl rfl rfl ?_ ?_ ?_ ?_; iterate 3 (focus (simp only [go_sem, simprocAttr, hR, hb1, frD]; done))) | (refine acall_gen hX hC hP [(10000, 16)] (values_spec outs) rfl rfl rfl ?_ ?_ ?_ ?_ ?_ ?_ ?_ ?_ ?_ ?_ ?_ ?_ ?_ ?_; (focus (simp only [go_sem, simprocAttr, hR, hb1, frD]; done)); (iterate 12 (focus (simp [go_sem, simprocAttr, hR, hb1, frD]; done))); simp only [go_sem, simprocAttr, hR, hb1, frD, List.map_cons, List.map_nil]) | (refine acall_rob hX hC hP [(10000, 16)] (sortedB_spec outs ho) rfl rfl rfl ?_ ?_ ?_ ?_ ?_ ?_ rfl rfl ?_ ?_; (focus (simp only [go_sem, simprocAttr, hR, hb1, frD]; done)); (iterate 6 (focus (simp [go_sem, simprocAttr, hR, hb1, frD]; done))); simp only [go_sem, simprocAttr, hR, hb1, frD, List.map_cons, List.map_nil]) | refine acall_simple hX hC hP (outs_spec g hm x) rfl rfl rfl (by simp only [go_sem, simprocAttr, hR, hb1, frD]) rfl ?_ | refine acall_simple hX hC hP (equalI_spec (srt outs) (thereG (·.1) g x) hs) rfl rfl rfl (by simp only [go_sem, simprocAttr, hR, hb1, frD]) rfl ?_ | (refine acall_lend hX hC hP (span_spec [vw g, sI f.pl] f.row x hr1) rfl rfl rfl ?_ ?_ ?_ ?_; iterate 3 (focus (simp only [go_sem, simprocAttr, hR, hb1, frD]; done)))); try simp only [go_sem, simprocAttr, hR, hb1, frD]) | (intro h))
 rw [Decidable.not_not] at hE
 have hb1 : decide (srt outs = thereG (·.1) g x) = true := decide_eq_true hE
 have hP : placeF g f x outs = (((f.row.take (spanF f.row x).2.1.toNat).drop (max (spanF f.row x).1 0).toNat, 0), ⟨f.row.take (max (spanF f.row x).1 0).toNat ++ aboveF g x outs ++ f.row.drop (spanF f.row x).2.1.toNat, f.pl ++ [x]⟩) := by
  unfold placeF; rw [if_neg hR', if_neg (by rw [hE]; simp)]
 rw [hP]
 obtain ⟨a, b, ha, hb, hab, hbl⟩ := spanF_nat f.row x
 rw [ha, hb]
 simp only [Int.toNat_natCast]
 have hol : outs.length ≤ 128 := by
  have h1 := congrArg List.length hE
  rw [srt_length] at h1
  have h2 := thereG_len (f := (·.1)) (g := g) (x := x)
  omega
 have hom : ∀ i ∈ outs, 0 ≤ i ∧ i < g.es.length := fun i hi => (thereG_mem (f := (·.1)) (g := g) (x := x) (by rw [← hE]; exact srt_memX.2 hi)).1
 obtain ⟨h0, h1⟩ := aboveF_len (g := g) (x := x) (outs := outs)
 have hal : (aboveF g x outs).length ≤ 100000 := by omega
 have hr2 : f.row.length ≤ 400000 := by omega
 have hol2 : outs.length ≤ 1000000 := by omega
 unfold frO frN
 (refine Spec.introR (C := T.cfg [] []) (rs := [.t 6, .t 7]) [(10002, 42)] (T.cfg_ok _ _) Tryz.func53 rfl rfl Tryz.ntmps53 Tryz.results53 (by simp [AObj.isNest]) (by simp [AObj.isNest]) (by first | (simp [look]; done) | (simp [asN]; done) | (intro l hl; simp only [asN]; repeat (rw [if_neg (fun e => by subst e; simp [look] at hl)]))) (by first | (simp [look]; done) | (simp [asN]; done) | (intro l hl; simp only [asN]; repeat (rw [if_neg (fun e => by subst e; simp [look] at hl)]))) (by kernel_rfl) ?_; intro X hX hP hC hXn hXm vals hA; refine ⟨_, by simp, hA, ?_⟩; have hmix : X.P.follows .mixedOrders = true := (by rw [hP]; exact T.mixed); clear hXn hXm)
 repeat' (first | fail | ((first | ((with_reducible (first | apply oA | apply oB)); exact rfl; intro K hK) | (refine hK _ ?_; clear hK K) | ((with_reducible (first | apply oG | apply oH)); iterate 3 exact rfl) | ((with_reducible apply oI); (iterate 2 exact rfl); intro K hK) | (with_reducible (first | apply wI | apply wJ | apply wK))); try simp only [go_sem, simprocAttr, hR, hb1, ha, hb, frD, List.length_map, List.map_append, List.map_cons, List.map_nil, rI, frO, List.cons_append, List.nil_append, List.map_take, List.map_drop]) | fail | (with_reducible (first | apply oC | apply oJ | exact oK | apply wA | apply wB | apply wC hX hC | apply wD hX hC | apply wE hX hC hmix | apply wF hX hC hmix | apply wG | apply wH | apply And.intro)) | ((with_reducible refine oD ?_ ?_); first | fail | kernel_rfl) | ((with_reducible (first | apply oE | apply oF)); (iterate 3 exact rfl); all_goals (intro h; first | (exact absurd h (by decide)) | ((try simp only [go_sem, simprocAttr, hR, hb1, ha, hb, frD, List.length_map, List.map_append, List.map_cons, List.map_nil, rI, frO, List.cons_append, List.nil_append, List.map_take, List.map_drop] at h); (try with_reducible intro K hK); simp only [go_sem, simprocAttr, hR, hb1, ha, hb, frD, List.length_map, List.map_append, List.map_cons, List.map_nil, rI, frO, List.cons_append, List.nil_append, List.map_take, List.map_drop]))) | ((first | ((with_reducible apply wL); exact rfl) | ((with_reducible apply wM); exact rfl)); all_goals (try ((with_reducible intro h); first | (exact absurd h (by decide)) | (try simp only [go_sem, simprocAttr, hR, hb1, ha, hb, frD, List.length_map, List.map_append, List.map_cons, List.map_nil, rI, frO, List.cons_append, List.nil_append, List.map_take, List.map_drop] at h)))) | omega | ((first | first | (refine acall_lend hX hC hP (ready_spec g hm f x hr1 hp1) rfl rfl rfl ?_ ?_ ?_ ?_; iterate 3 (focus (simp only [go_sem, simprocAttr, hR, hb1, ha, hb, frD, List.length_map, List.map_append, List.map_cons, List.map_nil, rI, frO, List.cons_append, List.nil_append, List.map_take, List.map_drop]; done))) | (refine acall_gen hX hC hP [(10000, 16)] (values_spec outs) rfl rfl rfl ?_ ?_ ?_ ?_ ?_ ?_ ?_ ?_ ?_ ?_ ?_ ?_ ?_ ?_; (focus (simp only [go_sem, simprocAttr, hR, hb1, ha, hb, frD, List.length_map, List.map_append, List.map_cons, List.map_nil, rI, frO, List.cons_append, List.nil_append, List.map_take, List.map_drop]; done)); (iterate 12 (focus (simp [go_sem, simprocAttr, hR, hb1, ha, hb, frD, List.length_map, List.map_append, List.map_cons, List.map_nil, rI, frO, List.cons_append, List.nil_append, List.map_take, List.map_drop]; done))); simp only [go_sem, simprocAttr, hR, hb1, ha, hb, frD, List.length_map, List.map_append, List.map_cons, List.map_nil, rI, frO, List.cons_append, List.nil_append, List.map_take, List.map_drop, List.map_cons, List.map_nil]) | (refine acall_rob hX hC hP [(10000, 16)] (sortedB_spec outs ho) rfl rfl rfl ?_ ?_ ?_ ?_ ?_ ?_ rfl rfl ?_ ?_; (focus (simp only [go_sem, simprocAttr, hR, hb1, ha, hb, frD, List.length_map, List.map_append, List.map_cons, List.map_nil, rI, frO, List.cons_append, List.nil_append, List.map_take, List.map_drop]; done)); (iterate 6 (focus (simp [go_sem, simprocAttr, hR, hb1, ha, hb, frD, List.length_map, List.map_append, List.map_cons, List.map_nil, rI, frO, List.cons_append, List.nil_append, List.map_take, List.map_drop]; done))); simp only [go_sem, simprocAttr, hR, hb1, ha, hb, frD, List.length_map, List.map_append, List.map_cons, List.map_nil, rI, frO, List.cons_append, List.nil_append, List.map_take, List.map_drop, List.map_cons, List.map_nil]) | refine acall_simple hX hC hP (outs_spec g hm x) rfl rfl rfl (by simp only [go_sem, simprocAttr, hR, hb1, ha, hb, frD, List.length_map, List.map_append, List.map_cons, List.map_nil, rI, frO, List.cons_append, List.nil_append, List.map_take, List.map_drop]) rfl ?_ | refine acall_simple hX hC hP (equalI_spec (srt outs) (thereG (·.1) g x) hs) rfl rfl rfl (by simp only [go_sem, simprocAttr, hR, hb1, ha, hb, frD, List.length_map, List.map_append, List.map_cons, List.map_nil, rI, frO, List.cons_append, List.nil_append, List.map_take, List.map_drop]) rfl ?_ | (refine acall_lend hX hC hP (span_spec [vw g, sI f.pl] f.row x hr1) rfl rfl rfl ?_ ?_ ?_ ?_; iterate 3 (focus (simp only [go_sem, simprocAttr, hR, hb1, ha, hb, frD, List.length_map, List.map_append, List.map_cons, List.map_nil, rI, frO, List.cons_append, List.nil_append, List.map_take, List.map_drop]; done))) | (refine acall_lend1 hX hC hP 54 (above_spec g ⟨f.row, f.pl ++ [x]⟩ x outs hol2 hom) rfl rfl rfl ?_ ?_ (by first | exact ⟨_, _, _, rfl, flatI⟩ | exact ⟨_, _, _, rfl, flatT⟩) rfl (by decide) ?_; (iterate 2 (focus (simp only [go_sem, simprocAttr, hR, hb1, ha, hb, frD, List.length_map, List.map_append, List.map_cons, List.map_nil, rI, frO, List.cons_append, List.nil_append, List.map_take, List.map_drop]; done))); simp only [go_sem, simprocAttr, hR, hb1, ha, hb, frD, List.length_map, List.map_append, List.map_cons, List.map_nil, rI, frO, List.cons_append, List.nil_append, List.map_take, List.map_drop]) | (refine acall_gen hX hC hP [(10001, 42), (10003, 54)] (swap_spec g f.row (aboveF g x outs) (f.pl ++ [x]) a b hab hbl h0 hr2 hal) rfl rfl rfl ?_ ?_ ?_ ?_ ?_ ?_ ?_ ?_ ?_ ?_ ?_ ?_ ?_ ?_; (focus (simp only [go_sem, simprocAttr, hR, hb1, ha, hb, frD, List.length_map, List.map_append, List.map_cons, List.map_nil, rI, frO, List.cons_append, List.nil_append, List.map_take, List.map_drop]; done)); (iterate 12 (focus (simp [go_sem, simprocAttr, hR, hb1, ha, hb, frD, List.length_map, List.map_append, List.map_cons, List.map_nil, rI, frO, List.cons_append, List.nil_append, List.map_take, List.map_drop]; done))); simp only [go_sem, simprocAttr, hR, hb1, ha, hb, frD, List.length_map, List.map_append, List.map_cons, List.map_nil, rI, frO, List.cons_append, List.nil_append, List.map_take, List.map_drop, List.map_cons, List.map_nil])); try simp only [go_sem, simprocAttr, hR, hb1, ha, hb, frD, List.length_map, List.map_append, List.map_cons, List.map_nil, rI, frO, List.cons_append, List.nil_append, List.map_take, List.map_drop]) | (intro h))
end Go.Ab
end
section
namespace Go.Ab
open Go.Proofs
attribute [local congr] ACall.congr
set_option maxRecDepth 10000
set_option maxHeartbeats 4000000
def readyK (g : Gr) (f : Fr) (k : Nat) : List Int := ((List.range k).filter fun x : Nat => readyF g f (x : Int)).map Int.ofNat
def readyL (g : Gr) (f : Fr) : List Int := readyK g f g.n.toNat
theorem readyK_next {g : Gr} {f : Fr} {k : Nat} : readyK g f (k + 1) = readyK g f k ++ if readyF g f (k : Int) = true then [(k : Int)] else [] := by
 simp only [readyK, List.range_succ, List.filter_append, List.map_append, List.filter_cons, List.filter_nil]
 split <;> simp_all
theorem readyK_len {g : Gr} {f : Fr} {k : Nat} : (readyK g f k).length ≤ k := by
 simpa [readyK] using List.length_filter_le (fun x : Nat => readyF g f (x : Int)) (List.range k)
theorem readyL_spec (g : Gr) (hm : mayB g = true) (f : Fr) (hr : f.row.length ≤ 1000000) (hp : f.pl.length ≤ 1000000) : Spec Tryz.prog 58 (Args [.d (frD g f)]) [] (.ref 10000) [(10000, .tip 3 1 ((readyL g f).map rI))] := by
 have hn := mayB_n hm
 unfold frD
 (refine Spec.introR (C := T.cfg [] []) (rs := [.t 2]) [(10000, 21)] (T.cfg_ok _ _) Tryz.func58 rfl rfl Tryz.ntmps58 Tryz.results58 (by simp [AObj.isNest]) (by simp [AObj.isNest]) (by first | (simp [look]; done) | (simp [asN]; done) | (intro l hl; simp only [asN]; repeat (rw [if_neg (fun e => by subst e; simp [look] at hl)]))) (by first | (simp [look]; done) | (simp [asN]; done) | (intro l hl; simp only [asN]; repeat (rw [if_neg (fun e => by subst e; simp [look] at hl)]))) (by kernel_rfl) ?_; intro X hX hP hC hXn hXm vals hA; refine ⟨_, by simp, hA, ?_⟩; have hmix : X.P.follows .mixedOrders = true := (by rw [hP]; exact T.mixed); clear hXn hXm)
 repeat' (first | fail | ((first | ((with_reducible (first | apply oA | apply oB)); exact rfl; intro K hK) | (refine hK _ ?_; clear hK K) | ((with_reducible (first | apply oG | apply oH)); iterate 3 exact rfl) | ((with_reducible apply oI); (iterate 2 exact rfl); intro K hK) | (with_reducible (first | apply wI | apply wJ | apply wK))); try simp only [go_sem, simprocAttr, vw_eq]) | fail | (with_reducible (first | apply oC | apply oJ | exact oK | apply wA | apply wB | apply wC hX hC | apply wD hX hC | apply wE hX hC hmix | apply wF hX hC hmix | apply wG | apply wH | apply And.intro)) | ((with_reducible refine oD ?_ ?_); first | fail | kernel_rfl) | ((with_reducible (first | apply oE | apply oF)); (iterate 3 exact rfl); all_goals (intro h; first | (exact absurd h (by decide)) | ((try simp only [go_sem, simprocAttr, vw_eq] at h); (try with_reducible intro K hK); simp only [go_sem, simprocAttr, vw_eq]))) | ((first | ((with_reducible apply wL); exact rfl) | ((with_reducible apply wM); exact rfl)); all_goals (try ((with_reducible intro h); first | (exact absurd h (by decide)) | (try simp only [go_sem, simprocAttr, vw_eq] at h)))) | omega | ((first | first | refine acall_simple hX hC hP (ready_spec g hm f (k : Int) hr hp) rfl rfl rfl (by simp only [go_sem, simprocAttr, vw_eq]) rfl ?_); try simp only [go_sem, simprocAttr, vw_eq]) | (intro h))
 (refine awp_new hX 2 21 (.tip 3 1 []) (by simp only [go_sem, simprocAttr, vw_eq]) (by simp only [go_sem, simprocAttr, vw_eq]) (by decide) ⟨3, 1, by decide, .inr rfl⟩ ?_; simp only [go_sem, simprocAttr, vw_eq])
 refine awp_loopP (fun k : Nat => k ≤ g.n.toNat) (fun k => ⟨[(0, .d (frD g f)), (11, eN g.n), (12, eN k), (2, .ref 21)], [(21, .tip 3 1 ((readyK g f k).map rI))]⟩) (fun k => g.n.toNat - k) 0 (by omega) ?_ ?_
 ·refine Le.of ?_ ?_ <;> simp [go_sem, simprocAttr, vw_eq, frD, readyK]
 rintro k hk
 rcases Nat.lt_or_ge k g.n.toNat with hlt | hge
 ·have hb : decide ((k : Int) < g.n) = true := decide_eq_true (by omega)
  have hnx := readyK_next (g := g) (f := f) (k := k)
  have hlk := readyK_len (g := g) (f := f) (k := k)
  repeat' (first | fail | ((first | ((with_reducible (first | apply oA | apply oB)); exact rfl; intro K hK) | (refine hK _ ?_; clear hK K) | ((with_reducible (first | apply oG | apply oH)); iterate 3 exact rfl) | ((with_reducible apply oI); (iterate 2 exact rfl); intro K hK) | (with_reducible (first | apply wI | apply wJ | apply wK))); try simp only [go_sem, simprocAttr, hb]) | fail | (with_reducible (first | apply oC | apply oJ | exact oK | apply wA | apply wB | apply wC hX hC | apply wD hX hC | apply wE hX hC hmix | apply wF hX hC hmix | apply wG | apply wH | apply And.intro)) | ((with_reducible refine oD ?_ ?_); first | fail | kernel_rfl) | ((with_reducible (first | apply oE | apply oF)); (iterate 3 exact rfl); all_goals (intro h; first | (exact absurd h (by decide)) | ((try simp only [go_sem, simprocAttr, hb] at h); (try with_reducible intro K hK); simp only [go_sem, simprocAttr, hb]))) | ((first | ((with_reducible apply wL); exact rfl) | ((with_reducible apply wM); exact rfl)); all_goals (try ((with_reducible intro h); first | (exact absurd h (by decide)) | (try simp only [go_sem, simprocAttr, hb] at h)))) | omega | ((first | first | refine acall_simple hX hC hP (ready_spec g hm f (k : Int) hr hp) rfl rfl rfl (by simp only [go_sem, simprocAttr, hb]) rfl ?_); try simp only [go_sem, simprocAttr, hb]) | (intro h))
  ·rw [if_pos (by assumption)] at hnx
   refine ⟨k + 1, by omega, ?_, by omega⟩
   refine Le.of ?_ ?_ <;> simp [go_sem, simprocAttr, hb, hnx, rI]
  ·rw [if_neg (by simp [*]), List.append_nil] at hnx
   refine ⟨k + 1, by omega, ?_, by omega⟩
   refine Le.of ?_ ?_ <;> simp [go_sem, simprocAttr, hb, hnx, rI]
 ·have hb : decide ((k : Int) < g.n) = false := decide_eq_false (by omega)
  obtain rfl : k = g.n.toNat := by omega
  repeat' (first | fail | ((first | ((with_reducible (first | apply oA | apply oB)); exact rfl; intro K hK) | (refine hK _ ?_; clear hK K) | ((with_reducible (first | apply oG | apply oH)); iterate 3 exact rfl) | ((with_reducible apply oI); (iterate 2 exact rfl); intro K hK) | (with_reducible (first | apply wI | apply wJ | apply wK))); try simp only [go_sem, simprocAttr, hb, readyL]) | fail | (with_reducible (first | apply oC | apply oJ | exact oK | apply wA | apply wB | apply wC hX hC | apply wD hX hC | apply wE hX hC hmix | apply wF hX hC hmix | apply wG | apply wH | apply And.intro)) | ((with_reducible refine oD ?_ ?_); first | fail | kernel_rfl) | ((with_reducible (first | apply oE | apply oF)); (iterate 3 exact rfl); all_goals (intro h; first | (exact absurd h (by decide)) | ((try simp only [go_sem, simprocAttr, hb, readyL] at h); (try with_reducible intro K hK); simp only [go_sem, simprocAttr, hb, readyL]))) | ((first | ((with_reducible apply wL); exact rfl) | ((with_reducible apply wM); exact rfl)); all_goals (try ((with_reducible intro h); first | (exact absurd h (by decide)) | (try simp only [go_sem, simprocAttr, hb, readyL] at h)))) | omega | ((first | first | refine acall_simple hX hC hP (ready_spec g hm f (k : Int) hr hp) rfl rfl rfl (by simp only [go_sem, simprocAttr, hb, readyL]) rfl ?_); try simp only [go_sem, simprocAttr, hb, readyL]) | (intro h))
theorem newF_spec (g : Gr) (hl : g.es.length ≤ 1000) (h0 : (chkG g).1 = 0) (hm : mayB g = true) : Spec Tryz.prog 51 (Args [eG g]) [] (.tup [.ptr 10000 0, eN 0]) [(10000, .box [.nil 62, .d (vw g), .nil 3])] := by
 (refine Spec.introR (C := T.cfg [] []) (rs := [.t 2, .t 3]) [(10000, 11)] (T.cfg_ok _ _) Tryz.func51 rfl rfl Tryz.ntmps51 Tryz.results51 (by simp [AObj.isNest]) (by simp [AObj.isNest]) (by first | (simp [look]; done) | (simp [asN]; done) | (intro l hl; simp only [asN]; repeat (rw [if_neg (fun e => by subst e; simp [look] at hl)]))) (by first | (simp [look]; done) | (simp [asN]; done) | (intro l hl; simp only [asN]; repeat (rw [if_neg (fun e => by subst e; simp [look] at hl)]))) (by kernel_rfl) ?_; intro X hX hP hC hXn hXm vals hA; refine ⟨_, by simp, hA, ?_⟩; have hmix : X.P.follows .mixedOrders = true := (by rw [hP]; exact T.mixed); clear hXn hXm)
 repeat' (first | fail | ((first | ((with_reducible (first | apply oA | apply oB)); exact rfl; intro K hK) | (refine hK _ ?_; clear hK K) | ((with_reducible (first | apply oG | apply oH)); iterate 3 exact rfl) | ((with_reducible apply oI); (iterate 2 exact rfl); intro K hK) | (with_reducible (first | apply wI | apply wJ | apply wK))); try simp only [go_sem, simprocAttr, h0]) | fail | (with_reducible (first | apply oC | apply oJ | exact oK | apply wA | apply wB | apply wC hX hC | apply wD hX hC | apply wE hX hC hmix | apply wF hX hC hmix | apply wG | apply wH | apply And.intro)) | ((with_reducible refine oD ?_ ?_); first | fail | kernel_rfl) | ((with_reducible (first | apply oE | apply oF)); (iterate 3 exact rfl); all_goals (intro h; first | (exact absurd h (by decide)) | ((try simp only [go_sem, simprocAttr, h0] at h); (try with_reducible intro K hK); simp only [go_sem, simprocAttr, h0]))) | ((first | ((with_reducible apply wL); exact rfl) | ((with_reducible apply wM); exact rfl)); all_goals (try ((with_reducible intro h); first | (exact absurd h (by decide)) | (try simp only [go_sem, simprocAttr, h0] at h)))) | omega | ((first | first | refine acall_simple hX hC hP (check_spec g hl) rfl rfl rfl (by simp only [go_sem, simprocAttr, h0]) rfl ?_ | refine acall_simple hX hC hP (of_spec g hm) rfl rfl rfl (by simp only [go_sem, simprocAttr, h0]) rfl ?_); try simp only [go_sem, simprocAttr, h0]) | (intro h))
theorem newN_spec (g : Gr) (hl : g.es.length ≤ 1000) (h0 : (chkG g).1 ≠ 0) : Spec Tryz.prog 51 (Args [eG g]) [] (.tup [.d (.sc (.pointer none)), eN 1]) [] := by
 have hb : decide ((chkG g).1 = 0) = false := decide_eq_false h0
 (refine Spec.intro (C := T.cfg [] []) (rs := [.t 2, .t 3]) (T.cfg_ok _ _) Tryz.func51 rfl rfl Tryz.ntmps51 Tryz.results51 (by simp [AObj.isNest]) (by simp [AObj.isNest]) (by kernel_rfl) ?_; intro X hX hP hC hXn hXm vals hA; refine ⟨_, by simp, hA, ?_⟩; have hmix : X.P.follows .mixedOrders = true := (by rw [hP]; exact T.mixed); clear hXn hXm)
 repeat' (first | fail | ((first | ((with_reducible (first | apply oA | apply oB)); exact rfl; intro K hK) | (refine hK _ ?_; clear hK K) | ((with_reducible (first | apply oG | apply oH)); iterate 3 exact rfl) | ((with_reducible apply oI); (iterate 2 exact rfl); intro K hK) | (with_reducible (first | apply wI | apply wJ | apply wK))); try simp only [go_sem, simprocAttr, hb]) | fail | (with_reducible (first | apply oC | apply oJ | exact oK | apply wA | apply wB | apply wC hX hC | apply wD hX hC | apply wE hX hC hmix | apply wF hX hC hmix | apply wG | apply wH | apply And.intro)) | ((with_reducible refine oD ?_ ?_); first | fail | kernel_rfl) | ((with_reducible (first | apply oE | apply oF)); (iterate 3 exact rfl); all_goals (intro h; first | (exact absurd h (by decide)) | ((try simp only [go_sem, simprocAttr, hb] at h); (try with_reducible intro K hK); simp only [go_sem, simprocAttr, hb]))) | ((first | ((with_reducible apply wL); exact rfl) | ((with_reducible apply wM); exact rfl)); all_goals (try ((with_reducible intro h); first | (exact absurd h (by decide)) | (try simp only [go_sem, simprocAttr, hb] at h)))) | omega | ((first | first | refine acall_simple hX hC hP (check_spec g hl) rfl rfl rfl (by simp only [go_sem, simprocAttr, hb]) rfl ?_); try simp only [go_sem, simprocAttr, hb]) | (intro h))
end Go.Ab
end
