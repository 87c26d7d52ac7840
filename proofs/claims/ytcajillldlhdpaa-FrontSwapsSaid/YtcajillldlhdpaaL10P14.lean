/- A part of the proof. -/
import Derived.Test.YtcajillldlhdpaaL10P13
set_option linter.unusedSimpArgs false
set_option linter.unusedVariables false
section
namespace Go.Ab
open Go.Proofs
attribute [local congr] ACall.congr
set_option maxRecDepth 10000
set_option maxHeartbeats 4000000

theorem srt_id {l : List Int} (h : l.Pairwise (· ≤ ·)) : srt l = l := by
  unfold srt
  exact List.mergeSort_of_pairwise (by simpa using h)
def g9 : Gr := ⟨3, [(0, 1), (0, 2), (1, 2)]⟩
def fr0 : Fr := ⟨[], []⟩
def fr1 : Fr := ⟨[(0, 0, 1), (1, 0, 2)], [0]⟩
def fr2 : Fr := ⟨[(2, 1, 2), (1, 0, 2)], [0, 1]⟩
def fr3 : Fr := ⟨[(-1, 2, -1)], [0, 1, 2]⟩
theorem pl1 : placeF g9 fr0 0 [0, 1] = (([], 0), fr1) := by
  unfold placeF
  rw [if_neg (by decide), srt_id (by decide), if_neg (by decide)]
  rfl
theorem pl2 : placeF g9 fr1 1 [2] = (([(0, 0, 1)], 0), fr2) := by
  unfold placeF
  rw [if_neg (by decide), srt_id (by decide), if_neg (by decide)]
  rfl
theorem pl3 : placeF g9 fr2 2 [] = (([(2, 1, 2), (1, 0, 2)], 0), fr3) := by
  unfold placeF
  rw [if_neg (by decide), srt_id (by decide), if_neg (by decide)]
  rfl
theorem chk9 : (chkG g9).1 = 0 := by decide
theorem may9 : mayB g9 = true := by decide
theorem speaks9_spec : Spec Try.prog 34 (Args []) [] (eB true) [] := by
  have h1 := pl1
  have h2 := pl2
  have h3 := pl3
  have hg : g9.es.map rE = [[.sc (.int .i64 0), .sc (.int .i64 1)], [.sc (.int .i64 0), .sc (.int .i64 2)], [.sc (.int .i64 1), .sc (.int .i64 2)]] := rfl
  have hn : g9.n = 3 := rfl
  simp only [fr0, fr1, fr2, fr3] at h1 h2 h3
  (refine Spec.intro (C := T.cfg [] []) (rs := [.t 0]) (T.cfg_ok _ _) Try.func34 rfl rfl Try.ntmps34 Try.results34 (by simp [AObj.isNest]) (by simp [AObj.isNest]) (by kernel_rfl) ?_; intro X hX hP hC hXn hXm vals hA; refine ⟨_, by simp, hA, ?_⟩; have hmix : X.P.follows .mixedOrders = true := (by rw [hP]; exact T.mixed); clear hXn hXm)
  repeat' (first | fail | ((first | ((with_reducible (first | apply oA | apply oB)); exact rfl; intro K hK) | (refine hK _ ?_; clear hK K) | ((with_reducible (first | apply oG | apply oH)); iterate 3 exact rfl) | ((with_reducible apply oI); (iterate 2 exact rfl); intro K hK) | (with_reducible (first | apply wI | apply wJ | apply wK))); try simp only [go_sem, simprocAttr, hg, hn, h1, h2, h3, frO, frN, frD, fr0, fr1, fr2, fr3, rI]) | (show awp _ (.seq (.region 4 _ _) _) _ _; (refine awp_nilD 15 0 3 rfl rfl rfl ?_; simp only [LA.app, ASt.put, ASt.kill, putM, rml, List.set_cons_zero, List.set_cons_succ, go_sem, simprocAttr, hg, hn, h1, h2, h3, frO, frN, frD, fr0, fr1, fr2, fr3, rI]); (refine awp_newB hX 15 2 100 (.tip 3 1 []) rfl rfl rfl (by simp only [go_sem, simprocAttr, hg, hn, h1, h2, h3, frO, frN, frD, fr0, fr1, fr2, fr3, rI]) (by decide) (by simp [go_sem, simprocAttr, hg, hn, h1, h2, h3, frO, frN, frD, fr0, fr1, fr2, fr3, rI]) ⟨3, 1, by decide, .inr rfl⟩ ?_; simp only [LA.app, ASt.put, ASt.kill, subT, rmk, putM, rml, kl, AV.sub, AV.subs, AObj.sub, List.set_cons_zero, List.set_cons_succ, go_sem, simprocAttr, hg, hn, h1, h2, h3, frO, frN, frD, fr0, fr1, fr2, fr3, rI])) | (with_reducible (first | apply oC | apply oJ | exact oK | apply wA | apply wB | apply wC hX hC | apply wD hX hC | apply wE hX hC hmix | apply wF hX hC hmix | apply wG | apply wH | apply And.intro)) | ((with_reducible refine oD ?_ ?_); first | fail | kernel_rfl) | ((with_reducible (first | apply oE | apply oF)); (iterate 3 exact rfl); all_goals (intro h; first | (exact absurd h (by decide)) | ((try simp only [go_sem, simprocAttr, hg, hn, h1, h2, h3, frO, frN, frD, fr0, fr1, fr2, fr3, rI] at h); (try with_reducible intro K hK); simp only [go_sem, simprocAttr, hg, hn, h1, h2, h3, frO, frN, frD, fr0, fr1, fr2, fr3, rI]))) | ((first | ((with_reducible apply wL); exact rfl) | ((with_reducible apply wM); exact rfl)); all_goals (try ((with_reducible intro h); first | (exact absurd h (by decide)) | (try simp only [go_sem, simprocAttr, hg, hn, h1, h2, h3, frO, frN, frD, fr0, fr1, fr2, fr3, rI] at h)))) | omega | ((first | first | (refine acall_genC hX hC hP [(10000, 15)] (newF_spec g9 (by decide) chk9 may9) rfl rfl rfl ?_ ?_ ?_ ?_ ?_ ?_ ?_ ?_ ?_ ?_ ?_ ?_ ?_ ?_; (focus (simp only [go_sem, simprocAttr, hg, hn, h1, h2, h3, frO, frN, frD, fr0, fr1, fr2, fr3, rI]; done)); (iterate 12 (focus (simp [go_sem, simprocAttr, hg, hn, h1, h2, h3, frO, frN, frD, fr0, fr1, fr2, fr3, rI]; done))); simp only [go_sem, simprocAttr, hg, hn, h1, h2, h3, frO, frN, frD, fr0, fr1, fr2, fr3, rI, List.map_cons, List.map_nil]) | (refine acall_genC hX hC hP [(10000, 15), (10001, 100), (10002, 101)] (place_spec g9 may9 fr0 0 [0, 1] (by decide) (by decide) (by decide)) rfl rfl rfl ?_ ?_ ?_ ?_ ?_ ?_ ?_ ?_ ?_ ?_ ?_ ?_ ?_ ?_; (focus (simp only [go_sem, simprocAttr, hg, hn, h1, h2, h3, frO, frN, frD, fr0, fr1, fr2, fr3, rI]; done)); (iterate 12 (focus (simp [go_sem, simprocAttr, hg, hn, h1, h2, h3, frO, frN, frD, fr0, fr1, fr2, fr3, rI]; done))); simp only [go_sem, simprocAttr, hg, hn, h1, h2, h3, frO, frN, frD, fr0, fr1, fr2, fr3, rI, List.map_cons, List.map_nil]) | (refine acall_genC hX hC hP [(10000, 15), (10001, 101), (10002, 102)] (place_spec g9 may9 fr1 1 [2] (by decide) (by decide) (by decide)) rfl rfl rfl ?_ ?_ ?_ ?_ ?_ ?_ ?_ ?_ ?_ ?_ ?_ ?_ ?_ ?_; (focus (simp only [go_sem, simprocAttr, hg, hn, h1, h2, h3, frO, frN, frD, fr0, fr1, fr2, fr3, rI]; done)); (iterate 12 (focus (simp [go_sem, simprocAttr, hg, hn, h1, h2, h3, frO, frN, frD, fr0, fr1, fr2, fr3, rI]; done))); simp only [go_sem, simprocAttr, hg, hn, h1, h2, h3, frO, frN, frD, fr0, fr1, fr2, fr3, rI, List.map_cons, List.map_nil]) | (refine acall_genC hX hC hP [(10000, 15), (10001, 102), (10002, 103)] (place_spec g9 may9 fr2 2 [] (by decide) (by decide) (by decide)) rfl rfl rfl ?_ ?_ ?_ ?_ ?_ ?_ ?_ ?_ ?_ ?_ ?_ ?_ ?_ ?_; (focus (simp only [go_sem, simprocAttr, hg, hn, h1, h2, h3, frO, frN, frD, fr0, fr1, fr2, fr3, rI]; done)); (iterate 12 (focus (simp [go_sem, simprocAttr, hg, hn, h1, h2, h3, frO, frN, frD, fr0, fr1, fr2, fr3, rI]; done))); simp only [go_sem, simprocAttr, hg, hn, h1, h2, h3, frO, frN, frD, fr0, fr1, fr2, fr3, rI, List.map_cons, List.map_nil]) | (refine acall_lend hX hC hP (done_spec g9 fr3) rfl rfl rfl ?_ ?_ ?_ ?_; iterate 3 (focus (simp only [go_sem, simprocAttr, hg, hn, h1, h2, h3, frO, frN, frD, fr0, fr1, fr2, fr3, rI]; done)))); try simp only [go_sem, simprocAttr, hg, hn, h1, h2, h3, frO, frN, frD, fr0, fr1, fr2, fr3, rI]) | (intro h))
end Go.Ab
end
section
namespace Go.Ab
open Go.Proofs
set_option maxRecDepth 10000

/-- What stands in a row: edges of the graph, and loose ends. -/
def ItOk (g : Gr) (t : It) : Prop := (t.1 = -1 ∧ t.2.2 = -1) ∨ (0 ≤ t.1 ∧ t.1 < g.es.length ∧ t.2.1 = (g.es.getD t.1.toNat (0, 0)).1 ∧ t.2.2 = (g.es.getD t.1.toNat (0, 0)).2)
structure FrInv (g : Gr) (f : Fr) : Prop where
  it : ∀ t ∈ f.row, ItOk g t
  pl : f.pl.Nodup
  rng : ∀ x ∈ f.pl, 0 ≤ x ∧ x < g.n
theorem span_met {row : List It} {x : Int} : ∀ k : Nat, (spanK row x k).2.2 = metK row x k
  | 0 => rfl
  | k + 1 => by
    rw [spanK_next, metK_next]
    split
    · show (spanK row x k).2.2 + 1 = _
      rw [span_met k]
    · exact span_met k
theorem metK_mono {row : List It} {x : Int} {j : Nat} : ∀ d : Nat, metK row x j ≤ metK row x (j + d)
  | 0 => Int.le_refl _
  | d + 1 => by
    have := metK_mono (row := row) (x := x) (j := j) d
    rw [← Nat.add_assoc, metK_next]
    split <;> omega
theorem metK_zero {row : List It} {x : Int} : ∀ {k : Nat}, (∀ j, j < k → (row.getD j (0, 0, 0)).2.2 ≠ x) → metK row x k = 0
  | 0, _ => rfl
  | k + 1, h => by
    rw [metK_next, if_neg (h k (by omega))]
    exact metK_zero fun j hj => h j (by omega)
theorem metK_same {row : List It} {x : Int} {b : Nat} : ∀ {d : Nat}, (∀ j, b ≤ j → j < b + d → (row.getD j (0, 0, 0)).2.2 ≠ x) → metK row x (b + d) = metK row x b
  | 0, _ => rfl
  | d + 1, h => by
    rw [← Nat.add_assoc, metK_next, if_neg (h (b + d) (by omega) (by omega))]
    exact metK_same fun j h1 h2 => h j h1 (by omega)
theorem thereG_in {f : Edge → Int} {g : Gr} {x : Int} (h0 : 0 ≤ x) (h1 : x < g.n) : thereG f g x = endsZ f g.es g.es.length x := if_pos ⟨h0, h1⟩
theorem needN_pos {g : Gr} {e : Int} (h0 : 0 ≤ e) (h1 : e < g.es.length) : 0 < needN g (g.es.getD e.toNat (0, 0)).2 := by
  refine List.length_pos_iff.2 fun h => ?_
  have hm : e ∈ endsZ (·.2) g.es g.es.length (g.es.getD e.toNat (0, 0)).2 := by
    simp only [endsZ, List.mem_map, List.mem_filter, List.mem_range, decide_eq_true_eq]
    exact ⟨e.toNat, ⟨by omega, rfl⟩, by simp; omega⟩
  rw [h] at hm; cases hm
theorem any_slice {row : List It} {p : It → Bool} {a b : Nat} (hb : b ≤ row.length) : ((row.take b).drop a).any p = true ↔ ∃ j, a ≤ j ∧ j < b ∧ p (row.getD j (0, 0, 0)) = true := by
  rw [List.any_eq_true]
  constructor
  · rintro ⟨t, ht, hp⟩
    obtain ⟨k, hk, rfl⟩ := List.mem_iff_getElem.1 ht
    simp only [List.length_drop, List.length_take] at hk
    refine ⟨a + k, by omega, by omega, ?_⟩
    rw [List.getD_eq_getElem?_getD, List.getElem?_eq_getElem (show a + k < row.length by omega)]
    simpa using hp
  · rintro ⟨j, h1, h2, hp⟩
    rw [List.getD_eq_getElem?_getD, List.getElem?_eq_getElem (show j < row.length by omega)] at hp
    refine ⟨row[j], ?_, hp⟩
    refine List.mem_iff_getElem.2 ⟨j - a, by simp; omega, ?_⟩
    simp only [List.getElem_drop, List.getElem_take]
    congr 1; omega
theorem ItOk.head {g : Gr} (hm : mayB g = true) {t : It} (h : ItOk g t) : (0 ≤ t.1 ↔ t.2.2 ≠ -1) ∧ -1 ≤ t.2.2 := by
  rcases h with ⟨h1, h2⟩ | ⟨h1, h2, _, h4⟩
  · omega
  · obtain ⟨_, h5, _⟩ := mayB_e hm (k := t.1.toNat) (by omega)
    omega
theorem ready_eq {g : Gr} (hm : mayB g = true) {f : Fr} (hi : FrInv g f) (x : Int) : readyF g f x = rReadyF g f x := by
  by_cases hx : x < 0 ∨ g.n ≤ x ∨ x ∈ f.pl
  · rw [readyF, rReadyF, if_pos hx, if_pos hx]
  rw [readyF, rReadyF, if_neg hx, if_neg hx]
  have hx0 : 0 ≤ x ∧ x < g.n := by
    constructor
    · exact Int.not_lt.1 fun h => hx (.inl h)
    · exact Int.not_le.1 fun h => hx (.inr (.inl h))
  have hmem : ∀ j, j < f.row.length → ItOk g (f.row.getD j (0, 0, 0)) := fun j hj => hi.it _ (getD_memX hj)
  rw [thereG_in hx0.1 hx0.2]
  have hN : (endsZ (fun e => e.2) g.es g.es.length x).length = needN g x := rfl
  rw [hN]
  have hmet : (spanF f.row x).2.2 = metK f.row x f.row.length := span_met _
  by_cases h0 : needN g x = 0
  · rw [if_pos h0, h0, decide_eq_true rfl, Bool.true_or, Bool.and_true, decide_eq_true_eq, hmet, metK_zero]
    · rfl
    · intro j hj he
      rcases hmem j hj with ⟨_, h2⟩ | ⟨h1, h2, _, h4⟩
      · omega
      · have := needN_pos h1 h2
        rw [← h4, he] at this
        omega
  · rw [if_neg h0, decide_eq_false h0, Bool.false_or, hmet]
    generalize needN g x = need at h0
    rcases spanK_ok (row := f.row) (x := x) f.row.length with ⟨hs, hno⟩ | ⟨a, b, c, hs, hab, hbl, hc0, hcl, ha, hb, hlo, hhi⟩
    · rw [metK_zero hno]
      have e1 : decide ((0 : Int) = (need : Int)) = false := decide_eq_false (by omega)
      rw [e1, Bool.false_and, Bool.and_false]
    · have hs' : spanF f.row x = ((a : Int), (b : Int), (c : Int)) := hs
      have hmc : metK f.row x f.row.length = c := by rw [← hmet, hs']
      rw [hs', hmc]
      simp only [Int.toNat_natCast]
      rw [Bool.and_comm]
      by_cases hcn : ¬ (c : Int) = need
      · rw [decide_eq_false hcn, Bool.and_false, Bool.and_false]
      rw [Decidable.not_not] at hcn
      rw [decide_eq_true hcn, Bool.and_true, Bool.and_true, bareF]
      congr 1
      rw [Bool.eq_iff_iff, any_slice hbl, List.any_eq_true]
      have ma : metK f.row x a = 0 := metK_zero hlo
      have ma1 : metK f.row x (a + 1) = 1 := by rw [metK_next, if_pos ha, ma]; rfl
      have mb : metK f.row x b = need := by
        have h := metK_same (row := f.row) (x := x) (b := b) (d := f.row.length - b) fun j h1 h2 => hhi j h1 (by omega)
        rw [show b + (f.row.length - b) = f.row.length by omega, hmc] at h
        omega
      have mb1 : metK f.row x (b - 1) + 1 = need := by
        have h := metK_next (row := f.row) (x := x) (k := b - 1)
        rw [if_pos hb, show b - 1 + 1 = b by omega, mb] at h
        omega
      constructor
      · rintro ⟨j, h1, h2, hp⟩
        simp only [otherI, Bool.and_eq_true, decide_eq_true_eq] at hp
        have hja : j ≠ a := fun e => hp.1 (by rw [e]; exact ha)
        have hjb : j ≠ b - 1 := fun e => hp.1 (by rw [e]; exact hb)
        have g1 := metK_mono (row := f.row) (x := x) (j := a + 1) (j - (a + 1))
        rw [show a + 1 + (j - (a + 1)) = j by omega] at g1
        have g2 := metK_mono (row := f.row) (x := x) (j := j) (b - 1 - j)
        rw [show j + (b - 1 - j) = b - 1 by omega] at g2
        exact ⟨j, List.mem_range.2 (by omega), lateJ_iff.2 ⟨⟨hp.1, ((hmem j (by omega)).head hm).1.2 hp.2⟩, by omega, by omega⟩⟩
      · rintro ⟨j, hj, hl⟩
        have hj := List.mem_range.1 hj
        obtain ⟨⟨h1, h2⟩, h3, h4⟩ := lateJ_iff.1 hl
        refine ⟨j, ?_, ?_, ?_⟩
        · refine Nat.not_lt.1 fun h => ?_
          have := metK_zero (row := f.row) (x := x) (k := j) fun i hi => hlo i (by omega)
          omega
        · refine Nat.not_le.1 fun h => ?_
          have := metK_same (row := f.row) (x := x) (b := b) (d := j - b) fun i h1 h2 => hhi i h1 (by omega)
          rw [show b + (j - b) = j by omega] at this
          omega
        · simp only [otherI, Bool.and_eq_true, decide_eq_true_eq]
          exact ⟨h1, ((hmem j hj).head hm).1.1 h2⟩
theorem pigeonP : ∀ {ms os : List Int}, ms.Nodup → (∀ i ∈ ms, i ∈ os) → os.length = ms.length → os.Perm ms
  | [], os, _, _, hl => by
    have h : os = [] := List.eq_nil_of_length_eq_zero (by simpa using hl)
    rw [h]
  | m :: ms, os, hn, hs, hl => by
    rw [List.nodup_cons] at hn
    have hm := hs m (List.mem_cons_self ..)
    refine (List.perm_cons_erase hm).trans (List.Perm.cons m (pigeonP hn.2 (fun j hj => ?_) ?_))
    · have : j ≠ m := fun e => hn.1 (e ▸ hj)
      exact (List.mem_erase_of_ne this).2 (hs j (List.mem_cons_of_mem _ hj))
    · rw [List.length_erase_of_mem hm, hl]; simp
theorem outZ_sorted {g : Gr} {x : Int} : (outZ g x).Pairwise (· ≤ ·) := by
  unfold outZ endsZ
  refine List.Pairwise.map _ (fun a b (h : a < b) => ?_) (List.Pairwise.filter _ List.pairwise_lt_range)
  show (a : Int) ≤ b
  omega
theorem srt_perm {l m : List Int} (h : l.Perm m) (hm : m.Pairwise (· ≤ ·)) : srt l = m := by
  have h1 : (srt l).Pairwise (· ≤ ·) := by
    have := List.pairwise_mergeSort (le := fun a b : Int => decide (a ≤ b)) (by simp; omega) (by simp; omega) l
    simpa [srt] using this
  have h2 : (srt l).Perm m := (by unfold srt; exact (List.mergeSort_perm l _).trans h)
  exact h2.eq_of_pairwise (fun a b _ _ h1 h2 => Int.le_antisymm h1 h2) h1 hm
theorem ready_rng {g : Gr} {f : Fr} {x : Int} (h : rReadyF g f x = true) : 0 ≤ x ∧ x < g.n ∧ x ∉ f.pl := by
  unfold rReadyF at h
  by_cases hx : x < 0 ∨ g.n ≤ x ∨ x ∈ f.pl
  · rw [if_pos hx] at h; cases h
  · exact ⟨Int.not_lt.1 fun h => hx (.inl h), Int.not_le.1 fun h => hx (.inr (.inl h)), fun h => hx (.inr (.inr h))⟩
theorem place_eq {g : Gr} (hm : mayB g = true) {f : Fr} (hi : FrInv g f) (x : Int) (outs : List Int) : placeF g f x outs = rPlaceF g f x outs := by
  rw [placeF, rPlaceF, ready_eq hm hi]
  cases hR : rReadyF g f x with
  | false => rw [if_pos rfl, if_pos rfl]
  | true =>
    obtain ⟨h0, h1, h2⟩ := ready_rng hR
    have ht : ¬ (true = false) := by simp
    rw [if_neg ht, if_neg ht, thereG_in h0 h1]
    show (if srt outs ≠ outZ g x then _ else succF g f x outs) = _
    by_cases hs : srt outs = outZ g x
    · rw [if_neg (fun h => h hs), if_neg]
      rintro (h | ⟨i, h3, h4⟩)
      · exact h (by rw [← hs, srt_length])
      · exact h4 (srt_memX.1 (hs ▸ h3))
    · rw [if_pos hs, if_pos]
      refine Decidable.byContradiction fun h => hs ?_
      have hl : outs.length = (outZ g x).length := Decidable.byContradiction fun e => h (.inl e)
      exact srt_perm (pigeonP endsZ_nodup (fun i hi => Decidable.byContradiction fun e => h (.inr ⟨i, hi, e⟩)) hl) outZ_sorted
theorem above_ok {g : Gr} {x : Int} {outs : List Int} (ho : ∀ i ∈ outs, i ∈ outZ g x) : ∀ t ∈ aboveF g x outs, ItOk g t := by
  intro t ht
  unfold aboveF at ht
  split at ht
  · rw [List.mem_singleton] at ht
    rw [ht]; exact .inl ⟨rfl, rfl⟩
  · obtain ⟨i, hi, rfl⟩ := List.mem_map.1 ht
    obtain ⟨⟨h1, h2⟩, h3⟩ := endsZ_mem (ho i hi)
    exact .inr ⟨h1, h2, h3.symm, rfl⟩
theorem succ_inv {g : Gr} {f : Fr} (hi : FrInv g f) {x : Int} (hR : rReadyF g f x = true) {outs : List Int} (ho : ∀ i ∈ outs, i ∈ outZ g x) : FrInv g (succF g f x outs).2 := by
  obtain ⟨h0, h1, h2⟩ := ready_rng hR
  refine ⟨fun t ht => ?_, ?_, fun y hy => ?_⟩
  · simp only [succF, List.mem_append] at ht
    rcases ht with (ht | ht) | ht
    · exact hi.it t (List.mem_of_mem_take ht)
    · exact above_ok ho t ht
    · exact hi.it t (List.mem_of_mem_drop ht)
  · show (f.pl ++ [x]).Nodup
    rw [List.nodup_append]
    refine ⟨hi.pl, by simp, fun a ha b hb e => h2 ?_⟩
    rw [List.mem_singleton] at hb
    rw [← hb, ← e]; exact ha
  · have hy : y ∈ f.pl ++ [x] := hy
    rcases List.mem_append.1 hy with h | h
    · exact hi.rng y h
    · rw [List.mem_singleton] at h
      rw [h]; exact ⟨h0, h1⟩
end Go.Ab
end
section
namespace Go.Ab
open Go.Proofs
set_option maxRecDepth 10000

def isH (x : Int) (t : It) : Bool := decide (t.2.2 = x)
/-- What stands from the first edge to x to the last one: those, and loose ends. -/
structure Mid (x : Int) (X : List It) : Prop where
  fst : ∃ p X', X = p :: X' ∧ p.2.2 = x
  lst : ∃ X' q, X = X' ++ [q] ∧ q.2.2 = x
  al : ∀ t ∈ X, t.2.2 = x ∨ t.2.2 = -1
def NoH (x : Int) (l : List It) : Prop := ∀ t ∈ l, t.2.2 ≠ x
theorem NoH.app {x : Int} {l m : List It} (h : NoH x l) (h' : NoH x m) : NoH x (l ++ m) := fun t ht => (List.mem_append.1 ht).elim (h t) (h' t)
theorem NoH.left {x : Int} {l m : List It} (h : NoH x (l ++ m)) : NoH x l := fun t ht => h t (List.mem_append.2 (.inl ht))
theorem NoH.right {x : Int} {l m : List It} (h : NoH x (l ++ m)) : NoH x m := fun t ht => h t (List.mem_append.2 (.inr ht))
theorem Mid.noH {x y : Int} {X : List It} (h : Mid x X) (hxy : x ≠ y) (hy : 0 ≤ y) : NoH y X := fun t ht e => by
  rcases h.al t ht with h1 | h1 <;> omega
theorem metK_count {row : List It} {x : Int} : ∀ {k : Nat}, k ≤ row.length → metK row x k = ((row.take k).countP (isH x) : Nat)
  | 0, _ => by simp [metK]
  | k + 1, h => by
    rw [metK_next, metK_count (k := k) (by omega), List.take_add_one, List.getElem?_eq_getElem (show k < row.length by omega), List.countP_append]
    simp only [Option.toList, List.countP_cons, List.countP_nil, isH, decide_eq_true_eq, List.getD_eq_getElem?_getD, List.getElem?_eq_getElem (show k < row.length by omega), Option.getD_some]
    split <;> simp
theorem getD_app1 {A X C : List It} {p : It} {X' : List It} (h : X = p :: X') : (A ++ X ++ C).getD A.length (0, 0, 0) = p := by
  subst h; simp [List.getD_eq_getElem?_getD]
theorem getD_app2 {A X C : List It} {q : It} {X' : List It} (h : X = X' ++ [q]) : (A ++ X ++ C).getD (A.length + X.length - 1) (0, 0, 0) = q := by
  subst h
  have e : A.length + (X' ++ [q]).length - 1 = (A ++ X').length := by simp
  rw [e, show A ++ (X' ++ [q]) ++ C = (A ++ X') ++ ([q] ++ C) by simp]
  simp [List.getD_eq_getElem?_getD]
theorem getD_app3 {A L : List It} {j : Nat} (h : j < A.length) : (A ++ L).getD j (0, 0, 0) ∈ A := by
  rw [List.getD_eq_getElem?_getD, List.getElem?_append_left h, List.getElem?_eq_getElem h]
  exact List.getElem_mem h
theorem getD_app4 {A L : List It} {j : Nat} (h : A.length ≤ j) (h' : j < (A ++ L).length) : (A ++ L).getD j (0, 0, 0) ∈ L := by
  rw [List.length_append] at h'
  rw [List.getD_eq_getElem?_getD, List.getElem?_append_right h, List.getElem?_eq_getElem (by omega)]
  exact List.getElem_mem _
theorem span_of {A X C : List It} {x : Int} (hA : NoH x A) (hC : NoH x C) (hX : Mid x X) :
    (spanF (A ++ X ++ C) x).1 = (A.length : Int) ∧ (spanF (A ++ X ++ C) x).2.1 = ((A.length + X.length : Nat) : Int) ∧ (spanF (A ++ X ++ C) x).2.2 = (X.countP (isH x) : Nat) := by
  have hcnt : (spanF (A ++ X ++ C) x).2.2 = (X.countP (isH x) : Nat) := by
    unfold spanF
    rw [span_met, metK_count (Nat.le_refl _), List.take_length, List.countP_append, List.countP_append]
    have h1 : A.countP (isH x) = 0 := List.countP_eq_zero.2 fun t ht => by simp [isH, hA t ht]
    have h2 : C.countP (isH x) = 0 := List.countP_eq_zero.2 fun t ht => by simp [isH, hC t ht]
    rw [h1, h2]; simp
  obtain ⟨p, X', e1, hp⟩ := hX.fst
  obtain ⟨X'', q, e2, hq⟩ := hX.lst
  have g1 := getD_app1 (A := A) (C := C) e1
  have g2 := getD_app2 (A := A) (C := C) e2
  have hXl : 0 < X.length := by rw [e1]; simp
  have hlen : (A ++ X ++ C).length = A.length + X.length + C.length := by simp; omega
  rcases spanK_ok (row := A ++ X ++ C) (x := x) (A ++ X ++ C).length with ⟨_, hno⟩ | ⟨a, b, c, hs, hab, hbl, hc0, hcl, ha, hb, hlo, hhi⟩
  · exact absurd (by rw [g1]; exact hp) (hno A.length (by omega))
  · have hs' : spanF (A ++ X ++ C) x = ((a : Int), (b : Int), (c : Int)) := hs
    refine ⟨?_, ?_, hcnt⟩
    · rw [hs']
      have h1 : ¬ A.length < a := fun h => hlo _ h (by rw [g1]; exact hp)
      have h2 : ¬ a < A.length := fun h => hA _ (by have := getD_app3 (L := X ++ C) h; rw [← List.append_assoc] at this; exact this) ha
      simp only; omega
    · rw [hs']
      have h1 : ¬ b < A.length + X.length := fun h => hhi (A.length + X.length - 1) (by omega) (by omega) (by rw [g2]; exact hq)
      have h2 : ¬ A.length + X.length < b := fun h => hC _ (getD_app4 (A := A ++ X) (j := b - 1) (by simp; omega) (by omega)) hb
      simp only; omega
theorem ready_join {g : Gr} (hm : mayB g = true) {f : Fr} (hi : FrInv g f) {A X C : List It} {x : Int} (h0 : 0 ≤ x) (h1 : x < g.n) (hp : x ∉ f.pl) (hr : f.row = A ++ X ++ C) (hA : NoH x A) (hC : NoH x C) (hX : Mid x X)
    (hc : X.countP (isH x) = needN g x) : rReadyF g f x = true := by
  rw [← ready_eq hm hi, readyF, if_neg (by rintro (h | h | h); omega; omega; exact hp h)]
  obtain ⟨e1, e2, e3⟩ := span_of hA hC hX
  rw [hr, e1, e2, e3, thereG_in h0 h1, Bool.and_eq_true, decide_eq_true_eq]
  refine ⟨by rw [hc]; rfl, ?_⟩
  rw [Bool.or_eq_true]; right
  simp only [bareF, Int.toNat_natCast]
  rw [List.take_append_of_le_length (by simp), List.take_of_length_le (by simp), List.drop_left, Bool.not_eq_true', List.any_eq_false]
  intro t ht
  simp only [otherI, Bool.and_eq_true, decide_eq_true_eq]
  rcases hX.al t ht with h | h <;> simp [h]
theorem ready_split {g : Gr} (hm : mayB g = true) {f : Fr} (hi : FrInv g f) {x : Int} (hR : rReadyF g f x = true) (hn : needN g x ≠ 0) :
    ∃ A X C, f.row = A ++ X ++ C ∧ NoH x A ∧ NoH x C ∧ Mid x X ∧ X.countP (isH x) = needN g x := by
  obtain ⟨h0, h1, h2⟩ := ready_rng hR
  rw [← ready_eq hm hi, readyF, if_neg (by rintro (h | h | h); omega; omega; exact h2 h), thereG_in h0 h1, Bool.and_eq_true, decide_eq_true_eq] at hR
  have hN : (endsZ (fun e => e.2) g.es g.es.length x).length = needN g x := rfl
  rw [hN, decide_eq_false hn, Bool.false_or] at hR
  obtain ⟨hc, hb⟩ := hR
  have hcnt : (f.row.countP (isH x) : Int) = needN g x := by
    rw [← hc]; unfold spanF
    rw [span_met, metK_count (Nat.le_refl _), List.take_length]
  rcases spanK_ok (row := f.row) (x := x) f.row.length with ⟨hs, hno⟩ | ⟨a, b, c, hs, hab, hbl, hc0, hcl, ha, hb', hlo, hhi⟩
  · have : spanF f.row x = (-1, 0, 0) := hs
    rw [this] at hc
    exfalso; simp only at hc; omega
  · have hs' : spanF f.row x = ((a : Int), (b : Int), (c : Int)) := hs
    rw [hs'] at hb
    simp only [Int.toNat_natCast] at hb
    have hA : NoH x (f.row.take a) := fun t ht => by
      obtain ⟨j, hj, rfl⟩ := List.mem_iff_getElem.1 ht
      simp only [List.length_take] at hj
      have := hlo j (by omega)
      rw [List.getD_eq_getElem?_getD, List.getElem?_eq_getElem (show j < f.row.length by omega)] at this
      simpa using this
    have hC : NoH x (f.row.drop b) := fun t ht => by
      obtain ⟨j, hj, rfl⟩ := List.mem_iff_getElem.1 ht
      simp only [List.length_drop] at hj
      have := hhi (b + j) (by omega) (by omega)
      rw [List.getD_eq_getElem?_getD, List.getElem?_eq_getElem (show b + j < f.row.length by omega)] at this
      simpa using this
    have hrow : f.row = f.row.take a ++ (f.row.take b).drop a ++ f.row.drop b := by
      have e1 : f.row.take a = (f.row.take b).take a := by rw [List.take_take, Nat.min_eq_left (by omega)]
      rw [e1, List.take_append_drop, List.take_append_drop]
    refine ⟨f.row.take a, (f.row.take b).drop a, f.row.drop b, hrow, hA, hC, ⟨?_, ?_, ?_⟩, ?_⟩
    · refine ⟨f.row.getD a (0, 0, 0), (f.row.take b).drop (a + 1), ?_, ha⟩
      rw [List.drop_eq_getElem_cons (by simp; omega)]
      congr 1
      rw [List.getD_eq_getElem?_getD, List.getElem?_eq_getElem (show a < f.row.length by omega)]
      simp
    · refine ⟨(f.row.take (b - 1)).drop a, f.row.getD (b - 1) (0, 0, 0), ?_, hb'⟩
      have e : f.row.take b = f.row.take (b - 1) ++ [f.row.getD (b - 1) (0, 0, 0)] := by
        conv => lhs; rw [show b = b - 1 + 1 by omega]
        rw [List.take_add_one, List.getD_eq_getElem?_getD, List.getElem?_eq_getElem (show b - 1 < f.row.length by omega)]
        rfl
      rw [e, List.drop_append_of_le_length (by simp; omega)]
    · intro t ht
      rw [bareF, Bool.not_eq_true', List.any_eq_false] at hb
      have := hb t ht
      simp only [otherI, Bool.and_eq_true, decide_eq_true_eq, not_and] at this
      by_cases h : t.2.2 = x
      · exact .inl h
      · exact .inr (Decidable.byContradiction fun h' => this h h')
    · have h1 : (f.row.take a).countP (isH x) = 0 := List.countP_eq_zero.2 fun t ht => by simp [isH, hA t ht]
      have h2 : (f.row.drop b).countP (isH x) = 0 := List.countP_eq_zero.2 fun t ht => by simp [isH, hC t ht]
      rw [hrow, List.countP_append, List.countP_append, h1, h2] at hcnt
      omega
theorem succ_of {g : Gr} {f : Fr} {A X C : List It} {x : Int} (o : List Int) (hr : f.row = A ++ X ++ C) (hA : NoH x A) (hC : NoH x C) (hX : Mid x X) :
    succF g f x o = ((X, 0), ⟨A ++ aboveF g x o ++ C, f.pl ++ [x]⟩) := by
  obtain ⟨e1, e2, e3⟩ := span_of hA hC hX
  have e4 : max (A.length : Int) 0 = (A.length : Int) := by omega
  unfold succF
  rw [hr, e1, e2, e4, Int.toNat_natCast, Int.toNat_natCast]
  rw [List.take_append_of_le_length (show A.length + X.length ≤ (A ++ X).length by simp), List.take_of_length_le (show (A ++ X).length ≤ A.length + X.length by simp), List.drop_left]
  rw [show (A ++ X ++ C).take A.length = A by rw [List.append_assoc, List.take_left]]
  rw [show (A ++ X ++ C).drop (A.length + X.length) = C by rw [← List.length_append, List.drop_left]]
theorem succ_none {g : Gr} {f : Fr} {x : Int} (o : List Int) (hr : NoH x f.row) : succF g f x o = (([], 0), ⟨aboveF g x o ++ f.row, f.pl ++ [x]⟩) := by
  have hs : spanF f.row x = (-1, 0, 0) := by
    rcases spanK_ok (row := f.row) (x := x) f.row.length with ⟨hs, _⟩ | ⟨a, b, c, hs, hab, hbl, hc0, hcl, ha, hb', hlo, hhi⟩
    · exact hs
    · exact absurd ha (hr _ (getD_memX (by omega)))
  have e4 : max (-1 : Int) 0 = 0 := by omega
  unfold succF
  rw [hs]
  simp [e4]
end Go.Ab
end
section
namespace Go.Ab
open Go.Proofs
set_option maxRecDepth 10000

structure FrI (g : Gr) (f : Fr) : Prop extends FrInv g f where
  tail : ∀ t ∈ f.row, 0 ≤ t.1 → t.2.1 ∈ f.pl
  head : ∀ t ∈ f.row, 0 ≤ t.1 → t.2.2 ∉ f.pl
  once : f.row.Pairwise fun s t => 0 ≤ s.1 → s.1 ≠ t.1
  low : ∀ i, i < g.es.length → hd g i ∈ f.pl → tl g i ∈ f.pl
  src : (f.pl = [] ∧ f.row = []) ∨ ∃ s ∈ f.pl, needN g s = 0
theorem frI_new (g : Gr) : FrI g ⟨[], []⟩ :=
  { it := by simp, pl := by simp, rng := by simp, tail := by simp, head := by simp, once := by simp, low := by simp, src := .inl ⟨rfl, rfl⟩ }
/-- What is ready has all its edges in the row. -/
theorem all_in {g : Gr} (hm : mayB g = true) {f : Fr} (hi : FrI g f) {x : Int} (hR : rReadyF g f x = true) {i : Nat} (hl : i < g.es.length) (hx : hd g i = x) : ∃ t ∈ f.row, t.1 = i ∧ t.2.1 = tl g i ∧ t.2.2 = x := by
  have hn : needN g x ≠ 0 := by
    have := needN_pos (g := g) (e := (i : Int)) (by omega) (by omega)
    rw [Int.toNat_natCast, show (g.es.getD i (0, 0)).2 = x from hx] at this
    omega
  obtain ⟨A, X, C, hr, hA, hC, hX, hc⟩ := ready_split hm hi.toFrInv hR hn
  have hN : (endsZ (fun e => e.2) g.es g.es.length x).length = needN g x := rfl
  have hok : ∀ t ∈ f.row, t.2.2 = x → 0 ≤ t.1 ∧ t.1 < g.es.length ∧ t.2.1 = (g.es.getD t.1.toNat (0, 0)).1 ∧ t.2.2 = (g.es.getD t.1.toNat (0, 0)).2 := fun t ht he => by
    rcases hi.it t ht with ⟨_, h2⟩ | h
    · have := (ready_rng hR).1; omega
    · exact h
  have hmem : ∀ t ∈ X, t ∈ f.row := fun t ht => by rw [hr]; simp [ht]
  have hperm := pigeonP (ms := (X.filter (isH x)).map (·.1)) (os := endsZ (fun e => e.2) g.es g.es.length x)
  have key : ∀ i ∈ endsZ (fun e => e.2) g.es g.es.length x, i ∈ (X.filter (isH x)).map (·.1) := by
    refine pigeon (ms := (X.filter (isH x)).map (·.1)) (os := endsZ (fun e => e.2) g.es g.es.length x) ?_ ?_ ?_
    · have h1 : X.Pairwise fun s t => 0 ≤ s.1 → s.1 ≠ t.1 := by
        have := hi.once
        rw [hr, List.pairwise_append, List.pairwise_append] at this
        exact this.1.2.1
      have h2 := h1.filter (isH x)
      rw [List.Nodup, List.pairwise_map]
      refine h2.imp_of_mem fun {a b} ha hb h => h ?_
      obtain ⟨ha1, ha2⟩ := List.mem_filter.1 ha
      exact (hok a (hmem a ha1) (by simpa [isH] using ha2)).1
    · intro e he
      obtain ⟨t, ht, rfl⟩ := List.mem_map.1 he
      obtain ⟨ht1, ht2⟩ := List.mem_filter.1 ht
      have ht2 : t.2.2 = x := by simpa [isH] using ht2
      obtain ⟨h1, h2, h3, h4⟩ := hok t (hmem t ht1) ht2
      simp only [endsZ, List.mem_map, List.mem_filter, List.mem_range, decide_eq_true_eq]
      exact ⟨t.1.toNat, ⟨by omega, by rw [← h4]; exact ht2⟩, by simp; omega⟩
    · rw [hN, ← hc, List.length_map, List.countP_eq_length_filter]
  have hie : (i : Int) ∈ endsZ (fun e => e.2) g.es g.es.length x := by
    simp only [endsZ, List.mem_map, List.mem_filter, List.mem_range, decide_eq_true_eq]
    exact ⟨i, ⟨hl, hx⟩, rfl⟩
  obtain ⟨t, ht, he⟩ := List.mem_map.1 (key _ hie)
  obtain ⟨ht1, ht2⟩ := List.mem_filter.1 ht
  have ht2 : t.2.2 = x := by simpa [isH] using ht2
  obtain ⟨h1, h2, h3, h4⟩ := hok t (hmem t ht1) ht2
  refine ⟨t, hmem t ht1, he, ?_, ht2⟩
  rw [h3, he, Int.toNat_natCast]; rfl
theorem ready_none {g : Gr} (hm : mayB g = true) {f : Fr} (hi : FrInv g f) {x : Int} (h0 : 0 ≤ x) (hn : needN g x = 0) : NoH x f.row := by
  intro t ht he
  rcases hi.it t ht with ⟨_, h2⟩ | ⟨h1, h2, _, h4⟩
  · omega
  · have := needN_pos h1 h2
    rw [← h4, he] at this
    omega
/-- A vertex is placed: how the row comes of it. -/
theorem succ_cases {g : Gr} (hm : mayB g = true) {f : Fr} (hi : FrInv g f) {x : Int} (hR : rReadyF g f x = true) :
    ∃ A X C, f.row = A ++ X ++ C ∧ NoH x A ∧ NoH x C ∧ (∀ t ∈ X, t.2.2 = x ∨ t.2.2 = -1) ∧ ∀ o, succF g f x o = ((X, 0), ⟨A ++ aboveF g x o ++ C, f.pl ++ [x]⟩) := by
  by_cases hn : needN g x = 0
  · have h := ready_none hm hi (ready_rng hR).1 hn
    exact ⟨[], [], f.row, by simp, fun t ht => (by cases ht), h, fun t ht => (by cases ht), fun o => by rw [succ_none o h]; simp⟩
  · obtain ⟨A, X, C, hr, hA, hC, hX, _⟩ := ready_split hm hi hR hn
    exact ⟨A, X, C, hr, hA, hC, hX.al, fun o => succ_of o hr hA hC hX⟩
theorem outZ_mem {g : Gr} {x i : Int} (h : i ∈ outZ g x) : ∃ k : Nat, i = k ∧ k < g.es.length ∧ tl g k = x := by
  obtain ⟨⟨h1, h2⟩, h3⟩ := endsZ_mem h
  exact ⟨i.toNat, by omega, by omega, h3⟩
theorem above_mem {g : Gr} {x : Int} {o : List Int} (ho : ∀ i ∈ o, i ∈ outZ g x) {t : It} (h : t ∈ aboveF g x o) : (t.1 = -1 ∧ t.2.2 = -1) ∨ ∃ k : Nat, k < g.es.length ∧ t.1 = k ∧ t.2.1 = x ∧ t.2.2 = hd g k ∧ tl g k = x ∧ t.1 ∈ o := by
  unfold aboveF at h
  split at h
  · rw [List.mem_singleton] at h
    rw [h]; exact .inl ⟨rfl, rfl⟩
  · obtain ⟨i, hio, rfl⟩ := List.mem_map.1 h
    obtain ⟨k, rfl, h1, h2⟩ := outZ_mem (ho i hio)
    exact .inr ⟨k, h1, rfl, rfl, by simp [itemF]; rfl, h2, hio⟩
/-- A vertex that is ready is no head of what a vertex that isn't placed has above it. -/
theorem above_noH {g : Gr} (hm : mayB g = true) {f : Fr} (hi : FrI g f) {x y : Int} (hx : x ∉ f.pl) (hR : rReadyF g f y = true) {o : List Int} (ho : ∀ i ∈ o, i ∈ outZ g x) : NoH y (aboveF g x o) := by
  intro t ht he
  rcases above_mem ho ht with ⟨_, h⟩ | ⟨k, h1, h2, h3, h4, h5, _⟩
  · have := (ready_rng hR).1; omega
  · obtain ⟨s, hs, e1, e2, e3⟩ := all_in hm hi hR h1 (by rw [← h4]; exact he)
    refine hx ?_
    rw [← h5, ← e2]
    exact hi.tail s hs (by omega)
theorem succ_frI {g : Gr} (hm : mayB g = true) {f : Fr} (hi : FrI g f) {x : Int} (hR : rReadyF g f x = true) {o : List Int} (ho : o.Perm (outZ g x)) : FrI g (succF g f x o).2 := by
  have hom : ∀ i ∈ o, i ∈ outZ g x := fun i h => ho.mem_iff.1 h
  have hx := (ready_rng hR).2.2
  have h0 := succ_inv hi.toFrInv hR hom
  obtain ⟨A, X, C, hr, hA, hC, hX, hs⟩ := succ_cases hm hi.toFrInv hR
  have hpl : (succF g f x o).2.pl = f.pl ++ [x] := rfl
  have hrow : (succF g f x o).2.row = A ++ aboveF g x o ++ C := by rw [hs o]
  have hmA : ∀ t ∈ A, t ∈ f.row := fun t ht => by rw [hr]; simp [ht]
  have hmC : ∀ t ∈ C, t ∈ f.row := fun t ht => by rw [hr]; simp [ht]
  have hself := above_noH hm hi hx hR hom
  refine { toFrInv := h0, tail := ?_, head := ?_, once := ?_, low := ?_, src := .inr ?_ }
  · intro t ht h1
    rw [hpl]
    rw [hrow, List.mem_append, List.mem_append] at ht
    rcases ht with (ht | ht) | ht
    · exact List.mem_append_left _ (hi.tail t (hmA t ht) h1)
    · rcases above_mem hom ht with ⟨h, _⟩ | ⟨k, _, _, h3, _⟩
      · omega
      · rw [h3]; simp
    · exact List.mem_append_left _ (hi.tail t (hmC t ht) h1)
  · intro t ht h1
    rw [hpl, List.mem_append, List.mem_singleton]
    rw [hrow, List.mem_append, List.mem_append] at ht
    rcases ht with (ht | ht) | ht
    · rintro (h | h)
      · exact hi.head t (hmA t ht) h1 h
      · exact hA t ht h
    · rintro (h | h)
      · rcases above_mem hom ht with ⟨h', _⟩ | ⟨k, hk, _, _, h4, h5, _⟩
        · omega
        · rw [h4] at h
          have := hi.low k hk h
          rw [h5] at this; exact hx this
      · exact hself t ht h
    · rintro (h | h)
      · exact hi.head t (hmC t ht) h1 h
      · exact hC t ht h
  · have hon := hi.once
    rw [hr, List.pairwise_append, List.pairwise_append] at hon
    obtain ⟨⟨hoA, _, _⟩, hoC, hoAC⟩ := hon
    have old : ∀ s ∈ f.row, 0 ≤ s.1 → ∀ t ∈ aboveF g x o, s.1 ≠ t.1 := fun s hs h1 t ht e => by
      rcases above_mem hom ht with ⟨h, _⟩ | ⟨k, hk, h2, h3, h4, h5, _⟩
      · omega
      · rcases hi.it s hs with ⟨h, _⟩ | ⟨_, _, h6, _⟩
        · omega
        · have := hi.tail s hs h1
          rw [h6, e, h2, Int.toNat_natCast] at this
          exact hx (h5 ▸ this)
    rw [hrow, List.pairwise_append, List.pairwise_append]
    refine ⟨⟨hoA, ?_, fun s hs t ht h1 => old s (hmA s hs) h1 t ht⟩, hoC, ?_⟩
    · unfold aboveF
      split
      · simp
      · refine List.pairwise_map.2 ((ho.nodup_iff.2 endsZ_nodup).imp fun {i j} (h : i ≠ j) _ => ?_)
        exact h
    · intro s hs t ht h1
      rcases List.mem_append.1 hs with hs | hs
      · exact hoAC s (List.mem_append_left _ hs) t ht h1
      · intro e
        exact old t (hmC t ht) (by omega) s hs e.symm
  · intro i hl h
    rw [hpl, List.mem_append, List.mem_singleton] at h ⊢
    left
    rcases h with h | h
    · exact hi.low i hl h
    · obtain ⟨t, ht, e1, e2, _⟩ := all_in hm hi hR hl h
      rw [← e2]
      exact hi.tail t ht (by omega)
  · rcases hi.src with ⟨h1, h2⟩ | ⟨s, hs, h⟩
    · refine ⟨x, by rw [hpl]; simp, ?_⟩
      refine Decidable.byContradiction fun hn => ?_
      obtain ⟨A, X, C, hr, _, _, hX, _⟩ := ready_split hm hi.toFrInv hR hn
      obtain ⟨p, X', e, _⟩ := hX.fst
      rw [h2, e] at hr
      simp at hr
    · exact ⟨s, by rw [hpl]; simp [hs], h⟩
/-- Two parts in a row, of two vertices, stand apart. -/
theorem apart {x y : Int} (hx : 0 ≤ x) (hy : 0 ≤ y) (hxy : x ≠ y) {A X C B Y D : List It} (h : A ++ X ++ C = B ++ Y ++ D) (hX : Mid x X) (hY : Mid y Y) :
    (∃ M, B = A ++ X ++ M ∧ C = M ++ Y ++ D) ∨ (∃ M, A = B ++ Y ++ M ∧ D = M ++ X ++ C) := by
  obtain ⟨p, X', hX', hp⟩ := hX.fst
  obtain ⟨q, Y', hY', hq⟩ := hY.fst
  have nX : q ∉ X := fun h => hX.noH hxy hy q h hq
  have nY : p ∉ Y := fun h => hY.noH (Ne.symm hxy) hx p h hp
  rw [show B ++ Y ++ D = B ++ (Y ++ D) by simp, List.append_eq_append_iff] at h
  rcases h with ⟨es, h1, h2⟩ | ⟨cs, h1, h2⟩
  · exact .inl ⟨es, h1, by rw [h2]; simp⟩
  · match cs, h1, h2 with
    | [], h1, h2 => exact .inl ⟨[], by simpa using h1.symm, by simpa using h2.symm⟩
    | c :: cs, h1, h2 =>
      have hcq : c = q := by rw [hY'] at h2; simp at h2; exact h2.1.symm
      rw [List.append_eq_append_iff] at h1
      rcases h1 with ⟨es, h3, h4⟩ | ⟨ds, h3, h4⟩
      · exfalso; refine nX ?_
        rw [h4, ← hcq]; simp
      · rw [h4, List.append_assoc, List.append_eq_append_iff] at h2
        rcases h2 with ⟨es, h5, h6⟩ | ⟨bs, h5, h6⟩
        · exact .inr ⟨es, by rw [h3, h5]; simp, by rw [h6]; simp⟩
        · match bs, h5, h6 with
          | [], h5, h6 => exact .inr ⟨[], by rw [h3, h5]; simp, by simpa using h6.symm⟩
          | b :: bs, h5, h6 =>
            exfalso; refine nY ?_
            have hbp : b = p := by rw [hX'] at h6; simp at h6; exact h6.1.symm
            rw [h5, ← hbp]; simp
theorem swap_ord {g : Gr} (hm : mayB g = true) {f : Fr} (hi : FrI g f) {x y : Int} (hxy : x ≠ y) (hRx : rReadyF g f x = true) (hRy : rReadyF g f y = true)
    {a b : List Int} (ha : a.Perm (outZ g x)) (hb : b.Perm (outZ g y)) {A X M Y D : List It} (hr : f.row = A ++ X ++ M ++ Y ++ D) (hX : Mid x X) (hY : Mid y Y)
    (cX : X.countP (isH x) = needN g x) (cY : Y.countP (isH y) = needN g y)
    (nA : NoH x A) (nC : NoH x (M ++ Y ++ D)) (nB : NoH y (A ++ X ++ M)) (nD : NoH y D) :
    rReadyF g (succF g f x a).2 y = true ∧ rReadyF g (succF g f y b).2 x = true ∧ (succF g (succF g f x a).2 y b).2.row = (succF g (succF g f y b).2 x a).2.row ∧
    (succF g f x a).1 = (succF g (succF g f y b).2 x a).1 ∧ (succF g f y b).1 = (succF g (succF g f x a).2 y b).1 := by
  obtain ⟨x0, x1, x2⟩ := ready_rng hRx
  obtain ⟨y0, y1, y2⟩ := ready_rng hRy
  have i1 := (succ_frI hm hi hRx ha).toFrInv
  have i2 := (succ_frI hm hi hRy hb).toFrInv
  have ux := above_noH hm hi x2 hRy (fun i h => ha.mem_iff.1 h)
  have uy := above_noH hm hi y2 hRx (fun i h => hb.mem_iff.1 h)
  have r1 : f.row = A ++ X ++ (M ++ Y ++ D) := by rw [hr]; simp
  have r2 : f.row = (A ++ X ++ M) ++ Y ++ D := by rw [hr]
  have e1 := succ_of (g := g) a r1 nA nC hX
  have e2 := succ_of (g := g) b r2 nB nD hY
  rw [e1] at i1 ⊢; rw [e2] at i2 ⊢
  have r3 : A ++ aboveF g x a ++ (M ++ Y ++ D) = (A ++ aboveF g x a ++ M) ++ Y ++ D := by simp
  have r4 : A ++ X ++ M ++ aboveF g y b ++ D = A ++ X ++ (M ++ aboveF g y b ++ D) := by simp
  have n3 : NoH y (A ++ aboveF g x a ++ M) := ((nB.left.left).app ux).app nB.right
  have n4 : NoH x (M ++ aboveF g y b ++ D) := (nC.left.left.app uy).app nC.right
  have e3 := succ_of (g := g) (f := ⟨A ++ aboveF g x a ++ (M ++ Y ++ D), f.pl ++ [x]⟩) b r3 n3 nD hY
  have e4 := succ_of (g := g) (f := ⟨A ++ X ++ M ++ aboveF g y b ++ D, f.pl ++ [y]⟩) a r4 nA n4 hX
  refine ⟨ready_join hm i1 y0 y1 ?_ r3 n3 nD hY cY, ready_join hm i2 x0 x1 ?_ r4 nA n4 hX cX, ?_, ?_, ?_⟩
  · simp [y2, Ne.symm hxy]
  · simp [x2, hxy]
  · simp only [e3, e4]; simp
  · simp only [e4]
  · simp only [e3]
theorem swap_need {g : Gr} (hm : mayB g = true) {f : Fr} (hi : FrI g f) {x y : Int} (hxy : x ≠ y) (hRx : rReadyF g f x = true) (hRy : rReadyF g f y = true)
    {a b : List Int} (ha : a.Perm (outZ g x)) (hb : b.Perm (outZ g y)) (nx : needN g x ≠ 0) (ny : needN g y ≠ 0) :
    rReadyF g (succF g f x a).2 y = true ∧ rReadyF g (succF g f y b).2 x = true ∧ (succF g (succF g f x a).2 y b).2.row = (succF g (succF g f y b).2 x a).2.row ∧
    (succF g f x a).1 = (succF g (succF g f y b).2 x a).1 ∧ (succF g f y b).1 = (succF g (succF g f x a).2 y b).1 := by
  obtain ⟨A, X, C, hr, hA, hC, hX, cX⟩ := ready_split hm hi.toFrInv hRx nx
  obtain ⟨B, Y, D, hr', hB, hD, hY, cY⟩ := ready_split hm hi.toFrInv hRy ny
  rcases apart (ready_rng hRx).1 (ready_rng hRy).1 hxy (hr.symm.trans hr') hX hY with ⟨M, rfl, rfl⟩ | ⟨M, rfl, rfl⟩
  · exact swap_ord hm hi hxy hRx hRy ha hb (by rw [hr]; simp) hX hY cX cY hA hC hB hD
  · obtain ⟨h1, h2, h3, h4, h5⟩ := swap_ord hm hi (Ne.symm hxy) hRy hRx hb ha (by rw [hr']; simp) hY hX cY cX hB hD hA hC
    exact ⟨h2, h1, h3.symm, h5, h4⟩
theorem bare_mem9 {g : Gr} {y : Int} : y ∈ bareG (·.2) g ↔ (0 ≤ y ∧ y < g.n) ∧ needN g y = 0 := by
  simp only [bareG, bareK, List.mem_map, List.mem_filter, List.mem_range, decide_eq_true_eq]
  have he : ∀ x : Nat, x < g.n.toNat → (((endsL (·.2) g).getD x []).length = needN g (x : Int)) := by
    intro x hx
    have e : (endsL (·.2) g).getD x [] = endsZ (·.2) g.es g.es.length (x : Int) := by
      simp [endsL, List.getD_eq_getElem?_getD, List.getElem?_range hx, endsK_eq]
    rw [e]; rfl
  constructor
  · rintro ⟨x, ⟨hx, h0⟩, rfl⟩
    refine ⟨by simp; omega, by rw [he x hx] at h0; exact h0⟩
  · rintro ⟨⟨h1, h2⟩, h3⟩
    have e : ((y.toNat : Nat) : Int) = y := by omega
    exact ⟨y.toNat, ⟨by omega, by rw [he _ (by omega), e]; exact h3⟩, e⟩
/-- A good graph has one source. -/
theorem one_src {g : Gr} (hc : (chkG g).1 = 0) {x y : Int} (hx : 0 ≤ x ∧ x < g.n) (hy : 0 ≤ y ∧ y < g.n) (nx : needN g x = 0) (ny : needN g y = 0) : x = y := by
  have h1 : (bareG (·.2) g).length ≤ 1 := by
    unfold chkG chkOf at hc
    refine Nat.not_lt.1 fun h => ?_
    split at hc
    · cases hc
    split at hc
    · cases hc
    split at hc
    · cases hc
    split at hc
    · cases hc
    cases hc
  have h2 := bare_mem9.2 ⟨hx, nx⟩
  have h3 := bare_mem9.2 ⟨hy, ny⟩
  match hb : bareG (·.2) g with
  | [] => rw [hb] at h2; cases h2
  | [z] => rw [hb, List.mem_singleton] at h2 h3; rw [h2, h3]
  | _ :: _ :: _ => rw [hb] at h1; simp at h1
theorem good_may {g : Gr} (hc : (chkG g).1 = 0) : mayB g = true := by
  unfold chkG chkOf at hc
  split at hc
  · cases hc
  · rename_i h; simpa using h
theorem two_need {g : Gr} (hc : (chkG g).1 = 0) {f : Fr} (hi : FrI g f) {x y : Int} (hxy : x ≠ y) (hRx : rReadyF g f x = true) (hRy : rReadyF g f y = true) : needN g x ≠ 0 := by
  intro nx
  have hm := good_may hc
  obtain ⟨x0, x1, x2⟩ := ready_rng hRx
  obtain ⟨y0, y1, y2⟩ := ready_rng hRy
  rcases hi.src with ⟨h1, h2⟩ | ⟨s, hs, h⟩
  · have ny : needN g y ≠ 0 := fun ny => hxy (one_src hc ⟨x0, x1⟩ ⟨y0, y1⟩ nx ny)
    obtain ⟨A, X, C, hr, _, _, hX, _⟩ := ready_split hm hi.toFrInv hRy ny
    obtain ⟨p, X', e, _⟩ := hX.fst
    rw [h2, e] at hr
    simp at hr
  · exact x2 (one_src hc (hi.rng s hs) ⟨x0, x1⟩ h nx ▸ hs)
theorem swap_good {g : Gr} (hc : (chkG g).1 = 0) {f : Fr} (hi : FrI g f) {x y : Int} (hxy : x ≠ y) (hRx : rReadyF g f x = true) (hRy : rReadyF g f y = true)
    {a b : List Int} (ha : a.Perm (outZ g x)) (hb : b.Perm (outZ g y)) :
    rReadyF g (succF g f x a).2 y = true ∧ rReadyF g (succF g f y b).2 x = true ∧ (succF g (succF g f x a).2 y b).2.row = (succF g (succF g f y b).2 x a).2.row ∧
    (succF g f x a).1 = (succF g (succF g f y b).2 x a).1 ∧ (succF g f y b).1 = (succF g (succF g f x a).2 y b).1 :=
  swap_need (good_may hc) hi hxy hRx hRy ha hb (two_need hc hi hxy hRx hRy) (two_need hc hi (Ne.symm hxy) hRy hRx)
end Go.Ab
end
section
namespace Go.Ab
open Go.Proofs
attribute [local congr] ACall.congr
set_option maxRecDepth 10000
set_option maxHeartbeats 4000000

/-- The last one of two heads that was met, how often they came by turns. -/
def turnK (row : List It) (a b : Int) : Nat → Int × Int
  | 0 => (-1, 0)
  | k + 1 => if ((row.getD k (0, 0, 0)).2.2 = a ∨ (row.getD k (0, 0, 0)).2.2 = b) ∧ (row.getD k (0, 0, 0)).2.2 ≠ (turnK row a b k).1 then ((row.getD k (0, 0, 0)).2.2, (turnK row a b k).2 + 1) else turnK row a b k
theorem turnK_next {row : List It} {a b : Int} {k : Nat} : turnK row a b (k + 1) = if ((row.getD k (0, 0, 0)).2.2 = a ∨ (row.getD k (0, 0, 0)).2.2 = b) ∧ (row.getD k (0, 0, 0)).2.2 ≠ (turnK row a b k).1 then ((row.getD k (0, 0, 0)).2.2, (turnK row a b k).2 + 1) else turnK row a b k := rfl
theorem turnK_le {row : List It} {a b : Int} : ∀ k : Nat, 0 ≤ (turnK row a b k).2 ∧ (turnK row a b k).2 ≤ k
  | 0 => by simp [turnK]
  | k + 1 => by
    have := turnK_le (row := row) (a := a) (b := b) k
    rw [turnK_next]
    split
    · show 0 ≤ (turnK row a b k).2 + 1 ∧ (turnK row a b k).2 + 1 ≤ ((k + 1 : Nat) : Int)
      omega
    · omega
theorem turns_spec (ds : List D) (row : List It) (a b : Int) (hl : row.length ≤ 1000000) : Spec Try.prog 74 (Args [.d (.pt (sT row :: ds)), eN a, eN b]) [] (eN (turnK row a b row.length).2) [] := by
  (refine Spec.intro (C := T.cfg [] []) (rs := [.t 6]) (T.cfg_ok _ _) Try.func74 rfl rfl Try.ntmps74 Try.results74 (by simp [AObj.isNest]) (by simp [AObj.isNest]) (by kernel_rfl) ?_; intro X hX hP hC hXn hXm vals hA; refine ⟨_, by simp, hA, ?_⟩; have hmix : X.P.follows .mixedOrders = true := (by rw [hP]; exact T.mixed); clear hXn hXm)
  repeat' (first | fail | ((first | ((with_reducible (first | apply oA | apply oB)); exact rfl; intro K hK) | (refine hK _ ?_; clear hK K) | ((with_reducible (first | apply oG | apply oH)); iterate 3 exact rfl) | ((with_reducible apply oI); (iterate 2 exact rfl); intro K hK) | (with_reducible (first | apply wI | apply wJ | apply wK))); try simp only [go_sem, simprocAttr]) | fail | (with_reducible (first | apply oC | apply oJ | exact oK | apply wA | apply wB | apply wC hX hC | apply wD hX hC | apply wE hX hC hmix | apply wF hX hC hmix | apply wG | apply wH | apply And.intro)) | ((with_reducible refine oD ?_ ?_); first | fail | kernel_rfl) | ((with_reducible (first | apply oE | apply oF)); (iterate 3 exact rfl); all_goals (intro h; first | (exact absurd h (by decide)) | ((try simp only [go_sem, simprocAttr] at h); (try with_reducible intro K hK); simp only [go_sem, simprocAttr]))) | ((first | ((with_reducible apply wL); exact rfl) | ((with_reducible apply wM); exact rfl)); all_goals (try ((with_reducible intro h); first | (exact absurd h (by decide)) | (try simp only [go_sem, simprocAttr] at h)))) | omega | ((first | fail); try simp only [go_sem, simprocAttr]) | (intro h))
  refine awp_loopP (fun k : Nat => k ≤ row.length) (fun k => ⟨[(1, eN a), (2, eN b), (13, .d (sT row)), (14, eN row.length), (15, eN k), (7, eN (turnK row a b k).1), (6, eN (turnK row a b k).2)], []⟩) (fun k => row.length - k) 0 (by omega) ?_ ?_
  · refine Le.of ?_ ?_ <;> simp [go_sem, simprocAttr, turnK]
  rintro k hk
  rcases Nat.lt_or_ge k row.length with hlt | hge
  · have hb : decide ((k : Int) < (row.length : Int)) = true := decide_eq_true (by omega)
    have hle := turnK_le (row := row) (a := a) (b := b) k
    have hnx := turnK_next (row := row) (a := a) (b := b) (k := k)
    repeat' (first | fail | ((first | ((with_reducible (first | apply oA | apply oB)); exact rfl; intro K hK) | (refine hK _ ?_; clear hK K) | ((with_reducible (first | apply oG | apply oH)); iterate 3 exact rfl) | ((with_reducible apply oI); (iterate 2 exact rfl); intro K hK) | (with_reducible (first | apply wI | apply wJ | apply wK))); try simp only [go_sem, simprocAttr, hb]) | fail | (with_reducible (first | apply oC | apply oJ | exact oK | apply wA | apply wB | apply wC hX hC | apply wD hX hC | apply wE hX hC hmix | apply wF hX hC hmix | apply wG | apply wH | apply And.intro)) | ((with_reducible refine oD ?_ ?_); first | fail | kernel_rfl) | ((with_reducible (first | apply oE | apply oF)); (iterate 3 exact rfl); all_goals (intro h; first | (exact absurd h (by decide)) | ((try simp only [go_sem, simprocAttr, hb] at h); (try with_reducible intro K hK); simp only [go_sem, simprocAttr, hb]))) | ((first | ((with_reducible apply wL); exact rfl) | ((with_reducible apply wM); exact rfl)); all_goals (try ((with_reducible intro h); first | (exact absurd h (by decide)) | (try simp only [go_sem, simprocAttr, hb] at h)))) | omega | ((first | fail); try simp only [go_sem, simprocAttr, hb]) | (intro h))
    all_goals (first | rw [if_pos ⟨by first | exact .inl (by assumption) | exact .inr (by assumption), by assumption⟩] at hnx | rw [if_neg (by rintro ⟨h1 | h1, h2⟩ <;> contradiction)] at hnx)
    all_goals (refine ⟨k + 1, by omega, ?_, by omega⟩; refine Le.of ?_ ?_ <;> simp [go_sem, simprocAttr, hb, hnx])
  · have hb : decide ((k : Int) < (row.length : Int)) = false := decide_eq_false (by omega)
    obtain rfl : k = row.length := by omega
    repeat' (first | fail | ((first | ((with_reducible (first | apply oA | apply oB)); exact rfl; intro K hK) | (refine hK _ ?_; clear hK K) | ((with_reducible (first | apply oG | apply oH)); iterate 3 exact rfl) | ((with_reducible apply oI); (iterate 2 exact rfl); intro K hK) | (with_reducible (first | apply wI | apply wJ | apply wK))); try simp only [go_sem, simprocAttr, hb]) | fail | (with_reducible (first | apply oC | apply oJ | exact oK | apply wA | apply wB | apply wC hX hC | apply wD hX hC | apply wE hX hC hmix | apply wF hX hC hmix | apply wG | apply wH | apply And.intro)) | ((with_reducible refine oD ?_ ?_); first | fail | kernel_rfl) | ((with_reducible (first | apply oE | apply oF)); (iterate 3 exact rfl); all_goals (intro h; first | (exact absurd h (by decide)) | ((try simp only [go_sem, simprocAttr, hb] at h); (try with_reducible intro K hK); simp only [go_sem, simprocAttr, hb]))) | ((first | ((with_reducible apply wL); exact rfl) | ((with_reducible apply wM); exact rfl)); all_goals (try ((with_reducible intro h); first | (exact absurd h (by decide)) | (try simp only [go_sem, simprocAttr, hb] at h)))) | omega | ((first | fail); try simp only [go_sem, simprocAttr, hb]) | (intro h))
end Go.Ab
end
section
namespace Go.Ab
open Go.Proofs
attribute [local congr] ACall.congr
set_option maxRecDepth 10000
set_option maxHeartbeats 4000000

def hdN (row : List It) (i : Nat) : Int := (row.getD i (0, 0, 0)).2.2
def twoB (row : List It) (i j : Nat) : Bool := decide (hdN row i ≠ -1) && decide (hdN row j ≠ -1) && decide (hdN row i ≠ hdN row j) && decide (4 ≤ (turnK row (hdN row i) (hdN row j) row.length).2)
def tangF (row : List It) : Bool := (List.range row.length).any fun i => (List.range row.length).any (twoB row i)
theorem twoB_iff {row : List It} {i j : Nat} : twoB row i j = true ↔ (((row.getD i (0, 0, 0)).2.2 ≠ -1 ∧ (row.getD j (0, 0, 0)).2.2 ≠ -1) ∧ (row.getD i (0, 0, 0)).2.2 ≠ (row.getD j (0, 0, 0)).2.2) ∧ 4 ≤ (turnK row (row.getD i (0, 0, 0)).2.2 (row.getD j (0, 0, 0)).2.2 row.length).2 := by
  unfold twoB hdN
  rw [Bool.and_eq_true, Bool.and_eq_true, Bool.and_eq_true, decide_eq_true_eq, decide_eq_true_eq, decide_eq_true_eq, decide_eq_true_eq]
theorem tangled_spec (ds : List D) (row : List It) (hl : row.length ≤ 1000000) : Spec Try.prog 47 (Args [.d (.pt (sT row :: ds))]) [] (eB (tangF row)) [] := by
  (refine Spec.intro (C := T.cfg [] []) (rs := [.t 2]) (T.cfg_ok _ _) Try.func47 rfl rfl Try.ntmps47 Try.results47 (by simp [AObj.isNest]) (by simp [AObj.isNest]) (by kernel_rfl) ?_; intro X hX hP hC hXn hXm vals hA; refine ⟨_, by simp, hA, ?_⟩; have hmix : X.P.follows .mixedOrders = true := (by rw [hP]; exact T.mixed); clear hXn hXm)
  repeat' (first | fail | ((first | ((with_reducible (first | apply oA | apply oB)); exact rfl; intro K hK) | (refine hK _ ?_; clear hK K) | ((with_reducible (first | apply oG | apply oH)); iterate 3 exact rfl) | ((with_reducible apply oI); (iterate 2 exact rfl); intro K hK) | (with_reducible (first | apply wI | apply wJ | apply wK))); try simp only [go_sem, simprocAttr]) | fail | (with_reducible (first | apply oC | apply oJ | exact oK | apply wA | apply wB | apply wC hX hC | apply wD hX hC | apply wE hX hC hmix | apply wF hX hC hmix | apply wG | apply wH | apply And.intro)) | ((with_reducible refine oD ?_ ?_); first | fail | kernel_rfl) | ((with_reducible (first | apply oE | apply oF)); (iterate 3 exact rfl); all_goals (intro h; first | (exact absurd h (by decide)) | ((try simp only [go_sem, simprocAttr] at h); (try with_reducible intro K hK); simp only [go_sem, simprocAttr]))) | ((first | ((with_reducible apply wL); exact rfl) | ((with_reducible apply wM); exact rfl)); all_goals (try ((with_reducible intro h); first | (exact absurd h (by decide)) | (try simp only [go_sem, simprocAttr] at h)))) | omega | ((first | first | refine acall_simple hX hC hP (turns_spec ds row (row.getD i (0, 0, 0)).2.2 (row.getD j (0, 0, 0)).2.2 hl) rfl rfl rfl (by simp only [go_sem, simprocAttr]) rfl ?_); try simp only [go_sem, simprocAttr]) | (intro h))
  refine awp_loopP (fun i : Nat => i ≤ row.length ∧ ∀ p, p < i → (List.range row.length).any (twoB row p) = false) (fun i => ⟨[(0, .d (.pt (sT row :: ds))), (10, .d (sT row)), (11, eN row.length), (12, eN i)], []⟩) (fun i => row.length - i) 0 (by simp) ?_ ?_
  · (refine ⟨leT_spec ?_, fun _ _ h => h⟩; simp [go_sem, simprocAttr])
  rintro i ⟨hi, hg⟩
  rcases Nat.lt_or_ge i row.length with hil | hge
  · have hb : decide ((i : Int) < (row.length : Int)) = true := decide_eq_true (by omega)
    repeat' (first | fail | ((first | ((with_reducible (first | apply oA | apply oB)); exact rfl; intro K hK) | (refine hK _ ?_; clear hK K) | ((with_reducible (first | apply oG | apply oH)); iterate 3 exact rfl) | ((with_reducible apply oI); (iterate 2 exact rfl); intro K hK) | (with_reducible (first | apply wI | apply wJ | apply wK))); try simp only [go_sem, simprocAttr, hb]) | fail | (with_reducible (first | apply oC | apply oJ | exact oK | apply wA | apply wB | apply wC hX hC | apply wD hX hC | apply wE hX hC hmix | apply wF hX hC hmix | apply wG | apply wH | apply And.intro)) | ((with_reducible refine oD ?_ ?_); first | fail | kernel_rfl) | ((with_reducible (first | apply oE | apply oF)); (iterate 3 exact rfl); all_goals (intro h; first | (exact absurd h (by decide)) | ((try simp only [go_sem, simprocAttr, hb] at h); (try with_reducible intro K hK); simp only [go_sem, simprocAttr, hb]))) | ((first | ((with_reducible apply wL); exact rfl) | ((with_reducible apply wM); exact rfl)); all_goals (try ((with_reducible intro h); first | (exact absurd h (by decide)) | (try simp only [go_sem, simprocAttr, hb] at h)))) | omega | ((first | first | refine acall_simple hX hC hP (turns_spec ds row (row.getD i (0, 0, 0)).2.2 (row.getD j (0, 0, 0)).2.2 hl) rfl rfl rfl (by simp only [go_sem, simprocAttr, hb]) rfl ?_); try simp only [go_sem, simprocAttr, hb]) | (intro h))
    clear hb
    refine awp_loopP (fun j : Nat => j ≤ row.length ∧ ∀ p, p < j → twoB row i p = false) (fun j => ⟨[(0, .d (.pt (sT row :: ds))), (4, .ptr 4 0), (10, .d (sT row)), (11, eN row.length), (12, eN i), (19, .d (sT row)), (20, eN row.length), (21, eN j)], [(4, .box [.d (.sc (.int .i64 (row.getD i (0, 0, 0)).1)), .d (.sc (.int .i64 (row.getD i (0, 0, 0)).2.1)), .d (.sc (.int .i64 (row.getD i (0, 0, 0)).2.2))])]⟩) (fun j => row.length - j) 0 (by simp) ?_ ?_
    · (refine Le.of ?_ ?_ <;> simp [go_sem, simprocAttr])
    rintro j ⟨hj, hgj⟩
    rcases Nat.lt_or_ge j row.length with hjl | hgej
    · have hb : decide ((j : Int) < (row.length : Int)) = true := decide_eq_true (by omega)
      repeat' (first | fail | ((first | ((with_reducible (first | apply oA | apply oB)); exact rfl; intro K hK) | (refine hK _ ?_; clear hK K) | ((with_reducible (first | apply oG | apply oH)); iterate 3 exact rfl) | ((with_reducible apply oI); (iterate 2 exact rfl); intro K hK) | (with_reducible (first | apply wI | apply wJ | apply wK))); try simp only [go_sem, simprocAttr, hb]) | fail | (with_reducible (first | apply oC | apply oJ | exact oK | apply wA | apply wB | apply wC hX hC | apply wD hX hC | apply wE hX hC hmix | apply wF hX hC hmix | apply wG | apply wH | apply And.intro)) | ((with_reducible refine oD ?_ ?_); first | fail | kernel_rfl) | ((with_reducible (first | apply oE | apply oF)); (iterate 3 exact rfl); all_goals (intro h; first | (exact absurd h (by decide)) | ((try simp only [go_sem, simprocAttr, hb] at h); (try with_reducible intro K hK); simp only [go_sem, simprocAttr, hb]))) | ((first | ((with_reducible apply wL); exact rfl) | ((with_reducible apply wM); exact rfl)); all_goals (try ((with_reducible intro h); first | (exact absurd h (by decide)) | (try simp only [go_sem, simprocAttr, hb] at h)))) | omega | ((first | first | refine acall_simple hX hC hP (turns_spec ds row (row.getD i (0, 0, 0)).2.2 (row.getD j (0, 0, 0)).2.2 hl) rfl rfl rfl (by simp only [go_sem, simprocAttr, hb]) rfl ?_); try simp only [go_sem, simprocAttr, hb]) | (intro h))
      all_goals (first | exact (anyR_at hil (anyR_at hjl (twoB_iff.2 ⟨⟨⟨by assumption, by assumption⟩, by assumption⟩, by assumption⟩))).symm | skip)
      all_goals (refine ⟨j + 1, ⟨by omega, fun p hp => ?_⟩, ?_, by omega⟩)
      all_goals (first | (by_cases hpj : p = j; (subst hpj; rw [← Bool.not_eq_true]; intro hh; obtain ⟨⟨⟨_, _⟩, _⟩, _⟩ := twoB_iff.1 hh; contradiction); exact hgj p (by omega)) | (refine Le.of ?_ ?_ <;> simp [go_sem, simprocAttr, hb]))
    · have hb : decide ((j : Int) < (row.length : Int)) = false := decide_eq_false (by omega)
      obtain rfl : j = row.length := by omega
      repeat' (first | fail | ((first | ((with_reducible (first | apply oA | apply oB)); exact rfl; intro K hK) | (refine hK _ ?_; clear hK K) | ((with_reducible (first | apply oG | apply oH)); iterate 3 exact rfl) | ((with_reducible apply oI); (iterate 2 exact rfl); intro K hK) | (with_reducible (first | apply wI | apply wJ | apply wK))); try simp only [go_sem, simprocAttr, hb]) | fail | (with_reducible (first | apply oC | apply oJ | exact oK | apply wA | apply wB | apply wC hX hC | apply wD hX hC | apply wE hX hC hmix | apply wF hX hC hmix | apply wG | apply wH | apply And.intro)) | ((with_reducible refine oD ?_ ?_); first | fail | kernel_rfl) | ((with_reducible (first | apply oE | apply oF)); (iterate 3 exact rfl); all_goals (intro h; first | (exact absurd h (by decide)) | ((try simp only [go_sem, simprocAttr, hb] at h); (try with_reducible intro K hK); simp only [go_sem, simprocAttr, hb]))) | ((first | ((with_reducible apply wL); exact rfl) | ((with_reducible apply wM); exact rfl)); all_goals (try ((with_reducible intro h); first | (exact absurd h (by decide)) | (try simp only [go_sem, simprocAttr, hb] at h)))) | omega | ((first | first | refine acall_simple hX hC hP (turns_spec ds row (row.getD i (0, 0, 0)).2.2 (row.getD j (0, 0, 0)).2.2 hl) rfl rfl rfl (by simp only [go_sem, simprocAttr, hb]) rfl ?_); try simp only [go_sem, simprocAttr, hb]) | (intro h))
      refine ⟨i + 1, ⟨by omega, fun p hp => ?_⟩, ?_, by omega⟩
      · by_cases h : p = i
        · subst h; exact anyR_no hgj
        · exact hg p (by omega)
      · (refine Le.of ?_ ?_ <;> simp [go_sem, simprocAttr, hb])
  · have hb : decide ((i : Int) < (row.length : Int)) = false := decide_eq_false (by omega)
    obtain rfl : i = row.length := by omega
    repeat' (first | fail | ((first | ((with_reducible (first | apply oA | apply oB)); exact rfl; intro K hK) | (refine hK _ ?_; clear hK K) | ((with_reducible (first | apply oG | apply oH)); iterate 3 exact rfl) | ((with_reducible apply oI); (iterate 2 exact rfl); intro K hK) | (with_reducible (first | apply wI | apply wJ | apply wK))); try simp only [go_sem, simprocAttr, hb]) | fail | (with_reducible (first | apply oC | apply oJ | exact oK | apply wA | apply wB | apply wC hX hC | apply wD hX hC | apply wE hX hC hmix | apply wF hX hC hmix | apply wG | apply wH | apply And.intro)) | ((with_reducible refine oD ?_ ?_); first | fail | kernel_rfl) | ((with_reducible (first | apply oE | apply oF)); (iterate 3 exact rfl); all_goals (intro h; first | (exact absurd h (by decide)) | ((try simp only [go_sem, simprocAttr, hb] at h); (try with_reducible intro K hK); simp only [go_sem, simprocAttr, hb]))) | ((first | ((with_reducible apply wL); exact rfl) | ((with_reducible apply wM); exact rfl)); all_goals (try ((with_reducible intro h); first | (exact absurd h (by decide)) | (try simp only [go_sem, simprocAttr, hb] at h)))) | omega | ((first | first | refine acall_simple hX hC hP (turns_spec ds row (row.getD i (0, 0, 0)).2.2 (row.getD j (0, 0, 0)).2.2 hl) rfl rfl rfl (by simp only [go_sem, simprocAttr, hb]) rfl ?_); try simp only [go_sem, simprocAttr, hb]) | (intro h))
    exact (anyR_no hg).symm
end Go.Ab
end
section
namespace Go.Ab
open Go.Proofs
attribute [local congr] ACall.congr
set_option maxRecDepth 10000
set_option maxHeartbeats 8000000

def T4 (row : List It) (a b c d : Nat) : Prop := 0 ≤ (row.getD a (0, 0, 0)).2.2 ∧ 0 ≤ (row.getD b (0, 0, 0)).2.2 ∧ (row.getD a (0, 0, 0)).2.2 ≠ (row.getD b (0, 0, 0)).2.2 ∧ (row.getD a (0, 0, 0)).2.2 = (row.getD c (0, 0, 0)).2.2 ∧ (row.getD b (0, 0, 0)).2.2 = (row.getD d (0, 0, 0)).2.2
def TanP (row : List It) : Prop := ∃ a b c d, a < b ∧ b < c ∧ c < d ∧ d < row.length ∧ T4 row a b c d
theorem rTang_spec (g : Gr) (f : Fr) (hl : f.row.length ≤ 1000000) (res : Bool) (hr : res = true ↔ TanP f.row) : Spec Try.prog 50 (Args [.ptr 10000 0]) [(10000, .rob (rfC g f))] (eB res) [(10000, .rob (rfC g f))] := by
  unfold rfC
  (refine Spec.intro (C := T.cfg [] []) (rs := [.t 2]) (T.cfg_ok _ _) Try.func50 rfl rfl Try.ntmps50 Try.results50 (by simp [AObj.isNest]) (by simp [AObj.isNest]) (by kernel_rfl) ?_; intro X hX hP hC hXn hXm vals hA; refine ⟨_, by simp, hA, ?_⟩; have hmix : X.P.follows .mixedOrders = true := (by rw [hP]; exact T.mixed); clear hXn hXm)
  repeat' (first | fail | ((first | ((with_reducible (first | apply oA | apply oB)); exact rfl; intro K hK) | (refine hK _ ?_; clear hK K) | ((with_reducible (first | apply oG | apply oH)); iterate 3 exact rfl) | ((with_reducible apply oI); (iterate 2 exact rfl); intro K hK) | (with_reducible (first | apply wI | apply wJ | apply wK))); try simp only [go_sem, simprocAttr]) | fail | (with_reducible (first | apply oC | apply oJ | exact oK | apply wA | apply wB | apply wC hX hC | apply wD hX hC | apply wE hX hC hmix | apply wF hX hC hmix | apply wG | apply wH | apply And.intro)) | ((with_reducible refine oD ?_ ?_); first | fail | kernel_rfl) | ((with_reducible (first | apply oE | apply oF)); (iterate 3 exact rfl); all_goals (intro h; first | (exact absurd h (by decide)) | ((try simp only [go_sem, simprocAttr] at h); (try with_reducible intro K hK); simp only [go_sem, simprocAttr]))) | ((first | ((with_reducible apply wL); exact rfl) | ((with_reducible apply wM); exact rfl)); all_goals (try ((with_reducible intro h); first | (exact absurd h (by decide)) | (try simp only [go_sem, simprocAttr] at h)))) | omega | ((first | fail); try simp only [go_sem, simprocAttr]) | (intro h))
  refine awp_loopP (fun a : Nat => a ≤ f.row.length ∧ ∀ a' b c d, a' < a → a' < b → b < c → c < d → d < f.row.length → ¬ T4 f.row a' b c d) (fun a => ⟨[(3, .d (sT f.row)), (4, eN a)], [(10000, .rob [eN g.n, .d (sE g.es), .d (sT f.row), .d (sI f.pl)])]⟩) (fun a => f.row.length - a) 0 (by simp) ?_ ?_
  · (refine Le.of ?_ ?_ <;> simp [go_sem, simprocAttr])
  rintro a ⟨ha, hga⟩
  rcases Nat.lt_or_ge a f.row.length with hal | hge
  · have hb : decide ((a : Int) < (f.row.length : Int)) = true := decide_eq_true (by omega)
    repeat' (first | fail | ((first | ((with_reducible (first | apply oA | apply oB)); exact rfl; intro K hK) | (refine hK _ ?_; clear hK K) | ((with_reducible (first | apply oG | apply oH)); iterate 3 exact rfl) | ((with_reducible apply oI); (iterate 2 exact rfl); intro K hK) | (with_reducible (first | apply wI | apply wJ | apply wK))); try simp only [go_sem, simprocAttr, hb]) | fail | (with_reducible (first | apply oC | apply oJ | exact oK | apply wA | apply wB | apply wC hX hC | apply wD hX hC | apply wE hX hC hmix | apply wF hX hC hmix | apply wG | apply wH | apply And.intro)) | ((with_reducible refine oD ?_ ?_); first | fail | kernel_rfl) | ((with_reducible (first | apply oE | apply oF)); (iterate 3 exact rfl); all_goals (intro h; first | (exact absurd h (by decide)) | ((try simp only [go_sem, simprocAttr, hb] at h); (try with_reducible intro K hK); simp only [go_sem, simprocAttr, hb]))) | ((first | ((with_reducible apply wL); exact rfl) | ((with_reducible apply wM); exact rfl)); all_goals (try ((with_reducible intro h); first | (exact absurd h (by decide)) | (try simp only [go_sem, simprocAttr, hb] at h)))) | omega | ((first | fail); try simp only [go_sem, simprocAttr, hb]) | (intro h))
    clear hb
    refine awp_loopP (fun b : Nat => (a < b ∧ b ≤ f.row.length) ∧ ∀ b' c d, a < b' → b' < b → b' < c → c < d → d < f.row.length → ¬ T4 f.row a b' c d) (fun b => ⟨[(3, .d (sT f.row)), (4, eN a), (5, eN b)], [(10000, .rob [eN g.n, .d (sE g.es), .d (sT f.row), .d (sI f.pl)])]⟩) (fun b => f.row.length - b) (a + 1) ⟨⟨by omega, by omega⟩, fun b' c d h1 h2 => by omega⟩ ?_ ?_
    · refine Le.of ?_ ?_ <;> simp [go_sem, simprocAttr]
    rintro b ⟨⟨hab, hb1⟩, hgb⟩
    rcases Nat.lt_or_ge b f.row.length with hbl | hge
    · have hb : decide ((b : Int) < (f.row.length : Int)) = true := decide_eq_true (by omega)
      repeat' (first | fail | ((first | ((with_reducible (first | apply oA | apply oB)); exact rfl; intro K hK) | (refine hK _ ?_; clear hK K) | ((with_reducible (first | apply oG | apply oH)); iterate 3 exact rfl) | ((with_reducible apply oI); (iterate 2 exact rfl); intro K hK) | (with_reducible (first | apply wI | apply wJ | apply wK))); try simp only [go_sem, simprocAttr, hb]) | fail | (with_reducible (first | apply oC | apply oJ | exact oK | apply wA | apply wB | apply wC hX hC | apply wD hX hC | apply wE hX hC hmix | apply wF hX hC hmix | apply wG | apply wH | apply And.intro)) | ((with_reducible refine oD ?_ ?_); first | fail | kernel_rfl) | ((with_reducible (first | apply oE | apply oF)); (iterate 3 exact rfl); all_goals (intro h; first | (exact absurd h (by decide)) | ((try simp only [go_sem, simprocAttr, hb] at h); (try with_reducible intro K hK); simp only [go_sem, simprocAttr, hb]))) | ((first | ((with_reducible apply wL); exact rfl) | ((with_reducible apply wM); exact rfl)); all_goals (try ((with_reducible intro h); first | (exact absurd h (by decide)) | (try simp only [go_sem, simprocAttr, hb] at h)))) | omega | ((first | fail); try simp only [go_sem, simprocAttr, hb]) | (intro h))
      clear hb
      refine awp_loopP (fun c : Nat => (b < c ∧ c ≤ f.row.length) ∧ ∀ c' d, b < c' → c' < c → c' < d → d < f.row.length → ¬ T4 f.row a b c' d) (fun c => ⟨[(3, .d (sT f.row)), (4, eN a), (5, eN b), (6, eN c)], [(10000, .rob [eN g.n, .d (sE g.es), .d (sT f.row), .d (sI f.pl)])]⟩) (fun c => f.row.length - c) (b + 1) ⟨⟨by omega, by omega⟩, fun c' d h1 h2 => by omega⟩ ?_ ?_
      · refine Le.of ?_ ?_ <;> simp [go_sem, simprocAttr]
      rintro c ⟨⟨hbc, hc1⟩, hgc⟩
      rcases Nat.lt_or_ge c f.row.length with hcl | hge
      · have hb : decide ((c : Int) < (f.row.length : Int)) = true := decide_eq_true (by omega)
        repeat' (first | fail | ((first | ((with_reducible (first | apply oA | apply oB)); exact rfl; intro K hK) | (refine hK _ ?_; clear hK K) | ((with_reducible (first | apply oG | apply oH)); iterate 3 exact rfl) | ((with_reducible apply oI); (iterate 2 exact rfl); intro K hK) | (with_reducible (first | apply wI | apply wJ | apply wK))); try simp only [go_sem, simprocAttr, hb]) | fail | (with_reducible (first | apply oC | apply oJ | exact oK | apply wA | apply wB | apply wC hX hC | apply wD hX hC | apply wE hX hC hmix | apply wF hX hC hmix | apply wG | apply wH | apply And.intro)) | ((with_reducible refine oD ?_ ?_); first | fail | kernel_rfl) | ((with_reducible (first | apply oE | apply oF)); (iterate 3 exact rfl); all_goals (intro h; first | (exact absurd h (by decide)) | ((try simp only [go_sem, simprocAttr, hb] at h); (try with_reducible intro K hK); simp only [go_sem, simprocAttr, hb]))) | ((first | ((with_reducible apply wL); exact rfl) | ((with_reducible apply wM); exact rfl)); all_goals (try ((with_reducible intro h); first | (exact absurd h (by decide)) | (try simp only [go_sem, simprocAttr, hb] at h)))) | omega | ((first | fail); try simp only [go_sem, simprocAttr, hb]) | (intro h))
        clear hb
        refine awp_loopP (fun d : Nat => (c < d ∧ d ≤ f.row.length) ∧ ∀ d', c < d' → d' < d → ¬ T4 f.row a b c d') (fun d => ⟨[(3, .d (sT f.row)), (4, eN a), (5, eN b), (6, eN c), (7, eN d)], [(10000, .rob [eN g.n, .d (sE g.es), .d (sT f.row), .d (sI f.pl)])]⟩) (fun d => f.row.length - d) (c + 1) ⟨⟨by omega, by omega⟩, fun d' h1 h2 => by omega⟩ ?_ ?_
        · refine Le.of ?_ ?_ <;> simp [go_sem, simprocAttr]
        rintro d ⟨⟨hcd, hd1⟩, hgd⟩
        rcases Nat.lt_or_ge d f.row.length with hdl | hge
        · have hb : decide ((d : Int) < (f.row.length : Int)) = true := decide_eq_true (by omega)
          have step : ¬ T4 f.row a b c d → ∀ d', c < d' → d' < d + 1 → ¬ T4 f.row a b c d' := fun h d' h1 h2 => by
            by_cases e : d' = d
            · subst e; exact h
            · exact hgd d' h1 (by omega)
          repeat' (first | fail | ((first | ((with_reducible (first | apply oA | apply oB)); exact rfl; intro K hK) | (refine hK _ ?_; clear hK K) | ((with_reducible (first | apply oG | apply oH)); iterate 3 exact rfl) | ((with_reducible apply oI); (iterate 2 exact rfl); intro K hK) | (with_reducible (first | apply wI | apply wJ | apply wK))); try simp only [go_sem, simprocAttr, hb]) | fail | (with_reducible (first | apply oC | apply oJ | exact oK | apply wA | apply wB | apply wC hX hC | apply wD hX hC | apply wE hX hC hmix | apply wF hX hC hmix | apply wG | apply wH | apply And.intro)) | ((with_reducible refine oD ?_ ?_); first | fail | kernel_rfl) | ((with_reducible (first | apply oE | apply oF)); (iterate 3 exact rfl); all_goals (intro h; first | (exact absurd h (by decide)) | ((try simp only [go_sem, simprocAttr, hb] at h); (try with_reducible intro K hK); simp only [go_sem, simprocAttr, hb]))) | ((first | ((with_reducible apply wL); exact rfl) | ((with_reducible apply wM); exact rfl)); all_goals (try ((with_reducible intro h); first | (exact absurd h (by decide)) | (try simp only [go_sem, simprocAttr, hb] at h)))) | omega | ((first | fail); try simp only [go_sem, simprocAttr, hb]) | (intro h))
          all_goals (first | exact (hr.2 ⟨a, b, c, d, hab, hbc, hcd, hdl, by assumption, by assumption, by assumption, by assumption, by assumption⟩).symm | skip)
          all_goals (refine ⟨d + 1, ⟨⟨by omega, by omega⟩, step (fun hh => by obtain ⟨_, _, _, _, _⟩ := hh; contradiction)⟩, ?_, by omega⟩; (refine Le.of ?_ ?_ <;> simp [go_sem, simprocAttr, hb]))
        · have hb : decide ((d : Int) < (f.row.length : Int)) = false := decide_eq_false (by omega)
          repeat' (first | fail | ((first | ((with_reducible (first | apply oA | apply oB)); exact rfl; intro K hK) | (refine hK _ ?_; clear hK K) | ((with_reducible (first | apply oG | apply oH)); iterate 3 exact rfl) | ((with_reducible apply oI); (iterate 2 exact rfl); intro K hK) | (with_reducible (first | apply wI | apply wJ | apply wK))); try simp only [go_sem, simprocAttr, hb]) | fail | (with_reducible (first | apply oC | apply oJ | exact oK | apply wA | apply wB | apply wC hX hC | apply wD hX hC | apply wE hX hC hmix | apply wF hX hC hmix | apply wG | apply wH | apply And.intro)) | ((with_reducible refine oD ?_ ?_); first | fail | kernel_rfl) | ((with_reducible (first | apply oE | apply oF)); (iterate 3 exact rfl); all_goals (intro h; first | (exact absurd h (by decide)) | ((try simp only [go_sem, simprocAttr, hb] at h); (try with_reducible intro K hK); simp only [go_sem, simprocAttr, hb]))) | ((first | ((with_reducible apply wL); exact rfl) | ((with_reducible apply wM); exact rfl)); all_goals (try ((with_reducible intro h); first | (exact absurd h (by decide)) | (try simp only [go_sem, simprocAttr, hb] at h)))) | omega | ((first | fail); try simp only [go_sem, simprocAttr, hb]) | (intro h))
          refine ⟨c + 1, ⟨⟨by omega, by omega⟩, fun c' d' h1 h2 h3 h4 => ?_⟩, ?_, by omega⟩
          · by_cases e : c' = c
            · subst e; exact hgd d' h3 (by omega)
            · exact hgc c' d' h1 (by omega) h3 h4
          · (refine Le.of ?_ ?_ <;> simp [go_sem, simprocAttr, hb])
      · have hb : decide ((c : Int) < (f.row.length : Int)) = false := decide_eq_false (by omega)
        repeat' (first | fail | ((first | ((with_reducible (first | apply oA | apply oB)); exact rfl; intro K hK) | (refine hK _ ?_; clear hK K) | ((with_reducible (first | apply oG | apply oH)); iterate 3 exact rfl) | ((with_reducible apply oI); (iterate 2 exact rfl); intro K hK) | (with_reducible (first | apply wI | apply wJ | apply wK))); try simp only [go_sem, simprocAttr, hb]) | fail | (with_reducible (first | apply oC | apply oJ | exact oK | apply wA | apply wB | apply wC hX hC | apply wD hX hC | apply wE hX hC hmix | apply wF hX hC hmix | apply wG | apply wH | apply And.intro)) | ((with_reducible refine oD ?_ ?_); first | fail | kernel_rfl) | ((with_reducible (first | apply oE | apply oF)); (iterate 3 exact rfl); all_goals (intro h; first | (exact absurd h (by decide)) | ((try simp only [go_sem, simprocAttr, hb] at h); (try with_reducible intro K hK); simp only [go_sem, simprocAttr, hb]))) | ((first | ((with_reducible apply wL); exact rfl) | ((with_reducible apply wM); exact rfl)); all_goals (try ((with_reducible intro h); first | (exact absurd h (by decide)) | (try simp only [go_sem, simprocAttr, hb] at h)))) | omega | ((first | fail); try simp only [go_sem, simprocAttr, hb]) | (intro h))
        refine ⟨b + 1, ⟨⟨by omega, by omega⟩, fun b' c' d' h1 h2 h3 h4 h5 => ?_⟩, ?_, by omega⟩
        · by_cases e : b' = b
          · subst e; exact hgc c' d' h3 (by omega) h4 h5
          · exact hgb b' c' d' h1 (by omega) h3 h4 h5
        · (refine Le.of ?_ ?_ <;> simp [go_sem, simprocAttr, hb])
    · have hb : decide ((b : Int) < (f.row.length : Int)) = false := decide_eq_false (by omega)
      repeat' (first | fail | ((first | ((with_reducible (first | apply oA | apply oB)); exact rfl; intro K hK) | (refine hK _ ?_; clear hK K) | ((with_reducible (first | apply oG | apply oH)); iterate 3 exact rfl) | ((with_reducible apply oI); (iterate 2 exact rfl); intro K hK) | (with_reducible (first | apply wI | apply wJ | apply wK))); try simp only [go_sem, simprocAttr, hb]) | fail | (with_reducible (first | apply oC | apply oJ | exact oK | apply wA | apply wB | apply wC hX hC | apply wD hX hC | apply wE hX hC hmix | apply wF hX hC hmix | apply wG | apply wH | apply And.intro)) | ((with_reducible refine oD ?_ ?_); first | fail | kernel_rfl) | ((with_reducible (first | apply oE | apply oF)); (iterate 3 exact rfl); all_goals (intro h; first | (exact absurd h (by decide)) | ((try simp only [go_sem, simprocAttr, hb] at h); (try with_reducible intro K hK); simp only [go_sem, simprocAttr, hb]))) | ((first | ((with_reducible apply wL); exact rfl) | ((with_reducible apply wM); exact rfl)); all_goals (try ((with_reducible intro h); first | (exact absurd h (by decide)) | (try simp only [go_sem, simprocAttr, hb] at h)))) | omega | ((first | fail); try simp only [go_sem, simprocAttr, hb]) | (intro h))
      refine ⟨a + 1, ⟨by omega, fun a' b' c' d' h1 h2 h3 h4 h5 => ?_⟩, ?_, by omega⟩
      · by_cases e : a' = a
        · subst e; exact hgb b' c' d' h2 (by omega) h3 h4 h5
        · exact hga a' b' c' d' (by omega) h2 h3 h4 h5
      · (refine Le.of ?_ ?_ <;> simp [go_sem, simprocAttr, hb])
  · have hb : decide ((a : Int) < (f.row.length : Int)) = false := decide_eq_false (by omega)
    repeat' (first | fail | ((first | ((with_reducible (first | apply oA | apply oB)); exact rfl; intro K hK) | (refine hK _ ?_; clear hK K) | ((with_reducible (first | apply oG | apply oH)); iterate 3 exact rfl) | ((with_reducible apply oI); (iterate 2 exact rfl); intro K hK) | (with_reducible (first | apply wI | apply wJ | apply wK))); try simp only [go_sem, simprocAttr, hb]) | fail | (with_reducible (first | apply oC | apply oJ | exact oK | apply wA | apply wB | apply wC hX hC | apply wD hX hC | apply wE hX hC hmix | apply wF hX hC hmix | apply wG | apply wH | apply And.intro)) | ((with_reducible refine oD ?_ ?_); first | fail | kernel_rfl) | ((with_reducible (first | apply oE | apply oF)); (iterate 3 exact rfl); all_goals (intro h; first | (exact absurd h (by decide)) | ((try simp only [go_sem, simprocAttr, hb] at h); (try with_reducible intro K hK); simp only [go_sem, simprocAttr, hb]))) | ((first | ((with_reducible apply wL); exact rfl) | ((with_reducible apply wM); exact rfl)); all_goals (try ((with_reducible intro h); first | (exact absurd h (by decide)) | (try simp only [go_sem, simprocAttr, hb] at h)))) | omega | ((first | fail); try simp only [go_sem, simprocAttr, hb]) | (intro h))
    symm
    rw [← Bool.not_eq_true]
    intro hh
    obtain ⟨a', b', c', d', h1, h2, h3, h4, h5⟩ := hr.1 hh
    exact hga a' b' c' d' (by omega) h1 h2 h3 h4 h5
end Go.Ab
end
section
namespace Go.Ab
open Go.Proofs
set_option maxRecDepth 10000

theorem rReady_perm {g : Gr} {f f' : Fr} (hr : f.row = f'.row) (hp : f.pl.Perm f'.pl) (x : Int) : rReadyF g f x = rReadyF g f' x := by
  unfold rReadyF
  rw [hr]
  by_cases h : x < 0 ∨ g.n ≤ x ∨ x ∈ f.pl
  · rw [if_pos h, if_pos (by rw [← hp.mem_iff]; exact h)]
  · have h' : ¬ (x < 0 ∨ g.n ≤ x ∨ x ∈ f'.pl) := by rw [← hp.mem_iff]; exact h
    rw [if_neg h, if_neg h']
theorem canN_perm {g : Gr} : ∀ {m : Nat} {f f' : Fr}, f.row = f'.row → f.pl.Perm f'.pl → canN g m f = canN g m f'
  | 0, f, f', _, hp => by simp only [canN, hp.length_eq]
  | m + 1, f, f', hr, hp => by
    simp only [canN, hp.length_eq]
    congr 1
    congr 1
    funext x
    rw [rReady_perm hr hp]
    congr 1
    congr 1
    funext o
    refine canN_perm ?_ ?_
    · simp only [succF, hr]
    · exact hp.append_right _
theorem ordN_perm {g : Gr} {x : Int} {o : List Int} (ho : o ∈ ordN (outZ g x).length (outZ g x)) : o.Perm (outZ g x) :=
  pigeonP endsZ_nodup (ordN_all rfl ho) (ordN_mem rfl ho)
theorem canN_next {g : Gr} {m : Nat} {f : Fr} : canN g (m + 1) f = true ↔ (f.pl.length : Int) = g.n ∨ ∃ x : Nat, x < g.n.toNat ∧ rReadyF g f x = true ∧ ∃ o ∈ ordN (outZ g x).length (outZ g x), canN g m (succF g f x o).2 = true := by
  simp only [canN, Bool.or_eq_true, decide_eq_true_eq, List.any_eq_true, List.mem_range, Bool.and_eq_true]
theorem nodup_lenX : ∀ {l m : List Int}, l.Nodup → (∀ i ∈ l, i ∈ m) → l.length ≤ m.length
  | [], _, _, _ => by simp
  | a :: l, m, hn, hs => by
    rw [List.nodup_cons] at hn
    have ha := hs a (List.mem_cons_self ..)
    have := nodup_lenX hn.2 (m := m.erase a) fun i hi => (List.mem_erase_of_ne (fun e : i = a => hn.1 (e ▸ hi))).2 (hs i (List.mem_cons_of_mem _ hi))
    rw [List.length_erase_of_mem ha] at this
    have := List.length_pos_of_mem ha
    rw [List.length_cons]; omega
theorem full_none {g : Gr} {f : Fr} (hi : FrInv g f) (hf : (f.pl.length : Int) = g.n) {x : Int} (hx : 0 ≤ x ∧ x < g.n) : x ∈ f.pl := by
  refine Decidable.byContradiction fun h => ?_
  have h1 : (x :: f.pl).Nodup := List.nodup_cons.2 ⟨h, hi.pl⟩
  have h2 : ((List.range g.n.toNat).map Int.ofNat).length = g.n.toNat := by simp
  have h3 := nodup_lenX h1 (m := (List.range g.n.toNat).map Int.ofNat) (fun y hy => by
    rw [List.mem_map]
    have : 0 ≤ y ∧ y < g.n := by
      rcases List.mem_cons.1 hy with h | h
      · rw [h]; exact hx
      · exact hi.rng y h
    exact ⟨y.toNat, List.mem_range.2 (by omega), by simp; omega⟩)
  rw [h2, List.length_cons] at h3
  omega
theorem any_can {g : Gr} (hc : (chkG g).1 = 0) : ∀ {m : Nat} {f : Fr}, FrI g f → (f.pl.length : Int) + (m + 1 : Nat) = g.n → canN g (m + 1) f = true → ∀ {x : Int}, rReadyF g f x = true →
    ∃ o ∈ ordN (outZ g x).length (outZ g x), canN g m (succF g f x o).2 = true
  | m, f, hi, hl, hcan, x, hR => by
    have hm := good_may hc
    rw [canN_next] at hcan
    rcases hcan with h | ⟨y, hy, hRy, b, hb, hcan⟩
    · omega
    by_cases hxy : x = (y : Int)
    · subst hxy; exact ⟨b, hb, hcan⟩
    match m, hl, hcan with
    | 0, hl, hcan =>
      exfalso
      have i2 := succ_frI hm hi hRy (ordN_perm hb)
      have h1 := full_none i2.toFrInv (by show ((f.pl ++ [(y : Int)]).length : Int) = g.n; simp; omega) (x := x) ⟨(ready_rng hR).1, (ready_rng hR).2.1⟩
      have h2 : x ∈ f.pl ++ [(y : Int)] := h1
      simp [(ready_rng hR).2.2, hxy] at h2
    | m + 1, hl, hcan =>
      have i2 := succ_frI hm hi hRy (ordN_perm hb)
      have hself : ∃ a, a ∈ ordN (outZ g x).length (outZ g x) := by
        have : (ordN (outZ g x).length (outZ g x)).length = fac (outZ g x).length := ordN_len rfl
        have h0 : ∀ n, 0 < fac n := fun n => by
          induction n with
          | zero => decide
          | succ n ih => exact Nat.mul_pos (by omega) ih
        have h1 := h0 (outZ g x).length
        rw [← this] at h1
        exact ⟨_, List.getElem_mem h1⟩
      obtain ⟨a0, ha0⟩ := hself
      have hRx2 := (swap_good hc hi hxy hR hRy (ordN_perm ha0) (ordN_perm hb)).2.1
      obtain ⟨a, ha, h3⟩ := any_can hc i2 (by show (((f.pl ++ [(y : Int)]).length : Nat) : Int) + _ = _; simp; omega) hcan hRx2
      obtain ⟨h4, _, h5, _⟩ := swap_good hc hi hxy hR hRy (ordN_perm ha) (ordN_perm hb)
      refine ⟨a, ha, canN_next.2 (.inr ⟨y, hy, h4, b, hb, ?_⟩)⟩
      rw [← h3]
      refine canN_perm h5 ?_
      show (f.pl ++ [x] ++ [(y : Int)]).Perm (f.pl ++ [(y : Int)] ++ [x])
      rw [List.append_assoc, List.append_assoc]
      exact List.Perm.append_left _ (List.Perm.swap ..)
/-- Heads by turns, in a row. -/
def Tg (a b : Int) (row : List It) : Prop := ∃ l : List It, l.Sublist row ∧ l.map (fun t => t.2.2) = [a, b, a, b]
def isAB (a b : Int) (t : It) : Bool := decide (t.2.2 = a) || decide (t.2.2 = b)
theorem Tg.filt {a b : Int} {row : List It} : Tg a b row ↔ Tg a b (row.filter (isAB a b)) := by
  constructor
  · rintro ⟨l, h, e⟩
    refine ⟨l, ?_, e⟩
    have h1 := h.filter (isAB a b)
    rw [List.filter_eq_self.2] at h1
    · exact h1
    · intro t ht
      have : t.2.2 ∈ l.map (fun t => t.2.2) := List.mem_map.2 ⟨t, ht, rfl⟩
      rw [e] at this
      simp only [isAB, Bool.or_eq_true, decide_eq_true_eq]
      simp only [List.mem_cons, List.not_mem_nil, or_false] at this
      omega
  · rintro ⟨l, h, e⟩
    exact ⟨l, h.trans List.filter_sublist, e⟩
theorem Tg.keep {a b x : Int} (ha : 0 ≤ a) (hb : 0 ≤ b) (hax : a ≠ x) (hbx : b ≠ x) {A X C u : List It} (hX : ∀ t ∈ X, t.2.2 = x ∨ t.2.2 = -1) (h : Tg a b (A ++ X ++ C)) : Tg a b (A ++ u ++ C) := by
  rw [Tg.filt] at h ⊢
  obtain ⟨l, h, e⟩ := h
  refine ⟨l, h.trans ?_, e⟩
  rw [List.filter_append, List.filter_append, List.filter_append, List.filter_append]
  have : X.filter (isAB a b) = [] := List.filter_eq_nil_iff.2 fun t ht => by
    simp only [isAB, Bool.or_eq_true, decide_eq_true_eq]
    rcases hX t ht with h | h <;> omega
  rw [this, List.append_nil]
  exact List.Sublist.append_right (List.sublist_append_left _ _) _
theorem Tg.not {a b x : Int} (hab : a ≠ b) (hb0 : 0 ≤ b) (ha0 : 0 ≤ a) (hx : x = a ∨ x = b) {A X C : List It} (hA : NoH x A) (hC : NoH x C) (hX : ∀ t ∈ X, t.2.2 = x ∨ t.2.2 = -1) : ¬ Tg a b (A ++ X ++ C) := by
  rintro ⟨l, h, e⟩
  rw [List.append_assoc, List.sublist_append_iff] at h
  obtain ⟨l1, l', rfl, h1, h'⟩ := h
  rw [List.sublist_append_iff] at h'
  obtain ⟨l2, l3, rfl, h2, h3⟩ := h'
  have k1 : ∀ t ∈ l1, t.2.2 ≠ x := fun t ht => hA t (h1.subset ht)
  have k2 : ∀ t ∈ l2, t.2.2 = x ∨ t.2.2 = -1 := fun t ht => hX t (h2.subset ht)
  have k3 : ∀ t ∈ l3, t.2.2 ≠ x := fun t ht => hC t (h3.subset ht)
  clear h1 h2 h3
  match l1, k1, e with
  | t1 :: t2 :: _, k1, e =>
    simp only [List.cons_append, List.map_cons, List.cons.injEq] at e
    rcases hx with h | h
    · exact k1 t1 (by simp) (by omega)
    · exact k1 t2 (by simp) (by omega)
  | [t1], k1, e =>
    simp only [List.cons_append, List.nil_append, List.map_cons, List.cons.injEq] at e
    rcases hx with h | h
    · exact k1 t1 (by simp) (by omega)
    · match l2, k2, e with
      | [], _, e =>
        match l3, k3, e with
        | [s1, s2, s3], k3, e =>
          simp only [List.nil_append, List.map_cons, List.map_nil, List.cons.injEq, and_true] at e
          exact k3 s1 (by simp) (by omega)
        | [], _, e => simp at e
        | [_], _, e => simp at e
        | [_, _], _, e => simp at e
        | _ :: _ :: _ :: _ :: _, _, e => simp at e
      | s1 :: s2 :: _, k2, e =>
        simp only [List.cons_append, List.map_cons, List.cons.injEq] at e
        rcases k2 s2 (by simp) with h | h <;> omega
      | [s1], k2, e =>
        match l3, k3, e with
        | [u1, u2], k3, e =>
          simp only [List.cons_append, List.nil_append, List.map_cons, List.map_nil, List.cons.injEq, and_true] at e
          exact k3 u2 (by simp) (by omega)
        | [], _, e => simp at e
        | [_], _, e => simp at e
        | _ :: _ :: _ :: _, _, e => simp at e
  | [], _, e =>
    simp only [List.nil_append] at e
    match l2, k2, e with
    | [], _, e =>
      match l3, k3, e with
      | [], _, e => simp at e
      | [_], _, e => simp at e
      | s1 :: s2 :: _, k3, e =>
        simp only [List.nil_append, List.map_cons, List.cons.injEq] at e
        rcases hx with h | h
        · exact k3 s1 (by simp) (by omega)
        · exact k3 s2 (by simp) (by omega)
    | s1 :: s2 :: _, k2, e =>
      simp only [List.cons_append, List.map_cons, List.cons.injEq] at e
      have q1 := k2 s1 (by simp)
      have q2 := k2 s2 (by simp)
      omega
    | [s1], k2, e =>
      match l3, k3, e with
      | [], _, e => simp at e
      | [_], _, e => simp at e
      | [_, _], _, e => simp at e
      | u1 :: u2 :: u3 :: _, k3, e =>
        simp only [List.cons_append, List.nil_append, List.map_cons, List.cons.injEq] at e
        have q1 := k2 s1 (by simp)
        exact k3 u2 (by simp) (by omega)
/-- Where edges stand by turns never all vertices are placed. -/
theorem tg_can {g : Gr} (hm : mayB g = true) {a b : Int} (hab : a ≠ b) (ha : 0 ≤ a) (hb : 0 ≤ b) : ∀ {m : Nat} {f : Fr}, FrI g f → Tg a b f.row → canN g m f = false := by
  have full : ∀ {f : Fr}, FrI g f → Tg a b f.row → (f.pl.length : Int) ≠ g.n := fun {f} hi ht hf => by
    obtain ⟨l, h, e⟩ := ht
    match l, h, e with
    | t :: _, h, e =>
      simp only [List.map_cons, List.cons.injEq] at e
      have hmem := h.subset (List.mem_cons_self ..)
      rcases hi.it t hmem with ⟨_, h2⟩ | ⟨h1, h2, _, h4⟩
      · omega
      · have hr := (mayB_e hm (k := t.1.toNat) (by omega)).2
        rw [← h4] at hr
        exact hi.head t hmem h1 (full_none hi.toFrInv hf hr)
    | [], _, e => simp at e
  intro m
  induction m with
  | zero => intro f hi ht; exact decide_eq_false (full hi ht)
  | succ m ih =>
    intro f hi ht
    rw [← Bool.not_eq_true, canN_next]
    rintro (h | ⟨x, hx, hR, o, ho, hcan⟩)
    · exact full hi ht h
    · obtain ⟨A, X, C, hr, hA, hC, hX, hs⟩ := succ_cases hm hi.toFrInv hR
      rw [hr] at ht
      have hxa : ¬ ((x : Int) = a ∨ (x : Int) = b) := fun h => Tg.not hab hb ha h hA hC hX ht
      have := ih (succ_frI hm hi hR (ordN_perm ho)) (by rw [hs o]; exact Tg.keep ha hb (fun e => hxa (.inl e.symm)) (fun e => hxa (.inr e.symm)) hX ht)
      rw [this] at hcan
      cases hcan
end Go.Ab
end
section
namespace Go.Ab
open Go.Proofs
set_option maxRecDepth 10000

theorem take_getD {row : List It} {k : Nat} (h : k < row.length) : row.take (k + 1) = row.take k ++ [row.getD k (0, 0, 0)] := by
  rw [List.take_add_one, List.getD_eq_getElem?_getD, List.getElem?_eq_getElem h]; rfl
theorem take_sub {row : List It} {i j : Nat} (h : i ≤ j) : (row.take i).Sublist (row.take j) := by
  rw [show row.take i = (row.take j).take i by rw [List.take_take, Nat.min_eq_left h]]
  exact List.take_sublist _ _
theorem sub_snoc {row l : List It} {i j : Nat} (h : l.Sublist (row.take i)) (hij : i ≤ j) (hj : j < row.length) : (l ++ [row.getD j (0, 0, 0)]).Sublist (row.take (j + 1)) := by
  rw [take_getD hj]
  exact List.Sublist.append (h.trans (take_sub hij)) (List.Sublist.refl _)
theorem sub_back {row l : List It} {t : It} : ∀ {k : Nat}, k ≤ row.length → (l ++ [t]).Sublist (row.take k) → ∃ j, j < k ∧ row.getD j (0, 0, 0) = t ∧ l.Sublist (row.take j)
  | 0, _, h => by
    rw [List.take_zero, List.sublist_nil] at h
    simp at h
  | k + 1, hk, h => by
    rw [take_getD (by omega), List.sublist_append_iff] at h
    obtain ⟨a, b, e, h1, h2⟩ := h
    match b, h2, e with
    | [], _, e =>
      rw [List.append_nil] at e
      subst e
      obtain ⟨j, h3, h4, h5⟩ := sub_back (by omega) h1
      exact ⟨j, by omega, h4, h5⟩
    | [s], h2, e =>
      obtain ⟨e1, e2⟩ := List.append_inj' e rfl
      have hs := h2.subset (List.mem_singleton.2 rfl)
      simp only [List.mem_singleton] at hs
      simp only [List.cons.injEq, and_true] at e2
      exact ⟨k, by omega, by rw [e2, hs], by rw [e1]; exact h1⟩
    | _ :: _ :: _, h2, e => have := h2.length_le; simp at this
theorem tanP_tg {row : List It} : TanP row ↔ ∃ a b, 0 ≤ a ∧ 0 ≤ b ∧ a ≠ b ∧ Tg a b row := by
  constructor
  · rintro ⟨a, b, c, d, h1, h2, h3, h4, k1, k2, k3, k4, k5⟩
    refine ⟨_, _, k1, k2, k3, _, ((sub_snoc (i := c + 1) (j := d) (sub_snoc (i := b + 1) (j := c) (sub_snoc (i := a + 1) (j := b) (sub_snoc (i := 0) (j := a) (List.nil_sublist _) (by omega) (by omega)) (by omega) (by omega)) (by omega) (by omega)) (by omega) (by omega)).trans (List.take_sublist _ _)), ?_⟩
    simp only [List.nil_append, List.cons_append, List.map_cons, List.map_nil, ← k4, ← k5]
  · rintro ⟨a, b, ha, hb, hab, l, h, e⟩
    match l, h, e with
    | [t1, t2, t3, t4], h, e =>
      simp only [List.map_cons, List.map_nil, List.cons.injEq, and_true] at e
      obtain ⟨e1, e2, e3, e4⟩ := e
      rw [← List.take_length (l := row)] at h
      obtain ⟨j4, l4, q4, h⟩ := sub_back (l := [t1, t2, t3]) (Nat.le_refl _) h
      obtain ⟨j3, l3, q3, h⟩ := sub_back (l := [t1, t2]) (by omega) h
      obtain ⟨j2, l2, q2, h⟩ := sub_back (l := [t1]) (by omega) h
      obtain ⟨j1, l1, q1, h⟩ := sub_back (l := []) (by omega) h
      exact ⟨j1, j2, j3, j4, l1, l2, l3, l4, by rw [q1, e1]; exact ha, by rw [q2, e2]; exact hb, by rw [q1, q2, e1, e2]; exact hab, by rw [q1, q3, e1, e3], by rw [q2, q4, e2, e4]⟩
    | [], _, e => simp at e
    | [_], _, e => simp at e
    | [_, _], _, e => simp at e
    | [_, _, _], _, e => simp at e
    | _ :: _ :: _ :: _ :: _ :: _, _, e => simp at e
/-- Heads that are a or b, no two behind each other alike; the last one. -/
def Altn (a b : Int) : List It → Prop
  | [] => True
  | [t] => t.2.2 = a ∨ t.2.2 = b
  | s :: t :: l => (s.2.2 = a ∨ s.2.2 = b) ∧ s.2.2 ≠ t.2.2 ∧ Altn a b (t :: l)
/-- The same, from the last one on. -/
theorem turn_has {row : List It} {a b : Int} : ∀ {k : Nat}, k ≤ row.length → ∃ l : List It, l.reverse.Sublist (row.take k) ∧ Altn a b l ∧ (l.length : Int) = (turnK row a b k).2 ∧ ((l.head?.map fun t => t.2.2).getD (-1)) = (turnK row a b k).1
  | 0, _ => ⟨[], by simp, trivial, rfl, rfl⟩
  | k + 1, hk => by
    obtain ⟨l, h1, h2, h3, h4⟩ := turn_has (row := row) (a := a) (b := b) (k := k) (by omega)
    rw [turnK_next]
    split
    · rename_i h
      refine ⟨row.getD k (0, 0, 0) :: l, by rw [List.reverse_cons]; exact sub_snoc h1 (Nat.le_refl _) (by omega), ?_, by simp only [List.length_cons]; omega, by simp⟩
      match l, h2, h4 with
      | [], _, _ => exact h.1
      | s :: l, h2, h4 =>
        refine ⟨h.1, fun e => h.2 ?_, h2⟩
        rw [← h4, e]; rfl
    · exact ⟨l, h1.trans (take_sub (by omega)), h2, h3, h4⟩
theorem turn_most {row : List It} {a b : Int} (ha : a ≠ -1) (hb : b ≠ -1) : ∀ {k : Nat}, k ≤ row.length → ∀ l : List It, l.reverse.Sublist (row.take k) → Altn a b l → (l.length : Int) ≤ (turnK row a b k).2 ∧ ((l.length : Int) = (turnK row a b k).2 → ((l.head?.map fun t => t.2.2).getD (-1)) = (turnK row a b k).1)
  | 0, _, l, h, _ => by
    rw [List.take_zero, List.sublist_nil] at h
    have : l = [] := by simpa using h
    subst this
    simp [turnK]
  | k + 1, hk, l, h, hl => by
    have hnx := turnK_next (row := row) (a := a) (b := b) (k := k)
    rw [take_getD (by omega), List.sublist_append_iff] at h
    obtain ⟨u, v, e, h1, h2⟩ := h
    match v, h2, e with
    | [], _, e =>
      rw [List.append_nil] at e
      subst e
      obtain ⟨h3, h4⟩ := turn_most ha hb (k := k) (by omega) l h1 hl
      rw [hnx]
      split
      · exact ⟨by simp only; omega, fun h => by simp only at h; omega⟩
      · exact ⟨h3, h4⟩
    | [s], h2, e =>
      have hs := h2.subset (List.mem_singleton.2 rfl)
      simp only [List.mem_singleton] at hs
      subst hs
      match l, hl, e with
      | [], _, e => simp at e
      | t :: l, hl, e =>
        rw [List.reverse_cons] at e
        obtain ⟨e1, e2⟩ := List.append_inj' e rfl
        simp only [List.cons.injEq, and_true] at e2
        subst e1
        have hl' : Altn a b l := by
          match l, hl with
          | [], _ => trivial
          | _ :: _, hl => exact hl.2.2
        have htab : t.2.2 = a ∨ t.2.2 = b := by
          match l, hl with
          | [], hl => exact hl
          | _ :: _, hl => exact hl.1
        obtain ⟨h3, h4⟩ := turn_most ha hb (k := k) (by omega) l h1 hl'
        rw [hnx, ← e2]
        by_cases hq : t.2.2 = (turnK row a b k).1
        · rw [if_neg (fun h => h.2 hq)]
          have hne : (l.length : Int) ≠ (turnK row a b k).2 := fun h => by
            have h5 := h4 h
            match l, hl with
            | [], _ =>
              have h5 : (-1 : Int) = (turnK row a b k).1 := h5
              rw [← h5] at hq
              rcases htab with h | h
              · exact ha (by rw [← h]; exact hq)
              · exact hb (by rw [← h]; exact hq)
            | s :: _, hl =>
              have h5 : s.2.2 = (turnK row a b k).1 := h5
              exact hl.2.1 (by rw [hq, h5])
          refine ⟨by rw [List.length_cons]; omega, fun _ => ?_⟩
          exact hq
        · rw [if_pos ⟨htab, hq⟩]
          exact ⟨by simp only [List.length_cons]; omega, fun _ => rfl⟩
    | _ :: _ :: _, h2, e => have := h2.length_le; simp at this
theorem turn_tg {row : List It} {a b : Int} (ha : a ≠ -1) (hb : b ≠ -1) (hab : a ≠ b) : 4 ≤ (turnK row a b row.length).2 ↔ (Tg a b row ∨ Tg b a row) := by
  constructor
  · intro h
    obtain ⟨l, h1, h2, h3, _⟩ := turn_has (row := row) (a := a) (b := b) (Nat.le_refl _)
    rw [List.take_length] at h1
    match l, h1, h2, h3 with
    | t4 :: t3 :: t2 :: t1 :: l, h1, h2, _ =>
      have hs : [t1, t2, t3, t4].Sublist row := by
        refine List.Sublist.trans ?_ h1
        simp only [List.reverse_cons, List.append_assoc, List.cons_append, List.nil_append]
        exact List.sublist_append_right _ _
      obtain ⟨q4, n4, q3, n3, q2, n2, hq⟩ := h2
      have q1 : t1.2.2 = a ∨ t1.2.2 = b := by
        match l, hq with
        | [], hq => exact hq
        | _ :: _, hq => exact hq.1
      rcases q1 with h | h
      · refine .inl ⟨_, hs, ?_⟩
        simp only [List.map_cons, List.map_nil, List.cons.injEq, and_true]
        refine ⟨h, ?_, ?_, ?_⟩ <;> omega
      · refine .inr ⟨_, hs, ?_⟩
        simp only [List.map_cons, List.map_nil, List.cons.injEq, and_true]
        refine ⟨h, ?_, ?_, ?_⟩ <;> omega
    | [], _, _, h3 => simp at h3; omega
    | [_], _, _, h3 => simp at h3; omega
    | [_, _], _, _, h3 => simp at h3; omega
    | [_, _, _], _, _, h3 => simp at h3; omega
  · have key : ∀ c d : Int, c ≠ d → (c = a ∨ c = b) → (d = a ∨ d = b) → Tg c d row → 4 ≤ (turnK row a b row.length).2 := by
      rintro c d hcd hc hd ⟨l, h, e⟩
      have := turn_most (row := row) ha hb (Nat.le_refl _) l.reverse (by rw [List.reverse_reverse, List.take_length]; exact h)
      match l, e, this with
      | [t1, t2, t3, t4], e, this =>
        simp only [List.map_cons, List.map_nil, List.cons.injEq, and_true] at e
        obtain ⟨e1, e2, e3, e4⟩ := e
        have := (this (by
          show Altn a b [t4, t3, t2, t1]
          exact ⟨by omega, by omega, by omega, by omega, by omega, by omega, (by omega : t1.2.2 = a ∨ t1.2.2 = b)⟩)).1
        simpa using this
      | [], e, _ => simp at e
      | [_], e, _ => simp at e
      | [_, _], e, _ => simp at e
      | [_, _, _], e, _ => simp at e
      | _ :: _ :: _ :: _ :: _ :: _, e, _ => simp at e
    rintro (h | h)
    · exact key a b hab (.inl rfl) (.inr rfl) h
    · exact key b a (Ne.symm hab) (.inr rfl) (.inl rfl) h
theorem tang_eq {g : Gr} (hm : mayB g = true) {f : Fr} (hi : FrInv g f) : tangF f.row = true ↔ TanP f.row := by
  rw [tanP_tg]
  unfold tangF
  simp only [List.any_eq_true, List.mem_range]
  constructor
  · rintro ⟨i, hi1, j, hj, h⟩
    obtain ⟨⟨⟨h1, h2⟩, h3⟩, h4⟩ := twoB_iff.1 h
    have k1 := ((hi.it _ (getD_memX (d := (0, 0, 0)) hi1)).head hm).2
    have k2 := ((hi.it _ (getD_memX (d := (0, 0, 0)) hj)).head hm).2
    rcases (turn_tg h1 h2 h3).1 h4 with h | h
    · exact ⟨_, _, by omega, by omega, h3, h⟩
    · exact ⟨_, _, by omega, by omega, Ne.symm h3, h⟩
  · rintro ⟨a, b, ha, hb, hab, ht⟩
    have hx : ∀ c, (c = a ∨ c = b) → ∃ i, i < f.row.length ∧ (f.row.getD i (0, 0, 0)).2.2 = c := by
      intro c hc
      obtain ⟨l, h, e⟩ := ht
      have : c ∈ l.map (fun t => t.2.2) := by rw [e]; simp; omega
      obtain ⟨t, ht, rfl⟩ := List.mem_map.1 this
      obtain ⟨i, hi, e⟩ := List.mem_iff_getElem.1 (h.subset ht)
      exact ⟨i, hi, by rw [List.getD_eq_getElem?_getD, List.getElem?_eq_getElem hi, Option.getD_some, e]⟩
    obtain ⟨i, h1, e1⟩ := hx a (.inl rfl)
    obtain ⟨j, h2, e2⟩ := hx b (.inr rfl)
    refine ⟨i, h1, j, h2, twoB_iff.2 ?_⟩
    rw [e1, e2]
    exact ⟨⟨⟨by omega, by omega⟩, hab⟩, (turn_tg (by omega) (by omega) hab).2 (.inl ht)⟩
end Go.Ab
end
section
namespace Go.Ab
open Go.Proofs
set_option maxRecDepth 10000

abbrev Act := Int × List Int
def rA (a : Act) : List D := [.sc (.int .i64 a.1), sI a.2]
def sA (as' : List Act) : D := .sl 2 (as'.map rA)
theorem getD_rA (ps : List Act) (i : Nat) (h : i < ps.length) (d : List D) : (ps.map rA).getD i d = [.sc (.int .i64 (ps.getD i (0, [])).1), sI (ps.getD i (0, [])).2] := by
  simp only [List.getD_eq_getElem?_getD, List.getElem?_map, List.getElem?_eq_getElem h]
  rfl
attribute [go_sem] sA
def actsK (g : Gr) (acts : List Act) : Nat → Fr
  | 0 => ⟨[], []⟩
  | k + 1 => (rPlaceF g (actsK g acts k) (acts.getD k (0, [])).1 (acts.getD k (0, [])).2).2
theorem rPlace_cases (g : Gr) (f : Fr) (x : Int) (o : List Int) : (rPlaceF g f x o).2 = f ∨ (rReadyF g f x = true ∧ o.Perm (outZ g x) ∧ rPlaceF g f x o = succF g f x o) := by
  unfold rPlaceF
  cases hR : rReadyF g f x with
  | false => rw [if_pos rfl]; exact .inl rfl
  | true =>
    rw [if_neg (by simp)]
    by_cases h : o.length ≠ (outZ g x).length ∨ ∃ i ∈ outZ g x, i ∉ o
    · rw [if_pos h]; exact .inl rfl
    · rw [if_neg h]
      refine .inr ⟨rfl, pigeonP endsZ_nodup (fun i hi => Decidable.byContradiction fun e => h (.inr ⟨i, hi, e⟩)) (Decidable.byContradiction fun e => h (.inl e)), rfl⟩
theorem rPlace_inv {g : Gr} (hm : mayB g = true) {f : Fr} (hi : FrI g f) (x : Int) (o : List Int) : FrI g (rPlaceF g f x o).2 ∧ (rPlaceF g f x o).2.row.length ≤ f.row.length + g.es.length + 1 ∧ (rPlaceF g f x o).2.pl.length ≤ f.pl.length + 1 := by
  rcases rPlace_cases g f x o with h | ⟨h1, h2, h3⟩
  · rw [h]; exact ⟨hi, by omega, by omega⟩
  · rw [h3]
    have h4 := succF_len (g := g) (f := f) (x := x) (o := o)
    have h5 := h2.length_eq
    have h6 := outZ_len (g := g) (x := x)
    exact ⟨succ_frI hm hi h1 h2, by omega, by omega⟩
theorem acts_inv {g : Gr} (hm : mayB g = true) (acts : List Act) : ∀ k, FrI g (actsK g acts k) ∧ (actsK g acts k).row.length ≤ k * (g.es.length + 1) ∧ (actsK g acts k).pl.length ≤ k
  | 0 => ⟨frI_new g, by simp [actsK], by simp [actsK]⟩
  | k + 1 => by
    obtain ⟨h1, h2, h3⟩ := acts_inv hm acts k
    obtain ⟨h4, h5, h6⟩ := rPlace_inv hm h1 (acts.getD k (0, [])).1 (acts.getD k (0, [])).2
    exact ⟨h4, by show (rPlaceF _ _ _ _).2.row.length ≤ _; rw [Nat.add_mul]; omega, by show (rPlaceF _ _ _ _).2.pl.length ≤ _; omega⟩
theorem pl_le {g : Gr} {f : Fr} (hi : FrInv g f) : (f.pl.length : Int) ≤ g.n ∨ f.pl = [] := by
  by_cases h : f.pl = []
  · exact .inr h
  · left
    obtain ⟨y, hy⟩ := List.exists_mem_of_ne_nil _ h
    have := hi.rng y hy
    have h3 := nodup_lenX hi.pl (m := (List.range g.n.toNat).map Int.ofNat) (fun y hy => by
      rw [List.mem_map]
      have := hi.rng y hy
      exact ⟨y.toNat, List.mem_range.2 (by omega), by simp; omega⟩)
    simp at h3
    omega
theorem placeA_spec (g : Gr) (hm : mayB g = true) (f : Fr) (hi : FrI g f) (x : Int) (outs : List Int) (hr : f.row.length ≤ 300000) (hp : f.pl.length ≤ 100000) (ho : outs.length ≤ 17592186043904) :
    Spec Try.prog 37 (Args [.ptr 10000 0, eN x, .d (sI outs)]) (frO g f) (.tup [.d (sT (rPlaceF g f x outs).1.1), eN (rPlaceF g f x outs).1.2]) (frN g (rPlaceF g f x outs).2) := by
  rw [← place_eq hm hi.toFrInv]
  exact place_spec g hm f x outs hr hp ho
end Go.Ab
end
section
namespace Go.Ab
open Go.Proofs
attribute [local congr] ACall.congr
set_option maxRecDepth 10000
set_option maxHeartbeats 8000000

theorem copyB_spec (g : Gr) (f : Fr) (hr : f.row.length ≤ 1000000) (hp : f.pl.length ≤ 1000000) : Spec Try.prog 42 (Args [.ptr 10000 0]) [(10000, .box (rfC g f))] (.ptr 10001 0) [(10000, .box (rfC g f)), (10001, .box (rfC g f))] := by
  unfold rfC
  (refine Spec.introR (C := T.cfg [] []) (rs := [.t 2]) [(10001, 20)] (T.cfg_ok _ _) Try.func42 rfl rfl Try.ntmps42 Try.results42 (by simp [AObj.isNest]) (by simp [AObj.isNest]) (by first | (simp [look]; done) | (simp [asN]; done) | (intro l hl; simp only [asN]; repeat (rw [if_neg (fun e => by subst e; simp [look] at hl)]))) (by first | (simp [look]; done) | (simp [asN]; done) | (intro l hl; simp only [asN]; repeat (rw [if_neg (fun e => by subst e; simp [look] at hl)]))) (by kernel_rfl) ?_; intro X hX hP hC hXn hXm vals hA; refine ⟨_, by simp, hA, ?_⟩; have hmix : X.P.follows .mixedOrders = true := (by rw [hP]; exact T.mixed); clear hXn hXm)
  repeat' (first | (show awp _ .ret _ _; (try simp only [go_sem, simprocAttr]); (refine awp_frzT hX 12 rfl ?_; simp only [go_sem, simprocAttr]); (refine awp_frzT hX 18 rfl ?_; simp only [go_sem, simprocAttr])) | ((first | ((with_reducible (first | apply oA | apply oB)); exact rfl; intro K hK) | (refine hK _ ?_; clear hK K) | ((with_reducible (first | apply oG | apply oH)); iterate 3 exact rfl) | ((with_reducible apply oI); (iterate 2 exact rfl); intro K hK) | (with_reducible (first | apply wI | apply wJ | apply wK))); try simp only [go_sem, simprocAttr]) | fail | (with_reducible (first | apply oC | apply oJ | exact oK | apply wA | apply wB | apply wC hX hC | apply wD hX hC | apply wE hX hC hmix | apply wF hX hC hmix | apply wG | apply wH | apply And.intro)) | ((with_reducible refine oD ?_ ?_); first | fail | kernel_rfl) | ((with_reducible (first | apply oE | apply oF)); (iterate 3 exact rfl); all_goals (intro h; first | (exact absurd h (by decide)) | ((try simp only [go_sem, simprocAttr] at h); (try with_reducible intro K hK); simp only [go_sem, simprocAttr]))) | ((first | ((with_reducible apply wL); exact rfl) | ((with_reducible apply wM); exact rfl)); all_goals (try ((with_reducible intro h); first | (exact absurd h (by decide)) | (try simp only [go_sem, simprocAttr] at h)))) | omega | ((first | fail); try simp only [go_sem, simprocAttr]) | (intro h))
theorem readyL_mem {g : Gr} (hm : mayB g = true) {f : Fr} (hi : FrInv g f) {x : Int} : x ∈ readyL g f ↔ rReadyF g f x = true := by
  simp only [readyL, readyK, List.mem_map, List.mem_filter, List.mem_range]
  constructor
  · rintro ⟨k, ⟨h1, h2⟩, rfl⟩
    rw [← ready_eq hm hi]; exact h2
  · intro h
    obtain ⟨h1, h2, _⟩ := ready_rng h
    have e : ((x.toNat : Nat) : Int) = x := by omega
    refine ⟨x.toNat, ⟨by omega, ?_⟩, e⟩
    rw [e, ready_eq hm hi]; exact h
theorem can_done {g : Gr} {f : Fr} (hm : mayB g = true) (hi : FrInv g f) {m : Nat} (h : canN g m f = true) : (decide ((f.pl.length : Int) = g.n) || decide (0 < ((readyL g f).length : Int))) = true := by
  rw [Bool.or_eq_true, decide_eq_true_eq, decide_eq_true_eq]
  cases m with
  | zero => left; simpa [canN] using h
  | succ m =>
    rcases canN_next.1 h with h | ⟨x, _, hR, _⟩
    · exact .inl h
    · have := List.length_pos_of_mem ((readyL_mem hm hi).2 hR)
      right; omega
theorem any_nextF {α : Type} {l : List α} {p : α → Bool} {d : α} {k : Nat} (h : k < l.length) : (l.take (k + 1)).any p = ((l.take k).any p || p (l.getD k d)) := by
  rw [List.take_add_one, List.any_append, List.getElem?_eq_getElem h, List.getD_eq_getElem?_getD, List.getElem?_eq_getElem h]
  simp
theorem frontAny_spec (g : Gr) (acts : List Act) (hl : g.es.length ≤ 9223372036854775807) (hal : acts.length ≤ 9223372036854775807) (ho : ∀ a ∈ acts, a.2.length ≤ 17592186043904) : Spec Try.prog 8 (Args [eG g, .d (sA acts)]) [] (eB true) [] := by
  (refine Spec.intro (C := T.cfg [] []) (rs := [.t 4]) (T.cfg_ok _ _) Try.func8 rfl rfl Try.ntmps8 Try.results8 (by simp [AObj.isNest]) (by simp [AObj.isNest]) (by kernel_rfl) ?_; intro X hX hP hC hXn hXm vals hA; refine ⟨_, by simp, hA, ?_⟩; have hmix : X.P.follows .mixedOrders = true := (by rw [hP]; exact T.mixed); clear hXn hXm)
  by_cases hc : (chkG g).1 = 0
  case neg =>
    have hb1 : decide ((chkG g).1 = 0) = false := decide_eq_false hc
    repeat' (first | fail | ((first | ((with_reducible (first | apply oA | apply oB)); exact rfl; intro K hK) | (refine hK _ ?_; clear hK K) | ((with_reducible (first | apply oG | apply oH)); iterate 3 exact rfl) | ((with_reducible apply oI); (iterate 2 exact rfl); intro K hK) | (with_reducible (first | apply wI | apply wJ | apply wK))); try simp only [go_sem, simprocAttr, hb1]) | fail | (with_reducible (first | apply oC | apply oJ | exact oK | apply wA | apply wB | apply wC hX hC | apply wD hX hC | apply wE hX hC hmix | apply wF hX hC hmix | apply wG | apply wH | apply And.intro)) | ((with_reducible refine oD ?_ ?_); first | fail | kernel_rfl) | ((with_reducible (first | apply oE | apply oF)); (iterate 3 exact rfl); all_goals (intro h; first | (exact absurd h (by decide)) | ((try simp only [go_sem, simprocAttr, hb1] at h); (try with_reducible intro K hK); simp only [go_sem, simprocAttr, hb1]))) | ((first | ((with_reducible apply wL); exact rfl) | ((with_reducible apply wM); exact rfl)); all_goals (try ((with_reducible intro h); first | (exact absurd h (by decide)) | (try simp only [go_sem, simprocAttr, hb1] at h)))) | omega | ((first | first | refine acall_simple hX hC hP (speaks9_spec) rfl rfl rfl (by simp only [go_sem, simprocAttr, hb1]) rfl ?_ | refine acall_simple hX hC hP (refGoodA_spec g hl) rfl rfl rfl (by simp only [go_sem, simprocAttr, hb1]) rfl ?_); try simp only [go_sem, simprocAttr, hb1]) | (intro h))
  have hb1 : decide ((chkG g).1 = 0) = true := decide_eq_true hc
  have hm := good_may hc
  have hn := mayB_n hm
  have hl1 : g.es.length ≤ 1000 := by omega
  by_cases hg : g.n ≤ 6 ∧ g.es.length ≤ 9 ∧ acts.length ≤ 20
  case neg =>
    repeat' (first | fail | ((first | ((with_reducible (first | apply oA | apply oB)); exact rfl; intro K hK) | (refine hK _ ?_; clear hK K) | ((with_reducible (first | apply oG | apply oH)); iterate 3 exact rfl) | ((with_reducible apply oI); (iterate 2 exact rfl); intro K hK) | (with_reducible (first | apply wI | apply wJ | apply wK))); try simp only [go_sem, simprocAttr, hb1]) | fail | (with_reducible (first | apply oC | apply oJ | exact oK | apply wA | apply wB | apply wC hX hC | apply wD hX hC | apply wE hX hC hmix | apply wF hX hC hmix | apply wG | apply wH | apply And.intro)) | ((with_reducible refine oD ?_ ?_); first | fail | kernel_rfl) | ((with_reducible (first | apply oE | apply oF)); (iterate 3 exact rfl); all_goals (intro h; first | (exact absurd h (by decide)) | ((try simp only [go_sem, simprocAttr, hb1] at h); (try with_reducible intro K hK); simp only [go_sem, simprocAttr, hb1]))) | ((first | ((with_reducible apply wL); exact rfl) | ((with_reducible apply wM); exact rfl)); all_goals (try ((with_reducible intro h); first | (exact absurd h (by decide)) | (try simp only [go_sem, simprocAttr, hb1] at h)))) | omega | ((first | first | refine acall_simple hX hC hP (speaks9_spec) rfl rfl rfl (by simp only [go_sem, simprocAttr, hb1]) rfl ?_ | refine acall_simple hX hC hP (refGoodA_spec g hl) rfl rfl rfl (by simp only [go_sem, simprocAttr, hb1]) rfl ?_); try simp only [go_sem, simprocAttr, hb1]) | (intro h))
    all_goals (exfalso; omega)
  obtain ⟨hg1, hg2, hg3⟩ := hg
  have hb2 : decide (6 < g.n) = false := decide_eq_false (by omega)
  have hb3 : decide (9 < (g.es.length : Int)) = false := decide_eq_false (by omega)
  have hb4 : decide (20 < (acts.length : Int)) = false := decide_eq_false (by omega)
  repeat' (first | fail | ((first | ((with_reducible (first | apply oA | apply oB)); exact rfl; intro K hK) | (refine hK _ ?_; clear hK K) | ((with_reducible (first | apply oG | apply oH)); iterate 3 exact rfl) | ((with_reducible apply oI); (iterate 2 exact rfl); intro K hK) | (with_reducible (first | apply wI | apply wJ | apply wK))); try simp only [go_sem, simprocAttr, hb1, hb2, hb3, hb4]) | (show awp _ (.seq (.region 9 _ _) _) _ _; (refine awp_nilD 41 0 3 rfl rfl rfl ?_; simp only [LA.app, ASt.put, ASt.kill, putM, rml, List.set_cons_zero, List.set_cons_succ, go_sem, simprocAttr, hb1, hb2, hb3, hb4]); (refine awp_newB hX 41 2 100 (.tip 3 1 []) rfl rfl rfl (by simp only [go_sem, simprocAttr, hb1, hb2, hb3, hb4]) (by decide) (by simp [go_sem, simprocAttr, hb1, hb2, hb3, hb4]) ⟨3, 1, by decide, .inr rfl⟩ ?_; simp only [LA.app, ASt.put, ASt.kill, subT, rmk, putM, rml, kl, AV.sub, AV.subs, AObj.sub, List.set_cons_zero, List.set_cons_succ, go_sem, simprocAttr, hb1, hb2, hb3, hb4]); (refine awp_nilD 52 2 3 rfl rfl rfl ?_; simp only [LA.app, ASt.put, ASt.kill, putM, rml, List.set_cons_zero, List.set_cons_succ, go_sem, simprocAttr, hb1, hb2, hb3, hb4]); (refine awp_nilD 52 3 1 rfl rfl rfl ?_; simp only [LA.app, ASt.put, ASt.kill, putM, rml, List.set_cons_zero, List.set_cons_succ, go_sem, simprocAttr, hb1, hb2, hb3, hb4])) | (with_reducible (first | apply oC | apply oJ | exact oK | apply wA | apply wB | apply wC hX hC | apply wD hX hC | apply wE hX hC hmix | apply wF hX hC hmix | apply wG | apply wH | apply And.intro)) | ((with_reducible refine oD ?_ ?_); first | fail | kernel_rfl) | ((with_reducible (first | apply oE | apply oF)); (iterate 3 exact rfl); all_goals (intro h; first | (exact absurd h (by decide)) | ((try simp only [go_sem, simprocAttr, hb1, hb2, hb3, hb4] at h); (try with_reducible intro K hK); simp only [go_sem, simprocAttr, hb1, hb2, hb3, hb4]))) | ((first | ((with_reducible apply wL); exact rfl) | ((with_reducible apply wM); exact rfl)); all_goals (try ((with_reducible intro h); first | (exact absurd h (by decide)) | (try simp only [go_sem, simprocAttr, hb1, hb2, hb3, hb4] at h)))) | omega | ((first | first | (refine acall_genC hX hC hP [(10000, 41)] (newF_spec g hl1 hc hm) rfl rfl rfl ?_ ?_ ?_ ?_ ?_ ?_ ?_ ?_ ?_ ?_ ?_ ?_ ?_ ?_; (focus (simp only [go_sem, simprocAttr, hb1, hb2, hb3, hb4]; done)); (iterate 12 (focus (simp [go_sem, simprocAttr, hb1, hb2, hb3, hb4]; done))); simp only [go_sem, simprocAttr, hb1, hb2, hb3, hb4, List.map_cons, List.map_nil]) | refine acall_simple hX hC hP (speaks9_spec) rfl rfl rfl (by simp only [go_sem, simprocAttr, hb1, hb2, hb3, hb4]) rfl ?_ | refine acall_simple hX hC hP (refGoodA_spec g hl) rfl rfl rfl (by simp only [go_sem, simprocAttr, hb1, hb2, hb3, hb4]) rfl ?_); try simp only [go_sem, simprocAttr, hb1, hb2, hb3, hb4]) | (intro h))
  clear hb2 hb3 hb4
  have hmul : ∀ k, k ≤ acts.length → k * (g.es.length + 1) ≤ 20 * 10 := fun k hk => Nat.mul_le_mul (by omega) (by omega)
  refine awp_loopP (fun k : Nat => k ≤ acts.length) (fun k => ⟨[(2, .ptr 2 0), (53, .d (sA acts)), (54, eN acts.length), (55, eN k), (5, .ptr 41 0), (7, .ptr 52 0)], [(2, .box [eN g.n, .d (sE g.es)]), (41, .box [.d (sT (actsK g acts k).row), .d (vw g), .ref 100]), (100, .tip 3 1 ((actsK g acts k).pl.map rI)), (52, .box (rfC g (actsK g acts k)))]⟩) (fun k => acts.length - k) 0 (by omega) ?_ ?_
  · refine Le.of ?_ ?_ <;> simp [go_sem, simprocAttr, rfC, actsK]
  rintro k hk
  obtain ⟨hi, hr, hp⟩ := acts_inv hm acts k
  have hmk := hmul k hk
  rcases Nat.lt_or_ge k acts.length with hlt | hge
  · have hb : decide ((k : Int) < (acts.length : Int)) = true := decide_eq_true (by omega)
    have hv := getD_rA acts k hlt
    have hoa := ho _ (getD_memX (d := (0, [])) hlt)
    have hnx : actsK g acts (k + 1) = (rPlaceF g (actsK g acts k) (acts.getD k (0, [])).1 (acts.getD k (0, [])).2).2 := rfl
    have hPl := placeA_spec g hm (actsK g acts k) hi (acts.getD k (0, [])).1 (acts.getD k (0, [])).2 (by omega) (by omega) hoa
    have hRl := rPlace_spec g hl1 (actsK g acts k) (acts.getD k (0, [])).1 (acts.getD k (0, [])).2 (by omega) (by omega) (by omega)
    generalize rPlaceF g (actsK g acts k) (acts.getD k (0, [])).1 (acts.getD k (0, [])).2 = R at hnx hPl hRl
    repeat' (first | fail | ((first | ((with_reducible (first | apply oA | apply oB)); exact rfl; intro K hK) | (refine hK _ ?_; clear hK K) | ((with_reducible (first | apply oG | apply oH)); iterate 3 exact rfl) | ((with_reducible apply oI); (iterate 2 exact rfl); intro K hK) | (with_reducible (first | apply wI | apply wJ | apply wK))); try simp only [go_sem, simprocAttr, hb, hv, rfC, frO, frN]) | (show awp _ (.region 14 _ _) _ _; (refine awp_mvB hX 41 2 101 100 rfl rfl rfl (by first | exact .inl rfl | exact .inr rfl) (by decide) (by decide) ?_; simp only [LA.app, ASt.put, ASt.kill, subT, rmk, putM, rml, kl, AV.sub, AV.subs, AObj.sub, List.set_cons_zero, List.set_cons_succ, go_sem, simprocAttr, hb, hv, rfC, frO, frN])) | (with_reducible (first | apply oC | apply oJ | exact oK | apply wA | apply wB | apply wC hX hC | apply wD hX hC | apply wE hX hC hmix | apply wF hX hC hmix | apply wG | apply wH | apply And.intro)) | ((with_reducible refine oD ?_ ?_); first | fail | kernel_rfl) | ((with_reducible (first | apply oE | apply oF)); (iterate 3 exact rfl); all_goals (intro h; first | (exact absurd h (by decide)) | ((try simp only [go_sem, simprocAttr, hb, hv, rfC, frO, frN] at h); (try with_reducible intro K hK); simp only [go_sem, simprocAttr, hb, hv, rfC, frO, frN]))) | ((first | ((with_reducible apply wL); exact rfl) | ((with_reducible apply wM); exact rfl)); all_goals (try ((with_reducible intro h); first | (exact absurd h (by decide)) | (try simp only [go_sem, simprocAttr, hb, hv, rfC, frO, frN] at h)))) | omega | ((first | first | (refine acall_gen hX hC hP [(10000, 41), (10001, 100), (10002, 101)] (hPl) rfl rfl rfl ?_ ?_ ?_ ?_ ?_ ?_ ?_ ?_ ?_ ?_ ?_ ?_ ?_ ?_; (focus (simp only [go_sem, simprocAttr, hb, hv, rfC, frO, frN]; done)); (iterate 12 (focus (simp [go_sem, simprocAttr, hb, hv, rfC, frO, frN]; done))); simp only [go_sem, simprocAttr, hb, hv, rfC, frO, frN, List.map_cons, List.map_nil]) | (refine acall_gen hX hC hP [(10000, 52)] (hRl) rfl rfl rfl ?_ ?_ ?_ ?_ ?_ ?_ ?_ ?_ ?_ ?_ ?_ ?_ ?_ ?_; (focus (simp only [go_sem, simprocAttr, hb, hv, rfC, frO, frN]; done)); (iterate 12 (focus (simp [go_sem, simprocAttr, hb, hv, rfC, frO, frN]; done))); simp only [go_sem, simprocAttr, hb, hv, rfC, frO, frN, List.map_cons, List.map_nil])); try simp only [go_sem, simprocAttr, hb, hv, rfC, frO, frN]) | (intro h))
    refine ⟨k + 1, by omega, ?_, by omega⟩
    rw [hnx]
    (refine Le.of ?_ ?_ <;> simp [go_sem, simprocAttr, hb, hv, rfC, frO, frN])
  have hb : decide ((k : Int) < (acts.length : Int)) = false := decide_eq_false (by omega)
  obtain rfl : k = acts.length := by omega
  generalize actsK g acts acts.length = f at hi hr hp
  have hp2 : (f.pl.length : Int) ≤ g.n := by
    rcases pl_le hi.toFrInv with h | h
    · exact h
    · rw [h]; simp; omega
  have hg4 : g.es.length ≤ 10 := by omega
  have hC1 := can_spec g hg4 (by omega) (g.n.toNat - f.pl.length) f (by omega) (by omega)
  have hr1 : f.row.length ≤ 1000000 := by omega
  have hr2 : f.row.length ≤ 1000 := by omega
  have hp1 : f.pl.length ≤ 1000000 := by omega
  cases hcan : canN g (g.n.toNat - f.pl.length) f with
  | false =>
    rw [hcan] at hC1
    repeat' (first | fail | ((first | ((with_reducible (first | apply oA | apply oB)); exact rfl; intro K hK) | (refine hK _ ?_; clear hK K) | ((with_reducible (first | apply oG | apply oH)); iterate 3 exact rfl) | ((with_reducible apply oI); (iterate 2 exact rfl); intro K hK) | (with_reducible (first | apply wI | apply wJ | apply wK))); try simp only [go_sem, simprocAttr, hb, rfC]) | fail | (with_reducible (first | apply oC | apply oJ | exact oK | apply wA | apply wB | apply wC hX hC | apply wD hX hC | apply wE hX hC hmix | apply wF hX hC hmix | apply wG | apply wH | apply And.intro)) | ((with_reducible refine oD ?_ ?_); first | fail | kernel_rfl) | ((with_reducible (first | apply oE | apply oF)); (iterate 3 exact rfl); all_goals (intro h; first | (exact absurd h (by decide)) | ((try simp only [go_sem, simprocAttr, hb, rfC] at h); (try with_reducible intro K hK); simp only [go_sem, simprocAttr, hb, rfC]))) | ((first | ((with_reducible apply wL); exact rfl) | ((with_reducible apply wM); exact rfl)); all_goals (try ((with_reducible intro h); first | (exact absurd h (by decide)) | (try simp only [go_sem, simprocAttr, hb, rfC] at h)))) | omega | ((first | first | (refine acall_rob hX hC hP [(10000, 52)] (hC1) rfl rfl rfl ?_ ?_ ?_ ?_ ?_ ?_ rfl rfl ?_ ?_; (focus (simp only [go_sem, simprocAttr, hb, rfC]; done)); (iterate 6 (focus (simp [go_sem, simprocAttr, hb, rfC]; done))); simp only [go_sem, simprocAttr, hb, rfC, List.map_cons, List.map_nil])); try simp only [go_sem, simprocAttr, hb, rfC]) | (intro h))
  | true =>
  rw [hcan] at hC1
  have hdn := can_done hm hi.toFrInv hcan
  have hLm : ∀ x, x ∈ readyL g f ↔ rReadyF g f x = true := fun x => readyL_mem hm hi.toFrInv
  have hLl : (readyL g f).length ≤ 64 := by have := readyK_len (g := g) (f := f) (k := g.n.toNat); unfold readyL; omega
  have hL1 := readyL_spec g hm f hr1 hp1
  have hD1 := done_spec g f
  generalize readyL g f = L at hdn hLm hLl hL1
  repeat' (first | fail | ((first | ((with_reducible (first | apply oA | apply oB)); exact rfl; intro K hK) | (refine hK _ ?_; clear hK K) | ((with_reducible (first | apply oG | apply oH)); iterate 3 exact rfl) | ((with_reducible apply oI); (iterate 2 exact rfl); intro K hK) | (with_reducible (first | apply wI | apply wJ | apply wK))); try simp only [go_sem, simprocAttr, hb, rfC, frD]) | fail | (with_reducible (first | apply oC | apply oJ | exact oK | apply wA | apply wB | apply wC hX hC | apply wD hX hC | apply wE hX hC hmix | apply wF hX hC hmix | apply wG | apply wH | apply And.intro)) | ((with_reducible refine oD ?_ ?_); first | fail | kernel_rfl) | ((with_reducible (first | apply oE | apply oF)); (iterate 3 exact rfl); all_goals (intro h; first | (exact absurd h (by decide)) | ((try simp only [go_sem, simprocAttr, hb, rfC, frD] at h); (try with_reducible intro K hK); simp only [go_sem, simprocAttr, hb, rfC, frD]))) | ((first | ((with_reducible apply wL); exact rfl) | ((with_reducible apply wM); exact rfl)); all_goals (try ((with_reducible intro h); first | (exact absurd h (by decide)) | (try simp only [go_sem, simprocAttr, hb, rfC, frD] at h)))) | omega | ((first | first | (refine acall_rob hX hC hP [(10000, 52)] (hC1) rfl rfl rfl ?_ ?_ ?_ ?_ ?_ ?_ rfl rfl ?_ ?_; (focus (simp only [go_sem, simprocAttr, hb, rfC, frD]; done)); (iterate 6 (focus (simp [go_sem, simprocAttr, hb, rfC, frD]; done))); simp only [go_sem, simprocAttr, hb, rfC, frD, List.map_cons, List.map_nil]) | (refine acall_lend1 hX hC hP 76 (hL1) rfl rfl rfl ?_ ?_ (by first | exact ⟨_, _, _, rfl, flatI⟩ | exact ⟨_, _, _, rfl, flatT⟩) rfl (by decide) ?_; (iterate 2 (focus (simp only [go_sem, simprocAttr, hb, rfC, frD]; done))); simp only [go_sem, simprocAttr, hb, rfC, frD])); try simp only [go_sem, simprocAttr, hb, rfC, frD]) | (intro h))
  (refine awp_frzT hX 76 rfl ?_; simp only [go_sem, simprocAttr, hb, rfC, frD])
  clear hb
  refine awp_loopP (fun k : Nat => k ≤ L.length) (fun k => ⟨[(2, .ptr 2 0), (5, .ptr 41 0), (7, .ptr 52 0), (76, .d (sI L)), (77, eN L.length), (78, eN k)], [(2, .box [eN g.n, .d (sE g.es)]), (41, .box [.d (sT f.row), .d (vw g), .ref 100]), (100, .tip 3 1 (f.pl.map rI)), (52, .box [eN g.n, .d (sE g.es), .d (sT f.row), .d (sI f.pl)])]⟩) (fun k => L.length - k) 0 (by omega) ?_ ?_
  · (refine Le.of ?_ ?_ <;> simp [go_sem, simprocAttr, rfC])
  clear hk hge hmk hmul
  rintro k hk
  rcases Nat.lt_or_ge k L.length with hlt | hge
  · have hb : decide ((k : Int) < (L.length : Int)) = true := decide_eq_true (by omega)
    have hxm := getD_memX (d := 0) hlt
    generalize hx : L.getD k 0 = x at hxm
    have hR := (hLm x).1 hxm
    obtain ⟨m, hmm⟩ : ∃ m, g.n.toNat - f.pl.length = m + 1 := by
      refine ⟨g.n.toNat - f.pl.length - 1, ?_⟩
      have : (f.pl.length : Int) ≠ g.n := fun h => (ready_rng hR).2.2 (full_none hi.toFrInv h ⟨(ready_rng hR).1, (ready_rng hR).2.1⟩)
      omega
    rw [hmm] at hcan
    obtain ⟨o0, ho0, hc0⟩ := any_can hc hi (by omega) hcan hR
    have hml := outZ_len (g := g) (x := x)
    have hmz : endsZ (fun e => e.1) g.es g.es.length x = outZ g x := rfl
    have hos := orders_spec (outZ g x).length (outZ g x) rfl (by omega)
    have hall : ∀ o ∈ ordN (outZ g x).length (outZ g x), rPlaceF g f x o = succF g f x o ∧ o.length ≤ 9 := fun o ho => ⟨rPlace_ord hR ho, by have := ordN_mem rfl ho; omega⟩
    have hlo := ordN_len (l := outZ g x) rfl
    have hfa : fac (outZ g x).length ≤ 3628800 := Nat.le_trans (fac_mono (show (outZ g x).length ≤ 10 by omega)) (by decide)
    generalize ordN (outZ g x).length (outZ g x) = all at hos hall hlo ho0
    repeat' (first | fail | ((first | ((with_reducible (first | apply oA | apply oB)); exact rfl; intro K hK) | (refine hK _ ?_; clear hK K) | ((with_reducible (first | apply oG | apply oH)); iterate 3 exact rfl) | ((with_reducible apply oI); (iterate 2 exact rfl); intro K hK) | (with_reducible (first | apply wI | apply wJ | apply wK))); try simp only [go_sem, simprocAttr, hb, hx, rfC, endF1, hmz]) | fail | (with_reducible (first | apply oC | apply oJ | exact oK | apply wA | apply wB | apply wC hX hC | apply wD hX hC | apply wE hX hC hmix | apply wF hX hC hmix | apply wG | apply wH | apply And.intro)) | ((with_reducible refine oD ?_ ?_); first | fail | kernel_rfl) | ((with_reducible (first | apply oE | apply oF)); (iterate 3 exact rfl); all_goals (intro h; first | (exact absurd h (by decide)) | ((try simp only [go_sem, simprocAttr, hb, hx, rfC, endF1, hmz] at h); (try with_reducible intro K hK); simp only [go_sem, simprocAttr, hb, hx, rfC, endF1, hmz]))) | ((first | ((with_reducible apply wL); exact rfl) | ((with_reducible apply wM); exact rfl)); all_goals (try ((with_reducible intro h); first | (exact absurd h (by decide)) | (try simp only [go_sem, simprocAttr, hb, hx, rfC, endF1, hmz] at h)))) | omega | ((first | first | refine acall_simple hX hC hP (ends_spec g x true hl1) rfl rfl rfl (by simp only [go_sem, simprocAttr, hb, hx, rfC, endF1, hmz]) rfl ?_ | refine acall_simple hX hC hP (hos) rfl rfl rfl (by simp only [go_sem, simprocAttr, hb, hx, rfC, endF1, hmz]) rfl ?_); try simp only [go_sem, simprocAttr, hb, hx, rfC, endF1, hmz]) | (intro h))
    refine awp_loopP (fun j : Nat => j ≤ all.length) (fun j => ⟨[(2, .ptr 2 0), (5, .ptr 41 0), (7, .ptr 52 0), (76, .d (sI L)), (77, eN L.length), (78, eN k), (11, eN x), (12, eB ((all.take j).any fun o => canN g m (succF g f x o).2)), (85, .d (.sl 1 (vI all))), (86, eN all.length), (87, eN j)], [(2, .box [eN g.n, .d (sE g.es)]), (41, .box [.d (sT f.row), .d (vw g), .ref 100]), (100, .tip 3 1 (f.pl.map rI)), (52, .box [eN g.n, .d (sE g.es), .d (sT f.row), .d (sI f.pl)])]⟩) (fun j => all.length - j) 0 (by omega) ?_ ?_
    · refine Le.of ?_ ?_ <;> simp [go_sem, simprocAttr, rfC]
    rintro j hj
    rcases Nat.lt_or_ge j all.length with hjl | hjg
    · have hbj : decide ((j : Int) < (all.length : Int)) = true := decide_eq_true (by omega)
      have hv := vI_getD hjl
      have hmem := getD_memX (d := []) hjl
      have hany := any_nextF (p := fun o => canN g m (succF g f x o).2) (d := []) hjl
      obtain ⟨hpl, hol⟩ := hall _ hmem
      have hsl := succF_len (g := g) (f := f) (x := x) (o := all.getD j [])
      have hC2 := can_spec g hg4 (by omega) m (succF g f x (all.getD j [])).2 (by omega) (by omega)
      have hPl := rPlace_spec g hl1 f x (all.getD j []) (by omega) (by omega) (by omega)
      rw [hpl] at hPl
      have hcode : (succF g f x (all.getD j [])).1.2 = 0 := rfl
      generalize all.getD j [] = o at hv hmem hany hpl hol hsl hC2 hPl hcode
      generalize succF g f x o = su at hsl hC2 hPl hcode hany
      generalize hq : (all.take j).any (fun o => canN g m (succF g f x o).2) = q at hany
      generalize canN g m su.2 = cn at hC2 hany
      cases q <;> (
      repeat' (first | fail | ((first | ((with_reducible (first | apply oA | apply oB)); exact rfl; intro K hK) | (refine hK _ ?_; clear hK K) | ((with_reducible (first | apply oG | apply oH)); iterate 3 exact rfl) | ((with_reducible apply oI); (iterate 2 exact rfl); intro K hK) | (with_reducible (first | apply wI | apply wJ | apply wK))); try simp only [go_sem, simprocAttr, hbj, hv, rfC, hcode]) | fail | (with_reducible (first | apply oC | apply oJ | exact oK | apply wA | apply wB | apply wC hX hC | apply wD hX hC | apply wE hX hC hmix | apply wF hX hC hmix | apply wG | apply wH | apply And.intro)) | ((with_reducible refine oD ?_ ?_); first | fail | kernel_rfl) | ((with_reducible (first | apply oE | apply oF)); (iterate 3 exact rfl); all_goals (intro h; first | (exact absurd h (by decide)) | ((try simp only [go_sem, simprocAttr, hbj, hv, rfC, hcode] at h); (try with_reducible intro K hK); simp only [go_sem, simprocAttr, hbj, hv, rfC, hcode]))) | ((first | ((with_reducible apply wL); exact rfl) | ((with_reducible apply wM); exact rfl)); all_goals (try ((with_reducible intro h); first | (exact absurd h (by decide)) | (try simp only [go_sem, simprocAttr, hbj, hv, rfC, hcode] at h)))) | omega | ((first | first | (refine acall_gen hX hC hP [(10000, 52), (10001, 92)] (copyB_spec g f hr1 hp1) rfl rfl rfl ?_ ?_ ?_ ?_ ?_ ?_ ?_ ?_ ?_ ?_ ?_ ?_ ?_ ?_; (focus (simp only [go_sem, simprocAttr, hbj, hv, rfC, hcode]; done)); (iterate 12 (focus (simp [go_sem, simprocAttr, hbj, hv, rfC, hcode]; done))); simp only [go_sem, simprocAttr, hbj, hv, rfC, hcode, List.map_cons, List.map_nil]) | (refine acall_gen hX hC hP [(10000, 92)] (hPl) rfl rfl rfl ?_ ?_ ?_ ?_ ?_ ?_ ?_ ?_ ?_ ?_ ?_ ?_ ?_ ?_; (focus (simp only [go_sem, simprocAttr, hbj, hv, rfC, hcode]; done)); (iterate 12 (focus (simp [go_sem, simprocAttr, hbj, hv, rfC, hcode]; done))); simp only [go_sem, simprocAttr, hbj, hv, rfC, hcode, List.map_cons, List.map_nil]) | (refine acall_rob hX hC hP [(10000, 92)] (hC2) rfl rfl rfl ?_ ?_ ?_ ?_ ?_ ?_ rfl rfl ?_ ?_; (focus (simp only [go_sem, simprocAttr, hbj, hv, rfC, hcode]; done)); (iterate 6 (focus (simp [go_sem, simprocAttr, hbj, hv, rfC, hcode]; done))); simp only [go_sem, simprocAttr, hbj, hv, rfC, hcode, List.map_cons, List.map_nil])); try simp only [go_sem, simprocAttr, hbj, hv, rfC, hcode]) | (intro h))
      refine ⟨j + 1, by omega, ?_, by omega⟩
      rw [hany]
      (refine Le.of ?_ ?_ <;> simp [go_sem, simprocAttr, hbj, hv, rfC, hcode]))
    · have hbj : decide ((j : Int) < (all.length : Int)) = false := decide_eq_false (by omega)
      obtain rfl : j = all.length := by omega
      have hany : ((all.take all.length).any fun o => canN g m (succF g f x o).2) = true := by
        rw [List.take_length, List.any_eq_true]
        exact ⟨o0, ho0, hc0⟩
      repeat' (first | fail | ((first | ((with_reducible (first | apply oA | apply oB)); exact rfl; intro K hK) | (refine hK _ ?_; clear hK K) | ((with_reducible (first | apply oG | apply oH)); iterate 3 exact rfl) | ((with_reducible apply oI); (iterate 2 exact rfl); intro K hK) | (with_reducible (first | apply wI | apply wJ | apply wK))); try simp only [go_sem, simprocAttr, hbj, hany]) | fail | (with_reducible (first | apply oC | apply oJ | exact oK | apply wA | apply wB | apply wC hX hC | apply wD hX hC | apply wE hX hC hmix | apply wF hX hC hmix | apply wG | apply wH | apply And.intro)) | ((with_reducible refine oD ?_ ?_); first | fail | kernel_rfl) | ((with_reducible (first | apply oE | apply oF)); (iterate 3 exact rfl); all_goals (intro h; first | (exact absurd h (by decide)) | ((try simp only [go_sem, simprocAttr, hbj, hany] at h); (try with_reducible intro K hK); simp only [go_sem, simprocAttr, hbj, hany]))) | ((first | ((with_reducible apply wL); exact rfl) | ((with_reducible apply wM); exact rfl)); all_goals (try ((with_reducible intro h); first | (exact absurd h (by decide)) | (try simp only [go_sem, simprocAttr, hbj, hany] at h)))) | omega | ((first | fail); try simp only [go_sem, simprocAttr, hbj, hany]) | (intro h))
      refine ⟨k + 1, by omega, ?_, by omega⟩
      (refine Le.of ?_ ?_ <;> simp [go_sem, simprocAttr, hbj, hany])
  · have hb : decide ((k : Int) < (L.length : Int)) = false := decide_eq_false (by omega)
    cases hd : decide ((f.pl.length : Int) = g.n) with
    | true =>
      rw [hd] at hD1
      repeat' (first | fail | ((first | ((with_reducible (first | apply oA | apply oB)); exact rfl; intro K hK) | (refine hK _ ?_; clear hK K) | ((with_reducible (first | apply oG | apply oH)); iterate 3 exact rfl) | ((with_reducible apply oI); (iterate 2 exact rfl); intro K hK) | (with_reducible (first | apply wI | apply wJ | apply wK))); try simp only [go_sem, simprocAttr, hb, frD]) | fail | (with_reducible (first | apply oC | apply oJ | exact oK | apply wA | apply wB | apply wC hX hC | apply wD hX hC | apply wE hX hC hmix | apply wF hX hC hmix | apply wG | apply wH | apply And.intro)) | ((with_reducible refine oD ?_ ?_); first | fail | kernel_rfl) | ((with_reducible (first | apply oE | apply oF)); (iterate 3 exact rfl); all_goals (intro h; first | (exact absurd h (by decide)) | ((try simp only [go_sem, simprocAttr, hb, frD] at h); (try with_reducible intro K hK); simp only [go_sem, simprocAttr, hb, frD]))) | ((first | ((with_reducible apply wL); exact rfl) | ((with_reducible apply wM); exact rfl)); all_goals (try ((with_reducible intro h); first | (exact absurd h (by decide)) | (try simp only [go_sem, simprocAttr, hb, frD] at h)))) | omega | ((first | first | (refine acall_lend hX hC hP (hD1) rfl rfl rfl ?_ ?_ ?_ ?_; iterate 3 (focus (simp only [go_sem, simprocAttr, hb, frD]; done))) | (refine acall_lend1 hX hC hP 115 (hL1) rfl rfl rfl ?_ ?_ (by first | exact ⟨_, _, _, rfl, flatI⟩ | exact ⟨_, _, _, rfl, flatT⟩) rfl (by decide) ?_; (iterate 2 (focus (simp only [go_sem, simprocAttr, hb, frD]; done))); simp only [go_sem, simprocAttr, hb, frD])); try simp only [go_sem, simprocAttr, hb, frD]) | (intro h))
    | false =>
      rw [hd, Bool.false_or] at hdn
      rw [hd] at hD1
      repeat' (first | fail | ((first | ((with_reducible (first | apply oA | apply oB)); exact rfl; intro K hK) | (refine hK _ ?_; clear hK K) | ((with_reducible (first | apply oG | apply oH)); iterate 3 exact rfl) | ((with_reducible apply oI); (iterate 2 exact rfl); intro K hK) | (with_reducible (first | apply wI | apply wJ | apply wK))); try simp only [go_sem, simprocAttr, hb, frD, hdn]) | fail | (with_reducible (first | apply oC | apply oJ | exact oK | apply wA | apply wB | apply wC hX hC | apply wD hX hC | apply wE hX hC hmix | apply wF hX hC hmix | apply wG | apply wH | apply And.intro)) | ((with_reducible refine oD ?_ ?_); first | fail | kernel_rfl) | ((with_reducible (first | apply oE | apply oF)); (iterate 3 exact rfl); all_goals (intro h; first | (exact absurd h (by decide)) | ((try simp only [go_sem, simprocAttr, hb, frD, hdn] at h); (try with_reducible intro K hK); simp only [go_sem, simprocAttr, hb, frD, hdn]))) | ((first | ((with_reducible apply wL); exact rfl) | ((with_reducible apply wM); exact rfl)); all_goals (try ((with_reducible intro h); first | (exact absurd h (by decide)) | (try simp only [go_sem, simprocAttr, hb, frD, hdn] at h)))) | omega | ((first | first | (refine acall_lend hX hC hP (hD1) rfl rfl rfl ?_ ?_ ?_ ?_; iterate 3 (focus (simp only [go_sem, simprocAttr, hb, frD, hdn]; done))) | (refine acall_lend1 hX hC hP 115 (hL1) rfl rfl rfl ?_ ?_ (by first | exact ⟨_, _, _, rfl, flatI⟩ | exact ⟨_, _, _, rfl, flatT⟩) rfl (by decide) ?_; (iterate 2 (focus (simp only [go_sem, simprocAttr, hb, frD, hdn]; done))); simp only [go_sem, simprocAttr, hb, frD, hdn])); try simp only [go_sem, simprocAttr, hb, frD, hdn]) | (intro h))
end Go.Ab
end
section
namespace Go.Ab
open Go.Proofs
attribute [local congr] ACall.congr
set_option maxRecDepth 10000
set_option maxHeartbeats 8000000

theorem place_succ {g : Gr} {f : Fr} {x : Int} (hR : rReadyF g f x = true) : rPlaceF g f x (outZ g x) = succF g f x (outZ g x) := by
  unfold rPlaceF
  rw [if_neg (by rw [hR]; simp), if_neg]
  rintro (h | ⟨i, h1, h2⟩)
  · exact h rfl
  · exact h2 h1
theorem pick_at (i : Int) {n : Nat} (h : 0 < n) : ∃ p : Nat, p < n ∧ (i % 65536).tmod (n : Int) = (p : Int) := by
  have h1 : 0 ≤ i % 65536 := Int.emod_nonneg _ (by decide)
  have h2 := Int.tmod_lt_of_pos (i % 65536) (show (0 : Int) < n by omega)
  have h3 := Int.tmod_nonneg (n : Int) h1
  exact ⟨((i % 65536).tmod (n : Int)).toNat, by omega, by omega⟩
theorem frontSwaps_spec (g : Gr) (acts : List Act) (i k : Int) (hl : g.es.length ≤ 9223372036854775807) (hal : acts.length ≤ 9223372036854775807) (ho : ∀ a ∈ acts, a.2.length ≤ 17592186043904) : Spec Try.prog 9 (Args [eG g, .d (sA acts), eN i, eN k]) [] (eB true) [] := by
  (refine Spec.intro (C := T.cfg [] []) (rs := [.t 8]) (T.cfg_ok _ _) Try.func9 rfl rfl Try.ntmps9 Try.results9 (by simp [AObj.isNest]) (by simp [AObj.isNest]) (by kernel_rfl) ?_; intro X hX hP hC hXn hXm vals hA; refine ⟨_, by simp, hA, ?_⟩; have hmix : X.P.follows .mixedOrders = true := (by rw [hP]; exact T.mixed); clear hXn hXm)
  by_cases hc : (chkG g).1 = 0
  case neg =>
    have hb1 : decide ((chkG g).1 = 0) = false := decide_eq_false hc
    repeat' (first | fail | ((first | ((with_reducible (first | apply oA | apply oB)); exact rfl; intro K hK) | (refine hK _ ?_; clear hK K) | ((with_reducible (first | apply oG | apply oH)); iterate 3 exact rfl) | ((with_reducible apply oI); (iterate 2 exact rfl); intro K hK) | (with_reducible (first | apply wI | apply wJ | apply wK))); try simp only [go_sem, simprocAttr, hb1]) | fail | (with_reducible (first | apply oC | apply oJ | exact oK | apply wA | apply wB | apply wC hX hC | apply wD hX hC | apply wE hX hC hmix | apply wF hX hC hmix | apply wG | apply wH | apply And.intro)) | ((with_reducible refine oD ?_ ?_); first | fail | kernel_rfl) | ((with_reducible (first | apply oE | apply oF)); (iterate 3 exact rfl); all_goals (intro h; first | (exact absurd h (by decide)) | ((try simp only [go_sem, simprocAttr, hb1] at h); (try with_reducible intro K hK); simp only [go_sem, simprocAttr, hb1]))) | ((first | ((with_reducible apply wL); exact rfl) | ((with_reducible apply wM); exact rfl)); all_goals (try ((with_reducible intro h); first | (exact absurd h (by decide)) | (try simp only [go_sem, simprocAttr, hb1] at h)))) | omega | ((first | first | refine acall_simple hX hC hP (speaks9_spec) rfl rfl rfl (by simp only [go_sem, simprocAttr, hb1]) rfl ?_ | refine acall_simple hX hC hP (refGoodA_spec g hl) rfl rfl rfl (by simp only [go_sem, simprocAttr, hb1]) rfl ?_); try simp only [go_sem, simprocAttr, hb1]) | (intro h))
  have hb1 : decide ((chkG g).1 = 0) = true := decide_eq_true hc
  have hm := good_may hc
  have hn := mayB_n hm
  have hl1 : g.es.length ≤ 1000 := by omega
  by_cases hg3 : acts.length ≤ 80
  case neg =>
    repeat' (first | fail | ((first | ((with_reducible (first | apply oA | apply oB)); exact rfl; intro K hK) | (refine hK _ ?_; clear hK K) | ((with_reducible (first | apply oG | apply oH)); iterate 3 exact rfl) | ((with_reducible apply oI); (iterate 2 exact rfl); intro K hK) | (with_reducible (first | apply wI | apply wJ | apply wK))); try simp only [go_sem, simprocAttr, hb1]) | fail | (with_reducible (first | apply oC | apply oJ | exact oK | apply wA | apply wB | apply wC hX hC | apply wD hX hC | apply wE hX hC hmix | apply wF hX hC hmix | apply wG | apply wH | apply And.intro)) | ((with_reducible refine oD ?_ ?_); first | fail | kernel_rfl) | ((with_reducible (first | apply oE | apply oF)); (iterate 3 exact rfl); all_goals (intro h; first | (exact absurd h (by decide)) | ((try simp only [go_sem, simprocAttr, hb1] at h); (try with_reducible intro K hK); simp only [go_sem, simprocAttr, hb1]))) | ((first | ((with_reducible apply wL); exact rfl) | ((with_reducible apply wM); exact rfl)); all_goals (try ((with_reducible intro h); first | (exact absurd h (by decide)) | (try simp only [go_sem, simprocAttr, hb1] at h)))) | omega | ((first | first | refine acall_simple hX hC hP (speaks9_spec) rfl rfl rfl (by simp only [go_sem, simprocAttr, hb1]) rfl ?_ | refine acall_simple hX hC hP (refGoodA_spec g hl) rfl rfl rfl (by simp only [go_sem, simprocAttr, hb1]) rfl ?_); try simp only [go_sem, simprocAttr, hb1]) | (intro h))
    all_goals (exfalso; omega)
  have hb4 : decide (80 < (acts.length : Int)) = false := decide_eq_false (by omega)
  repeat' (first | fail | ((first | ((with_reducible (first | apply oA | apply oB)); exact rfl; intro K hK) | (refine hK _ ?_; clear hK K) | ((with_reducible (first | apply oG | apply oH)); iterate 3 exact rfl) | ((with_reducible apply oI); (iterate 2 exact rfl); intro K hK) | (with_reducible (first | apply wI | apply wJ | apply wK))); try simp only [go_sem, simprocAttr, hb1, hb4]) | (show awp _ (.seq (.region 8 _ _) _) _ _; (refine awp_nilD 36 0 3 rfl rfl rfl ?_; simp only [LA.app, ASt.put, ASt.kill, putM, rml, List.set_cons_zero, List.set_cons_succ, go_sem, simprocAttr, hb1, hb4]); (refine awp_newB hX 36 2 100 (.tip 3 1 []) rfl rfl rfl (by simp only [go_sem, simprocAttr, hb1, hb4]) (by decide) (by simp [go_sem, simprocAttr, hb1, hb4]) ⟨3, 1, by decide, .inr rfl⟩ ?_; simp only [LA.app, ASt.put, ASt.kill, subT, rmk, putM, rml, kl, AV.sub, AV.subs, AObj.sub, List.set_cons_zero, List.set_cons_succ, go_sem, simprocAttr, hb1, hb4])) | (with_reducible (first | apply oC | apply oJ | exact oK | apply wA | apply wB | apply wC hX hC | apply wD hX hC | apply wE hX hC hmix | apply wF hX hC hmix | apply wG | apply wH | apply And.intro)) | ((with_reducible refine oD ?_ ?_); first | fail | kernel_rfl) | ((with_reducible (first | apply oE | apply oF)); (iterate 3 exact rfl); all_goals (intro h; first | (exact absurd h (by decide)) | ((try simp only [go_sem, simprocAttr, hb1, hb4] at h); (try with_reducible intro K hK); simp only [go_sem, simprocAttr, hb1, hb4]))) | ((first | ((with_reducible apply wL); exact rfl) | ((with_reducible apply wM); exact rfl)); all_goals (try ((with_reducible intro h); first | (exact absurd h (by decide)) | (try simp only [go_sem, simprocAttr, hb1, hb4] at h)))) | omega | ((first | first | (refine acall_genC hX hC hP [(10000, 36)] (newF_spec g hl1 hc hm) rfl rfl rfl ?_ ?_ ?_ ?_ ?_ ?_ ?_ ?_ ?_ ?_ ?_ ?_ ?_ ?_; (focus (simp only [go_sem, simprocAttr, hb1, hb4]; done)); (iterate 12 (focus (simp [go_sem, simprocAttr, hb1, hb4]; done))); simp only [go_sem, simprocAttr, hb1, hb4, List.map_cons, List.map_nil]) | refine acall_simple hX hC hP (speaks9_spec) rfl rfl rfl (by simp only [go_sem, simprocAttr, hb1, hb4]) rfl ?_ | refine acall_simple hX hC hP (refGoodA_spec g hl) rfl rfl rfl (by simp only [go_sem, simprocAttr, hb1, hb4]) rfl ?_); try simp only [go_sem, simprocAttr, hb1, hb4]) | (intro h))
  clear hb4
  have hmul : ∀ k, k ≤ acts.length → k * (g.es.length + 1) ≤ 80 * 129 := fun k hk => Nat.mul_le_mul (by omega) (by omega)
  refine awp_loopP (fun k : Nat => k ≤ acts.length) (fun q => ⟨[(2, eN i), (3, eN k), (4, .ptr 4 0), (45, .d (sA acts)), (46, eN acts.length), (47, eN q), (9, .ptr 36 0)], [(4, .box [eN g.n, .d (sE g.es)]), (36, .box [.d (sT (actsK g acts q).row), .d (vw g), .ref 100]), (100, .tip 3 1 ((actsK g acts q).pl.map rI))]⟩) (fun k => acts.length - k) 0 (by omega) ?_ ?_
  · refine Le.of ?_ ?_ <;> simp [go_sem, simprocAttr, rfC, actsK]
  rintro q hq
  obtain ⟨hi, hr, hp⟩ := acts_inv hm acts q
  have hmk := hmul q hq
  rcases Nat.lt_or_ge q acts.length with hlt | hge
  · have hb : decide ((q : Int) < (acts.length : Int)) = true := decide_eq_true (by omega)
    have hv := getD_rA acts q hlt
    have hoa := ho _ (getD_memX (d := (0, [])) hlt)
    have hnx : actsK g acts (q + 1) = (rPlaceF g (actsK g acts q) (acts.getD q (0, [])).1 (acts.getD q (0, [])).2).2 := rfl
    have hPl := placeA_spec g hm (actsK g acts q) hi (acts.getD q (0, [])).1 (acts.getD q (0, [])).2 (by omega) (by omega) hoa
    generalize rPlaceF g (actsK g acts q) (acts.getD q (0, [])).1 (acts.getD q (0, [])).2 = R at hnx hPl
    repeat' (first | fail | ((first | ((with_reducible (first | apply oA | apply oB)); exact rfl; intro K hK) | (refine hK _ ?_; clear hK K) | ((with_reducible (first | apply oG | apply oH)); iterate 3 exact rfl) | ((with_reducible apply oI); (iterate 2 exact rfl); intro K hK) | (with_reducible (first | apply wI | apply wJ | apply wK))); try simp only [go_sem, simprocAttr, hb, hv, frO, frN]) | (show awp _ (.region 12 _ _) _ _; (refine awp_mvB hX 36 2 101 100 rfl rfl rfl (by first | exact .inl rfl | exact .inr rfl) (by decide) (by decide) ?_; simp only [LA.app, ASt.put, ASt.kill, subT, rmk, putM, rml, kl, AV.sub, AV.subs, AObj.sub, List.set_cons_zero, List.set_cons_succ, go_sem, simprocAttr, hb, hv, frO, frN])) | (with_reducible (first | apply oC | apply oJ | exact oK | apply wA | apply wB | apply wC hX hC | apply wD hX hC | apply wE hX hC hmix | apply wF hX hC hmix | apply wG | apply wH | apply And.intro)) | ((with_reducible refine oD ?_ ?_); first | fail | kernel_rfl) | ((with_reducible (first | apply oE | apply oF)); (iterate 3 exact rfl); all_goals (intro h; first | (exact absurd h (by decide)) | ((try simp only [go_sem, simprocAttr, hb, hv, frO, frN] at h); (try with_reducible intro K hK); simp only [go_sem, simprocAttr, hb, hv, frO, frN]))) | ((first | ((with_reducible apply wL); exact rfl) | ((with_reducible apply wM); exact rfl)); all_goals (try ((with_reducible intro h); first | (exact absurd h (by decide)) | (try simp only [go_sem, simprocAttr, hb, hv, frO, frN] at h)))) | omega | ((first | first | (refine acall_gen hX hC hP [(10000, 36), (10001, 100), (10002, 101)] (hPl) rfl rfl rfl ?_ ?_ ?_ ?_ ?_ ?_ ?_ ?_ ?_ ?_ ?_ ?_ ?_ ?_; (focus (simp only [go_sem, simprocAttr, hb, hv, frO, frN]; done)); (iterate 12 (focus (simp [go_sem, simprocAttr, hb, hv, frO, frN]; done))); simp only [go_sem, simprocAttr, hb, hv, frO, frN, List.map_cons, List.map_nil])); try simp only [go_sem, simprocAttr, hb, hv, frO, frN]) | (intro h))
    refine ⟨q + 1, by omega, ?_, by omega⟩
    rw [hnx]
    (refine Le.of ?_ ?_ <;> simp [go_sem, simprocAttr, hb, hv, frO, frN])
  have hb : decide ((q : Int) < (acts.length : Int)) = false := decide_eq_false (by omega)
  obtain rfl : q = acts.length := by omega
  generalize actsK g acts acts.length = f at hi hr hp
  have hr1 : f.row.length ≤ 20000 := by omega
  have hp1 : f.pl.length ≤ 80 := by omega
  clear hr hp hmk hmul hge hq
  have hLm : ∀ x, x ∈ readyL g f ↔ rReadyF g f x = true := fun x => readyL_mem hm hi.toFrInv
  have hLl : (readyL g f).length ≤ 64 := by have := readyK_len (g := g) (f := f) (k := g.n.toNat); unfold readyL; omega
  have hL1 := readyL_spec g hm f (by omega) (by omega)
  generalize readyL g f = L at hLm hLl hL1
  by_cases h2 : L.length < 2
  · have hb2 : decide ((L.length : Int) < 2) = true := decide_eq_true (by omega)
    repeat' (first | fail | ((first | ((with_reducible (first | apply oA | apply oB)); exact rfl; intro K hK) | (refine hK _ ?_; clear hK K) | ((with_reducible (first | apply oG | apply oH)); iterate 3 exact rfl) | ((with_reducible apply oI); (iterate 2 exact rfl); intro K hK) | (with_reducible (first | apply wI | apply wJ | apply wK))); try simp only [go_sem, simprocAttr, hb, hb2, frD]) | fail | (with_reducible (first | apply oC | apply oJ | exact oK | apply wA | apply wB | apply wC hX hC | apply wD hX hC | apply wE hX hC hmix | apply wF hX hC hmix | apply wG | apply wH | apply And.intro)) | ((with_reducible refine oD ?_ ?_); first | fail | kernel_rfl) | ((with_reducible (first | apply oE | apply oF)); (iterate 3 exact rfl); all_goals (intro h; first | (exact absurd h (by decide)) | ((try simp only [go_sem, simprocAttr, hb, hb2, frD] at h); (try with_reducible intro K hK); simp only [go_sem, simprocAttr, hb, hb2, frD]))) | ((first | ((with_reducible apply wL); exact rfl) | ((with_reducible apply wM); exact rfl)); all_goals (try ((with_reducible intro h); first | (exact absurd h (by decide)) | (try simp only [go_sem, simprocAttr, hb, hb2, frD] at h)))) | omega | ((first | first | (refine acall_lend1 hX hC hP 59 (hL1) rfl rfl rfl ?_ ?_ (by first | exact ⟨_, _, _, rfl, flatI⟩ | exact ⟨_, _, _, rfl, flatT⟩) rfl (by decide) ?_; (iterate 2 (focus (simp only [go_sem, simprocAttr, hb, hb2, frD]; done))); simp only [go_sem, simprocAttr, hb, hb2, frD])); try simp only [go_sem, simprocAttr, hb, hb2, frD]) | (intro h))
  have hb2 : decide ((L.length : Int) < 2) = false := decide_eq_false (by omega)
  have hb3 : decide ((L.length : Int) = 0) = false := decide_eq_false (by omega)
  obtain ⟨p1, hp1l, e1⟩ := pick_at i (n := L.length) (by omega)
  obtain ⟨p2, hp2l, e2⟩ := pick_at k (n := L.length) (by omega)
  have hxm := getD_memX (d := 0) hp1l
  have hym := getD_memX (d := 0) hp2l
  generalize hx : L.getD p1 0 = x at hxm
  generalize hy : L.getD p2 0 = y at hym
  have hRx := (hLm x).1 hxm
  have hRy := (hLm y).1 hym
  by_cases hxy : x = y
  · have hb5 : decide (x = y) = true := decide_eq_true hxy
    repeat' (first | fail | ((first | ((with_reducible (first | apply oA | apply oB)); exact rfl; intro K hK) | (refine hK _ ?_; clear hK K) | ((with_reducible (first | apply oG | apply oH)); iterate 3 exact rfl) | ((with_reducible apply oI); (iterate 2 exact rfl); intro K hK) | (with_reducible (first | apply wI | apply wJ | apply wK))); try simp only [go_sem, simprocAttr, hb, hb2, hb3, e1, e2, hx, hy, hb5, frD]) | (show awp _ (.seq (.region 14 _ _) _) _ _; (refine awp_frzT hX 59 rfl ?_; simp only [go_sem, simprocAttr, hb, hb2, hb3, e1, e2, hx, hy, hb5, frD])) | (with_reducible (first | apply oC | apply oJ | exact oK | apply wA | apply wB | apply wC hX hC | apply wD hX hC | apply wE hX hC hmix | apply wF hX hC hmix | apply wG | apply wH | apply And.intro)) | ((with_reducible refine oD ?_ ?_); first | fail | kernel_rfl) | ((with_reducible (first | apply oE | apply oF)); (iterate 3 exact rfl); all_goals (intro h; first | (exact absurd h (by decide)) | ((try simp only [go_sem, simprocAttr, hb, hb2, hb3, e1, e2, hx, hy, hb5, frD] at h); (try with_reducible intro K hK); simp only [go_sem, simprocAttr, hb, hb2, hb3, e1, e2, hx, hy, hb5, frD]))) | ((first | ((with_reducible apply wL); exact rfl) | ((with_reducible apply wM); exact rfl)); all_goals (try ((with_reducible intro h); first | (exact absurd h (by decide)) | (try simp only [go_sem, simprocAttr, hb, hb2, hb3, e1, e2, hx, hy, hb5, frD] at h)))) | omega | ((first | first | (refine acall_lend1 hX hC hP 59 (hL1) rfl rfl rfl ?_ ?_ (by first | exact ⟨_, _, _, rfl, flatI⟩ | exact ⟨_, _, _, rfl, flatT⟩) rfl (by decide) ?_; (iterate 2 (focus (simp only [go_sem, simprocAttr, hb, hb2, hb3, e1, e2, hx, hy, hb5, frD]; done))); simp only [go_sem, simprocAttr, hb, hb2, hb3, e1, e2, hx, hy, hb5, frD])); try simp only [go_sem, simprocAttr, hb, hb2, hb3, e1, e2, hx, hy, hb5, frD]) | (intro h))
  have hb5 : decide (x = y) = false := decide_eq_false hxy
  have i1 := succ_frI hm hi hRx (List.Perm.refl _)
  have i3 := succ_frI hm hi hRy (List.Perm.refl _)
  obtain ⟨k1, k2, k3, k4, k5⟩ := swap_good hc hi hxy hRx hRy (List.Perm.refl _) (List.Perm.refl _)
  have l1 := succF_len (g := g) (f := f) (x := x) (o := outZ g x)
  have l3 := succF_len (g := g) (f := f) (x := y) (o := outZ g y)
  have l2 := succF_len (g := g) (f := (succF g f x (outZ g x)).2) (x := y) (o := outZ g y)
  have l4 := succF_len (g := g) (f := (succF g f y (outZ g y)).2) (x := x) (o := outZ g x)
  have ox := outZ_len (g := g) (x := x)
  have oy := outZ_len (g := g) (x := y)
  have P1 := placeA_spec g hm f hi x (outZ g x) (by omega) (by omega) (by omega)
  have P2 := placeA_spec g hm _ i1 y (outZ g y) (by omega) (by omega) (by omega)
  have P3 := placeA_spec g hm f hi y (outZ g y) (by omega) (by omega) (by omega)
  have P4 := placeA_spec g hm _ i3 x (outZ g x) (by omega) (by omega) (by omega)
  rw [place_succ hRx] at P1
  rw [place_succ k1] at P2
  rw [place_succ hRy] at P3
  rw [place_succ k2] at P4
  have c1 : (succF g f x (outZ g x)).1.2 = 0 := rfl
  have c3 : (succF g f y (outZ g y)).1.2 = 0 := rfl
  have c2 : (succF g (succF g f x (outZ g x)).2 y (outZ g y)).1.2 = 0 := rfl
  have c4 : (succF g (succF g f y (outZ g y)).2 x (outZ g x)).1.2 = 0 := rfl
  have b1 : (succF g f x (outZ g x)).1.1.length ≤ f.row.length := by simp [succF]; omega
  have b3 : (succF g f y (outZ g y)).1.1.length ≤ f.row.length := by simp [succF]; omega
  generalize hs2 : succF g (succF g f x (outZ g x)).2 y (outZ g y) = s2 at k3 k5 l2 P2 c2
  generalize hs4 : succF g (succF g f y (outZ g y)).2 x (outZ g x) = s4 at k3 k4 l4 P4 c4
  clear hs2 hs4 k1 k2 i1 i3
  generalize succF g f x (outZ g x) = s1 at k4 l1 P1 P2 c1 b1 l2
  generalize succF g f y (outZ g y) = s3 at k5 l3 P3 P4 c3 b3 l4
  have q1 : (decide (s1.1.1 = s4.1.1)) = true := decide_eq_true (by rw [k4])
  have q2 : (decide (s2.1.1 = s3.1.1)) = true := decide_eq_true (by rw [k5])
  have q3 : (decide (s2.2.row = s4.2.row)) = true := decide_eq_true k3
  have b2 : s2.1.1.length ≤ 9223372036854775807 := by rw [← k5]; omega
  have S1 := sameItems_spec s1.1.1 s4.1.1 (by omega)
  have S2 := sameItems_spec s2.1.1 s3.1.1 b2
  have S3 := sameItems_spec s2.2.row s4.2.row (by omega)
  have R2 := rowT_spec [vw g, sI s2.2.pl] s2.2.row (by omega)
  have R4 := rowT_spec [vw g, sI s4.2.pl] s4.2.row (by omega)
  have C1 := cloneF_spec g f (by omega) (by omega)
  have hmx : endsZ (fun e => e.1) g.es g.es.length x = outZ g x := rfl
  have hmy : endsZ (fun e => e.1) g.es g.es.length y = outZ g y := rfl
  repeat' (first | fail | ((first | ((with_reducible (first | apply oA | apply oB)); exact rfl; intro K hK) | (refine hK _ ?_; clear hK K) | ((with_reducible (first | apply oG | apply oH)); iterate 3 exact rfl) | ((with_reducible apply oI); (iterate 2 exact rfl); intro K hK) | (with_reducible (first | apply wI | apply wJ | apply wK))); try simp only [go_sem, simprocAttr, hb, hb2, hb3, e1, e2, hx, hy, hb5, frD, frO, frN, endF1, hmx, hmy, c1, c2, c3, c4, q1, q2, q3]) | (show awp _ (.seq (.region 14 _ _) _) _ _; (refine awp_frzT hX 59 rfl ?_; simp only [go_sem, simprocAttr, hb, hb2, hb3, e1, e2, hx, hy, hb5, frD, frO, frN, endF1, hmx, hmy, c1, c2, c3, c4, q1, q2, q3])) | (with_reducible (first | apply oC | apply oJ | exact oK | apply wA | apply wB | apply wC hX hC | apply wD hX hC | apply wE hX hC hmix | apply wF hX hC hmix | apply wG | apply wH | apply And.intro)) | ((with_reducible refine oD ?_ ?_); first | fail | kernel_rfl) | ((with_reducible (first | apply oE | apply oF)); (iterate 3 exact rfl); all_goals (intro h; first | (exact absurd h (by decide)) | ((try simp only [go_sem, simprocAttr, hb, hb2, hb3, e1, e2, hx, hy, hb5, frD, frO, frN, endF1, hmx, hmy, c1, c2, c3, c4, q1, q2, q3] at h); (try with_reducible intro K hK); simp only [go_sem, simprocAttr, hb, hb2, hb3, e1, e2, hx, hy, hb5, frD, frO, frN, endF1, hmx, hmy, c1, c2, c3, c4, q1, q2, q3]))) | ((first | ((with_reducible apply wL); exact rfl) | ((with_reducible apply wM); exact rfl)); all_goals (try ((with_reducible intro h); first | (exact absurd h (by decide)) | (try simp only [go_sem, simprocAttr, hb, hb2, hb3, e1, e2, hx, hy, hb5, frD, frO, frN, endF1, hmx, hmy, c1, c2, c3, c4, q1, q2, q3] at h)))) | omega | ((first | first | (refine acall_lend1 hX hC hP 59 (hL1) rfl rfl rfl ?_ ?_ (by first | exact ⟨_, _, _, rfl, flatI⟩ | exact ⟨_, _, _, rfl, flatT⟩) rfl (by decide) ?_; (iterate 2 (focus (simp only [go_sem, simprocAttr, hb, hb2, hb3, e1, e2, hx, hy, hb5, frD, frO, frN, endF1, hmx, hmy, c1, c2, c3, c4, q1, q2, q3]; done))); simp only [go_sem, simprocAttr, hb, hb2, hb3, e1, e2, hx, hy, hb5, frD, frO, frN, endF1, hmx, hmy, c1, c2, c3, c4, q1, q2, q3]) | (refine acall_gen hX hC hP [(10000, 36), (10001, 100), (10003, 83), (10004, 102)] (C1) rfl rfl rfl ?_ ?_ ?_ ?_ ?_ ?_ ?_ ?_ ?_ ?_ ?_ ?_ ?_ ?_; (focus (simp only [go_sem, simprocAttr, hb, hb2, hb3, e1, e2, hx, hy, hb5, frD, frO, frN, endF1, hmx, hmy, c1, c2, c3, c4, q1, q2, q3]; done)); (iterate 12 (focus (simp [go_sem, simprocAttr, hb, hb2, hb3, e1, e2, hx, hy, hb5, frD, frO, frN, endF1, hmx, hmy, c1, c2, c3, c4, q1, q2, q3]; done))); simp only [go_sem, simprocAttr, hb, hb2, hb3, e1, e2, hx, hy, hb5, frD, frO, frN, endF1, hmx, hmy, c1, c2, c3, c4, q1, q2, q3, List.map_cons, List.map_nil]) | refine acall_simple hX hC hP (ends_spec g x true hl1) rfl rfl rfl (by simp only [go_sem, simprocAttr, hb, hb2, hb3, e1, e2, hx, hy, hb5, frD, frO, frN, endF1, hmx, hmy, c1, c2, c3, c4, q1, q2, q3]) rfl ?_ | refine acall_simple hX hC hP (ends_spec g y true hl1) rfl rfl rfl (by simp only [go_sem, simprocAttr, hb, hb2, hb3, e1, e2, hx, hy, hb5, frD, frO, frN, endF1, hmx, hmy, c1, c2, c3, c4, q1, q2, q3]) rfl ?_ | (refine acall_gen hX hC hP [(10000, 36), (10001, 100), (10002, 101)] (P1) rfl rfl rfl ?_ ?_ ?_ ?_ ?_ ?_ ?_ ?_ ?_ ?_ ?_ ?_ ?_ ?_; (focus (simp only [go_sem, simprocAttr, hb, hb2, hb3, e1, e2, hx, hy, hb5, frD, frO, frN, endF1, hmx, hmy, c1, c2, c3, c4, q1, q2, q3]; done)); (iterate 12 (focus (simp [go_sem, simprocAttr, hb, hb2, hb3, e1, e2, hx, hy, hb5, frD, frO, frN, endF1, hmx, hmy, c1, c2, c3, c4, q1, q2, q3]; done))); simp only [go_sem, simprocAttr, hb, hb2, hb3, e1, e2, hx, hy, hb5, frD, frO, frN, endF1, hmx, hmy, c1, c2, c3, c4, q1, q2, q3, List.map_cons, List.map_nil]) | (refine acall_gen hX hC hP [(10000, 36), (10001, 101), (10002, 103)] (P2) rfl rfl rfl ?_ ?_ ?_ ?_ ?_ ?_ ?_ ?_ ?_ ?_ ?_ ?_ ?_ ?_; (focus (simp only [go_sem, simprocAttr, hb, hb2, hb3, e1, e2, hx, hy, hb5, frD, frO, frN, endF1, hmx, hmy, c1, c2, c3, c4, q1, q2, q3]; done)); (iterate 12 (focus (simp [go_sem, simprocAttr, hb, hb2, hb3, e1, e2, hx, hy, hb5, frD, frO, frN, endF1, hmx, hmy, c1, c2, c3, c4, q1, q2, q3]; done))); simp only [go_sem, simprocAttr, hb, hb2, hb3, e1, e2, hx, hy, hb5, frD, frO, frN, endF1, hmx, hmy, c1, c2, c3, c4, q1, q2, q3, List.map_cons, List.map_nil]) | (refine acall_gen hX hC hP [(10000, 83), (10001, 102), (10002, 104)] (P3) rfl rfl rfl ?_ ?_ ?_ ?_ ?_ ?_ ?_ ?_ ?_ ?_ ?_ ?_ ?_ ?_; (focus (simp only [go_sem, simprocAttr, hb, hb2, hb3, e1, e2, hx, hy, hb5, frD, frO, frN, endF1, hmx, hmy, c1, c2, c3, c4, q1, q2, q3]; done)); (iterate 12 (focus (simp [go_sem, simprocAttr, hb, hb2, hb3, e1, e2, hx, hy, hb5, frD, frO, frN, endF1, hmx, hmy, c1, c2, c3, c4, q1, q2, q3]; done))); simp only [go_sem, simprocAttr, hb, hb2, hb3, e1, e2, hx, hy, hb5, frD, frO, frN, endF1, hmx, hmy, c1, c2, c3, c4, q1, q2, q3, List.map_cons, List.map_nil]) | (refine acall_gen hX hC hP [(10000, 83), (10001, 104), (10002, 105)] (P4) rfl rfl rfl ?_ ?_ ?_ ?_ ?_ ?_ ?_ ?_ ?_ ?_ ?_ ?_ ?_ ?_; (focus (simp only [go_sem, simprocAttr, hb, hb2, hb3, e1, e2, hx, hy, hb5, frD, frO, frN, endF1, hmx, hmy, c1, c2, c3, c4, q1, q2, q3]; done)); (iterate 12 (focus (simp [go_sem, simprocAttr, hb, hb2, hb3, e1, e2, hx, hy, hb5, frD, frO, frN, endF1, hmx, hmy, c1, c2, c3, c4, q1, q2, q3]; done))); simp only [go_sem, simprocAttr, hb, hb2, hb3, e1, e2, hx, hy, hb5, frD, frO, frN, endF1, hmx, hmy, c1, c2, c3, c4, q1, q2, q3, List.map_cons, List.map_nil]) | refine acall_simple hX hC hP (S1) rfl rfl rfl (by simp only [go_sem, simprocAttr, hb, hb2, hb3, e1, e2, hx, hy, hb5, frD, frO, frN, endF1, hmx, hmy, c1, c2, c3, c4, q1, q2, q3]) rfl ?_ | refine acall_simple hX hC hP (S2) rfl rfl rfl (by simp only [go_sem, simprocAttr, hb, hb2, hb3, e1, e2, hx, hy, hb5, frD, frO, frN, endF1, hmx, hmy, c1, c2, c3, c4, q1, q2, q3]) rfl ?_ | (refine acall_lend1 hX hC hP 150 (R2) rfl rfl rfl ?_ ?_ (by first | exact ⟨_, _, _, rfl, flatI⟩ | exact ⟨_, _, _, rfl, flatT⟩) rfl (by decide) ?_; (iterate 2 (focus (simp only [go_sem, simprocAttr, hb, hb2, hb3, e1, e2, hx, hy, hb5, frD, frO, frN, endF1, hmx, hmy, c1, c2, c3, c4, q1, q2, q3]; done))); simp only [go_sem, simprocAttr, hb, hb2, hb3, e1, e2, hx, hy, hb5, frD, frO, frN, endF1, hmx, hmy, c1, c2, c3, c4, q1, q2, q3]) | (refine acall_lend1 hX hC hP 154 (R4) rfl rfl rfl ?_ ?_ (by first | exact ⟨_, _, _, rfl, flatI⟩ | exact ⟨_, _, _, rfl, flatT⟩) rfl (by decide) ?_; (iterate 2 (focus (simp only [go_sem, simprocAttr, hb, hb2, hb3, e1, e2, hx, hy, hb5, frD, frO, frN, endF1, hmx, hmy, c1, c2, c3, c4, q1, q2, q3]; done))); simp only [go_sem, simprocAttr, hb, hb2, hb3, e1, e2, hx, hy, hb5, frD, frO, frN, endF1, hmx, hmy, c1, c2, c3, c4, q1, q2, q3]) | (refine acall_look hX hC hP (S3) rfl rfl rfl ?_ ?_ rfl ?_; iterate 2 (focus (simp only [go_sem, simprocAttr, hb, hb2, hb3, e1, e2, hx, hy, hb5, frD, frO, frN, endF1, hmx, hmy, c1, c2, c3, c4, q1, q2, q3]; done)))); try simp only [go_sem, simprocAttr, hb, hb2, hb3, e1, e2, hx, hy, hb5, frD, frO, frN, endF1, hmx, hmy, c1, c2, c3, c4, q1, q2, q3]) | (intro h))
end Go.Ab
end
