/- A part of the proof. -/
import Derived.Test.YtilamojcledkaaaL4P12
set_option linter.unusedSimpArgs false
set_option linter.unusedVariables false
section
namespace Go.Ab
open Go.Proofs
set_option maxRecDepth 10000

/-- What stands in a row: edges of the graph, and loose ends. -/
def ItOk (g : Gr) (t : It) : Prop := (t.1 = -1 ∧ t.2.2 = -1) ∨ (0 ≤ t.1 ∧ t.1 < g.es.length ∧ t.2.1 = (g.es.getD t.1.toNat (0, 0)).1 ∧ t.2.2 = (g.es.getD t.1.toNat (0, 0)).2)
structure FrInv (g : Gr) (f : Fr) : Prop where
  it : ∀ t ∈ f.row, ItOk g t
  pl : f.pl.Nodup
  rng : ∀ x ∈ f.pl, 0 ≤ x ∧ x < g.n
theorem span_met {row : List It} {x : Int} : ∀ k : Nat, (spanK row x k).2.2 = metK row x k
  | 0 => rfl
  | k + 1 => by
    rw [spanK_next, metK_next]
    split
    · show (spanK row x k).2.2 + 1 = _
      rw [span_met k]
    · exact span_met k
theorem metK_mono {row : List It} {x : Int} {j : Nat} : ∀ d : Nat, metK row x j ≤ metK row x (j + d)
  | 0 => Int.le_refl _
  | d + 1 => by
    have := metK_mono (row := row) (x := x) (j := j) d
    rw [← Nat.add_assoc, metK_next]
    split <;> omega
theorem metK_zero {row : List It} {x : Int} : ∀ {k : Nat}, (∀ j, j < k → (row.getD j (0, 0, 0)).2.2 ≠ x) → metK row x k = 0
  | 0, _ => rfl
  | k + 1, h => by
    rw [metK_next, if_neg (h k (by omega))]
    exact metK_zero fun j hj => h j (by omega)
theorem metK_same {row : List It} {x : Int} {b : Nat} : ∀ {d : Nat}, (∀ j, b ≤ j → j < b + d → (row.getD j (0, 0, 0)).2.2 ≠ x) → metK row x (b + d) = metK row x b
  | 0, _ => rfl
  | d + 1, h => by
    rw [← Nat.add_assoc, metK_next, if_neg (h (b + d) (by omega) (by omega))]
    exact metK_same fun j h1 h2 => h j h1 (by omega)
theorem thereG_in {f : Edge → Int} {g : Gr} {x : Int} (h0 : 0 ≤ x) (h1 : x < g.n) : thereG f g x = endsZ f g.es g.es.length x := if_pos ⟨h0, h1⟩
theorem needN_pos {g : Gr} {e : Int} (h0 : 0 ≤ e) (h1 : e < g.es.length) : 0 < needN g (g.es.getD e.toNat (0, 0)).2 := by
  refine List.length_pos_iff.2 fun h => ?_
  have hm : e ∈ endsZ (·.2) g.es g.es.length (g.es.getD e.toNat (0, 0)).2 := by
    simp only [endsZ, List.mem_map, List.mem_filter, List.mem_range, decide_eq_true_eq]
    exact ⟨e.toNat, ⟨by omega, rfl⟩, by simp; omega⟩
  rw [h] at hm; cases hm
theorem any_slice {row : List It} {p : It → Bool} {a b : Nat} (hb : b ≤ row.length) : ((row.take b).drop a).any p = true ↔ ∃ j, a ≤ j ∧ j < b ∧ p (row.getD j (0, 0, 0)) = true := by
  rw [List.any_eq_true]
  constructor
  · rintro ⟨t, ht, hp⟩
    obtain ⟨k, hk, rfl⟩ := List.mem_iff_getElem.1 ht
    simp only [List.length_drop, List.length_take] at hk
    refine ⟨a + k, by omega, by omega, ?_⟩
    rw [List.getD_eq_getElem?_getD, List.getElem?_eq_getElem (show a + k < row.length by omega)]
    simpa using hp
  · rintro ⟨j, h1, h2, hp⟩
    rw [List.getD_eq_getElem?_getD, List.getElem?_eq_getElem (show j < row.length by omega)] at hp
    refine ⟨row[j], ?_, hp⟩
    refine List.mem_iff_getElem.2 ⟨j - a, by simp; omega, ?_⟩
    simp only [List.getElem_drop, List.getElem_take]
    congr 1; omega
theorem ItOk.head {g : Gr} (hm : mayB g = true) {t : It} (h : ItOk g t) : (0 ≤ t.1 ↔ t.2.2 ≠ -1) ∧ -1 ≤ t.2.2 := by
  rcases h with ⟨h1, h2⟩ | ⟨h1, h2, _, h4⟩
  · omega
  · obtain ⟨_, h5, _⟩ := mayB_e hm (k := t.1.toNat) (by omega)
    omega
theorem ready_eq {g : Gr} (hm : mayB g = true) {f : Fr} (hi : FrInv g f) (x : Int) : readyF g f x = rReadyF g f x := by
  by_cases hx : x < 0 ∨ g.n ≤ x ∨ x ∈ f.pl
  · rw [readyF, rReadyF, if_pos hx, if_pos hx]
  rw [readyF, rReadyF, if_neg hx, if_neg hx]
  have hx0 : 0 ≤ x ∧ x < g.n := by
    constructor
    · exact Int.not_lt.1 fun h => hx (.inl h)
    · exact Int.not_le.1 fun h => hx (.inr (.inl h))
  have hmem : ∀ j, j < f.row.length → ItOk g (f.row.getD j (0, 0, 0)) := fun j hj => hi.it _ (getD_memX hj)
  rw [thereG_in hx0.1 hx0.2]
  have hN : (endsZ (fun e => e.2) g.es g.es.length x).length = needN g x := rfl
  rw [hN]
  have hmet : (spanF f.row x).2.2 = metK f.row x f.row.length := span_met _
  by_cases h0 : needN g x = 0
  · rw [if_pos h0, h0, decide_eq_true rfl, Bool.true_or, Bool.and_true, decide_eq_true_eq, hmet, metK_zero]
    · rfl
    · intro j hj he
      rcases hmem j hj with ⟨_, h2⟩ | ⟨h1, h2, _, h4⟩
      · omega
      · have := needN_pos h1 h2
        rw [← h4, he] at this
        omega
  · rw [if_neg h0, decide_eq_false h0, Bool.false_or, hmet]
    generalize needN g x = need at h0
    rcases spanK_ok (row := f.row) (x := x) f.row.length with ⟨hs, hno⟩ | ⟨a, b, c, hs, hab, hbl, hc0, hcl, ha, hb, hlo, hhi⟩
    · rw [metK_zero hno]
      have e1 : decide ((0 : Int) = (need : Int)) = false := decide_eq_false (by omega)
      rw [e1, Bool.false_and, Bool.and_false]
    · have hs' : spanF f.row x = ((a : Int), (b : Int), (c : Int)) := hs
      have hmc : metK f.row x f.row.length = c := by rw [← hmet, hs']
      rw [hs', hmc]
      simp only [Int.toNat_natCast]
      rw [Bool.and_comm]
      by_cases hcn : ¬ (c : Int) = need
      · rw [decide_eq_false hcn, Bool.and_false, Bool.and_false]
      rw [Decidable.not_not] at hcn
      rw [decide_eq_true hcn, Bool.and_true, Bool.and_true, bareF]
      congr 1
      rw [Bool.eq_iff_iff, any_slice hbl, List.any_eq_true]
      have ma : metK f.row x a = 0 := metK_zero hlo
      have ma1 : metK f.row x (a + 1) = 1 := by rw [metK_next, if_pos ha, ma]; rfl
      have mb : metK f.row x b = need := by
        have h := metK_same (row := f.row) (x := x) (b := b) (d := f.row.length - b) fun j h1 h2 => hhi j h1 (by omega)
        rw [show b + (f.row.length - b) = f.row.length by omega, hmc] at h
        omega
      have mb1 : metK f.row x (b - 1) + 1 = need := by
        have h := metK_next (row := f.row) (x := x) (k := b - 1)
        rw [if_pos hb, show b - 1 + 1 = b by omega, mb] at h
        omega
      constructor
      · rintro ⟨j, h1, h2, hp⟩
        simp only [otherI, Bool.and_eq_true, decide_eq_true_eq] at hp
        have hja : j ≠ a := fun e => hp.1 (by rw [e]; exact ha)
        have hjb : j ≠ b - 1 := fun e => hp.1 (by rw [e]; exact hb)
        have g1 := metK_mono (row := f.row) (x := x) (j := a + 1) (j - (a + 1))
        rw [show a + 1 + (j - (a + 1)) = j by omega] at g1
        have g2 := metK_mono (row := f.row) (x := x) (j := j) (b - 1 - j)
        rw [show j + (b - 1 - j) = b - 1 by omega] at g2
        exact ⟨j, List.mem_range.2 (by omega), lateJ_iff.2 ⟨⟨hp.1, ((hmem j (by omega)).head hm).1.2 hp.2⟩, by omega, by omega⟩⟩
      · rintro ⟨j, hj, hl⟩
        have hj := List.mem_range.1 hj
        obtain ⟨⟨h1, h2⟩, h3, h4⟩ := lateJ_iff.1 hl
        refine ⟨j, ?_, ?_, ?_⟩
        · refine Nat.not_lt.1 fun h => ?_
          have := metK_zero (row := f.row) (x := x) (k := j) fun i hi => hlo i (by omega)
          omega
        · refine Nat.not_le.1 fun h => ?_
          have := metK_same (row := f.row) (x := x) (b := b) (d := j - b) fun i h1 h2 => hhi i h1 (by omega)
          rw [show b + (j - b) = j by omega] at this
          omega
        · simp only [otherI, Bool.and_eq_true, decide_eq_true_eq]
          exact ⟨h1, ((hmem j hj).head hm).1.1 h2⟩
theorem pigeonP : ∀ {ms os : List Int}, ms.Nodup → (∀ i ∈ ms, i ∈ os) → os.length = ms.length → os.Perm ms
  | [], os, _, _, hl => by
    have h : os = [] := List.eq_nil_of_length_eq_zero (by simpa using hl)
    rw [h]
  | m :: ms, os, hn, hs, hl => by
    rw [List.nodup_cons] at hn
    have hm := hs m (List.mem_cons_self ..)
    refine (List.perm_cons_erase hm).trans (List.Perm.cons m (pigeonP hn.2 (fun j hj => ?_) ?_))
    · have : j ≠ m := fun e => hn.1 (e ▸ hj)
      exact (List.mem_erase_of_ne this).2 (hs j (List.mem_cons_of_mem _ hj))
    · rw [List.length_erase_of_mem hm, hl]; simp
theorem outZ_sorted {g : Gr} {x : Int} : (outZ g x).Pairwise (· ≤ ·) := by
  unfold outZ endsZ
  refine List.Pairwise.map _ (fun a b (h : a < b) => ?_) (List.Pairwise.filter _ List.pairwise_lt_range)
  show (a : Int) ≤ b
  omega
theorem srt_perm {l m : List Int} (h : l.Perm m) (hm : m.Pairwise (· ≤ ·)) : srt l = m := by
  have h1 : (srt l).Pairwise (· ≤ ·) := by
    have := List.pairwise_mergeSort (le := fun a b : Int => decide (a ≤ b)) (by simp; omega) (by simp; omega) l
    simpa [srt] using this
  have h2 : (srt l).Perm m := (by unfold srt; exact (List.mergeSort_perm l _).trans h)
  exact h2.eq_of_pairwise (fun a b _ _ h1 h2 => Int.le_antisymm h1 h2) h1 hm
theorem ready_rng {g : Gr} {f : Fr} {x : Int} (h : rReadyF g f x = true) : 0 ≤ x ∧ x < g.n ∧ x ∉ f.pl := by
  unfold rReadyF at h
  by_cases hx : x < 0 ∨ g.n ≤ x ∨ x ∈ f.pl
  · rw [if_pos hx] at h; cases h
  · exact ⟨Int.not_lt.1 fun h => hx (.inl h), Int.not_le.1 fun h => hx (.inr (.inl h)), fun h => hx (.inr (.inr h))⟩
theorem place_eq {g : Gr} (hm : mayB g = true) {f : Fr} (hi : FrInv g f) (x : Int) (outs : List Int) : placeF g f x outs = rPlaceF g f x outs := by
  rw [placeF, rPlaceF, ready_eq hm hi]
  cases hR : rReadyF g f x with
  | false => rw [if_pos rfl, if_pos rfl]
  | true =>
    obtain ⟨h0, h1, h2⟩ := ready_rng hR
    have ht : ¬ (true = false) := by simp
    rw [if_neg ht, if_neg ht, thereG_in h0 h1]
    show (if srt outs ≠ outZ g x then _ else succF g f x outs) = _
    by_cases hs : srt outs = outZ g x
    · rw [if_neg (fun h => h hs), if_neg]
      rintro (h | ⟨i, h3, h4⟩)
      · exact h (by rw [← hs, srt_length])
      · exact h4 (srt_memX.1 (hs ▸ h3))
    · rw [if_pos hs, if_pos]
      refine Decidable.byContradiction fun h => hs ?_
      have hl : outs.length = (outZ g x).length := Decidable.byContradiction fun e => h (.inl e)
      exact srt_perm (pigeonP endsZ_nodup (fun i hi => Decidable.byContradiction fun e => h (.inr ⟨i, hi, e⟩)) hl) outZ_sorted
theorem above_ok {g : Gr} {x : Int} {outs : List Int} (ho : ∀ i ∈ outs, i ∈ outZ g x) : ∀ t ∈ aboveF g x outs, ItOk g t := by
  intro t ht
  unfold aboveF at ht
  split at ht
  · rw [List.mem_singleton] at ht
    rw [ht]; exact .inl ⟨rfl, rfl⟩
  · obtain ⟨i, hi, rfl⟩ := List.mem_map.1 ht
    obtain ⟨⟨h1, h2⟩, h3⟩ := endsZ_mem (ho i hi)
    exact .inr ⟨h1, h2, h3.symm, rfl⟩
theorem succ_inv {g : Gr} {f : Fr} (hi : FrInv g f) {x : Int} (hR : rReadyF g f x = true) {outs : List Int} (ho : ∀ i ∈ outs, i ∈ outZ g x) : FrInv g (succF g f x outs).2 := by
  obtain ⟨h0, h1, h2⟩ := ready_rng hR
  refine ⟨fun t ht => ?_, ?_, fun y hy => ?_⟩
  · simp only [succF, List.mem_append] at ht
    rcases ht with (ht | ht) | ht
    · exact hi.it t (List.mem_of_mem_take ht)
    · exact above_ok ho t ht
    · exact hi.it t (List.mem_of_mem_drop ht)
  · show (f.pl ++ [x]).Nodup
    rw [List.nodup_append]
    refine ⟨hi.pl, by simp, fun a ha b hb e => h2 ?_⟩
    rw [List.mem_singleton] at hb
    rw [← hb, ← e]; exact ha
  · have hy : y ∈ f.pl ++ [x] := hy
    rcases List.mem_append.1 hy with h | h
    · exact hi.rng y h
    · rw [List.mem_singleton] at h
      rw [h]; exact ⟨h0, h1⟩
end Go.Ab
end
section
namespace Go.Ab
open Go.Proofs
set_option maxRecDepth 10000

def isH (x : Int) (t : It) : Bool := decide (t.2.2 = x)
/-- What stands from the first edge to x to the last one: those, and loose ends. -/
structure Mid (x : Int) (X : List It) : Prop where
  fst : ∃ p X', X = p :: X' ∧ p.2.2 = x
  lst : ∃ X' q, X = X' ++ [q] ∧ q.2.2 = x
  al : ∀ t ∈ X, t.2.2 = x ∨ t.2.2 = -1
def NoH (x : Int) (l : List It) : Prop := ∀ t ∈ l, t.2.2 ≠ x
theorem NoH.app {x : Int} {l m : List It} (h : NoH x l) (h' : NoH x m) : NoH x (l ++ m) := fun t ht => (List.mem_append.1 ht).elim (h t) (h' t)
theorem NoH.left {x : Int} {l m : List It} (h : NoH x (l ++ m)) : NoH x l := fun t ht => h t (List.mem_append.2 (.inl ht))
theorem NoH.right {x : Int} {l m : List It} (h : NoH x (l ++ m)) : NoH x m := fun t ht => h t (List.mem_append.2 (.inr ht))
theorem Mid.noH {x y : Int} {X : List It} (h : Mid x X) (hxy : x ≠ y) (hy : 0 ≤ y) : NoH y X := fun t ht e => by
  rcases h.al t ht with h1 | h1 <;> omega
theorem metK_count {row : List It} {x : Int} : ∀ {k : Nat}, k ≤ row.length → metK row x k = ((row.take k).countP (isH x) : Nat)
  | 0, _ => by simp [metK]
  | k + 1, h => by
    rw [metK_next, metK_count (k := k) (by omega), List.take_add_one, List.getElem?_eq_getElem (show k < row.length by omega), List.countP_append]
    simp only [Option.toList, List.countP_cons, List.countP_nil, isH, decide_eq_true_eq, List.getD_eq_getElem?_getD, List.getElem?_eq_getElem (show k < row.length by omega), Option.getD_some]
    split <;> simp
theorem getD_app1 {A X C : List It} {p : It} {X' : List It} (h : X = p :: X') : (A ++ X ++ C).getD A.length (0, 0, 0) = p := by
  subst h; simp [List.getD_eq_getElem?_getD]
theorem getD_app2 {A X C : List It} {q : It} {X' : List It} (h : X = X' ++ [q]) : (A ++ X ++ C).getD (A.length + X.length - 1) (0, 0, 0) = q := by
  subst h
  have e : A.length + (X' ++ [q]).length - 1 = (A ++ X').length := by simp
  rw [e, show A ++ (X' ++ [q]) ++ C = (A ++ X') ++ ([q] ++ C) by simp]
  simp [List.getD_eq_getElem?_getD]
theorem getD_app3 {A L : List It} {j : Nat} (h : j < A.length) : (A ++ L).getD j (0, 0, 0) ∈ A := by
  rw [List.getD_eq_getElem?_getD, List.getElem?_append_left h, List.getElem?_eq_getElem h]
  exact List.getElem_mem h
theorem getD_app4 {A L : List It} {j : Nat} (h : A.length ≤ j) (h' : j < (A ++ L).length) : (A ++ L).getD j (0, 0, 0) ∈ L := by
  rw [List.length_append] at h'
  rw [List.getD_eq_getElem?_getD, List.getElem?_append_right h, List.getElem?_eq_getElem (by omega)]
  exact List.getElem_mem _
theorem span_of {A X C : List It} {x : Int} (hA : NoH x A) (hC : NoH x C) (hX : Mid x X) :
    (spanF (A ++ X ++ C) x).1 = (A.length : Int) ∧ (spanF (A ++ X ++ C) x).2.1 = ((A.length + X.length : Nat) : Int) ∧ (spanF (A ++ X ++ C) x).2.2 = (X.countP (isH x) : Nat) := by
  have hcnt : (spanF (A ++ X ++ C) x).2.2 = (X.countP (isH x) : Nat) := by
    unfold spanF
    rw [span_met, metK_count (Nat.le_refl _), List.take_length, List.countP_append, List.countP_append]
    have h1 : A.countP (isH x) = 0 := List.countP_eq_zero.2 fun t ht => by simp [isH, hA t ht]
    have h2 : C.countP (isH x) = 0 := List.countP_eq_zero.2 fun t ht => by simp [isH, hC t ht]
    rw [h1, h2]; simp
  obtain ⟨p, X', e1, hp⟩ := hX.fst
  obtain ⟨X'', q, e2, hq⟩ := hX.lst
  have g1 := getD_app1 (A := A) (C := C) e1
  have g2 := getD_app2 (A := A) (C := C) e2
  have hXl : 0 < X.length := by rw [e1]; simp
  have hlen : (A ++ X ++ C).length = A.length + X.length + C.length := by simp; omega
  rcases spanK_ok (row := A ++ X ++ C) (x := x) (A ++ X ++ C).length with ⟨_, hno⟩ | ⟨a, b, c, hs, hab, hbl, hc0, hcl, ha, hb, hlo, hhi⟩
  · exact absurd (by rw [g1]; exact hp) (hno A.length (by omega))
  · have hs' : spanF (A ++ X ++ C) x = ((a : Int), (b : Int), (c : Int)) := hs
    refine ⟨?_, ?_, hcnt⟩
    · rw [hs']
      have h1 : ¬ A.length < a := fun h => hlo _ h (by rw [g1]; exact hp)
      have h2 : ¬ a < A.length := fun h => hA _ (by have := getD_app3 (L := X ++ C) h; rw [← List.append_assoc] at this; exact this) ha
      simp only; omega
    · rw [hs']
      have h1 : ¬ b < A.length + X.length := fun h => hhi (A.length + X.length - 1) (by omega) (by omega) (by rw [g2]; exact hq)
      have h2 : ¬ A.length + X.length < b := fun h => hC _ (getD_app4 (A := A ++ X) (j := b - 1) (by simp; omega) (by omega)) hb
      simp only; omega
theorem ready_join {g : Gr} (hm : mayB g = true) {f : Fr} (hi : FrInv g f) {A X C : List It} {x : Int} (h0 : 0 ≤ x) (h1 : x < g.n) (hp : x ∉ f.pl) (hr : f.row = A ++ X ++ C) (hA : NoH x A) (hC : NoH x C) (hX : Mid x X)
    (hc : X.countP (isH x) = needN g x) : rReadyF g f x = true := by
  rw [← ready_eq hm hi, readyF, if_neg (by rintro (h | h | h); omega; omega; exact hp h)]
  obtain ⟨e1, e2, e3⟩ := span_of hA hC hX
  rw [hr, e1, e2, e3, thereG_in h0 h1, Bool.and_eq_true, decide_eq_true_eq]
  refine ⟨by rw [hc]; rfl, ?_⟩
  rw [Bool.or_eq_true]; right
  simp only [bareF, Int.toNat_natCast]
  rw [List.take_append_of_le_length (by simp), List.take_of_length_le (by simp), List.drop_left, Bool.not_eq_true', List.any_eq_false]
  intro t ht
  simp only [otherI, Bool.and_eq_true, decide_eq_true_eq]
  rcases hX.al t ht with h | h <;> simp [h]
theorem ready_split {g : Gr} (hm : mayB g = true) {f : Fr} (hi : FrInv g f) {x : Int} (hR : rReadyF g f x = true) (hn : needN g x ≠ 0) :
    ∃ A X C, f.row = A ++ X ++ C ∧ NoH x A ∧ NoH x C ∧ Mid x X ∧ X.countP (isH x) = needN g x := by
  obtain ⟨h0, h1, h2⟩ := ready_rng hR
  rw [← ready_eq hm hi, readyF, if_neg (by rintro (h | h | h); omega; omega; exact h2 h), thereG_in h0 h1, Bool.and_eq_true, decide_eq_true_eq] at hR
  have hN : (endsZ (fun e => e.2) g.es g.es.length x).length = needN g x := rfl
  rw [hN, decide_eq_false hn, Bool.false_or] at hR
  obtain ⟨hc, hb⟩ := hR
  have hcnt : (f.row.countP (isH x) : Int) = needN g x := by
    rw [← hc]; unfold spanF
    rw [span_met, metK_count (Nat.le_refl _), List.take_length]
  rcases spanK_ok (row := f.row) (x := x) f.row.length with ⟨hs, hno⟩ | ⟨a, b, c, hs, hab, hbl, hc0, hcl, ha, hb', hlo, hhi⟩
  · have : spanF f.row x = (-1, 0, 0) := hs
    rw [this] at hc
    exfalso; simp only at hc; omega
  · have hs' : spanF f.row x = ((a : Int), (b : Int), (c : Int)) := hs
    rw [hs'] at hb
    simp only [Int.toNat_natCast] at hb
    have hA : NoH x (f.row.take a) := fun t ht => by
      obtain ⟨j, hj, rfl⟩ := List.mem_iff_getElem.1 ht
      simp only [List.length_take] at hj
      have := hlo j (by omega)
      rw [List.getD_eq_getElem?_getD, List.getElem?_eq_getElem (show j < f.row.length by omega)] at this
      simpa using this
    have hC : NoH x (f.row.drop b) := fun t ht => by
      obtain ⟨j, hj, rfl⟩ := List.mem_iff_getElem.1 ht
      simp only [List.length_drop] at hj
      have := hhi (b + j) (by omega) (by omega)
      rw [List.getD_eq_getElem?_getD, List.getElem?_eq_getElem (show b + j < f.row.length by omega)] at this
      simpa using this
    have hrow : f.row = f.row.take a ++ (f.row.take b).drop a ++ f.row.drop b := by
      have e1 : f.row.take a = (f.row.take b).take a := by rw [List.take_take, Nat.min_eq_left (by omega)]
      rw [e1, List.take_append_drop, List.take_append_drop]
    refine ⟨f.row.take a, (f.row.take b).drop a, f.row.drop b, hrow, hA, hC, ⟨?_, ?_, ?_⟩, ?_⟩
    · refine ⟨f.row.getD a (0, 0, 0), (f.row.take b).drop (a + 1), ?_, ha⟩
      rw [List.drop_eq_getElem_cons (by simp; omega)]
      congr 1
      rw [List.getD_eq_getElem?_getD, List.getElem?_eq_getElem (show a < f.row.length by omega)]
      simp
    · refine ⟨(f.row.take (b - 1)).drop a, f.row.getD (b - 1) (0, 0, 0), ?_, hb'⟩
      have e : f.row.take b = f.row.take (b - 1) ++ [f.row.getD (b - 1) (0, 0, 0)] := by
        conv => lhs; rw [show b = b - 1 + 1 by omega]
        rw [List.take_add_one, List.getD_eq_getElem?_getD, List.getElem?_eq_getElem (show b - 1 < f.row.length by omega)]
        rfl
      rw [e, List.drop_append_of_le_length (by simp; omega)]
    · intro t ht
      rw [bareF, Bool.not_eq_true', List.any_eq_false] at hb
      have := hb t ht
      simp only [otherI, Bool.and_eq_true, decide_eq_true_eq, not_and] at this
      by_cases h : t.2.2 = x
      · exact .inl h
      · exact .inr (Decidable.byContradiction fun h' => this h h')
    · have h1 : (f.row.take a).countP (isH x) = 0 := List.countP_eq_zero.2 fun t ht => by simp [isH, hA t ht]
      have h2 : (f.row.drop b).countP (isH x) = 0 := List.countP_eq_zero.2 fun t ht => by simp [isH, hC t ht]
      rw [hrow, List.countP_append, List.countP_append, h1, h2] at hcnt
      omega
theorem succ_of {g : Gr} {f : Fr} {A X C : List It} {x : Int} (o : List Int) (hr : f.row = A ++ X ++ C) (hA : NoH x A) (hC : NoH x C) (hX : Mid x X) :
    succF g f x o = ((X, 0), ⟨A ++ aboveF g x o ++ C, f.pl ++ [x]⟩) := by
  obtain ⟨e1, e2, e3⟩ := span_of hA hC hX
  have e4 : max (A.length : Int) 0 = (A.length : Int) := by omega
  unfold succF
  rw [hr, e1, e2, e4, Int.toNat_natCast, Int.toNat_natCast]
  rw [List.take_append_of_le_length (show A.length + X.length ≤ (A ++ X).length by simp), List.take_of_length_le (show (A ++ X).length ≤ A.length + X.length by simp), List.drop_left]
  rw [show (A ++ X ++ C).take A.length = A by rw [List.append_assoc, List.take_left]]
  rw [show (A ++ X ++ C).drop (A.length + X.length) = C by rw [← List.length_append, List.drop_left]]
theorem succ_none {g : Gr} {f : Fr} {x : Int} (o : List Int) (hr : NoH x f.row) : succF g f x o = (([], 0), ⟨aboveF g x o ++ f.row, f.pl ++ [x]⟩) := by
  have hs : spanF f.row x = (-1, 0, 0) := by
    rcases spanK_ok (row := f.row) (x := x) f.row.length with ⟨hs, _⟩ | ⟨a, b, c, hs, hab, hbl, hc0, hcl, ha, hb', hlo, hhi⟩
    · exact hs
    · exact absurd ha (hr _ (getD_memX (by omega)))
  have e4 : max (-1 : Int) 0 = 0 := by omega
  unfold succF
  rw [hs]
  simp [e4]
end Go.Ab
end
section
namespace Go.Ab
open Go.Proofs
set_option maxRecDepth 10000

structure FrI (g : Gr) (f : Fr) : Prop extends FrInv g f where
  tail : ∀ t ∈ f.row, 0 ≤ t.1 → t.2.1 ∈ f.pl
  head : ∀ t ∈ f.row, 0 ≤ t.1 → t.2.2 ∉ f.pl
  once : f.row.Pairwise fun s t => 0 ≤ s.1 → s.1 ≠ t.1
  low : ∀ i, i < g.es.length → hd g i ∈ f.pl → tl g i ∈ f.pl
  src : (f.pl = [] ∧ f.row = []) ∨ ∃ s ∈ f.pl, needN g s = 0
theorem frI_new (g : Gr) : FrI g ⟨[], []⟩ :=
  { it := by simp, pl := by simp, rng := by simp, tail := by simp, head := by simp, once := by simp, low := by simp, src := .inl ⟨rfl, rfl⟩ }
/-- What is ready has all its edges in the row. -/
theorem all_in {g : Gr} (hm : mayB g = true) {f : Fr} (hi : FrI g f) {x : Int} (hR : rReadyF g f x = true) {i : Nat} (hl : i < g.es.length) (hx : hd g i = x) : ∃ t ∈ f.row, t.1 = i ∧ t.2.1 = tl g i ∧ t.2.2 = x := by
  have hn : needN g x ≠ 0 := by
    have := needN_pos (g := g) (e := (i : Int)) (by omega) (by omega)
    rw [Int.toNat_natCast, show (g.es.getD i (0, 0)).2 = x from hx] at this
    omega
  obtain ⟨A, X, C, hr, hA, hC, hX, hc⟩ := ready_split hm hi.toFrInv hR hn
  have hN : (endsZ (fun e => e.2) g.es g.es.length x).length = needN g x := rfl
  have hok : ∀ t ∈ f.row, t.2.2 = x → 0 ≤ t.1 ∧ t.1 < g.es.length ∧ t.2.1 = (g.es.getD t.1.toNat (0, 0)).1 ∧ t.2.2 = (g.es.getD t.1.toNat (0, 0)).2 := fun t ht he => by
    rcases hi.it t ht with ⟨_, h2⟩ | h
    · have := (ready_rng hR).1; omega
    · exact h
  have hmem : ∀ t ∈ X, t ∈ f.row := fun t ht => by rw [hr]; simp [ht]
  have hperm := pigeonP (ms := (X.filter (isH x)).map (·.1)) (os := endsZ (fun e => e.2) g.es g.es.length x)
  have key : ∀ i ∈ endsZ (fun e => e.2) g.es g.es.length x, i ∈ (X.filter (isH x)).map (·.1) := by
    refine pigeon (ms := (X.filter (isH x)).map (·.1)) (os := endsZ (fun e => e.2) g.es g.es.length x) ?_ ?_ ?_
    · have h1 : X.Pairwise fun s t => 0 ≤ s.1 → s.1 ≠ t.1 := by
        have := hi.once
        rw [hr, List.pairwise_append, List.pairwise_append] at this
        exact this.1.2.1
      have h2 := h1.filter (isH x)
      rw [List.Nodup, List.pairwise_map]
      refine h2.imp_of_mem fun {a b} ha hb h => h ?_
      obtain ⟨ha1, ha2⟩ := List.mem_filter.1 ha
      exact (hok a (hmem a ha1) (by simpa [isH] using ha2)).1
    · intro e he
      obtain ⟨t, ht, rfl⟩ := List.mem_map.1 he
      obtain ⟨ht1, ht2⟩ := List.mem_filter.1 ht
      have ht2 : t.2.2 = x := by simpa [isH] using ht2
      obtain ⟨h1, h2, h3, h4⟩ := hok t (hmem t ht1) ht2
      simp only [endsZ, List.mem_map, List.mem_filter, List.mem_range, decide_eq_true_eq]
      exact ⟨t.1.toNat, ⟨by omega, by rw [← h4]; exact ht2⟩, by simp; omega⟩
    · rw [hN, ← hc, List.length_map, List.countP_eq_length_filter]
  have hie : (i : Int) ∈ endsZ (fun e => e.2) g.es g.es.length x := by
    simp only [endsZ, List.mem_map, List.mem_filter, List.mem_range, decide_eq_true_eq]
    exact ⟨i, ⟨hl, hx⟩, rfl⟩
  obtain ⟨t, ht, he⟩ := List.mem_map.1 (key _ hie)
  obtain ⟨ht1, ht2⟩ := List.mem_filter.1 ht
  have ht2 : t.2.2 = x := by simpa [isH] using ht2
  obtain ⟨h1, h2, h3, h4⟩ := hok t (hmem t ht1) ht2
  refine ⟨t, hmem t ht1, he, ?_, ht2⟩
  rw [h3, he, Int.toNat_natCast]; rfl
theorem ready_none {g : Gr} (hm : mayB g = true) {f : Fr} (hi : FrInv g f) {x : Int} (h0 : 0 ≤ x) (hn : needN g x = 0) : NoH x f.row := by
  intro t ht he
  rcases hi.it t ht with ⟨_, h2⟩ | ⟨h1, h2, _, h4⟩
  · omega
  · have := needN_pos h1 h2
    rw [← h4, he] at this
    omega
/-- A vertex is placed: how the row comes of it. -/
theorem succ_cases {g : Gr} (hm : mayB g = true) {f : Fr} (hi : FrInv g f) {x : Int} (hR : rReadyF g f x = true) :
    ∃ A X C, f.row = A ++ X ++ C ∧ NoH x A ∧ NoH x C ∧ (∀ t ∈ X, t.2.2 = x ∨ t.2.2 = -1) ∧ ∀ o, succF g f x o = ((X, 0), ⟨A ++ aboveF g x o ++ C, f.pl ++ [x]⟩) := by
  by_cases hn : needN g x = 0
  · have h := ready_none hm hi (ready_rng hR).1 hn
    exact ⟨[], [], f.row, by simp, fun t ht => (by cases ht), h, fun t ht => (by cases ht), fun o => by rw [succ_none o h]; simp⟩
  · obtain ⟨A, X, C, hr, hA, hC, hX, _⟩ := ready_split hm hi hR hn
    exact ⟨A, X, C, hr, hA, hC, hX.al, fun o => succ_of o hr hA hC hX⟩
theorem outZ_mem {g : Gr} {x i : Int} (h : i ∈ outZ g x) : ∃ k : Nat, i = k ∧ k < g.es.length ∧ tl g k = x := by
  obtain ⟨⟨h1, h2⟩, h3⟩ := endsZ_mem h
  exact ⟨i.toNat, by omega, by omega, h3⟩
theorem above_mem {g : Gr} {x : Int} {o : List Int} (ho : ∀ i ∈ o, i ∈ outZ g x) {t : It} (h : t ∈ aboveF g x o) : (t.1 = -1 ∧ t.2.2 = -1) ∨ ∃ k : Nat, k < g.es.length ∧ t.1 = k ∧ t.2.1 = x ∧ t.2.2 = hd g k ∧ tl g k = x ∧ t.1 ∈ o := by
  unfold aboveF at h
  split at h
  · rw [List.mem_singleton] at h
    rw [h]; exact .inl ⟨rfl, rfl⟩
  · obtain ⟨i, hio, rfl⟩ := List.mem_map.1 h
    obtain ⟨k, rfl, h1, h2⟩ := outZ_mem (ho i hio)
    exact .inr ⟨k, h1, rfl, rfl, by simp [itemF]; rfl, h2, hio⟩
/-- A vertex that is ready is no head of what a vertex that isn't placed has above it. -/
theorem above_noH {g : Gr} (hm : mayB g = true) {f : Fr} (hi : FrI g f) {x y : Int} (hx : x ∉ f.pl) (hR : rReadyF g f y = true) {o : List Int} (ho : ∀ i ∈ o, i ∈ outZ g x) : NoH y (aboveF g x o) := by
  intro t ht he
  rcases above_mem ho ht with ⟨_, h⟩ | ⟨k, h1, h2, h3, h4, h5, _⟩
  · have := (ready_rng hR).1; omega
  · obtain ⟨s, hs, e1, e2, e3⟩ := all_in hm hi hR h1 (by rw [← h4]; exact he)
    refine hx ?_
    rw [← h5, ← e2]
    exact hi.tail s hs (by omega)
theorem succ_frI {g : Gr} (hm : mayB g = true) {f : Fr} (hi : FrI g f) {x : Int} (hR : rReadyF g f x = true) {o : List Int} (ho : o.Perm (outZ g x)) : FrI g (succF g f x o).2 := by
  have hom : ∀ i ∈ o, i ∈ outZ g x := fun i h => ho.mem_iff.1 h
  have hx := (ready_rng hR).2.2
  have h0 := succ_inv hi.toFrInv hR hom
  obtain ⟨A, X, C, hr, hA, hC, hX, hs⟩ := succ_cases hm hi.toFrInv hR
  have hpl : (succF g f x o).2.pl = f.pl ++ [x] := rfl
  have hrow : (succF g f x o).2.row = A ++ aboveF g x o ++ C := by rw [hs o]
  have hmA : ∀ t ∈ A, t ∈ f.row := fun t ht => by rw [hr]; simp [ht]
  have hmC : ∀ t ∈ C, t ∈ f.row := fun t ht => by rw [hr]; simp [ht]
  have hself := above_noH hm hi hx hR hom
  refine { toFrInv := h0, tail := ?_, head := ?_, once := ?_, low := ?_, src := .inr ?_ }
  · intro t ht h1
    rw [hpl]
    rw [hrow, List.mem_append, List.mem_append] at ht
    rcases ht with (ht | ht) | ht
    · exact List.mem_append_left _ (hi.tail t (hmA t ht) h1)
    · rcases above_mem hom ht with ⟨h, _⟩ | ⟨k, _, _, h3, _⟩
      · omega
      · rw [h3]; simp
    · exact List.mem_append_left _ (hi.tail t (hmC t ht) h1)
  · intro t ht h1
    rw [hpl, List.mem_append, List.mem_singleton]
    rw [hrow, List.mem_append, List.mem_append] at ht
    rcases ht with (ht | ht) | ht
    · rintro (h | h)
      · exact hi.head t (hmA t ht) h1 h
      · exact hA t ht h
    · rintro (h | h)
      · rcases above_mem hom ht with ⟨h', _⟩ | ⟨k, hk, _, _, h4, h5, _⟩
        · omega
        · rw [h4] at h
          have := hi.low k hk h
          rw [h5] at this; exact hx this
      · exact hself t ht h
    · rintro (h | h)
      · exact hi.head t (hmC t ht) h1 h
      · exact hC t ht h
  · have hon := hi.once
    rw [hr, List.pairwise_append, List.pairwise_append] at hon
    obtain ⟨⟨hoA, _, _⟩, hoC, hoAC⟩ := hon
    have old : ∀ s ∈ f.row, 0 ≤ s.1 → ∀ t ∈ aboveF g x o, s.1 ≠ t.1 := fun s hs h1 t ht e => by
      rcases above_mem hom ht with ⟨h, _⟩ | ⟨k, hk, h2, h3, h4, h5, _⟩
      · omega
      · rcases hi.it s hs with ⟨h, _⟩ | ⟨_, _, h6, _⟩
        · omega
        · have := hi.tail s hs h1
          rw [h6, e, h2, Int.toNat_natCast] at this
          exact hx (h5 ▸ this)
    rw [hrow, List.pairwise_append, List.pairwise_append]
    refine ⟨⟨hoA, ?_, fun s hs t ht h1 => old s (hmA s hs) h1 t ht⟩, hoC, ?_⟩
    · unfold aboveF
      split
      · simp
      · refine List.pairwise_map.2 ((ho.nodup_iff.2 endsZ_nodup).imp fun {i j} (h : i ≠ j) _ => ?_)
        exact h
    · intro s hs t ht h1
      rcases List.mem_append.1 hs with hs | hs
      · exact hoAC s (List.mem_append_left _ hs) t ht h1
      · intro e
        exact old t (hmC t ht) (by omega) s hs e.symm
  · intro i hl h
    rw [hpl, List.mem_append, List.mem_singleton] at h ⊢
    left
    rcases h with h | h
    · exact hi.low i hl h
    · obtain ⟨t, ht, e1, e2, _⟩ := all_in hm hi hR hl h
      rw [← e2]
      exact hi.tail t ht (by omega)
  · rcases hi.src with ⟨h1, h2⟩ | ⟨s, hs, h⟩
    · refine ⟨x, by rw [hpl]; simp, ?_⟩
      refine Decidable.byContradiction fun hn => ?_
      obtain ⟨A, X, C, hr, _, _, hX, _⟩ := ready_split hm hi.toFrInv hR hn
      obtain ⟨p, X', e, _⟩ := hX.fst
      rw [h2, e] at hr
      simp at hr
    · exact ⟨s, by rw [hpl]; simp [hs], h⟩
/-- Two parts in a row, of two vertices, stand apart. -/
theorem apart {x y : Int} (hx : 0 ≤ x) (hy : 0 ≤ y) (hxy : x ≠ y) {A X C B Y D : List It} (h : A ++ X ++ C = B ++ Y ++ D) (hX : Mid x X) (hY : Mid y Y) :
    (∃ M, B = A ++ X ++ M ∧ C = M ++ Y ++ D) ∨ (∃ M, A = B ++ Y ++ M ∧ D = M ++ X ++ C) := by
  obtain ⟨p, X', hX', hp⟩ := hX.fst
  obtain ⟨q, Y', hY', hq⟩ := hY.fst
  have nX : q ∉ X := fun h => hX.noH hxy hy q h hq
  have nY : p ∉ Y := fun h => hY.noH (Ne.symm hxy) hx p h hp
  rw [show B ++ Y ++ D = B ++ (Y ++ D) by simp, List.append_eq_append_iff] at h
  rcases h with ⟨es, h1, h2⟩ | ⟨cs, h1, h2⟩
  · exact .inl ⟨es, h1, by rw [h2]; simp⟩
  · match cs, h1, h2 with
    | [], h1, h2 => exact .inl ⟨[], by simpa using h1.symm, by simpa using h2.symm⟩
    | c :: cs, h1, h2 =>
      have hcq : c = q := by rw [hY'] at h2; simp at h2; exact h2.1.symm
      rw [List.append_eq_append_iff] at h1
      rcases h1 with ⟨es, h3, h4⟩ | ⟨ds, h3, h4⟩
      · exfalso; refine nX ?_
        rw [h4, ← hcq]; simp
      · rw [h4, List.append_assoc, List.append_eq_append_iff] at h2
        rcases h2 with ⟨es, h5, h6⟩ | ⟨bs, h5, h6⟩
        · exact .inr ⟨es, by rw [h3, h5]; simp, by rw [h6]; simp⟩
        · match bs, h5, h6 with
          | [], h5, h6 => exact .inr ⟨[], by rw [h3, h5]; simp, by simpa using h6.symm⟩
          | b :: bs, h5, h6 =>
            exfalso; refine nY ?_
            have hbp : b = p := by rw [hX'] at h6; simp at h6; exact h6.1.symm
            rw [h5, ← hbp]; simp
theorem bare_mem9 {g : Gr} {y : Int} : y ∈ bareG (·.2) g ↔ (0 ≤ y ∧ y < g.n) ∧ needN g y = 0 := by
  simp only [bareG, bareK, List.mem_map, List.mem_filter, List.mem_range, decide_eq_true_eq]
  have he : ∀ x : Nat, x < g.n.toNat → (((endsL (·.2) g).getD x []).length = needN g (x : Int)) := by
    intro x hx
    have e : (endsL (·.2) g).getD x [] = endsZ (·.2) g.es g.es.length (x : Int) := by
      simp [endsL, List.getD_eq_getElem?_getD, List.getElem?_range hx, endsK_eq]
    rw [e]; rfl
  constructor
  · rintro ⟨x, ⟨hx, h0⟩, rfl⟩
    refine ⟨by simp; omega, by rw [he x hx] at h0; exact h0⟩
  · rintro ⟨⟨h1, h2⟩, h3⟩
    have e : ((y.toNat : Nat) : Int) = y := by omega
    exact ⟨y.toNat, ⟨by omega, by rw [he _ (by omega), e]; exact h3⟩, e⟩
/-- A good graph has one source. -/
theorem one_src {g : Gr} (hc : (chkG g).1 = 0) {x y : Int} (hx : 0 ≤ x ∧ x < g.n) (hy : 0 ≤ y ∧ y < g.n) (nx : needN g x = 0) (ny : needN g y = 0) : x = y := by
  have h1 : (bareG (·.2) g).length ≤ 1 := by
    unfold chkG chkOf at hc
    refine Nat.not_lt.1 fun h => ?_
    split at hc
    · cases hc
    split at hc
    · cases hc
    split at hc
    · cases hc
    split at hc
    · cases hc
    cases hc
  have h2 := bare_mem9.2 ⟨hx, nx⟩
  have h3 := bare_mem9.2 ⟨hy, ny⟩
  match hb : bareG (·.2) g with
  | [] => rw [hb] at h2; cases h2
  | [z] => rw [hb, List.mem_singleton] at h2 h3; rw [h2, h3]
  | _ :: _ :: _ => rw [hb] at h1; simp at h1
theorem good_may {g : Gr} (hc : (chkG g).1 = 0) : mayB g = true := by
  unfold chkG chkOf at hc
  split at hc
  · cases hc
  · rename_i h; simpa using h
end Go.Ab
end
section
namespace Go.Ab
open Go.Proofs
attribute [local congr] ACall.congr
set_option maxRecDepth 10000
set_option maxHeartbeats 4000000

/-- The last one of two heads that was met, how often they came by turns. -/
def turnK (row : List It) (a b : Int) : Nat → Int × Int
  | 0 => (-1, 0)
  | k + 1 => if ((row.getD k (0, 0, 0)).2.2 = a ∨ (row.getD k (0, 0, 0)).2.2 = b) ∧ (row.getD k (0, 0, 0)).2.2 ≠ (turnK row a b k).1 then ((row.getD k (0, 0, 0)).2.2, (turnK row a b k).2 + 1) else turnK row a b k
end Go.Ab
end
section
namespace Go.Ab
open Go.Proofs
attribute [local congr] ACall.congr
set_option maxRecDepth 10000
set_option maxHeartbeats 4000000

def hdN (row : List It) (i : Nat) : Int := (row.getD i (0, 0, 0)).2.2
def twoB (row : List It) (i j : Nat) : Bool := decide (hdN row i ≠ -1) && decide (hdN row j ≠ -1) && decide (hdN row i ≠ hdN row j) && decide (4 ≤ (turnK row (hdN row i) (hdN row j) row.length).2)
def tangF (row : List It) : Bool := (List.range row.length).any fun i => (List.range row.length).any (twoB row i)
end Go.Ab
end
section
namespace Go.Ab
open Go.Proofs
attribute [local congr] ACall.congr
set_option maxRecDepth 10000
set_option maxHeartbeats 8000000

def T4 (row : List It) (a b c d : Nat) : Prop := 0 ≤ (row.getD a (0, 0, 0)).2.2 ∧ 0 ≤ (row.getD b (0, 0, 0)).2.2 ∧ (row.getD a (0, 0, 0)).2.2 ≠ (row.getD b (0, 0, 0)).2.2 ∧ (row.getD a (0, 0, 0)).2.2 = (row.getD c (0, 0, 0)).2.2 ∧ (row.getD b (0, 0, 0)).2.2 = (row.getD d (0, 0, 0)).2.2
def TanP (row : List It) : Prop := ∃ a b c d, a < b ∧ b < c ∧ c < d ∧ d < row.length ∧ T4 row a b c d
end Go.Ab
end
section
namespace Go.Ab
open Go.Proofs
set_option maxRecDepth 10000

theorem nodup_lenX : ∀ {l m : List Int}, l.Nodup → (∀ i ∈ l, i ∈ m) → l.length ≤ m.length
  | [], _, _, _ => by simp
  | a :: l, m, hn, hs => by
    rw [List.nodup_cons] at hn
    have ha := hs a (List.mem_cons_self ..)
    have := nodup_lenX hn.2 (m := m.erase a) fun i hi => (List.mem_erase_of_ne (fun e : i = a => hn.1 (e ▸ hi))).2 (hs i (List.mem_cons_of_mem _ hi))
    rw [List.length_erase_of_mem ha] at this
    have := List.length_pos_of_mem ha
    rw [List.length_cons]; omega
theorem full_none {g : Gr} {f : Fr} (hi : FrInv g f) (hf : (f.pl.length : Int) = g.n) {x : Int} (hx : 0 ≤ x ∧ x < g.n) : x ∈ f.pl := by
  refine Decidable.byContradiction fun h => ?_
  have h1 : (x :: f.pl).Nodup := List.nodup_cons.2 ⟨h, hi.pl⟩
  have h2 : ((List.range g.n.toNat).map Int.ofNat).length = g.n.toNat := by simp
  have h3 := nodup_lenX h1 (m := (List.range g.n.toNat).map Int.ofNat) (fun y hy => by
    rw [List.mem_map]
    have : 0 ≤ y ∧ y < g.n := by
      rcases List.mem_cons.1 hy with h | h
      · rw [h]; exact hx
      · exact hi.rng y h
    exact ⟨y.toNat, List.mem_range.2 (by omega), by simp; omega⟩)
  rw [h2, List.length_cons] at h3
  omega
/-- Heads by turns, in a row. -/
def Tg (a b : Int) (row : List It) : Prop := ∃ l : List It, l.Sublist row ∧ l.map (fun t => t.2.2) = [a, b, a, b]
def isAB (a b : Int) (t : It) : Bool := decide (t.2.2 = a) || decide (t.2.2 = b)
theorem Tg.filt {a b : Int} {row : List It} : Tg a b row ↔ Tg a b (row.filter (isAB a b)) := by
  constructor
  · rintro ⟨l, h, e⟩
    refine ⟨l, ?_, e⟩
    have h1 := h.filter (isAB a b)
    rw [List.filter_eq_self.2] at h1
    · exact h1
    · intro t ht
      have : t.2.2 ∈ l.map (fun t => t.2.2) := List.mem_map.2 ⟨t, ht, rfl⟩
      rw [e] at this
      simp only [isAB, Bool.or_eq_true, decide_eq_true_eq]
      simp only [List.mem_cons, List.not_mem_nil, or_false] at this
      omega
  · rintro ⟨l, h, e⟩
    exact ⟨l, h.trans List.filter_sublist, e⟩
theorem Tg.keep {a b x : Int} (ha : 0 ≤ a) (hb : 0 ≤ b) (hax : a ≠ x) (hbx : b ≠ x) {A X C u : List It} (hX : ∀ t ∈ X, t.2.2 = x ∨ t.2.2 = -1) (h : Tg a b (A ++ X ++ C)) : Tg a b (A ++ u ++ C) := by
  rw [Tg.filt] at h ⊢
  obtain ⟨l, h, e⟩ := h
  refine ⟨l, h.trans ?_, e⟩
  rw [List.filter_append, List.filter_append, List.filter_append, List.filter_append]
  have : X.filter (isAB a b) = [] := List.filter_eq_nil_iff.2 fun t ht => by
    simp only [isAB, Bool.or_eq_true, decide_eq_true_eq]
    rcases hX t ht with h | h <;> omega
  rw [this, List.append_nil]
  exact List.Sublist.append_right (List.sublist_append_left _ _) _
theorem Tg.not {a b x : Int} (hab : a ≠ b) (hb0 : 0 ≤ b) (ha0 : 0 ≤ a) (hx : x = a ∨ x = b) {A X C : List It} (hA : NoH x A) (hC : NoH x C) (hX : ∀ t ∈ X, t.2.2 = x ∨ t.2.2 = -1) : ¬ Tg a b (A ++ X ++ C) := by
  rintro ⟨l, h, e⟩
  rw [List.append_assoc, List.sublist_append_iff] at h
  obtain ⟨l1, l', rfl, h1, h'⟩ := h
  rw [List.sublist_append_iff] at h'
  obtain ⟨l2, l3, rfl, h2, h3⟩ := h'
  have k1 : ∀ t ∈ l1, t.2.2 ≠ x := fun t ht => hA t (h1.subset ht)
  have k2 : ∀ t ∈ l2, t.2.2 = x ∨ t.2.2 = -1 := fun t ht => hX t (h2.subset ht)
  have k3 : ∀ t ∈ l3, t.2.2 ≠ x := fun t ht => hC t (h3.subset ht)
  clear h1 h2 h3
  match l1, k1, e with
  | t1 :: t2 :: _, k1, e =>
    simp only [List.cons_append, List.map_cons, List.cons.injEq] at e
    rcases hx with h | h
    · exact k1 t1 (by simp) (by omega)
    · exact k1 t2 (by simp) (by omega)
  | [t1], k1, e =>
    simp only [List.cons_append, List.nil_append, List.map_cons, List.cons.injEq] at e
    rcases hx with h | h
    · exact k1 t1 (by simp) (by omega)
    · match l2, k2, e with
      | [], _, e =>
        match l3, k3, e with
        | [s1, s2, s3], k3, e =>
          simp only [List.nil_append, List.map_cons, List.map_nil, List.cons.injEq, and_true] at e
          exact k3 s1 (by simp) (by omega)
        | [], _, e => simp at e
        | [_], _, e => simp at e
        | [_, _], _, e => simp at e
        | _ :: _ :: _ :: _ :: _, _, e => simp at e
      | s1 :: s2 :: _, k2, e =>
        simp only [List.cons_append, List.map_cons, List.cons.injEq] at e
        rcases k2 s2 (by simp) with h | h <;> omega
      | [s1], k2, e =>
        match l3, k3, e with
        | [u1, u2], k3, e =>
          simp only [List.cons_append, List.nil_append, List.map_cons, List.map_nil, List.cons.injEq, and_true] at e
          exact k3 u2 (by simp) (by omega)
        | [], _, e => simp at e
        | [_], _, e => simp at e
        | _ :: _ :: _ :: _, _, e => simp at e
  | [], _, e =>
    simp only [List.nil_append] at e
    match l2, k2, e with
    | [], _, e =>
      match l3, k3, e with
      | [], _, e => simp at e
      | [_], _, e => simp at e
      | s1 :: s2 :: _, k3, e =>
        simp only [List.nil_append, List.map_cons, List.cons.injEq] at e
        rcases hx with h | h
        · exact k3 s1 (by simp) (by omega)
        · exact k3 s2 (by simp) (by omega)
    | s1 :: s2 :: _, k2, e =>
      simp only [List.cons_append, List.map_cons, List.cons.injEq] at e
      have q1 := k2 s1 (by simp)
      have q2 := k2 s2 (by simp)
      omega
    | [s1], k2, e =>
      match l3, k3, e with
      | [], _, e => simp at e
      | [_], _, e => simp at e
      | [_, _], _, e => simp at e
      | u1 :: u2 :: u3 :: _, k3, e =>
        simp only [List.cons_append, List.nil_append, List.map_cons, List.cons.injEq] at e
        have q1 := k2 s1 (by simp)
        exact k3 u2 (by simp) (by omega)
end Go.Ab
end
section
namespace Go.Ab
open Go.Proofs
set_option maxRecDepth 10000

theorem take_getD {row : List It} {k : Nat} (h : k < row.length) : row.take (k + 1) = row.take k ++ [row.getD k (0, 0, 0)] := by
  rw [List.take_add_one, List.getD_eq_getElem?_getD, List.getElem?_eq_getElem h]; rfl
/-- Heads that are a or b, no two behind each other alike; the last one. -/
def Altn (a b : Int) : List It → Prop
  | [] => True
  | [t] => t.2.2 = a ∨ t.2.2 = b
  | s :: t :: l => (s.2.2 = a ∨ s.2.2 = b) ∧ s.2.2 ≠ t.2.2 ∧ Altn a b (t :: l)
end Go.Ab
end
section
namespace Go.Ab
open Go.Proofs
attribute [local congr] ACall.congr
set_option maxRecDepth 10000

theorem same_spec (g g' : Gr) (hlen : g.es.length ≤ 9223372036854775807) : Spec Try.prog 19 (Args [eG g, eG g']) [] (eB (decide (g.n = g'.n) && decide (g.es = g'.es))) [] := by
  (refine Spec.intro (C := T.cfg [] []) (rs := [.t 4]) (T.cfg_ok _ _) Try.func19 rfl rfl Try.ntmps19 Try.results19 (by simp [AObj.isNest]) (by simp [AObj.isNest]) (by kernel_rfl) ?_; intro X hX hP hC hXn hXm vals hA; refine ⟨_, by simp, hA, ?_⟩; have hmix : X.P.follows .mixedOrders = true := (by rw [hP]; exact T.mixed); clear hXn hXm)
  repeat' (first | fail | ((first | ((with_reducible (first | apply oA | apply oB)); exact rfl; intro K hK) | (refine hK _ ?_; clear hK K) | ((with_reducible (first | apply oG | apply oH)); iterate 3 exact rfl) | ((with_reducible apply oI); (iterate 2 exact rfl); intro K hK) | (with_reducible (first | apply wI | apply wJ | apply wK))); try simp only [go_sem, simprocAttr, beqE]) | fail | (with_reducible (first | apply oC | apply oJ | exact oK | apply wA | apply wB | apply wC hX hC | apply wD hX hC | apply wE hX hC hmix | apply wF hX hC hmix | apply wG | apply wH | apply And.intro)) | ((with_reducible refine oD ?_ ?_); first | fail | kernel_rfl) | ((with_reducible (first | apply oE | apply oF)); (iterate 3 exact rfl); all_goals (intro h; first | (exact absurd h (by decide)) | ((try simp only [go_sem, simprocAttr, beqE] at h); (try with_reducible intro K hK); simp only [go_sem, simprocAttr, beqE]))) | ((first | ((with_reducible apply wL); exact rfl) | ((with_reducible apply wM); exact rfl)); all_goals (try ((with_reducible intro h); first | (exact absurd h (by decide)) | (try simp only [go_sem, simprocAttr, beqE] at h)))) | omega | ((first | fail); try simp only [go_sem, simprocAttr, beqE]) | (intro h))
  · have : g.es ≠ g'.es := fun e => h (by rw [e])
    simp [this]
  rotate_left
  · simp [*]
  refine awp_loopP (fun k : Nat => k ≤ g.es.length ∧ g.es.take k = g'.es.take k) (fun k => ⟨[(2, .ptr 2 0), (3, .ptr 3 0), (5, eN k)], [(2, .box [eN g.n, .d (sE g.es)]), (3, .box [eN g'.n, .d (sE g'.es)])]⟩) (fun k => g.es.length - k) 0 (by simp) ?_ ?_
  · (refine Le.of ?_ ?_ <;> simp [go_sem, simprocAttr, beqE])
  rintro k ⟨hk, hp⟩
  have hlq : g.es.length = g'.es.length := by omega
  repeat' (first | fail | ((first | ((with_reducible (first | apply oA | apply oB)); exact rfl; intro K hK) | (refine hK _ ?_; clear hK K) | ((with_reducible (first | apply oG | apply oH)); iterate 3 exact rfl) | ((with_reducible apply oI); (iterate 2 exact rfl); intro K hK) | (with_reducible (first | apply wI | apply wJ | apply wK))); try simp only [go_sem, simprocAttr, beqE]) | fail | (with_reducible (first | apply oC | apply oJ | exact oK | apply wA | apply wB | apply wC hX hC | apply wD hX hC | apply wE hX hC hmix | apply wF hX hC hmix | apply wG | apply wH | apply And.intro)) | ((with_reducible refine oD ?_ ?_); first | fail | kernel_rfl) | ((with_reducible (first | apply oE | apply oF)); (iterate 3 exact rfl); all_goals (intro h; first | (exact absurd h (by decide)) | ((try simp only [go_sem, simprocAttr, beqE] at h); (try with_reducible intro K hK); simp only [go_sem, simprocAttr, beqE]))) | ((first | ((with_reducible apply wL); exact rfl) | ((with_reducible apply wM); exact rfl)); all_goals (try ((with_reducible intro h); first | (exact absurd h (by decide)) | (try simp only [go_sem, simprocAttr, beqE] at h)))) | omega | ((first | fail); try simp only [go_sem, simprocAttr, beqE]) | (intro h))
  · have : g.es ≠ g'.es := fun e => h (by rw [e])
    simp [this]
  · refine ⟨k + 1, ⟨by omega, take_next (0, 0) (by omega) (by omega) hp h⟩, ?_, by omega⟩
    (refine Le.of ?_ ?_ <;> simp [go_sem, simprocAttr, beqE])
  · have : k = g.es.length := by omega
    subst this
    rw [List.take_of_length_le (Nat.le_refl _), List.take_of_length_le (by omega)] at hp
    simp [*]
end Go.Ab
end
section
namespace Go.Ab
open Go.Proofs
attribute [local congr] ACall.congr
set_option maxRecDepth 10000

/-- Are all tails of the first i edges to x placed? -/
def tailsB (g : Gr) (out : List Int) (x : Nat) (i : Nat) : Bool := (List.range i).all fun j => !decide (hd g j = (x : Int)) || decide (tl g j ∈ out)
/-- No vertex below k waits for none; or the one below k is the first that waits for none. -/
def OrdP (g : Gr) (out : List Int) (k : Nat) (f : Bool) : Prop := k ≤ g.n.toNat ∧ (if f then 0 < k ∧ wt g out (k - 1) = 0 ∧ ∀ j, j < k - 1 → wt g out j ≠ 0 else ∀ j, j < k → wt g out j ≠ 0)
def ordL (out : List Int) (k : Nat) (f : Bool) : List Int := if f then out ++ [((k - 1 : Nat) : Int)] else out
end Go.Ab
end
section
namespace Go.Ab
open Go.Proofs
attribute [local congr] ACall.congr
set_option maxRecDepth 10000

end Go.Ab
end
section
namespace Go.Ab
open Go.Proofs
set_option maxRecDepth 10000

structure Pl where
  ord : List Int
  outs : List (List Int)
def oAt (p : Pl) (k : Nat) : Int := p.ord.getD k 0
def lAt (p : Pl) (x : Int) : List Int := p.outs.getD x.toNat []
def PlanOk (g : Gr) (p : Pl) : Prop := p.outs.length = g.n.toNat ∧ p.ord.Perm (allN g.n.toNat) ∧ ∀ x : Nat, x < g.n.toNat → (p.outs.getD x []).Perm (outZ g x)
def fK (g : Gr) (p : Pl) : Nat → Fr
  | 0 => ⟨[], []⟩
  | k + 1 => (succF g (fK g p k) (oAt p k) (lAt p (oAt p k))).2
def goneK (g : Gr) (p : Pl) (k : Nat) : List It := (succF g (fK g p k) (oAt p k) (lAt p (oAt p k))).1.1
def okK (g : Gr) (p : Pl) (k : Nat) : Bool := rReadyF g (fK g p k) (oAt p k)
def endR (g : Gr) (p : Pl) : Nat → List (List It)
  | 0 => List.replicate g.n.toNat []
  | k + 1 => (endR g p k).set (oAt p k).toNat (goneK g p k)
/-- The first one that can't be placed. -/
def stopK (g : Gr) (p : Pl) : Nat → Option Nat
  | 0 => none
  | k + 1 => match stopK g p k with
    | some i => some i
    | none => if okK g p k = true then none else some k
def RunsP (g : Gr) (p : Pl) : Prop := (chkG g).1 = 0 ∧ PlanOk g p ∧ ∀ k, k < g.n.toNat → okK g p k = true
theorem stopK_none {g : Gr} {p : Pl} : ∀ {k : Nat}, stopK g p k = none ↔ ∀ j, j < k → okK g p j = true
  | 0 => by simp [stopK]
  | k + 1 => by
    rw [stopK]
    cases h : stopK g p k with
    | some i =>
      simp only [reduceCtorEq, false_iff]
      intro h2
      rw [stopK_none.2 fun j hj => h2 j (by omega)] at h
      cases h
    | none =>
      have ih := stopK_none.1 h
      simp only
      constructor
      · intro h2 j hj
        by_cases hjk : j = k
        · subst hjk
          refine Decidable.byContradiction fun hn => ?_
          rw [if_neg hn] at h2; cases h2
        · exact ih j (by omega)
      · intro h2
        rw [if_pos (h2 k (by omega))]
theorem stopK_some {g : Gr} {p : Pl} {i : Nat} : ∀ {k : Nat}, stopK g p k = some i ↔ i < k ∧ okK g p i = false ∧ ∀ j, j < i → okK g p j = true
  | 0 => by simp [stopK]
  | k + 1 => by
    rw [stopK]
    cases h : stopK g p k with
    | some i' =>
      have ih := (stopK_some (g := g) (p := p)).1 h
      simp only [Option.some.injEq]
      constructor
      · rintro rfl
        exact ⟨by omega, ih.2⟩
      · rintro ⟨h1, h2, h3⟩
        rcases Nat.lt_trichotomy i' i with h4 | h4 | h4
        · rw [h3 i' h4] at ih; simp at ih
        · exact h4
        · rw [ih.2.2 i h4] at h2; cases h2
    | none =>
      have ih := stopK_none.1 h
      simp only
      constructor
      · intro h2
        by_cases hk : okK g p k = true
        · rw [if_pos hk] at h2; cases h2
        · rw [if_neg hk] at h2
          cases h2
          exact ⟨by omega, by simpa using hk, ih⟩
      · rintro ⟨h1, h2, h3⟩
        have : i = k := by
          by_cases h4 : i < k
          · rw [ih i h4] at h2; cases h2
          · omega
        subst this
        rw [if_neg (by rw [h2]; simp)]
theorem allN_len {n : Nat} : (allN n).length = n := by simp [allN]
theorem plan_len {g : Gr} {p : Pl} (h : PlanOk g p) : p.ord.length = g.n.toNat := by rw [h.2.1.length_eq, allN_len]
theorem plan_nodup {g : Gr} {p : Pl} (h : PlanOk g p) : p.ord.Nodup := h.2.1.nodup_iff.2 allN_nodup
theorem oAt_mem {g : Gr} {p : Pl} (h : PlanOk g p) {k : Nat} (hk : k < g.n.toNat) : 0 ≤ oAt p k ∧ oAt p k < g.n := by
  have h1 : oAt p k ∈ p.ord := getD_memX (by rw [plan_len h]; exact hk)
  have := allN_mem.1 (h.2.1.mem_iff.1 h1)
  omega
theorem oAt_inj {g : Gr} {p : Pl} (h : PlanOk g p) {i j : Nat} (hi : i < g.n.toNat) (hj : j < g.n.toNat) (e : oAt p i = oAt p j) : i = j :=
  nodup_getD (plan_nodup h) (by rw [plan_len h]; exact hi) (by rw [plan_len h]; exact hj) e
theorem oAt_all {g : Gr} {p : Pl} (h : PlanOk g p) {x : Int} (h0 : 0 ≤ x) (h1 : x < g.n) : ∃ k, k < g.n.toNat ∧ oAt p k = x := by
  have : x ∈ p.ord := h.2.1.mem_iff.2 (allN_mem.2 (by omega))
  obtain ⟨k, hk, e⟩ := List.mem_iff_getElem.1 this
  refine ⟨k, by rw [← plan_len h]; exact hk, ?_⟩
  rw [oAt, List.getD_eq_getElem?_getD, List.getElem?_eq_getElem hk, Option.getD_some, e]
theorem lAt_perm {g : Gr} {p : Pl} (h : PlanOk g p) {x : Int} (h0 : 0 ≤ x) (h1 : x < g.n) : (lAt p x).Perm (outZ g x) := by
  have := h.2.2 x.toNat (by omega)
  rwa [show ((x.toNat : Nat) : Int) = x by omega] at this
theorem lAt_len {g : Gr} {p : Pl} (h : PlanOk g p) {x : Int} (h0 : 0 ≤ x) (h1 : x < g.n) : (lAt p x).length ≤ g.es.length := by
  rw [(lAt_perm h h0 h1).length_eq]; exact outZ_len
theorem run_inv {g : Gr} (hm : mayB g = true) {p : Pl} (h : PlanOk g p) : ∀ {k : Nat}, k ≤ g.n.toNat → (∀ j, j < k → okK g p j = true) → FrI g (fK g p k) ∧ (fK g p k).pl = p.ord.take k ∧ (fK g p k).row.length ≤ k * (g.es.length + 1)
  | 0, _, _ => ⟨frI_new g, by simp [fK], by simp [fK]⟩
  | k + 1, hk, hok => by
    obtain ⟨h1, h2, h3⟩ := run_inv hm h (k := k) (by omega) fun j hj => hok j (by omega)
    obtain ⟨x0, x1⟩ := oAt_mem h (k := k) (by omega)
    have hl := succF_len (g := g) (f := fK g p k) (x := oAt p k) (o := lAt p (oAt p k))
    have hl2 := lAt_len h x0 x1
    refine ⟨succ_frI hm h1 (hok k (by omega)) (lAt_perm h x0 x1), ?_, ?_⟩
    · show (fK g p k).pl ++ [oAt p k] = _
      rw [h2, List.take_add_one, List.getElem?_eq_getElem (by rw [plan_len h]; omega), oAt, List.getD_eq_getElem?_getD, List.getElem?_eq_getElem (by rw [plan_len h]; omega)]
      rfl
    · show (succF _ _ _ _).2.row.length ≤ _
      rw [Nat.add_mul]; omega
theorem place_ok {g : Gr} {p : Pl} (h : PlanOk g p) {k : Nat} (hk : k < g.n.toNat) (hR : okK g p k = true) : rPlaceF g (fK g p k) (oAt p k) (lAt p (oAt p k)) = succF g (fK g p k) (oAt p k) (lAt p (oAt p k)) := by
  have hp := lAt_perm h (oAt_mem h hk).1 (oAt_mem h hk).2
  unfold rPlaceF
  have hR' : rReadyF g (fK g p k) (oAt p k) = true := hR
  rw [if_neg (by rw [hR']; simp), if_neg]
  rintro (h | ⟨i, h1, h2⟩)
  · exact h hp.length_eq
  · exact h2 (hp.mem_iff.2 h1)
theorem place_no {g : Gr} {p : Pl} {k : Nat} (hR : okK g p k = false) : rPlaceF g (fK g p k) (oAt p k) (lAt p (oAt p k)) = (([], 3), fK g p k) := if_pos hR
theorem endR_len {g : Gr} {p : Pl} : ∀ {k : Nat}, (endR g p k).length = g.n.toNat
  | 0 => by simp [endR]
  | k + 1 => by rw [endR, List.length_set, endR_len]
theorem getD_setX {α : Type} {l : List α} {i j : Nat} {a d : α} (hi : i < l.length) : (l.set i a).getD j d = if j = i then a else l.getD j d := by
  rw [List.getD_eq_getElem?_getD, List.getElem?_set, List.getD_eq_getElem?_getD]
  by_cases h : i = j
  · subst h; simp [hi]
  · rw [if_neg h, if_neg (Ne.symm h)]
theorem ends_at {g : Gr} {p : Pl} (h : PlanOk g p) : ∀ {k : Nat}, k ≤ g.n.toNat → ∀ {i : Nat}, i < k → (endR g p k).getD (oAt p i).toNat [] = goneK g p i
  | 0, _, i, hi => by omega
  | k + 1, hk, i, hi => by
    have hm := oAt_mem h (k := k) (by omega)
    rw [endR, getD_setX (by rw [endR_len]; omega)]
    by_cases e : i = k
    · subst e; rw [if_pos rfl]
    · have hmi := oAt_mem h (k := i) (by omega)
      rw [if_neg (fun h2 => e (oAt_inj h (by omega) (by omega) (by omega)))]
      exact ends_at h (by omega) (by omega)
/-- A plan is one of a graph, as the program asks it. -/
theorem srt_mem_perm {l m : List Int} (h : srt l = m) : l.Perm m := by
  rw [← h]; exact (List.mergeSort_perm l _).symm
theorem allN_sorted {n : Nat} : (allN n).Pairwise (· ≤ ·) := by
  unfold allN
  refine List.Pairwise.map _ (fun a b (h : a < b) => ?_) List.pairwise_lt_range
  show (a : Int) ≤ b
  omega
theorem ofP_iff {g : Gr} (hm : mayB g = true) {p : Pl} : (p.outs.length = g.n.toNat ∧ p.ord.length = g.n.toNat ∧ (∀ i : Nat, i < (srt p.ord).length → (srt p.ord).getD i 0 = i) ∧ ∀ x : Nat, x < p.outs.length → srt (p.outs.getD x []) = thereG (·.1) g x) ↔ PlanOk g p := by
  constructor
  · rintro ⟨h1, h2, h3, h4⟩
    refine ⟨h1, srt_mem_perm ?_, fun x hx => ?_⟩
    · refine List.ext_getElem (by rw [srt_length, h2, allN_len]) fun i h5 h6 => ?_
      have := h3 i h5
      rw [List.getD_eq_getElem?_getD, List.getElem?_eq_getElem h5, Option.getD_some] at this
      rw [this]; simp [allN]
    · have := h4 x (by omega)
      rw [thereG_in (by omega) (by omega)] at this
      exact srt_mem_perm this
  · intro h
    refine ⟨h.1, plan_len h, ?_, fun x hx => ?_⟩
    · rw [srt_perm h.2.1 allN_sorted]
      intro i hi
      rw [allN_len] at hi
      simp [allN, List.getD_eq_getElem?_getD, List.getElem?_range hi]
    · rw [thereG_in (by omega) (by have := h.1; omega)]
      exact srt_perm (h.2.2 x (by rw [← h.1]; exact hx)) outZ_sorted
end Go.Ab
end
section
namespace Go.Ab
open Go.Proofs
set_option maxRecDepth 10000

/-- The sinks below loose ends. -/
def loose (l : List It) : List Int := (l.filter fun t => decide (t.1 < 0)).map fun t => t.2.1
theorem loose_app {a b : List It} : loose (a ++ b) = loose a ++ loose b := by simp [loose]
/-- The edges that are laid at the k first vertices. -/
def newK (g : Gr) (p : Pl) : Nat → List Edge
  | 0 => []
  | k + 1 => newK g p k ++ (loose (goneK g p k)).map fun v => (v, oAt p k)
def lastR (g : Gr) (p : Pl) : List It := (fK g p g.n.toNat).row
def newL (g : Gr) (p : Pl) : List Edge := if 1 < (lastR g p).length then (loose (lastR g p)).map fun v => (v, g.n) else []
def newA (g : Gr) (p : Pl) : List Edge := newK g p g.n.toNat ++ newL g p
def augG (g : Gr) (p : Pl) : Gr := ⟨if 1 < (lastR g p).length then g.n + 1 else g.n, g.es ++ newA g p⟩
/-- New edges, from the number m on: what stands above their tails. -/
def layO : Nat → List Edge → List (List Int) → List (List Int)
  | _, [], O => O
  | m, e :: N, O => layO (m + 1) N (O.set e.1.toNat [(m : Int)])
def augP (g : Gr) (p : Pl) : Pl := ⟨if 1 < (lastR g p).length then p.ord ++ [g.n] else p.ord, layO g.es.length (newA g p) (if 1 < (lastR g p).length then p.outs ++ [[]] else p.outs)⟩
/-- What the document says of what stands above. -/
def docO (g : Gr) (p : Pl) (x : Gr) : List (List Int) := (List.range x.n.toNat).map fun v => if 0 < (p.outs.getD v []).length then p.outs.getD v [] else outZ x (v : Int)
theorem layO_len : ∀ {m : Nat} {N : List Edge} {O : List (List Int)}, (layO m N O).length = O.length
  | _, [], _ => rfl
  | m, e :: N, O => by rw [layO, layO_len, List.length_set]
theorem layO_app : ∀ {m : Nat} {N M : List Edge} {O : List (List Int)}, layO m (N ++ M) O = layO (m + N.length) M (layO m N O)
  | _, [], _, _ => rfl
  | m, e :: N, M, O => by
    rw [List.cons_append, layO, layO, layO_app, List.length_cons]
    congr 1
    omega
theorem layO_snoc : ∀ {m : Nat} {N : List Edge} {O : List (List Int)}, (∀ e ∈ N, e.1.toNat < O.length) → layO m N (O ++ [[]]) = layO m N O ++ [[]]
  | _, [], _, _ => rfl
  | m, e :: N, O, h => by
    rw [layO, layO, List.set_append_left _ _ (h e (List.mem_cons_self ..))]
    exact layO_snoc fun e' he => by rw [List.length_set]; exact h e' (List.mem_cons_of_mem _ he)
theorem layO_out {v : Nat} : ∀ {m : Nat} {N : List Edge} {O : List (List Int)}, (∀ e ∈ N, e.1.toNat < O.length) → (∀ e ∈ N, e.1.toNat ≠ v) → (layO m N O).getD v [] = O.getD v []
  | _, [], _, _, _ => rfl
  | m, e :: N, O, h, hv => by
    rw [layO, layO_out (fun e' he => by rw [List.length_set]; exact h e' (List.mem_cons_of_mem _ he)) fun e' he => hv e' (List.mem_cons_of_mem _ he), getD_setX (h e (List.mem_cons_self ..)), if_neg (Ne.symm (hv e (List.mem_cons_self ..)))]
theorem layO_in : ∀ {m : Nat} {N : List Edge} {O : List (List Int)}, (∀ e ∈ N, 0 ≤ e.1 ∧ e.1.toNat < O.length) → (N.map (·.1)).Nodup → ∀ {j : Nat}, j < N.length → (layO m N O).getD (N.getD j (0, 0)).1.toNat [] = [((m + j : Nat) : Int)]
  | m, e :: N, O, h, hd, 0, _ => by
    rw [List.map_cons, List.nodup_cons] at hd
    rw [layO, List.getD_cons_zero, layO_out (fun e' he => by rw [List.length_set]; exact (h e' (List.mem_cons_of_mem _ he)).2) (fun e' he h2 => hd.1 ?_), getD_setX (h e (List.mem_cons_self ..)).2, if_pos rfl]
    · rfl
    · have h3 := (h e (List.mem_cons_self ..)).1
      have h4 := (h e' (List.mem_cons_of_mem _ he)).1
      exact List.mem_map.2 ⟨e', he, by omega⟩
  | m, e :: N, O, h, hd, j + 1, hj => by
    rw [List.map_cons, List.nodup_cons] at hd
    rw [layO, List.getD_cons_succ, layO_in (fun e' he => by rw [List.length_set]; exact h e' (List.mem_cons_of_mem _ he)) hd.2 (by simpa using hj)]
    congr 2
    omega
theorem endsZ_app {f : Edge → Int} {es N : List Edge} {x : Int} : endsZ f (es ++ N) (es ++ N).length x = endsZ f es es.length x ++ (endsZ f N N.length x).map (· + (es.length : Int)) := by
  unfold endsZ
  rw [List.length_append, List.range_add, List.filter_append, List.map_append, List.filter_map, List.map_map, List.map_map]
  congr 1
  · congr 1
    refine List.filter_congr fun i hi => ?_
    have := List.mem_range.1 hi
    rw [List.getD_eq_getElem?_getD, List.getElem?_append_left this, ← List.getD_eq_getElem?_getD]
  · have e1 : (List.range N.length).filter ((fun i => decide (f ((es ++ N).getD i (0, 0)) = x)) ∘ fun x => es.length + x) = (List.range N.length).filter fun i => decide (f (N.getD i (0, 0)) = x) := by
      refine List.filter_congr fun i hi => ?_
      simp only [Function.comp]
      rw [List.getD_eq_getElem?_getD, List.getElem?_append_right (by omega), Nat.add_sub_cancel_left, ← List.getD_eq_getElem?_getD]
    rw [e1]
    refine List.map_congr_left fun i _ => ?_
    simp only [Function.comp]
    show ((es.length + i : Nat) : Int) = (i : Int) + (es.length : Int)
    omega
theorem filter_one {j : Nat} : ∀ {n : Nat}, j < n → (List.range n).filter (fun i => decide (i = j)) = [j]
  | n + 1, h => by
    rw [List.range_succ, List.filter_append]
    by_cases e : j = n
    · subst e
      have : (List.range j).filter (fun i => decide (i = j)) = [] := List.filter_eq_nil_iff.2 fun i hi => by
        have := List.mem_range.1 hi
        simp; omega
      rw [this]; simp
    · rw [filter_one (by omega)]
      have : [n].filter (fun i => decide (i = j)) = [] := List.filter_eq_nil_iff.2 fun i hi => by
        rw [List.mem_singleton] at hi
        simp; omega
      rw [this]; simp
theorem ends_one {N : List Edge} (hd : (N.map (·.1)).Nodup) {j : Nat} (hj : j < N.length) : endsZ (·.1) N N.length (N.getD j (0, 0)).1 = [(j : Int)] := by
  unfold endsZ
  have : (List.range N.length).filter (fun i => decide ((N.getD i (0, 0)).1 = (N.getD j (0, 0)).1)) = (List.range N.length).filter (fun i => decide (i = j)) := by
    refine List.filter_congr fun i hi => ?_
    have hi := List.mem_range.1 hi
    rw [decide_eq_decide]
    constructor
    · intro h
      have e1 : ∀ k, k < N.length → (N.map (·.1)).getD k 0 = (N.getD k (0, 0)).1 := fun k hk => by
        simp [List.getD_eq_getElem?_getD, List.getElem?_eq_getElem hk]
      refine nodup_getD hd (by simpa using hi) (by simpa using hj) ?_
      rw [e1 i hi, e1 j hj, h]
    · rintro rfl; rfl
  rw [this, filter_one hj]
  rfl
theorem ends_none {f : Edge → Int} {N : List Edge} {v : Int} (h : ∀ e ∈ N, f e ≠ v) : endsZ f N N.length v = [] := by
  unfold endsZ
  rw [List.map_eq_nil_iff, List.filter_eq_nil_iff]
  intro i hi
  have := h _ (getD_memX (d := (0, 0)) (List.mem_range.1 hi))
  simpa using this
theorem loose_above {g : Gr} {x : Int} {o : List Int} (ho : ∀ i ∈ o, i ∈ outZ g x) : loose (aboveF g x o) = if o = [] then [x] else [] := by
  unfold aboveF
  split
  · rfl
  · simp only [loose, List.map_eq_nil_iff, List.filter_eq_nil_iff, List.mem_map]
    rintro t ⟨i, hi, rfl⟩
    obtain ⟨k, rfl, _⟩ := outZ_mem (ho i hi)
    simp [itemF]
/-- Loose ends are of sinks, each of another one; and each is met once. -/
theorem loose_inv {g : Gr} (hm : mayB g = true) {p : Pl} (h : PlanOk g p) : ∀ {k : Nat}, k ≤ g.n.toNat → (∀ j, j < k → okK g p j = true) →
    ((newK g p k).map (·.1) ++ loose (fK g p k).row).Nodup ∧ ∀ v ∈ (newK g p k).map (·.1) ++ loose (fK g p k).row, v ∈ (fK g p k).pl ∧ lAt p v = []
  | 0, _, _ => by simp [newK, fK, loose]
  | k + 1, hk, hok => by
    obtain ⟨h1, h2⟩ := loose_inv hm h (k := k) (by omega) fun j hj => hok j (by omega)
    obtain ⟨hi, hpl, _⟩ := run_inv hm h (k := k) (by omega) fun j hj => hok j (by omega)
    have hR : rReadyF g (fK g p k) (oAt p k) = true := hok k (by omega)
    obtain ⟨x0, x1⟩ := oAt_mem h (k := k) (by omega)
    have hx := (ready_rng hR).2.2
    have hperm := lAt_perm h x0 x1
    obtain ⟨A, X, C, hr, _, _, _, hs⟩ := succ_cases hm hi.toFrInv hR
    have hgone : goneK g p k = X := by unfold goneK; rw [hs]
    have hrow : (fK g p (k + 1)).row = A ++ aboveF g (oAt p k) (lAt p (oAt p k)) ++ C := by show (succF _ _ _ _).2.row = _; rw [hs]
    have hpl' : (fK g p (k + 1)).pl = (fK g p k).pl ++ [oAt p k] := rfl
    have hla := loose_above (g := g) (x := oAt p k) (o := lAt p (oAt p k)) fun i hi => hperm.mem_iff.1 hi
    have e1 : (newK g p (k + 1)).map (·.1) = (newK g p k).map (·.1) ++ loose X := by
      rw [newK, hgone, List.map_append, List.map_map]
      congr 1
      simp [Function.comp_def]
    have e2 : loose (fK g p (k + 1)).row = loose A ++ (if lAt p (oAt p k) = [] then [oAt p k] else []) ++ loose C := by rw [hrow, loose_app, loose_app, hla]
    have e3 : loose (fK g p k).row = loose A ++ loose X ++ loose C := by rw [hr, loose_app, loose_app]
    rw [e3] at h1 h2
    have hP : ((newK g p (k + 1)).map (·.1) ++ loose (fK g p (k + 1)).row).Perm (((newK g p k).map (·.1) ++ (loose A ++ loose X ++ loose C)) ++ (if lAt p (oAt p k) = [] then [oAt p k] else [])) := by
      rw [e1, e2, List.perm_iff_count]
      intro a
      simp only [List.count_append]
      omega
    constructor
    · rw [hP.nodup_iff, List.nodup_append]
      refine ⟨h1, by split <;> simp, fun a ha b hb e => hx ?_⟩
      split at hb
      · rw [List.mem_singleton] at hb
        rw [← hb, ← e]
        exact (h2 a ha).1
      · cases hb
    · intro v hv
      rw [hP.mem_iff, List.mem_append] at hv
      rw [hpl', List.mem_append, List.mem_singleton]
      rcases hv with hv | hv
      · exact ⟨.inl (h2 v hv).1, (h2 v hv).2⟩
      · split at hv
        · rw [List.mem_singleton] at hv
          subst hv
          exact ⟨.inr rfl, by assumption⟩
        · cases hv
/-- What holds of the new edges. -/
theorem newA_ok {g : Gr} {p : Pl} (hr : RunsP g p) : ((newA g p).map (·.1)).Nodup ∧ ∀ e ∈ newA g p, (0 ≤ e.1 ∧ e.1 < g.n) ∧ lAt p e.1 = [] := by
  obtain ⟨hc, h, hok⟩ := hr
  have hm := good_may hc
  obtain ⟨h1, h2⟩ := loose_inv hm h (k := g.n.toNat) (Nat.le_refl _) hok
  obtain ⟨hi, _⟩ := run_inv hm h (k := g.n.toNat) (Nat.le_refl _) hok
  have e1 : (newA g p).map (·.1) = (newK g p g.n.toNat).map (·.1) ++ if 1 < (lastR g p).length then loose (lastR g p) else [] := by
    rw [newA, newL, List.map_append]
    congr 1
    split
    · rw [List.map_map]; simp [Function.comp_def]
    · rfl
  have hsub : ∀ v ∈ (newA g p).map (·.1), v ∈ (newK g p g.n.toNat).map (·.1) ++ loose (lastR g p) := by
    intro v hv
    rw [e1, List.mem_append] at hv
    rw [List.mem_append]
    rcases hv with hv | hv
    · exact .inl hv
    · split at hv
      · exact .inr hv
      · cases hv
  constructor
  · rw [e1]
    split
    · exact h1
    · rw [List.append_nil]
      exact (List.nodup_append.1 h1).1
  · intro e he
    have := h2 e.1 (hsub _ (List.mem_map.2 ⟨e, he, rfl⟩))
    exact ⟨hi.rng _ this.1, this.2⟩
theorem outZ_nil {g : Gr} {p : Pl} (h : PlanOk g p) {v : Int} (h0 : 0 ≤ v) (h1 : v < g.n) : outZ g v = [] ↔ lAt p v = [] := by
  have hp := lAt_perm h h0 h1
  constructor
  · intro e; rw [e] at hp; exact hp.eq_nil
  · intro e; rw [e] at hp; exact hp.symm.eq_nil
theorem aug_outs {g : Gr} {p : Pl} (hr : RunsP g p) : (augP g p).outs = docO g p (augG g p) := by
  obtain ⟨hN1, hN2⟩ := newA_ok hr
  have h := hr.2.1
  have hm := good_may hr.1
  have hn := mayB_n hm
  generalize hO : (if 1 < (lastR g p).length then p.outs ++ [[]] else p.outs) = O
  have hOl : O.length = (augG g p).n.toNat := by
    rw [← hO]
    unfold augG
    split
    · rw [List.length_append, h.1]; simp; omega
    · rw [h.1]
  have hOg : ∀ v, O.getD v [] = p.outs.getD v [] := by
    intro v
    rw [← hO]
    split
    · rw [List.getD_eq_getElem?_getD, List.getD_eq_getElem?_getD, List.getElem?_append]
      split
      · rfl
      · rename_i hv
        rw [List.getElem?_eq_none (by omega : p.outs.length ≤ v)]
        cases hvv : v - p.outs.length <;> simp
    · rfl
  have hOn : g.n.toNat ≤ O.length := by rw [← hO]; split <;> simp [h.1]
  have hrange : ∀ e ∈ newA g p, 0 ≤ e.1 ∧ e.1.toNat < O.length := fun e he => by
    have := (hN2 e he).1; omega
  have hnA : ∀ e ∈ newA g p, e.1.toNat < O.length := fun e he => (hrange e he).2
  show layO g.es.length (newA g p) (if 1 < (lastR g p).length then p.outs ++ [[]] else p.outs) = _
  rw [hO]
  refine List.ext_getElem (by rw [layO_len, hOl]; simp [docO]) fun v hv1 hv2 => ?_
  rw [layO_len] at hv1
  have hL : (layO g.es.length (newA g p) O).getD v [] = (layO g.es.length (newA g p) O)[v]'(by rw [layO_len]; exact hv1) := by
    rw [List.getD_eq_getElem?_getD, List.getElem?_eq_getElem (by rw [layO_len]; exact hv1)]; rfl
  rw [← hL]
  have hD : (docO g p (augG g p))[v] = if 0 < (p.outs.getD v []).length then p.outs.getD v [] else outZ (augG g p) (v : Int) := by simp [docO]
  rw [hD]
  have hlv : lAt p (v : Int) = p.outs.getD v [] := by unfold lAt; rw [Int.toNat_natCast]
  have hout : outZ (augG g p) (v : Int) = outZ g (v : Int) ++ (endsZ (·.1) (newA g p) (newA g p).length (v : Int)).map (· + (g.es.length : Int)) := endsZ_app
  by_cases hin : ∃ j, j < (newA g p).length ∧ ((newA g p).getD j (0, 0)).1 = v
  · obtain ⟨j, hj, e⟩ := hin
    have hmem := getD_memX (d := (0, 0)) hj
    obtain ⟨⟨q0, q1⟩, q2⟩ := hN2 _ hmem
    rw [e] at q0 q1 q2
    rw [hlv] at q2
    rw [q2, if_neg (by simp), hout, (outZ_nil h q0 q1).2 (by rw [hlv]; exact q2), ← e, ends_one hN1 hj]
    have := layO_in (m := g.es.length) hrange hN1 hj
    rw [e, Int.toNat_natCast] at this
    rw [this]
    simp
    omega
  · have hno : ∀ e ∈ newA g p, e.1 ≠ (v : Int) := fun e he h2 => hin (by
      obtain ⟨j, hj, e1⟩ := List.mem_iff_getElem.1 he
      exact ⟨j, hj, by rw [List.getD_eq_getElem?_getD, List.getElem?_eq_getElem hj, Option.getD_some, e1, h2]⟩)
    rw [layO_out hnA (fun e he h2 => hno e he (by have := (hrange e he).1; omega)), hOg, hout, ends_none hno]
    simp only [List.map_nil, List.append_nil]
    split
    · rfl
    · rename_i hl
      have hl : p.outs.getD v [] = [] := List.eq_nil_of_length_eq_zero (by omega)
      rw [hl]
      by_cases hvn : v < g.n.toNat
      · exact ((outZ_nil h (v := (v : Int)) (by omega) (by omega)).2 (by rw [hlv]; exact hl)).symm
      · symm
        refine ends_none fun e he h2 => ?_
        obtain ⟨i, hi, rfl⟩ := List.mem_iff_getElem.1 he
        have := (mayB_e hm hi).1
        rw [List.getD_eq_getElem?_getD, List.getElem?_eq_getElem hi, Option.getD_some] at this
        omega
end Go.Ab
end
section
namespace Go.Ab
open Go.Proofs
set_option maxRecDepth 10000

abbrev Act := Int × List Int
def rA (a : Act) : List D := [.sc (.int .i64 a.1), sI a.2]
def sA (as' : List Act) : D := .sl 2 (as'.map rA)
attribute [go_sem] sA
def actsK (g : Gr) (acts : List Act) : Nat → Fr
  | 0 => ⟨[], []⟩
  | k + 1 => (rPlaceF g (actsK g acts k) (acts.getD k (0, [])).1 (acts.getD k (0, [])).2).2
theorem pl_le {g : Gr} {f : Fr} (hi : FrInv g f) : (f.pl.length : Int) ≤ g.n ∨ f.pl = [] := by
  by_cases h : f.pl = []
  · exact .inr h
  · left
    obtain ⟨y, hy⟩ := List.exists_mem_of_ne_nil _ h
    have := hi.rng y hy
    have h3 := nodup_lenX hi.pl (m := (List.range g.n.toNat).map Int.ofNat) (fun y hy => by
      rw [List.mem_map]
      have := hi.rng y hy
      exact ⟨y.toNat, List.mem_range.2 (by omega), by simp; omega⟩)
    simp at h3
    omega
theorem placeA_spec (g : Gr) (hm : mayB g = true) (f : Fr) (hi : FrI g f) (x : Int) (outs : List Int) (hr : f.row.length ≤ 300000) (hp : f.pl.length ≤ 100000) (ho : outs.length ≤ 17592186043904) :
    Spec Try.prog 27 (Args [.ptr 10000 0, eN x, .d (sI outs)]) (frO g f) (.tup [.d (sT (rPlaceF g f x outs).1.1), eN (rPlaceF g f x outs).1.2]) (frN g (rPlaceF g f x outs).2) := by
  rw [← place_eq hm hi.toFrInv]
  exact place_spec g hm f x outs hr hp ho
end Go.Ab
end
section
namespace Go.Ab
open Go.Proofs
attribute [local congr] ACall.congr
set_option maxRecDepth 10000
set_option maxHeartbeats 4000000

def ePl (p : Pl) : AV := .agg [.d (sI p.ord), .d (.sl 1 (vI p.outs))]
attribute [go_sem] ePl
structure PlLen (p : Pl) : Prop where
  ord : p.ord.length ≤ 17592186043904
  outs : p.outs.length ≤ 9223372036854775807
  each : ∀ l ∈ p.outs, l.length ≤ 17592186043904
theorem ofS_spec (g : Gr) (hm : mayB g = true) (p : Pl) (hp : PlLen p) (res : Bool) (hr : res = true ↔ PlanOk g p) : Spec Try.prog 54 (Args [.d (vw g), ePl p]) [] (eB res) [] := by
  rw [← ofP_iff hm] at hr
  have hn := mayB_n hm
  have ho := hp.ord
  have ho2 := hp.outs
  by_cases h1 : p.outs.length = g.n.toNat ∧ p.ord.length = g.n.toNat
  rotate_left
  · have hres : res = false := by
      rw [← Bool.not_eq_true, hr]
      rintro ⟨h2, h3, _⟩
      exact h1 ⟨h2, h3⟩
    subst hres
    by_cases h2 : (p.outs.length : Int) = g.n
    · have hb1 : decide ((p.outs.length : Int) = g.n) = true := decide_eq_true h2
      have hb2 : decide ((p.ord.length : Int) = g.n) = false := decide_eq_false fun h3 => h1 ⟨by omega, by omega⟩
      (refine Spec.intro (C := T.cfg [] []) (rs := [.t 4]) (T.cfg_ok _ _) Try.func54 rfl rfl Try.ntmps54 Try.results54 (by simp [AObj.isNest]) (by simp [AObj.isNest]) (by kernel_rfl) ?_; intro X hX hP hC hXn hXm vals hA; refine ⟨_, by simp, hA, ?_⟩; have hmix : X.P.follows .mixedOrders = true := (by rw [hP]; exact T.mixed); clear hXn hXm)
      repeat' (first | fail | ((first | ((with_reducible (first | apply oA | apply oB)); exact rfl; intro K hK) | (refine hK _ ?_; clear hK K) | ((with_reducible (first | apply oG | apply oH)); iterate 3 exact rfl) | ((with_reducible apply oI); (iterate 2 exact rfl); intro K hK) | (with_reducible (first | apply wI | apply wJ | apply wK))); try simp only [go_sem, simprocAttr, vw_eq, hb1, hb2]) | fail | (with_reducible (first | apply oC | apply oJ | exact oK | apply wA | apply wB | apply wC hX hC | apply wD hX hC | apply wE hX hC hmix | apply wF hX hC hmix | apply wG | apply wH | apply And.intro)) | ((with_reducible refine oD ?_ ?_); first | fail | kernel_rfl) | ((with_reducible (first | apply oE | apply oF)); (iterate 3 exact rfl); all_goals (intro h; first | (exact absurd h (by decide)) | ((try simp only [go_sem, simprocAttr, vw_eq, hb1, hb2] at h); (try with_reducible intro K hK); simp only [go_sem, simprocAttr, vw_eq, hb1, hb2]))) | ((first | ((with_reducible apply wL); exact rfl) | ((with_reducible apply wM); exact rfl)); all_goals (try ((with_reducible intro h); first | (exact absurd h (by decide)) | (try simp only [go_sem, simprocAttr, vw_eq, hb1, hb2] at h)))) | omega | ((first | fail); try simp only [go_sem, simprocAttr, vw_eq, hb1, hb2]) | (intro h))
    · have hb1 : decide ((p.outs.length : Int) = g.n) = false := decide_eq_false h2
      (refine Spec.intro (C := T.cfg [] []) (rs := [.t 4]) (T.cfg_ok _ _) Try.func54 rfl rfl Try.ntmps54 Try.results54 (by simp [AObj.isNest]) (by simp [AObj.isNest]) (by kernel_rfl) ?_; intro X hX hP hC hXn hXm vals hA; refine ⟨_, by simp, hA, ?_⟩; have hmix : X.P.follows .mixedOrders = true := (by rw [hP]; exact T.mixed); clear hXn hXm)
      repeat' (first | fail | ((first | ((with_reducible (first | apply oA | apply oB)); exact rfl; intro K hK) | (refine hK _ ?_; clear hK K) | ((with_reducible (first | apply oG | apply oH)); iterate 3 exact rfl) | ((with_reducible apply oI); (iterate 2 exact rfl); intro K hK) | (with_reducible (first | apply wI | apply wJ | apply wK))); try simp only [go_sem, simprocAttr, vw_eq, hb1]) | fail | (with_reducible (first | apply oC | apply oJ | exact oK | apply wA | apply wB | apply wC hX hC | apply wD hX hC | apply wE hX hC hmix | apply wF hX hC hmix | apply wG | apply wH | apply And.intro)) | ((with_reducible refine oD ?_ ?_); first | fail | kernel_rfl) | ((with_reducible (first | apply oE | apply oF)); (iterate 3 exact rfl); all_goals (intro h; first | (exact absurd h (by decide)) | ((try simp only [go_sem, simprocAttr, vw_eq, hb1] at h); (try with_reducible intro K hK); simp only [go_sem, simprocAttr, vw_eq, hb1]))) | ((first | ((with_reducible apply wL); exact rfl) | ((with_reducible apply wM); exact rfl)); all_goals (try ((with_reducible intro h); first | (exact absurd h (by decide)) | (try simp only [go_sem, simprocAttr, vw_eq, hb1] at h)))) | omega | ((first | fail); try simp only [go_sem, simprocAttr, vw_eq, hb1]) | (intro h))
  have hb1 : decide ((p.outs.length : Int) = g.n) = true := decide_eq_true (by omega)
  have hb2 : decide ((p.ord.length : Int) = g.n) = true := decide_eq_true (by omega)
  have hsl := srt_length p.ord
  (refine Spec.intro (C := T.cfg [] []) (rs := [.t 4]) (T.cfg_ok _ _) Try.func54 rfl rfl Try.ntmps54 Try.results54 (by simp [AObj.isNest]) (by simp [AObj.isNest]) (by kernel_rfl) ?_; intro X hX hP hC hXn hXm vals hA; refine ⟨_, by simp, hA, ?_⟩; have hmix : X.P.follows .mixedOrders = true := (by rw [hP]; exact T.mixed); clear hXn hXm)
  repeat' (first | fail | ((first | ((with_reducible (first | apply oA | apply oB)); exact rfl; intro K hK) | (refine hK _ ?_; clear hK K) | ((with_reducible (first | apply oG | apply oH)); iterate 3 exact rfl) | ((with_reducible apply oI); (iterate 2 exact rfl); intro K hK) | (with_reducible (first | apply wI | apply wJ | apply wK))); try simp only [go_sem, simprocAttr, vw_eq, hb1, hb2]) | fail | (with_reducible (first | apply oC | apply oJ | exact oK | apply wA | apply wB | apply wC hX hC | apply wD hX hC | apply wE hX hC hmix | apply wF hX hC hmix | apply wG | apply wH | apply And.intro)) | ((with_reducible refine oD ?_ ?_); first | fail | kernel_rfl) | ((with_reducible (first | apply oE | apply oF)); (iterate 3 exact rfl); all_goals (intro h; first | (exact absurd h (by decide)) | ((try simp only [go_sem, simprocAttr, vw_eq, hb1, hb2] at h); (try with_reducible intro K hK); simp only [go_sem, simprocAttr, vw_eq, hb1, hb2]))) | ((first | ((with_reducible apply wL); exact rfl) | ((with_reducible apply wM); exact rfl)); all_goals (try ((with_reducible intro h); first | (exact absurd h (by decide)) | (try simp only [go_sem, simprocAttr, vw_eq, hb1, hb2] at h)))) | omega | ((first | first | (refine acall_gen hX hC hP [(10000, 31)] (values_spec p.ord) rfl rfl rfl ?_ ?_ ?_ ?_ ?_ ?_ ?_ ?_ ?_ ?_ ?_ ?_ ?_ ?_; (focus (simp only [go_sem, simprocAttr, vw_eq, hb1, hb2]; done)); (iterate 12 (focus (simp [go_sem, simprocAttr, vw_eq, hb1, hb2]; done))); simp only [go_sem, simprocAttr, vw_eq, hb1, hb2, List.map_cons, List.map_nil]) | (refine acall_rob hX hC hP [(10000, 31)] (sortedB_spec p.ord ho) rfl rfl rfl ?_ ?_ ?_ ?_ ?_ ?_ rfl rfl ?_ ?_; (focus (simp only [go_sem, simprocAttr, vw_eq, hb1, hb2]; done)); (iterate 6 (focus (simp [go_sem, simprocAttr, vw_eq, hb1, hb2]; done))); simp only [go_sem, simprocAttr, vw_eq, hb1, hb2, List.map_cons, List.map_nil])); try simp only [go_sem, simprocAttr, vw_eq, hb1, hb2]) | (intro h))
  clear hb1 hb2
  refine awp_loopP (fun k : Nat => k ≤ (srt p.ord).length ∧ ∀ i : Nat, i < k → (srt p.ord).getD i 0 = i) (fun k => ⟨[(0, .d (vw g)), (3, .ptr 3 0), (32, .d (sI (srt p.ord))), (33, eN (srt p.ord).length), (34, eN k)], [(3, .box [.d (sI p.ord), .d (.sl 1 (vI p.outs))])]⟩) (fun k => (srt p.ord).length - k) 0 (by simp) ?_ ?_
  · (refine Le.of ?_ ?_ <;> simp [go_sem, simprocAttr, vw_eq])
  rintro k ⟨hk, hg⟩
  rcases Nat.lt_or_ge k (srt p.ord).length with hlt | hge
  · have hb : decide ((k : Int) < ((srt p.ord).length : Int)) = true := decide_eq_true (by omega)
    by_cases he : (srt p.ord).getD k 0 = k
    · have hb2 : decide ((srt p.ord).getD k 0 = (k : Int)) = true := decide_eq_true he
      repeat' (first | fail | ((first | ((with_reducible (first | apply oA | apply oB)); exact rfl; intro K hK) | (refine hK _ ?_; clear hK K) | ((with_reducible (first | apply oG | apply oH)); iterate 3 exact rfl) | ((with_reducible apply oI); (iterate 2 exact rfl); intro K hK) | (with_reducible (first | apply wI | apply wJ | apply wK))); try simp only [go_sem, simprocAttr, vw_eq, hb, hb2]) | fail | (with_reducible (first | apply oC | apply oJ | exact oK | apply wA | apply wB | apply wC hX hC | apply wD hX hC | apply wE hX hC hmix | apply wF hX hC hmix | apply wG | apply wH | apply And.intro)) | ((with_reducible refine oD ?_ ?_); first | fail | kernel_rfl) | ((with_reducible (first | apply oE | apply oF)); (iterate 3 exact rfl); all_goals (intro h; first | (exact absurd h (by decide)) | ((try simp only [go_sem, simprocAttr, vw_eq, hb, hb2] at h); (try with_reducible intro K hK); simp only [go_sem, simprocAttr, vw_eq, hb, hb2]))) | ((first | ((with_reducible apply wL); exact rfl) | ((with_reducible apply wM); exact rfl)); all_goals (try ((with_reducible intro h); first | (exact absurd h (by decide)) | (try simp only [go_sem, simprocAttr, vw_eq, hb, hb2] at h)))) | omega | ((first | first | (refine acall_gen hX hC hP [(10000, 31)] (values_spec p.ord) rfl rfl rfl ?_ ?_ ?_ ?_ ?_ ?_ ?_ ?_ ?_ ?_ ?_ ?_ ?_ ?_; (focus (simp only [go_sem, simprocAttr, vw_eq, hb, hb2]; done)); (iterate 12 (focus (simp [go_sem, simprocAttr, vw_eq, hb, hb2]; done))); simp only [go_sem, simprocAttr, vw_eq, hb, hb2, List.map_cons, List.map_nil]) | (refine acall_rob hX hC hP [(10000, 31)] (sortedB_spec p.ord ho) rfl rfl rfl ?_ ?_ ?_ ?_ ?_ ?_ rfl rfl ?_ ?_; (focus (simp only [go_sem, simprocAttr, vw_eq, hb, hb2]; done)); (iterate 6 (focus (simp [go_sem, simprocAttr, vw_eq, hb, hb2]; done))); simp only [go_sem, simprocAttr, vw_eq, hb, hb2, List.map_cons, List.map_nil])); try simp only [go_sem, simprocAttr, vw_eq, hb, hb2]) | (intro h))
      refine ⟨k + 1, ⟨by omega, fun i hi => ?_⟩, ?_, by omega⟩
      · by_cases hik : i = k
        · subst hik; exact he
        · exact hg i (by omega)
      · (refine Le.of ?_ ?_ <;> simp [go_sem, simprocAttr, vw_eq, hb, hb2])
    · have hb2 : decide ((srt p.ord).getD k 0 = (k : Int)) = false := decide_eq_false he
      have hres : res = false := by
        rw [← Bool.not_eq_true, hr]
        rintro ⟨_, _, h3, _⟩
        exact he (h3 k hlt)
      subst hres
      repeat' (first | fail | ((first | ((with_reducible (first | apply oA | apply oB)); exact rfl; intro K hK) | (refine hK _ ?_; clear hK K) | ((with_reducible (first | apply oG | apply oH)); iterate 3 exact rfl) | ((with_reducible apply oI); (iterate 2 exact rfl); intro K hK) | (with_reducible (first | apply wI | apply wJ | apply wK))); try simp only [go_sem, simprocAttr, vw_eq, hb, hb2]) | fail | (with_reducible (first | apply oC | apply oJ | exact oK | apply wA | apply wB | apply wC hX hC | apply wD hX hC | apply wE hX hC hmix | apply wF hX hC hmix | apply wG | apply wH | apply And.intro)) | ((with_reducible refine oD ?_ ?_); first | fail | kernel_rfl) | ((with_reducible (first | apply oE | apply oF)); (iterate 3 exact rfl); all_goals (intro h; first | (exact absurd h (by decide)) | ((try simp only [go_sem, simprocAttr, vw_eq, hb, hb2] at h); (try with_reducible intro K hK); simp only [go_sem, simprocAttr, vw_eq, hb, hb2]))) | ((first | ((with_reducible apply wL); exact rfl) | ((with_reducible apply wM); exact rfl)); all_goals (try ((with_reducible intro h); first | (exact absurd h (by decide)) | (try simp only [go_sem, simprocAttr, vw_eq, hb, hb2] at h)))) | omega | ((first | first | (refine acall_gen hX hC hP [(10000, 31)] (values_spec p.ord) rfl rfl rfl ?_ ?_ ?_ ?_ ?_ ?_ ?_ ?_ ?_ ?_ ?_ ?_ ?_ ?_; (focus (simp only [go_sem, simprocAttr, vw_eq, hb, hb2]; done)); (iterate 12 (focus (simp [go_sem, simprocAttr, vw_eq, hb, hb2]; done))); simp only [go_sem, simprocAttr, vw_eq, hb, hb2, List.map_cons, List.map_nil]) | (refine acall_rob hX hC hP [(10000, 31)] (sortedB_spec p.ord ho) rfl rfl rfl ?_ ?_ ?_ ?_ ?_ ?_ rfl rfl ?_ ?_; (focus (simp only [go_sem, simprocAttr, vw_eq, hb, hb2]; done)); (iterate 6 (focus (simp [go_sem, simprocAttr, vw_eq, hb, hb2]; done))); simp only [go_sem, simprocAttr, vw_eq, hb, hb2, List.map_cons, List.map_nil])); try simp only [go_sem, simprocAttr, vw_eq, hb, hb2]) | (intro h))
  have hb : decide ((k : Int) < ((srt p.ord).length : Int)) = false := decide_eq_false (by omega)
  repeat' (first | fail | ((first | ((with_reducible (first | apply oA | apply oB)); exact rfl; intro K hK) | (refine hK _ ?_; clear hK K) | ((with_reducible (first | apply oG | apply oH)); iterate 3 exact rfl) | ((with_reducible apply oI); (iterate 2 exact rfl); intro K hK) | (with_reducible (first | apply wI | apply wJ | apply wK))); try simp only [go_sem, simprocAttr, vw_eq, hb]) | fail | (with_reducible (first | apply oC | apply oJ | exact oK | apply wA | apply wB | apply wC hX hC | apply wD hX hC | apply wE hX hC hmix | apply wF hX hC hmix | apply wG | apply wH | apply And.intro)) | ((with_reducible refine oD ?_ ?_); first | fail | kernel_rfl) | ((with_reducible (first | apply oE | apply oF)); (iterate 3 exact rfl); all_goals (intro h; first | (exact absurd h (by decide)) | ((try simp only [go_sem, simprocAttr, vw_eq, hb] at h); (try with_reducible intro K hK); simp only [go_sem, simprocAttr, vw_eq, hb]))) | ((first | ((with_reducible apply wL); exact rfl) | ((with_reducible apply wM); exact rfl)); all_goals (try ((with_reducible intro h); first | (exact absurd h (by decide)) | (try simp only [go_sem, simprocAttr, vw_eq, hb] at h)))) | omega | ((first | first | (refine acall_gen hX hC hP [(10000, 31)] (values_spec p.ord) rfl rfl rfl ?_ ?_ ?_ ?_ ?_ ?_ ?_ ?_ ?_ ?_ ?_ ?_ ?_ ?_; (focus (simp only [go_sem, simprocAttr, vw_eq, hb]; done)); (iterate 12 (focus (simp [go_sem, simprocAttr, vw_eq, hb]; done))); simp only [go_sem, simprocAttr, vw_eq, hb, List.map_cons, List.map_nil]) | (refine acall_rob hX hC hP [(10000, 31)] (sortedB_spec p.ord ho) rfl rfl rfl ?_ ?_ ?_ ?_ ?_ ?_ rfl rfl ?_ ?_; (focus (simp only [go_sem, simprocAttr, vw_eq, hb]; done)); (iterate 6 (focus (simp [go_sem, simprocAttr, vw_eq, hb]; done))); simp only [go_sem, simprocAttr, vw_eq, hb, List.map_cons, List.map_nil])); try simp only [go_sem, simprocAttr, vw_eq, hb]) | (intro h))
  obtain rfl : k = (srt p.ord).length := by omega
  clear hb hk
  refine awp_loopP (fun x : Nat => x ≤ p.outs.length ∧ ∀ i : Nat, i < x → srt (p.outs.getD i []) = thereG (·.1) g i) (fun x => ⟨[(0, .d (vw g)), (44, .d (.sl 1 (vI p.outs))), (45, eN p.outs.length), (46, eN x)], []⟩) (fun x => p.outs.length - x) 0 (by simp) ?_ ?_
  · refine Le.of ?_ ?_ <;> simp [go_sem, simprocAttr, vw_eq]
  rintro x ⟨hx, hgx⟩
  rcases Nat.lt_or_ge x p.outs.length with hxl | hxg
  · have hb : decide ((x : Int) < (p.outs.length : Int)) = true := decide_eq_true (by omega)
    have hv := vI_getD hxl
    have hl := hp.each _ (getD_memX (d := []) hxl)
    have hn2 : ∀ h : srt (p.outs.getD x []) = thereG (·.1) g x, ∀ i : Nat, i < x + 1 → srt (p.outs.getD i []) = thereG (·.1) g i := fun h i hi => by
      by_cases hix : i = x
      · subst hix; exact h
      · exact hgx i (by omega)
    have hr2 : ¬ srt (p.outs.getD x []) = thereG (·.1) g x → res = false := fun h => by
      rw [← Bool.not_eq_true, hr]
      rintro ⟨_, _, _, h4⟩
      exact h (h4 x hxl)
    generalize p.outs.getD x [] = l at hv hl hn2 hr2
    have hsl2 := srt_length l
    by_cases he : srt l = thereG (·.1) g x
    · have hb2 : decide (srt l = thereG (·.1) g (x : Int)) = true := decide_eq_true he
      repeat' (first | fail | ((first | ((with_reducible (first | apply oA | apply oB)); exact rfl; intro K hK) | (refine hK _ ?_; clear hK K) | ((with_reducible (first | apply oG | apply oH)); iterate 3 exact rfl) | ((with_reducible apply oI); (iterate 2 exact rfl); intro K hK) | (with_reducible (first | apply wI | apply wJ | apply wK))); try simp only [go_sem, simprocAttr, hb, hv, hb2]) | fail | (with_reducible (first | apply oC | apply oJ | exact oK | apply wA | apply wB | apply wC hX hC | apply wD hX hC | apply wE hX hC hmix | apply wF hX hC hmix | apply wG | apply wH | apply And.intro)) | ((with_reducible refine oD ?_ ?_); first | fail | kernel_rfl) | ((with_reducible (first | apply oE | apply oF)); (iterate 3 exact rfl); all_goals (intro h; first | (exact absurd h (by decide)) | ((try simp only [go_sem, simprocAttr, hb, hv, hb2] at h); (try with_reducible intro K hK); simp only [go_sem, simprocAttr, hb, hv, hb2]))) | ((first | ((with_reducible apply wL); exact rfl) | ((with_reducible apply wM); exact rfl)); all_goals (try ((with_reducible intro h); first | (exact absurd h (by decide)) | (try simp only [go_sem, simprocAttr, hb, hv, hb2] at h)))) | omega | ((first | first | (refine acall_gen hX hC hP [(10000, 52)] (values_spec l) rfl rfl rfl ?_ ?_ ?_ ?_ ?_ ?_ ?_ ?_ ?_ ?_ ?_ ?_ ?_ ?_; (focus (simp only [go_sem, simprocAttr, hb, hv, hb2]; done)); (iterate 12 (focus (simp [go_sem, simprocAttr, hb, hv, hb2]; done))); simp only [go_sem, simprocAttr, hb, hv, hb2, List.map_cons, List.map_nil]) | (refine acall_rob hX hC hP [(10000, 52)] (sortedB_spec l hl) rfl rfl rfl ?_ ?_ ?_ ?_ ?_ ?_ rfl rfl ?_ ?_; (focus (simp only [go_sem, simprocAttr, hb, hv, hb2]; done)); (iterate 6 (focus (simp [go_sem, simprocAttr, hb, hv, hb2]; done))); simp only [go_sem, simprocAttr, hb, hv, hb2, List.map_cons, List.map_nil]) | refine acall_simple hX hC hP (outs_spec g hm (x : Int)) rfl rfl rfl (by simp only [go_sem, simprocAttr, hb, hv, hb2]) rfl ?_ | refine acall_simple hX hC hP (equalI_spec (srt l) (thereG (·.1) g x) (by omega)) rfl rfl rfl (by simp only [go_sem, simprocAttr, hb, hv, hb2]) rfl ?_); try simp only [go_sem, simprocAttr, hb, hv, hb2]) | (intro h))
      refine ⟨x + 1, ⟨by omega, hn2 he⟩, ?_, by omega⟩
      (refine Le.of ?_ ?_ <;> simp [go_sem, simprocAttr, hb, hv, hb2])
    · have hb2 : decide (srt l = thereG (·.1) g (x : Int)) = false := decide_eq_false he
      have hres := hr2 he
      subst hres
      repeat' (first | fail | ((first | ((with_reducible (first | apply oA | apply oB)); exact rfl; intro K hK) | (refine hK _ ?_; clear hK K) | ((with_reducible (first | apply oG | apply oH)); iterate 3 exact rfl) | ((with_reducible apply oI); (iterate 2 exact rfl); intro K hK) | (with_reducible (first | apply wI | apply wJ | apply wK))); try simp only [go_sem, simprocAttr, hb, hv, hb2]) | fail | (with_reducible (first | apply oC | apply oJ | exact oK | apply wA | apply wB | apply wC hX hC | apply wD hX hC | apply wE hX hC hmix | apply wF hX hC hmix | apply wG | apply wH | apply And.intro)) | ((with_reducible refine oD ?_ ?_); first | fail | kernel_rfl) | ((with_reducible (first | apply oE | apply oF)); (iterate 3 exact rfl); all_goals (intro h; first | (exact absurd h (by decide)) | ((try simp only [go_sem, simprocAttr, hb, hv, hb2] at h); (try with_reducible intro K hK); simp only [go_sem, simprocAttr, hb, hv, hb2]))) | ((first | ((with_reducible apply wL); exact rfl) | ((with_reducible apply wM); exact rfl)); all_goals (try ((with_reducible intro h); first | (exact absurd h (by decide)) | (try simp only [go_sem, simprocAttr, hb, hv, hb2] at h)))) | omega | ((first | first | (refine acall_gen hX hC hP [(10000, 52)] (values_spec l) rfl rfl rfl ?_ ?_ ?_ ?_ ?_ ?_ ?_ ?_ ?_ ?_ ?_ ?_ ?_ ?_; (focus (simp only [go_sem, simprocAttr, hb, hv, hb2]; done)); (iterate 12 (focus (simp [go_sem, simprocAttr, hb, hv, hb2]; done))); simp only [go_sem, simprocAttr, hb, hv, hb2, List.map_cons, List.map_nil]) | (refine acall_rob hX hC hP [(10000, 52)] (sortedB_spec l hl) rfl rfl rfl ?_ ?_ ?_ ?_ ?_ ?_ rfl rfl ?_ ?_; (focus (simp only [go_sem, simprocAttr, hb, hv, hb2]; done)); (iterate 6 (focus (simp [go_sem, simprocAttr, hb, hv, hb2]; done))); simp only [go_sem, simprocAttr, hb, hv, hb2, List.map_cons, List.map_nil]) | refine acall_simple hX hC hP (outs_spec g hm (x : Int)) rfl rfl rfl (by simp only [go_sem, simprocAttr, hb, hv, hb2]) rfl ?_ | refine acall_simple hX hC hP (equalI_spec (srt l) (thereG (·.1) g x) (by omega)) rfl rfl rfl (by simp only [go_sem, simprocAttr, hb, hv, hb2]) rfl ?_); try simp only [go_sem, simprocAttr, hb, hv, hb2]) | (intro h))
  · have hb : decide ((x : Int) < (p.outs.length : Int)) = false := decide_eq_false (by omega)
    obtain rfl : x = p.outs.length := by omega
    have hres : res = true := hr.2 ⟨h1.1, h1.2, fun i hi => hg i (by omega), hgx⟩
    subst hres
    repeat' (first | fail | ((first | ((with_reducible (first | apply oA | apply oB)); exact rfl; intro K hK) | (refine hK _ ?_; clear hK K) | ((with_reducible (first | apply oG | apply oH)); iterate 3 exact rfl) | ((with_reducible apply oI); (iterate 2 exact rfl); intro K hK) | (with_reducible (first | apply wI | apply wJ | apply wK))); try simp only [go_sem, simprocAttr, hb]) | fail | (with_reducible (first | apply oC | apply oJ | exact oK | apply wA | apply wB | apply wC hX hC | apply wD hX hC | apply wE hX hC hmix | apply wF hX hC hmix | apply wG | apply wH | apply And.intro)) | ((with_reducible refine oD ?_ ?_); first | fail | kernel_rfl) | ((with_reducible (first | apply oE | apply oF)); (iterate 3 exact rfl); all_goals (intro h; first | (exact absurd h (by decide)) | ((try simp only [go_sem, simprocAttr, hb] at h); (try with_reducible intro K hK); simp only [go_sem, simprocAttr, hb]))) | ((first | ((with_reducible apply wL); exact rfl) | ((with_reducible apply wM); exact rfl)); all_goals (try ((with_reducible intro h); first | (exact absurd h (by decide)) | (try simp only [go_sem, simprocAttr, hb] at h)))) | omega | ((first | first | (refine acall_gen hX hC hP [(10000, 52)] (values_spec l) rfl rfl rfl ?_ ?_ ?_ ?_ ?_ ?_ ?_ ?_ ?_ ?_ ?_ ?_ ?_ ?_; (focus (simp only [go_sem, simprocAttr, hb]; done)); (iterate 12 (focus (simp [go_sem, simprocAttr, hb]; done))); simp only [go_sem, simprocAttr, hb, List.map_cons, List.map_nil]) | (refine acall_rob hX hC hP [(10000, 52)] (sortedB_spec l hl) rfl rfl rfl ?_ ?_ ?_ ?_ ?_ ?_ rfl rfl ?_ ?_; (focus (simp only [go_sem, simprocAttr, hb]; done)); (iterate 6 (focus (simp [go_sem, simprocAttr, hb]; done))); simp only [go_sem, simprocAttr, hb, List.map_cons, List.map_nil]) | refine acall_simple hX hC hP (outs_spec g hm (x : Int)) rfl rfl rfl (by simp only [go_sem, simprocAttr, hb]) rfl ?_ | refine acall_simple hX hC hP (equalI_spec (srt l) (thereG (·.1) g x) (by omega)) rfl rfl rfl (by simp only [go_sem, simprocAttr, hb]) rfl ?_); try simp only [go_sem, simprocAttr, hb]) | (intro h))
end Go.Ab
end
section
namespace Go.Ab
open Go.Proofs
attribute [local congr] ACall.congr
set_option maxRecDepth 10000
set_option maxHeartbeats 8000000

/-- How often edges were met: once, or not. -/
def cntL (m : Nat) (fl : List Int) : List Int := (List.range m).map fun i : Nat => if (i : Int) ∈ fl then (1 : Int) else 0
theorem outZ_iff {g : Gr} {x i : Int} : i ∈ outZ g x ↔ (0 ≤ i ∧ i < g.es.length) ∧ (g.es.getD i.toNat (0, 0)).1 = x := by
  constructor
  · exact endsZ_mem
  · rintro ⟨⟨h1, h2⟩, h3⟩
    simp only [outZ, endsZ, List.mem_map, List.mem_filter, List.mem_range, decide_eq_true_eq]
    exact ⟨i.toNat, ⟨by omega, h3⟩, by simp; omega⟩
end Go.Ab
end
section
namespace Go.Ab
open Go.Proofs
attribute [local congr] ACall.congr
set_option maxRecDepth 10000
set_option maxHeartbeats 8000000

/-- What comes of a plan: what ends at each vertex, the row at the end; the error, its place. -/
def runRes (b : Bool) (g : Gr) (p : Pl) : (List (List It) × List It) × Int × Int :=
  if b = false then (([], []), (1, 0)) else
  match stopK g p g.n.toNat with
  | some i => (([], []), (3, (i : Int)))
  | none => ((endR g p g.n.toNat, (fK g p g.n.toNat).row), (0, 0))
theorem rep_vT {n : Nat} : List.replicate n [D.sl 3 []] = vT (List.replicate n []) := by simp [vT, sT]
theorem vT_set {ls : List (List It)} {k : Nat} {l : List It} : (vT ls).set k [sT l] = vT (ls.set k l) := by simp [vT, List.map_set]
theorem endR_next {g : Gr} {p : Pl} {k : Nat} : endR g p (k + 1) = (endR g p k).set (oAt p k).toNat (goneK g p k) := rfl
end Go.Ab
end
section
namespace Go.Ab
open Go.Proofs
attribute [local congr] ACall.congr
set_option maxRecDepth 10000
set_option maxHeartbeats 8000000

theorem sweepRun_spec (g : Gr) (hl : g.es.length ≤ 1000) (p : Pl) (hp : PlLen p) (b : Bool) (hr : b = true ↔ (chkG g).1 = 0 ∧ PlanOk g p) :
    Spec Try.prog 25 (Args [eG g, ePl p]) [] (.tup [.d (.sl 1 (vT (runRes b g p).1.1)), .d (sT (runRes b g p).1.2), eF ((runRes b g p).2.1, (runRes b g p).2.2, [])]) [] := by
  by_cases hc : (chkG g).1 = 0
  rotate_left
  · obtain rfl : b = false := by
      rw [← Bool.not_eq_true, hr]
      exact fun h => hc h.1
    have hR : runRes false g p = (([], []), (1, 0)) := rfl
    rw [hR]
    (refine Spec.intro (C := T.cfg [] []) (rs := [.t 4, .t 5, .c 6 34]) (T.cfg_ok _ _) Try.func25 rfl rfl Try.ntmps25 Try.results25 (by simp [AObj.isNest]) (by simp [AObj.isNest]) (by kernel_rfl) ?_; intro X hX hP hC hXn hXm vals hA; refine ⟨_, by simp, hA, ?_⟩; have hmix : X.P.follows .mixedOrders = true := (by rw [hP]; exact T.mixed); clear hXn hXm)
    repeat' (first | fail | ((first | ((with_reducible (first | apply oA | apply oB)); exact rfl; intro K hK) | (refine hK _ ?_; clear hK K) | ((with_reducible (first | apply oG | apply oH)); iterate 3 exact rfl) | ((with_reducible apply oI); (iterate 2 exact rfl); intro K hK) | (with_reducible (first | apply wI | apply wJ | apply wK))); try simp only [go_sem, simprocAttr, vT, List.map_nil]) | fail | (with_reducible (first | apply oC | apply oJ | exact oK | apply wA | apply wB | apply wC hX hC | apply wD hX hC | apply wE hX hC hmix | apply wF hX hC hmix | apply wG | apply wH | apply And.intro)) | ((with_reducible refine oD ?_ ?_); first | fail | kernel_rfl) | ((with_reducible (first | apply oE | apply oF)); (iterate 3 exact rfl); all_goals (intro h; first | (exact absurd h (by decide)) | ((try simp only [go_sem, simprocAttr, vT, List.map_nil] at h); (try with_reducible intro K hK); simp only [go_sem, simprocAttr, vT, List.map_nil]))) | ((first | ((with_reducible apply wL); exact rfl) | ((with_reducible apply wM); exact rfl)); all_goals (try ((with_reducible intro h); first | (exact absurd h (by decide)) | (try simp only [go_sem, simprocAttr, vT, List.map_nil] at h)))) | omega | ((first | first | refine acall_simple hX hC hP (newN_spec g hl hc) rfl rfl rfl (by simp only [go_sem, simprocAttr, vT, List.map_nil]) rfl ?_); try simp only [go_sem, simprocAttr, vT, List.map_nil]) | (intro h))
  have hm := good_may hc
  have hn := mayB_n hm
  have hr : b = true ↔ PlanOk g p := by rw [hr]; exact ⟨fun h => h.2, fun h => ⟨hc, h⟩⟩
  have hO := ofS_spec g hm p hp b hr
  cases b with
  | false =>
    have hR : runRes false g p = (([], []), (1, 0)) := rfl
    rw [hR]
    (refine Spec.intro (C := T.cfg [] []) (rs := [.t 4, .t 5, .c 6 34]) (T.cfg_ok _ _) Try.func25 rfl rfl Try.ntmps25 Try.results25 (by simp [AObj.isNest]) (by simp [AObj.isNest]) (by kernel_rfl) ?_; intro X hX hP hC hXn hXm vals hA; refine ⟨_, by simp, hA, ?_⟩; have hmix : X.P.follows .mixedOrders = true := (by rw [hP]; exact T.mixed); clear hXn hXm)
    repeat' (first | fail | ((first | ((with_reducible (first | apply oA | apply oB)); exact rfl; intro K hK) | (refine hK _ ?_; clear hK K) | ((with_reducible (first | apply oG | apply oH)); iterate 3 exact rfl) | ((with_reducible apply oI); (iterate 2 exact rfl); intro K hK) | (with_reducible (first | apply wI | apply wJ | apply wK))); try simp only [go_sem, simprocAttr, vT, List.map_nil]) | fail | (with_reducible (first | apply oC | apply oJ | exact oK | apply wA | apply wB | apply wC hX hC | apply wD hX hC | apply wE hX hC hmix | apply wF hX hC hmix | apply wG | apply wH | apply And.intro)) | ((with_reducible refine oD ?_ ?_); first | fail | kernel_rfl) | ((with_reducible (first | apply oE | apply oF)); (iterate 3 exact rfl); all_goals (intro h; first | (exact absurd h (by decide)) | ((try simp only [go_sem, simprocAttr, vT, List.map_nil] at h); (try with_reducible intro K hK); simp only [go_sem, simprocAttr, vT, List.map_nil]))) | ((first | ((with_reducible apply wL); exact rfl) | ((with_reducible apply wM); exact rfl)); all_goals (try ((with_reducible intro h); first | (exact absurd h (by decide)) | (try simp only [go_sem, simprocAttr, vT, List.map_nil] at h)))) | omega | ((first | first | (refine acall_genC hX hC hP [(10000, 13)] (newF_spec g hl hc hm) rfl rfl rfl ?_ ?_ ?_ ?_ ?_ ?_ ?_ ?_ ?_ ?_ ?_ ?_ ?_ ?_; (focus (simp only [go_sem, simprocAttr, vT, List.map_nil]; done)); (iterate 12 (focus (simp [go_sem, simprocAttr, vT, List.map_nil]; done))); simp only [go_sem, simprocAttr, vT, List.map_nil, List.map_cons, List.map_nil]) | refine acall_simple hX hC hP (of_spec g hm) rfl rfl rfl (by simp only [go_sem, simprocAttr, vT, List.map_nil]) rfl ?_ | refine acall_simple hX hC hP (hO) rfl rfl rfl (by simp only [go_sem, simprocAttr, vT, List.map_nil]) rfl ?_); try simp only [go_sem, simprocAttr, vT, List.map_nil]) | (intro h))
  | true =>
  have hpo := hr.1 rfl
  have hle := plan_len hpo
  have hR : runRes true g p = match stopK g p g.n.toNat with
    | some i => (([], []), (3, (i : Int)))
    | none => ((endR g p g.n.toNat, (fK g p g.n.toNat).row), (0, 0)) := rfl
  generalize runRes true g p = R at hR
  (refine Spec.intro (C := T.cfg [] []) (rs := [.t 4, .t 5, .c 6 34]) (T.cfg_ok _ _) Try.func25 rfl rfl Try.ntmps25 Try.results25 (by simp [AObj.isNest]) (by simp [AObj.isNest]) (by kernel_rfl) ?_; intro X hX hP hC hXn hXm vals hA; refine ⟨_, by simp, hA, ?_⟩; have hmix : X.P.follows .mixedOrders = true := (by rw [hP]; exact T.mixed); clear hXn hXm)
  repeat' (first | fail | ((first | ((with_reducible (first | apply oA | apply oB)); exact rfl; intro K hK) | (refine hK _ ?_; clear hK K) | ((with_reducible (first | apply oG | apply oH)); iterate 3 exact rfl) | ((with_reducible apply oI); (iterate 2 exact rfl); intro K hK) | (with_reducible (first | apply wI | apply wJ | apply wK))); try simp only [go_sem, simprocAttr]) | (show awp _ (.seq (.region 5 _ _) _) _ _; (refine awp_nilD 13 0 3 rfl rfl rfl ?_; simp only [LA.app, ASt.put, ASt.kill, putM, rml, List.set_cons_zero, List.set_cons_succ, go_sem, simprocAttr]); (refine awp_newB hX 13 2 100 (.tip 3 1 []) rfl rfl rfl (by simp only [go_sem, simprocAttr]) (by decide) (by simp [go_sem, simprocAttr]) ⟨3, 1, by decide, .inr rfl⟩ ?_; simp only [LA.app, ASt.put, ASt.kill, subT, rmk, putM, rml, kl, AV.sub, AV.subs, AObj.sub, List.set_cons_zero, List.set_cons_succ, go_sem, simprocAttr])) | (with_reducible (first | apply oC | apply oJ | exact oK | apply wA | apply wB | apply wC hX hC | apply wD hX hC | apply wE hX hC hmix | apply wF hX hC hmix | apply wG | apply wH | apply And.intro)) | ((with_reducible refine oD ?_ ?_); first | fail | kernel_rfl) | ((with_reducible (first | apply oE | apply oF)); (iterate 3 exact rfl); all_goals (intro h; first | (exact absurd h (by decide)) | ((try simp only [go_sem, simprocAttr] at h); (try with_reducible intro K hK); simp only [go_sem, simprocAttr]))) | ((first | ((with_reducible apply wL); exact rfl) | ((with_reducible apply wM); exact rfl)); all_goals (try ((with_reducible intro h); first | (exact absurd h (by decide)) | (try simp only [go_sem, simprocAttr] at h)))) | omega | ((first | first | (refine acall_genC hX hC hP [(10000, 13)] (newF_spec g hl hc hm) rfl rfl rfl ?_ ?_ ?_ ?_ ?_ ?_ ?_ ?_ ?_ ?_ ?_ ?_ ?_ ?_; (focus (simp only [go_sem, simprocAttr]; done)); (iterate 12 (focus (simp [go_sem, simprocAttr]; done))); simp only [go_sem, simprocAttr, List.map_cons, List.map_nil]) | refine acall_simple hX hC hP (of_spec g hm) rfl rfl rfl (by simp only [go_sem, simprocAttr]) rfl ?_ | refine acall_simple hX hC hP (hO) rfl rfl rfl (by simp only [go_sem, simprocAttr]) rfl ?_); try simp only [go_sem, simprocAttr]) | (intro h))
  rw [rep_vT]
  refine awp_loopP (fun k : Nat => k ≤ g.n.toNat ∧ ∀ j, j < k → okK g p j = true) (fun k => ⟨[(3, .ptr 3 0), (4, .ref 28), (6, .ptr 6 0), (7, .ptr 13 0), (30, .d (sI p.ord)), (31, eN p.ord.length), (32, eN k)], [(28, .own 55 1 (vT (endR g p k))), (13, .box [.d (sT (fK g p k).row), .d (vw g), .ref 100]), (100, .tip 3 1 ((fK g p k).pl.map rI)), (6, .box [eN 0, eN 0, .nil 3]), (3, .box [.d (sI p.ord), .d (.sl 1 (vI p.outs))])]⟩) (fun k => g.n.toNat - k) 0 (by simp) ?_ ?_
  · refine Le.of ?_ ?_ <;> simp [go_sem, simprocAttr, rfC, fK, endR]
  rintro k ⟨hk, hok⟩
  obtain ⟨hi, _, hrl⟩ := run_inv hm hpo hk hok
  have hel := endR_len (g := g) (p := p) (k := k)
  have hmul : k * (g.es.length + 1) ≤ 64 * 129 := Nat.mul_le_mul (by omega) (by omega)
  rcases Nat.lt_or_ge k g.n.toNat with hlt | hge
  · have hb : decide ((k : Int) < (p.ord.length : Int)) = true := decide_eq_true (by omega)
    have hxm := oAt_mem hpo hlt
    have hnx := endR_next (g := g) (p := p) (k := k)
    have hfx : fK g p (k + 1) = (succF g (fK g p k) (oAt p k) (lAt p (oAt p k))).2 := rfl
    have hgx : goneK g p k = (succF g (fK g p k) (oAt p k) (lAt p (oAt p k))).1.1 := rfl
    have hpk := place_ok hpo hlt
    have hpn := place_no (g := g) (p := p) (k := k)
    have hsk : okK g p k = false → R = (([], []), (3, (k : Int))) := fun h => by
      rw [hR, stopK_some.2 ⟨hlt, h, hok⟩]
    have hll := lAt_len hpo hxm.1 hxm.2
    have hxo : p.ord.getD k 0 = oAt p k := rfl
    have hplen : (fK g p k).pl.length ≤ 64 := by
      rcases pl_le hi.toFrInv with h | h
      · omega
      · rw [h]; simp
    obtain ⟨x, hx⟩ : ∃ x : Nat, oAt p k = x := ⟨(oAt p k).toNat, by omega⟩
    rw [hx] at hxo hfx hgx hpk hpn hxm hll hnx
    have hxl : x < p.outs.length := by have := hpo.1; omega
    have hv := vI_getD hxl
    have hla : lAt p (x : Int) = p.outs.getD x [] := by unfold lAt; rw [Int.toNat_natCast]
    rw [hla] at hfx hgx hpk hpn hll
    rw [Int.toNat_natCast] at hnx
    have hPl := placeA_spec g hm (fK g p k) hi (x : Int) (p.outs.getD x []) (by omega) (by omega) (by omega)
    have hset := vT_set (ls := endR g p k) (k := x) (l := goneK g p k)
    generalize p.outs.getD x [] = o at hv hfx hgx hpk hpn hPl
    rw [← hnx] at hset
    generalize fK g p k = f at hfx hgx hpk hpn hPl hi hrl hplen
    have hxe : x < (endR g p k).length := by omega
    have hvl : (vT (endR g p k)).length = (endR g p k).length := vT_length
    cases hok1 : okK g p k with
    | false =>
      rw [hpn hok1] at hPl
      simp only at hPl
      have hRk := hsk hok1
      subst hRk
      repeat' (first | fail | ((first | ((with_reducible (first | apply oA | apply oB)); exact rfl; intro K hK) | (refine hK _ ?_; clear hK K) | ((with_reducible (first | apply oG | apply oH)); iterate 3 exact rfl) | ((with_reducible apply oI); (iterate 2 exact rfl); intro K hK) | (with_reducible (first | apply wI | apply wJ | apply wK))); try simp only [go_sem, simprocAttr, hb, hxo, hv, frO, frN, List.map_nil]) | fail | (with_reducible (first | apply oC | apply oJ | exact oK | apply wA | apply wB | apply wC hX hC | apply wD hX hC | apply wE hX hC hmix | apply wF hX hC hmix | apply wG | apply wH | apply And.intro)) | ((with_reducible refine oD ?_ ?_); first | fail | kernel_rfl) | ((with_reducible (first | apply oE | apply oF)); (iterate 3 exact rfl); all_goals (intro h; first | (exact absurd h (by decide)) | ((try simp only [go_sem, simprocAttr, hb, hxo, hv, frO, frN, List.map_nil] at h); (try with_reducible intro K hK); simp only [go_sem, simprocAttr, hb, hxo, hv, frO, frN, List.map_nil]))) | ((first | ((with_reducible apply wL); exact rfl) | ((with_reducible apply wM); exact rfl)); all_goals (try ((with_reducible intro h); first | (exact absurd h (by decide)) | (try simp only [go_sem, simprocAttr, hb, hxo, hv, frO, frN, List.map_nil] at h)))) | omega | ((first | first | (refine acall_gen hX hC hP [(10000, 13), (10001, 100), (10002, 101)] (hPl) rfl rfl rfl ?_ ?_ ?_ ?_ ?_ ?_ ?_ ?_ ?_ ?_ ?_ ?_ ?_ ?_; (focus (simp only [go_sem, simprocAttr, hb, hxo, hv, frO, frN, List.map_nil]; done)); (iterate 12 (focus (simp [go_sem, simprocAttr, hb, hxo, hv, frO, frN, List.map_nil]; done))); simp only [go_sem, simprocAttr, hb, hxo, hv, frO, frN, List.map_nil, List.map_cons, List.map_nil])); try simp only [go_sem, simprocAttr, hb, hxo, hv, frO, frN, List.map_nil]) | (intro h))
      all_goals rfl
    | true =>
      rw [hpk hok1] at hPl
      have hcode : (succF g f (x : Int) o).1.2 = 0 := rfl
      rw [hgx] at hset
      generalize succF g f (x : Int) o = su at hfx hgx hPl hcode hset
      generalize hEk : endR g p k = E at hset hxe hel hvl
      have hvd := fun d => vT_getD hxe d
      repeat' (first | fail | ((first | ((with_reducible (first | apply oA | apply oB)); exact rfl; intro K hK) | (refine hK _ ?_; clear hK K) | ((with_reducible (first | apply oG | apply oH)); iterate 3 exact rfl) | ((with_reducible apply oI); (iterate 2 exact rfl); intro K hK) | (with_reducible (first | apply wI | apply wJ | apply wK))); try simp only [go_sem, simprocAttr, hb, hxo, hv, frO, frN, hcode, hset, hvd, List.drop_succ_cons, List.drop_zero]) | (show awp _ (.region 11 _ _) _ _; (refine awp_mvB hX 13 2 101 100 rfl rfl rfl (by first | exact .inl rfl | exact .inr rfl) (by decide) (by decide) ?_; simp only [LA.app, ASt.put, ASt.kill, subT, rmk, putM, rml, kl, AV.sub, AV.subs, AObj.sub, List.set_cons_zero, List.set_cons_succ, go_sem, simprocAttr, hb, hxo, hv, frO, frN, hcode, hset, hvd, List.drop_succ_cons, List.drop_zero])) | (with_reducible (first | apply oC | apply oJ | exact oK | apply wA | apply wB | apply wC hX hC | apply wD hX hC | apply wE hX hC hmix | apply wF hX hC hmix | apply wG | apply wH | apply And.intro)) | ((with_reducible refine oD ?_ ?_); first | fail | kernel_rfl) | ((with_reducible (first | apply oE | apply oF)); (iterate 3 exact rfl); all_goals (intro h; first | (exact absurd h (by decide)) | ((try simp only [go_sem, simprocAttr, hb, hxo, hv, frO, frN, hcode, hset, hvd, List.drop_succ_cons, List.drop_zero] at h); (try with_reducible intro K hK); simp only [go_sem, simprocAttr, hb, hxo, hv, frO, frN, hcode, hset, hvd, List.drop_succ_cons, List.drop_zero]))) | ((first | ((with_reducible apply wL); exact rfl) | ((with_reducible apply wM); exact rfl)); all_goals (try ((with_reducible intro h); first | (exact absurd h (by decide)) | (try simp only [go_sem, simprocAttr, hb, hxo, hv, frO, frN, hcode, hset, hvd, List.drop_succ_cons, List.drop_zero] at h)))) | omega | ((first | first | (refine acall_gen hX hC hP [(10000, 13), (10001, 100), (10002, 101)] (hPl) rfl rfl rfl ?_ ?_ ?_ ?_ ?_ ?_ ?_ ?_ ?_ ?_ ?_ ?_ ?_ ?_; (focus (simp only [go_sem, simprocAttr, hb, hxo, hv, frO, frN, hcode, hset, hvd, List.drop_succ_cons, List.drop_zero]; done)); (iterate 12 (focus (simp [go_sem, simprocAttr, hb, hxo, hv, frO, frN, hcode, hset, hvd, List.drop_succ_cons, List.drop_zero]; done))); simp only [go_sem, simprocAttr, hb, hxo, hv, frO, frN, hcode, hset, hvd, List.drop_succ_cons, List.drop_zero, List.map_cons, List.map_nil])); try simp only [go_sem, simprocAttr, hb, hxo, hv, frO, frN, hcode, hset, hvd, List.drop_succ_cons, List.drop_zero]) | (intro h))
      refine ⟨k + 1, ⟨by omega, fun j hj => ?_⟩, ?_, by omega⟩
      · by_cases e : j = k
        · subst e; exact hok1
        · exact hok j (by omega)
      · rw [hfx]
        have hset2 : (vT E).set x [D.sl 3 (List.map rT su.1.1)] = vT (endR g p (k + 1)) := hset
        refine Le.of ?_ ?_ <;> simp [go_sem, simprocAttr, hb, hxo, hv, frO, frN, hcode, hset, hvd, List.drop_succ_cons, List.drop_zero, hset2]
  have hb : decide ((k : Int) < (p.ord.length : Int)) = false := decide_eq_false (by omega)
  obtain rfl : k = g.n.toNat := by omega
  rw [stopK_none.2 hok] at hR
  subst hR
  repeat' (first | fail | ((first | ((with_reducible (first | apply oA | apply oB)); exact rfl; intro K hK) | (refine hK _ ?_; clear hK K) | ((with_reducible (first | apply oG | apply oH)); iterate 3 exact rfl) | ((with_reducible apply oI); (iterate 2 exact rfl); intro K hK) | (with_reducible (first | apply wI | apply wJ | apply wK))); try simp only [go_sem, simprocAttr, hb]) | fail | (with_reducible (first | apply oC | apply oJ | exact oK | apply wA | apply wB | apply wC hX hC | apply wD hX hC | apply wE hX hC hmix | apply wF hX hC hmix | apply wG | apply wH | apply And.intro)) | ((with_reducible refine oD ?_ ?_); first | fail | kernel_rfl) | ((with_reducible (first | apply oE | apply oF)); (iterate 3 exact rfl); all_goals (intro h; first | (exact absurd h (by decide)) | ((try simp only [go_sem, simprocAttr, hb] at h); (try with_reducible intro K hK); simp only [go_sem, simprocAttr, hb]))) | ((first | ((with_reducible apply wL); exact rfl) | ((with_reducible apply wM); exact rfl)); all_goals (try ((with_reducible intro h); first | (exact absurd h (by decide)) | (try simp only [go_sem, simprocAttr, hb] at h)))) | omega | ((first | first | (refine acall_lend1 hX hC hP 60 (rowT_spec [vw g, sI (fK g p g.n.toNat).pl] (fK g p g.n.toNat).row (by omega)) rfl rfl rfl ?_ ?_ (by first | exact ⟨_, _, _, rfl, flatI⟩ | exact ⟨_, _, _, rfl, flatT⟩) rfl (by decide) ?_; (iterate 2 (focus (simp only [go_sem, simprocAttr, hb]; done))); simp only [go_sem, simprocAttr, hb])); try simp only [go_sem, simprocAttr, hb]) | (intro h))
end Go.Ab
end
section
namespace Go.Ab
open Go.Proofs
attribute [local congr] ACall.congr
set_option maxRecDepth 10000
set_option maxHeartbeats 8000000

/-- A builder. -/
def buO (n : Int) (es : List Edge) (ord : List Int) (O : List (List Int)) : List (Nat × AObj) := [(10000, .box [eN n, .ref 10001, .ref 10002, .ref 10003]), (10001, .tip 53 2 (es.map rE)), (10002, .tip 3 1 (ord.map rI)), (10003, .own 32 1 (vI O))]
def buN (n : Int) (es : List Edge) (ord : List Int) (O : List (List Int)) : List (Nat × AObj) := [(10000, .box [eN n, .ref 10004, .ref 10002, .ref 10003]), (10004, .tip 53 2 (es.map rE)), (10002, .tip 3 1 (ord.map rI)), (10003, .own 32 1 (vI O))]
/-- What items lay: edges from their sinks. -/
def layE (x : Int) (items : List It) : List Edge := (loose items).map fun v => (v, x)
theorem layE_app {x : Int} {a b : List It} : layE x (a ++ b) = layE x a ++ layE x b := by simp [layE, loose_app]
theorem vI_set {ls : List (List Int)} {k : Nat} {l : List Int} : (vI ls).set k [sI l] = vI (ls.set k l) := by simp [vI, List.map_set]
theorem loose_len {items : List It} : (loose items).length ≤ items.length := by
  unfold loose
  rw [List.length_map]
  exact List.length_filter_le _ _
theorem lay_spec (n : Int) (es : List Edge) (ord : List Int) (O : List (List Int)) (x : Int) (items : List It) (hl : es.length + items.length ≤ 100000) (hO : ∀ v ∈ loose items, 0 ≤ v ∧ v < O.length) :
    Spec Try.prog 47 (Args [.ptr 10000 0, eN x, .d (sT items)]) (buO n es ord O) (.tup []) (buN n (es ++ layE x items) ord (layO es.length (layE x items) O)) := by
  unfold buO buN
  (refine Spec.introR (C := T.cfg [] []) (rs := []) [(10004, 50)] (T.cfg_ok _ _) Try.func47 rfl rfl Try.ntmps47 Try.results47 (by simp [AObj.isNest]) (by simp [AObj.isNest]) (by first | (simp [look]; done) | (simp [asN]; done) | (intro l hl; simp only [asN]; repeat (rw [if_neg (fun e => by subst e; simp [look] at hl)]))) (by first | (simp [look]; done) | (simp [asN]; done) | (intro l hl; simp only [asN]; repeat (rw [if_neg (fun e => by subst e; simp [look] at hl)]))) (by kernel_rfl) ?_; intro X hX hP hC hXn hXm vals hA; refine ⟨_, by simp, hA, ?_⟩; have hmix : X.P.follows .mixedOrders = true := (by rw [hP]; exact T.mixed); clear hXn hXm)
  repeat' (first | fail | ((first | ((with_reducible (first | apply oA | apply oB)); exact rfl; intro K hK) | (refine hK _ ?_; clear hK K) | ((with_reducible (first | apply oG | apply oH)); iterate 3 exact rfl) | ((with_reducible apply oI); (iterate 2 exact rfl); intro K hK) | (with_reducible (first | apply wI | apply wJ | apply wK))); try simp only [go_sem, simprocAttr]) | fail | (with_reducible (first | apply oC | apply oJ | exact oK | apply wA | apply wB | apply wC hX hC | apply wD hX hC | apply wE hX hC hmix | apply wF hX hC hmix | apply wG | apply wH | apply And.intro)) | ((with_reducible refine oD ?_ ?_); first | fail | kernel_rfl) | ((with_reducible (first | apply oE | apply oF)); (iterate 3 exact rfl); all_goals (intro h; first | (exact absurd h (by decide)) | ((try simp only [go_sem, simprocAttr] at h); (try with_reducible intro K hK); simp only [go_sem, simprocAttr]))) | ((first | ((with_reducible apply wL); exact rfl) | ((with_reducible apply wM); exact rfl)); all_goals (try ((with_reducible intro h); first | (exact absurd h (by decide)) | (try simp only [go_sem, simprocAttr] at h)))) | omega | ((first | fail); try simp only [go_sem, simprocAttr]) | (intro h))
  (refine awp_mvB hX 10000 1 10001 50 rfl rfl rfl (by first | exact .inl rfl | exact .inr rfl) (by decide) (by decide) ?_; simp only [LA.app, ASt.put, ASt.kill, subT, rmk, putM, rml, kl, AV.sub, AV.subs, AObj.sub, List.set_cons_zero, List.set_cons_succ, go_sem, simprocAttr])
  refine awp_loopP (fun k : Nat => k ≤ items.length) (fun k => ⟨[(0, .ptr 10000 0), (1, eN x), (8, .d (sT items)), (9, eN items.length), (10, eN k)], [(10000, .box [eN n, .ref 50, .ref 10002, .ref 10003]), (50, .tip 53 2 ((es ++ layE x (items.take k)).map rE)), (10002, .tip 3 1 (ord.map rI)), (10003, .own 32 1 (vI (layO es.length (layE x (items.take k)) O)))]⟩) (fun k => items.length - k) 0 (by simp) ?_ ?_
  · refine Le.of ?_ ?_ <;> simp [go_sem, simprocAttr, layE, loose, layO]
  rintro k hk
  rcases Nat.lt_or_ge k items.length with hlt | hge
  · have hb : decide ((k : Int) < (items.length : Int)) = true := decide_eq_true (by omega)
    have htk : items.take (k + 1) = items.take k ++ [items.getD k (0, 0, 0)] := take_getD hlt
    have hmt := getD_memX (d := (0, 0, 0)) hlt
    have hsn : layE x (items.take (k + 1)) = layE x (items.take k) ++ layE x [items.getD k (0, 0, 0)] := by rw [htk, layE_app]
    have hvO : (items.getD k (0, 0, 0)).1 < 0 → 0 ≤ (items.getD k (0, 0, 0)).2.1 ∧ (items.getD k (0, 0, 0)).2.1 < O.length := fun h => hO _ (by
      unfold loose
      exact List.mem_map.2 ⟨_, List.mem_filter.2 ⟨hmt, decide_eq_true h⟩, rfl⟩)
    have hll : (layE x (items.take k)).length ≤ k := by
      unfold layE
      rw [List.length_map]
      refine Nat.le_trans loose_len ?_
      rw [List.length_take]; omega
    have hLO := layO_app (m := es.length) (N := layE x (items.take k)) (M := layE x [items.getD k (0, 0, 0)]) (O := O)
    have hOl : (layO es.length (layE x (items.take k)) O).length = O.length := layO_len
    rw [← hsn] at hLO
    generalize hti : items.getD k (0, 0, 0) = t at hsn hvO hLO
    generalize layO es.length (layE x (items.take k)) O = O' at hLO hOl
    generalize layE x (items.take k) = N at hsn hll hLO
    by_cases h0 : 0 ≤ t.1
    · have hb1 : decide (0 ≤ t.1) = true := decide_eq_true h0
      have he : layE x [t] = [] := by
        have : ¬ t.1 < 0 := by omega
        simp [layE, loose, this]
      rw [he] at hsn hLO
      rw [List.append_nil] at hsn
      repeat' (first | fail | ((first | ((with_reducible (first | apply oA | apply oB)); exact rfl; intro K hK) | (refine hK _ ?_; clear hK K) | ((with_reducible (first | apply oG | apply oH)); iterate 3 exact rfl) | ((with_reducible apply oI); (iterate 2 exact rfl); intro K hK) | (with_reducible (first | apply wI | apply wJ | apply wK))); try simp only [go_sem, simprocAttr, hb, hb1, hti]) | fail | (with_reducible (first | apply oC | apply oJ | exact oK | apply wA | apply wB | apply wC hX hC | apply wD hX hC | apply wE hX hC hmix | apply wF hX hC hmix | apply wG | apply wH | apply And.intro)) | ((with_reducible refine oD ?_ ?_); first | fail | kernel_rfl) | ((with_reducible (first | apply oE | apply oF)); (iterate 3 exact rfl); all_goals (intro h; first | (exact absurd h (by decide)) | ((try simp only [go_sem, simprocAttr, hb, hb1, hti] at h); (try with_reducible intro K hK); simp only [go_sem, simprocAttr, hb, hb1, hti]))) | ((first | ((with_reducible apply wL); exact rfl) | ((with_reducible apply wM); exact rfl)); all_goals (try ((with_reducible intro h); first | (exact absurd h (by decide)) | (try simp only [go_sem, simprocAttr, hb, hb1, hti] at h)))) | omega | ((first | fail); try simp only [go_sem, simprocAttr, hb, hb1, hti]) | (intro h))
      refine ⟨k + 1, by omega, ?_, by omega⟩
      rw [hLO, hsn]
      refine Le.of ?_ ?_ <;> simp [go_sem, simprocAttr, hb, hb1, hti, layO]
    · have hb1 : decide (0 ≤ t.1) = false := decide_eq_false h0
      have he : layE x [t] = [(t.2.1, x)] := by
        have : t.1 < 0 := by omega
        simp [layE, loose, this]
      rw [he] at hsn hLO
      obtain ⟨hv0, hv1⟩ := hvO (by omega)
      obtain ⟨vn, hvn⟩ : ∃ vn : Nat, t.2.1 = vn := ⟨t.2.1.toNat, by omega⟩
      have hvl : vn < O'.length := by omega
      have hvd := fun d => vI_getD hvl d
      have hLO2 : layO es.length (layE x (items.take (k + 1))) O = O'.set vn [((es.length + N.length : Nat) : Int)] := by
        rw [hLO, hvn]
        show O'.set ((vn : Int).toNat) _ = _
        rw [Int.toNat_natCast]
      rw [hvn] at hsn
      have hrow : rI ((es.length : Int) + (N.length : Int)) = [D.sc (.int .i64 ((es.length : Int) + (N.length : Int)))] := rfl
      have hset := vI_set (ls := O') (k := vn) (l := [((es.length + N.length : Nat) : Int)])
      repeat' (first | fail | ((first | ((with_reducible (first | apply oA | apply oB)); exact rfl; intro K hK) | (refine hK _ ?_; clear hK K) | ((with_reducible (first | apply oG | apply oH)); iterate 3 exact rfl) | ((with_reducible apply oI); (iterate 2 exact rfl); intro K hK) | (with_reducible (first | apply wI | apply wJ | apply wK))); try simp only [go_sem, simprocAttr, hb, hb1, hti, hvn, hvd, List.drop_succ_cons, List.drop_zero, List.length_append]) | (show awp _ (.region 6 _ _) _ _; (refine awp_mvB hX 10000 1 43 50 rfl rfl rfl (by first | exact .inl rfl | exact .inr rfl) (by decide) (by decide) ?_; simp only [LA.app, ASt.put, ASt.kill, subT, rmk, putM, rml, kl, AV.sub, AV.subs, AObj.sub, List.set_cons_zero, List.set_cons_succ, go_sem, simprocAttr, hb, hb1, hti, hvn, hvd, List.drop_succ_cons, List.drop_zero, List.length_append])) | (with_reducible (first | apply oC | apply oJ | exact oK | apply wA | apply wB | apply wC hX hC | apply wD hX hC | apply wE hX hC hmix | apply wF hX hC hmix | apply wG | apply wH | apply And.intro)) | ((with_reducible refine oD ?_ ?_); first | fail | kernel_rfl) | ((with_reducible (first | apply oE | apply oF)); (iterate 3 exact rfl); all_goals (intro h; first | (exact absurd h (by decide)) | ((try simp only [go_sem, simprocAttr, hb, hb1, hti, hvn, hvd, List.drop_succ_cons, List.drop_zero, List.length_append] at h); (try with_reducible intro K hK); simp only [go_sem, simprocAttr, hb, hb1, hti, hvn, hvd, List.drop_succ_cons, List.drop_zero, List.length_append]))) | ((first | ((with_reducible apply wL); exact rfl) | ((with_reducible apply wM); exact rfl)); all_goals (try ((with_reducible intro h); first | (exact absurd h (by decide)) | (try simp only [go_sem, simprocAttr, hb, hb1, hti, hvn, hvd, List.drop_succ_cons, List.drop_zero, List.length_append] at h)))) | omega | ((first | fail); try simp only [go_sem, simprocAttr, hb, hb1, hti, hvn, hvd, List.drop_succ_cons, List.drop_zero, List.length_append]) | (intro h))
      refine ⟨k + 1, by omega, ?_, by omega⟩
      rw [hLO2, hsn]
      refine Le.of ?_ ?_ <;> simp [go_sem, simprocAttr, hb, hb1, hti, hvn, hvd, List.drop_succ_cons, List.drop_zero, List.length_append]
      refine ⟨rfl, ?_⟩
      simp only [Int.natCast_add] at hset
      exact hset
  · have hb : decide ((k : Int) < (items.length : Int)) = false := decide_eq_false (by omega)
    obtain rfl : k = items.length := by omega
    have ht : items.take items.length = items := List.take_length
    repeat' (first | fail | ((first | ((with_reducible (first | apply oA | apply oB)); exact rfl; intro K hK) | (refine hK _ ?_; clear hK K) | ((with_reducible (first | apply oG | apply oH)); iterate 3 exact rfl) | ((with_reducible apply oI); (iterate 2 exact rfl); intro K hK) | (with_reducible (first | apply wI | apply wJ | apply wK))); try simp only [go_sem, simprocAttr, hb, ht]) | fail | (with_reducible (first | apply oC | apply oJ | exact oK | apply wA | apply wB | apply wC hX hC | apply wD hX hC | apply wE hX hC hmix | apply wF hX hC hmix | apply wG | apply wH | apply And.intro)) | ((with_reducible refine oD ?_ ?_); first | fail | kernel_rfl) | ((with_reducible (first | apply oE | apply oF)); (iterate 3 exact rfl); all_goals (intro h; first | (exact absurd h (by decide)) | ((try simp only [go_sem, simprocAttr, hb, ht] at h); (try with_reducible intro K hK); simp only [go_sem, simprocAttr, hb, ht]))) | ((first | ((with_reducible apply wL); exact rfl) | ((with_reducible apply wM); exact rfl)); all_goals (try ((with_reducible intro h); first | (exact absurd h (by decide)) | (try simp only [go_sem, simprocAttr, hb, ht] at h)))) | omega | ((first | fail); try simp only [go_sem, simprocAttr, hb, ht]) | (intro h))
end Go.Ab
end
section
namespace Go.Ab
open Go.Proofs
attribute [local congr] ACall.congr
set_option maxRecDepth 10000
set_option maxHeartbeats 16000000

theorem cloneEt_spec (ps : List Edge) (hl : ps.length ≤ 1000000) :
    Spec Try.prog 45 (Args [.d (sE ps)]) [] (.ref 10000) [(10000, .tip 53 2 (ps.map rE))] := by
  (refine Spec.introR (C := T.cfg [] []) (rs := [.t 2]) [(10000, 7)] (T.cfg_ok _ _) Try.func45 rfl rfl Try.ntmps45 Try.results45 (by simp [AObj.isNest]) (by simp [AObj.isNest]) (by first | (simp [look]; done) | (simp [asN]; done) | (intro l hl; simp only [asN]; repeat (rw [if_neg (fun e => by subst e; simp [look] at hl)]))) (by first | (simp [look]; done) | (simp [asN]; done) | (intro l hl; simp only [asN]; repeat (rw [if_neg (fun e => by subst e; simp [look] at hl)]))) (by kernel_rfl) ?_; intro X hX hP hC hXn hXm vals hA; refine ⟨_, by simp, hA, ?_⟩; have hmix : X.P.follows .mixedOrders = true := (by rw [hP]; exact T.mixed); clear hXn hXm)
  repeat' (first | (show awp _ .ret _ _; (try simp only [go_sem, simprocAttr]); refine awp_new hX 2 7 (.tip 53 2 []) ?_ ?_ (by decide) ⟨53, 2, by decide, .inr rfl⟩ ?_; (iterate 2 (focus (simp only [go_sem, simprocAttr]; done))); simp only [go_sem, simprocAttr]) | ((first | ((with_reducible (first | apply oA | apply oB)); exact rfl; intro K hK) | (refine hK _ ?_; clear hK K) | ((with_reducible (first | apply oG | apply oH)); iterate 3 exact rfl) | ((with_reducible apply oI); (iterate 2 exact rfl); intro K hK) | (with_reducible (first | apply wI | apply wJ | apply wK))); try simp only [go_sem, simprocAttr]) | fail | (with_reducible (first | apply oC | apply oJ | exact oK | apply wA | apply wB | apply wC hX hC | apply wD hX hC | apply wE hX hC hmix | apply wF hX hC hmix | apply wG | apply wH | apply And.intro)) | ((with_reducible refine oD ?_ ?_); first | fail | kernel_rfl) | ((with_reducible (first | apply oE | apply oF)); (iterate 3 exact rfl); all_goals (intro h; first | (exact absurd h (by decide)) | ((try simp only [go_sem, simprocAttr] at h); (try with_reducible intro K hK); simp only [go_sem, simprocAttr]))) | ((first | ((with_reducible apply wL); exact rfl) | ((with_reducible apply wM); exact rfl)); all_goals (try ((with_reducible intro h); first | (exact absurd h (by decide)) | (try simp only [go_sem, simprocAttr] at h)))) | omega | ((first | fail); try simp only [go_sem, simprocAttr]) | (intro h))
  exact h.symm
def pz : Pl := ⟨[], []⟩
def augR (b : Bool) (g : Gr) (p : Pl) : Gr × Pl × Int :=
  if (runRes b g p).2.1 ≠ 0 then (gz, pz, 1) else if 64 < (augG g p).n ∨ 128 < (augG g p).es.length then (gz, pz, 10) else (augG g p, augP g p, 0)
theorem runRes_ok {b : Bool} {g : Gr} {p : Pl} (hr : b = true ↔ (chkG g).1 = 0 ∧ PlanOk g p) (h : (runRes b g p).2.1 = 0) : RunsP g p ∧ runRes b g p = ((endR g p g.n.toNat, lastR g p), (0, 0)) := by
  cases b with
  | false => simp [runRes] at h
  | true =>
    have hR : runRes true g p = match stopK g p g.n.toNat with
      | some i => (([], []), (3, (i : Int)))
      | none => ((endR g p g.n.toNat, (fK g p g.n.toNat).row), (0, 0)) := rfl
    cases hs : stopK g p g.n.toNat with
    | some i => rw [hR, hs] at h; simp at h
    | none =>
      obtain ⟨h1, h2⟩ := hr.1 rfl
      exact ⟨⟨h1, h2, stopK_none.1 hs⟩, by rw [hR, hs]; rfl⟩
theorem newK_next {g : Gr} {p : Pl} {k : Nat} : newK g p (k + 1) = newK g p k ++ layE (oAt p k) (goneK g p k) := rfl
theorem newK_ok {g : Gr} {p : Pl} (hr : RunsP g p) {k : Nat} (hk : k ≤ g.n.toNat) : (newK g p k).length ≤ g.n.toNat ∧ ∀ e ∈ newK g p k, 0 ≤ e.1 ∧ e.1 < g.n := by
  obtain ⟨hc, h, hok⟩ := hr
  have hm := good_may hc
  obtain ⟨h1, h2⟩ := loose_inv hm h hk fun j hj => hok j (by omega)
  obtain ⟨hi, _⟩ := run_inv hm h hk fun j hj => hok j (by omega)
  have hv : ∀ v ∈ (newK g p k).map (·.1), 0 ≤ v ∧ v < g.n := fun v hv => hi.rng v (h2 v (List.mem_append_left _ hv)).1
  refine ⟨?_, fun e he => hv _ (List.mem_map.2 ⟨e, he, rfl⟩)⟩
  have := nodup_lenX (List.nodup_append.1 h1).1 (m := allN g.n.toNat) fun v hv' => allN_mem.2 (by have := hv v hv'; omega)
  rw [allN_len, List.length_map] at this
  exact this
theorem augment_spec (g : Gr) (hl : g.es.length ≤ 1000) (p : Pl) (hp : PlLen p) (hp1 : p.ord.length ≤ 1000) (hp2 : p.outs.length ≤ 1000) (hp3 : ∀ l ∈ p.outs, l.length ≤ 1000) (b : Bool) (hr : b = true ↔ (chkG g).1 = 0 ∧ PlanOk g p) :
    Spec Try.prog 17 (Args [eG g, ePl p]) [] (.tup [eG (augR b g p).1, ePl (augR b g p).2.1, eN (augR b g p).2.2]) [] := by
  have hO := sweepRun_spec g hl p hp b hr
  by_cases h0 : (runRes b g p).2.1 = 0
  rotate_left
  · have hAr : augR b g p = (gz, pz, 1) := if_pos h0
    rw [hAr]
    have hb1 : decide ((runRes b g p).2.1 = 0) = false := decide_eq_false h0
    (refine Spec.intro (C := T.cfg [] []) (rs := [.c 4 24, .c 5 43, .t 6]) (T.cfg_ok _ _) Try.func17 rfl rfl Try.ntmps17 Try.results17 (by simp [AObj.isNest]) (by simp [AObj.isNest]) (by kernel_rfl) ?_; intro X hX hP hC hXn hXm vals hA; refine ⟨_, by simp, hA, ?_⟩; have hmix : X.P.follows .mixedOrders = true := (by rw [hP]; exact T.mixed); clear hXn hXm)
    repeat' (first | fail | ((first | ((with_reducible (first | apply oA | apply oB)); exact rfl; intro K hK) | (refine hK _ ?_; clear hK K) | ((with_reducible (first | apply oG | apply oH)); iterate 3 exact rfl) | ((with_reducible apply oI); (iterate 2 exact rfl); intro K hK) | (with_reducible (first | apply wI | apply wJ | apply wK))); try simp only [go_sem, simprocAttr, hb1, gz, pz, vI, List.map_nil]) | fail | (with_reducible (first | apply oC | apply oJ | exact oK | apply wA | apply wB | apply wC hX hC | apply wD hX hC | apply wE hX hC hmix | apply wF hX hC hmix | apply wG | apply wH | apply And.intro)) | ((with_reducible refine oD ?_ ?_); first | fail | kernel_rfl) | ((with_reducible (first | apply oE | apply oF)); (iterate 3 exact rfl); all_goals (intro h; first | (exact absurd h (by decide)) | ((try simp only [go_sem, simprocAttr, hb1, gz, pz, vI, List.map_nil] at h); (try with_reducible intro K hK); simp only [go_sem, simprocAttr, hb1, gz, pz, vI, List.map_nil]))) | ((first | ((with_reducible apply wL); exact rfl) | ((with_reducible apply wM); exact rfl)); all_goals (try ((with_reducible intro h); first | (exact absurd h (by decide)) | (try simp only [go_sem, simprocAttr, hb1, gz, pz, vI, List.map_nil] at h)))) | omega | ((first | first | refine acall_simple hX hC hP (hO) rfl rfl rfl (by simp only [go_sem, simprocAttr, hb1, gz, pz, vI, List.map_nil]) rfl ?_); try simp only [go_sem, simprocAttr, hb1, gz, pz, vI, List.map_nil]) | (intro h))
  obtain ⟨hrun, hR⟩ := runRes_ok hr h0
  rw [hR] at hO
  simp only at hO
  have hAr : augR b g p = if 64 < (augG g p).n ∨ 128 < (augG g p).es.length then (gz, pz, 10) else (augG g p, augP g p, 0) := by
    unfold augR; rw [if_neg (by rw [h0]; simp)]
  generalize augR b g p = AR at hAr
  have hm := good_may hrun.1
  have hn := mayB_n hm
  have hpo := hrun.2.1
  have hle := plan_len hpo
  have hol := hpo.1
  (refine Spec.intro (C := T.cfg [55, 98] []) (rs := [.c 4 24, .c 5 43, .t 6]) (T.cfg_ok _ _) Try.func17 rfl rfl Try.ntmps17 Try.results17 (by simp [AObj.isNest]) (by simp [AObj.isNest]) (by kernel_rfl) ?_; intro X hX hP hC hXn hXm vals hA; refine ⟨_, by simp, hA, ?_⟩; have hmix : X.P.follows .mixedOrders = true := (by rw [hP]; exact T.mixed); clear hXn hXm)
  repeat' (first | fail | ((first | ((with_reducible (first | apply oA | apply oB)); exact rfl; intro K hK) | (refine hK _ ?_; clear hK K) | ((with_reducible (first | apply oG | apply oH)); iterate 3 exact rfl) | ((with_reducible apply oI); (iterate 2 exact rfl); intro K hK) | (with_reducible (first | apply wI | apply wJ | apply wK))); try simp only [go_sem, simprocAttr]) | (show awp _ (.seq (.region 5 _ _) _) _ _; (refine awp_mvB hX 38 1 31 200 rfl rfl rfl (by first | exact .inl rfl | exact .inr rfl) (by decide) (by decide) ?_; simp only [LA.app, ASt.put, ASt.kill, subT, rmk, putM, rml, kl, AV.sub, AV.subs, AObj.sub, List.set_cons_zero, List.set_cons_succ, go_sem, simprocAttr]); (refine awp_newB hX 38 3 201 (.own 32 1 []) rfl rfl rfl (by simp only [go_sem, simprocAttr]) (by decide) (by simp [go_sem, simprocAttr]) ⟨32, 1, by decide, .inl rfl⟩ ?_; simp only [LA.app, ASt.put, ASt.kill, subT, rmk, putM, rml, kl, AV.sub, AV.subs, AObj.sub, List.set_cons_zero, List.set_cons_succ, go_sem, simprocAttr])) | (with_reducible (first | apply oC | apply oJ | exact oK | apply wA | apply wB | apply wC hX hC | apply wD hX hC | apply wE hX hC hmix | apply wF hX hC hmix | apply wG | apply wH | apply And.intro)) | ((with_reducible refine oD ?_ ?_); first | fail | kernel_rfl) | ((with_reducible (first | apply oE | apply oF)); (iterate 3 exact rfl); all_goals (intro h; first | (exact absurd h (by decide)) | ((try simp only [go_sem, simprocAttr] at h); (try with_reducible intro K hK); simp only [go_sem, simprocAttr]))) | ((first | ((with_reducible apply wL); exact rfl) | ((with_reducible apply wM); exact rfl)); all_goals (try ((with_reducible intro h); first | (exact absurd h (by decide)) | (try simp only [go_sem, simprocAttr] at h)))) | omega | ((first | first | refine acall_simple hX hC hP (hO) rfl rfl rfl (by simp only [go_sem, simprocAttr]) rfl ?_ | (refine acall_genC hX hC hP [(10000, 31)] (cloneEt_spec g.es (by omega)) rfl rfl rfl ?_ ?_ ?_ ?_ ?_ ?_ ?_ ?_ ?_ ?_ ?_ ?_ ?_ ?_; (focus (simp only [go_sem, simprocAttr]; done)); (iterate 12 (focus (simp [go_sem, simprocAttr]; done))); simp only [go_sem, simprocAttr, List.map_cons, List.map_nil]) | (refine acall_genC hX hC hP [(10000, 35)] (cloneIt_spec p.ord (by omega)) rfl rfl rfl ?_ ?_ ?_ ?_ ?_ ?_ ?_ ?_ ?_ ?_ ?_ ?_ ?_ ?_; (focus (simp only [go_sem, simprocAttr]; done)); (iterate 12 (focus (simp [go_sem, simprocAttr]; done))); simp only [go_sem, simprocAttr, List.map_cons, List.map_nil])); try simp only [go_sem, simprocAttr]) | (intro h))
  refine awp_loopP (fun x : Nat => x ≤ p.outs.length) (fun x => ⟨[(2, .ptr 2 0), (3, .ptr 3 0), (4, .ptr 4 0), (5, .ptr 5 0), (7, .d (.sl 1 (vT (endR g p g.n.toNat)))), (8, .d (sT (lastR g p))), (10, .ptr 38 0), (40, .d (.sl 1 (vI p.outs))), (41, eN p.outs.length), (42, eN x)], [(2, .box [eN g.n, .d (sE g.es)]), (3, .box [.d (sI p.ord), .d (.sl 1 (vI p.outs))]), (4, .box [eN 0, .nil 53]), (5, .box [.nil 3, .nil 32]), (38, .box [eN g.n, .ref 200, .ref 35, .ref 201]), (200, .tip 53 2 (g.es.map rE)), (35, .tip 3 1 (p.ord.map rI)), (201, .own 32 1 (vI (p.outs.take x)))]⟩) (fun x => p.outs.length - x) 0 (by simp) ?_ ?_
  · refine Le.of ?_ ?_ <;> simp [go_sem, simprocAttr, vI]
  rintro x hx
  rcases Nat.lt_or_ge x p.outs.length with hxl | hxg
  · have hb : decide ((x : Int) < (p.outs.length : Int)) = true := decide_eq_true (by omega)
    have hv := vI_getD hxl
    have hll := hp3 _ (getD_memX (d := []) hxl)
    have htk : vI (p.outs.take (x + 1)) = vI (p.outs.take x) ++ [[sI (p.outs.getD x [])]] := by
      unfold vI
      rw [take_nextX (d := []) hxl]
    have htl : (p.outs.take x).length = x := by rw [List.length_take]; omega
    have hCl := cloneI_spec (p.outs.getD x []) (by omega)
    generalize p.outs.getD x [] = l at hv hll htk hCl
    repeat' (first | fail | ((first | ((with_reducible (first | apply oA | apply oB)); exact rfl; intro K hK) | (refine hK _ ?_; clear hK K) | ((with_reducible (first | apply oG | apply oH)); iterate 3 exact rfl) | ((with_reducible apply oI); (iterate 2 exact rfl); intro K hK) | (with_reducible (first | apply wI | apply wJ | apply wK))); try simp only [go_sem, simprocAttr, hb, hv, htl]) | (show awp _ (.region 9 _ _) _ _; (refine awp_mvB hX 38 3 55 201 rfl rfl rfl (by first | exact .inl rfl | exact .inr rfl) (by decide) (by decide) ?_; simp only [LA.app, ASt.put, ASt.kill, subT, rmk, putM, rml, kl, AV.sub, AV.subs, AObj.sub, List.set_cons_zero, List.set_cons_succ, go_sem, simprocAttr, hb, hv, htl])) | (with_reducible (first | apply oC | apply oJ | exact oK | apply wA | apply wB | apply wC hX hC | apply wD hX hC | apply wE hX hC hmix | apply wF hX hC hmix | apply wG | apply wH | apply And.intro)) | ((with_reducible refine oD ?_ ?_); first | fail | kernel_rfl) | ((with_reducible (first | apply oE | apply oF)); (iterate 3 exact rfl); all_goals (intro h; first | (exact absurd h (by decide)) | ((try simp only [go_sem, simprocAttr, hb, hv, htl] at h); (try with_reducible intro K hK); simp only [go_sem, simprocAttr, hb, hv, htl]))) | ((first | ((with_reducible apply wL); exact rfl) | ((with_reducible apply wM); exact rfl)); all_goals (try ((with_reducible intro h); first | (exact absurd h (by decide)) | (try simp only [go_sem, simprocAttr, hb, hv, htl] at h)))) | omega | ((first | first | refine acall_simple hX hC hP (hCl) rfl rfl rfl (by simp only [go_sem, simprocAttr, hb, hv, htl]) rfl ?_); try simp only [go_sem, simprocAttr, hb, hv, htl]) | (intro h))
    refine ⟨x + 1, by omega, ?_, by omega⟩
    rw [htk]
    refine Le.of ?_ ?_ <;> simp [go_sem, simprocAttr, hb, hv, htl]
  have hb : decide ((x : Int) < (p.outs.length : Int)) = false := decide_eq_false (by omega)
  obtain rfl : x = p.outs.length := by omega
  repeat' (first | fail | ((first | ((with_reducible (first | apply oA | apply oB)); exact rfl; intro K hK) | (refine hK _ ?_; clear hK K) | ((with_reducible (first | apply oG | apply oH)); iterate 3 exact rfl) | ((with_reducible apply oI); (iterate 2 exact rfl); intro K hK) | (with_reducible (first | apply wI | apply wJ | apply wK))); try simp only [go_sem, simprocAttr, hb, List.take_length]) | fail | (with_reducible (first | apply oC | apply oJ | exact oK | apply wA | apply wB | apply wC hX hC | apply wD hX hC | apply wE hX hC hmix | apply wF hX hC hmix | apply wG | apply wH | apply And.intro)) | ((with_reducible refine oD ?_ ?_); first | fail | kernel_rfl) | ((with_reducible (first | apply oE | apply oF)); (iterate 3 exact rfl); all_goals (intro h; first | (exact absurd h (by decide)) | ((try simp only [go_sem, simprocAttr, hb, List.take_length] at h); (try with_reducible intro K hK); simp only [go_sem, simprocAttr, hb, List.take_length]))) | ((first | ((with_reducible apply wL); exact rfl) | ((with_reducible apply wM); exact rfl)); all_goals (try ((with_reducible intro h); first | (exact absurd h (by decide)) | (try simp only [go_sem, simprocAttr, hb, List.take_length] at h)))) | omega | ((first | first | refine acall_simple hX hC hP (hCl) rfl rfl rfl (by simp only [go_sem, simprocAttr, hb, List.take_length]) rfl ?_); try simp only [go_sem, simprocAttr, hb, List.take_length]) | (intro h))
  clear hb hx
  refine awp_loopP (fun k : Nat => k ≤ g.n.toNat) (fun k => ⟨[(2, .ptr 2 0), (4, .ptr 4 0), (5, .ptr 5 0), (7, .d (.sl 1 (vT (endR g p g.n.toNat)))), (8, .d (sT (lastR g p))), (10, .ptr 38 0), (61, .d (sI p.ord)), (62, eN p.ord.length), (63, eN k)], [(2, .box [eN g.n, .d (sE g.es)]), (4, .box [eN 0, .nil 53]), (5, .box [.nil 3, .nil 32]), (38, .box [eN g.n, .ref 200, .ref 35, .ref 201]), (200, .tip 53 2 ((g.es ++ newK g p k).map rE)), (35, .tip 3 1 (p.ord.map rI)), (201, .own 32 1 (vI (layO g.es.length (newK g p k) p.outs)))]⟩) (fun k => g.n.toNat - k) 0 (by simp) ?_ ?_
  · refine Le.of ?_ ?_ <;> simp [go_sem, simprocAttr, newK, layO]
  rintro k hk
  obtain ⟨hnl, hnr⟩ := newK_ok hrun hk
  have hOl : (layO g.es.length (newK g p k) p.outs).length = p.outs.length := layO_len
  rcases Nat.lt_or_ge k g.n.toNat with hkl | hkg
  · have hb : decide ((k : Int) < (p.ord.length : Int)) = true := decide_eq_true (by omega)
    have hxm := oAt_mem hpo hkl
    have hea := ends_at hpo (k := g.n.toNat) (Nat.le_refl _) hkl
    have hxo : p.ord.getD k 0 = oAt p k := rfl
    have hnx := newK_next (g := g) (p := p) (k := k)
    obtain ⟨hnl2, hnr2⟩ := newK_ok hrun (k := k + 1) (by omega)
    have hgl : (goneK g p k).length ≤ (fK g p k).row.length := by unfold goneK succF; simp; omega
    obtain ⟨_, _, hrl⟩ := run_inv hm hpo (k := k) (by omega) fun j hj => hrun.2.2 j (by omega)
    have hmul : k * (g.es.length + 1) ≤ 64 * 129 := Nat.mul_le_mul (by omega) (by omega)
    have hLO : layO g.es.length (newK g p (k + 1)) p.outs = layO (g.es ++ newK g p k).length (layE (oAt p k) (goneK g p k)) (layO g.es.length (newK g p k) p.outs) := by
      rw [hnx, layO_app, List.length_append]
    have hLs := lay_spec g.n (g.es ++ newK g p k) p.ord (layO g.es.length (newK g p k) p.outs) (oAt p k) (goneK g p k) (by rw [List.length_append]; omega) (fun v hv => by
      have := hnr2 (v, oAt p k) (by rw [hnx]; exact List.mem_append_right _ (List.mem_map.2 ⟨v, hv, rfl⟩))
      simp only at this
      omega)
    rw [← hLO] at hLs
    have hes : g.es ++ newK g p k ++ layE (oAt p k) (goneK g p k) = g.es ++ newK g p (k + 1) := by rw [hnx, List.append_assoc]
    rw [hes] at hLs
    obtain ⟨x, hx⟩ : ∃ x : Nat, oAt p k = x := ⟨(oAt p k).toNat, by omega⟩
    rw [hx] at hxo hea hLs hxm
    rw [Int.toNat_natCast] at hea
    have hel := endR_len (g := g) (p := p) (k := g.n.toNat)
    have hxe : x < (endR g p g.n.toNat).length := by omega
    have hve := vT_getD hxe
    rw [hea] at hve
    have hvl : (vT (endR g p g.n.toNat)).length = (endR g p g.n.toNat).length := vT_length
    repeat' (first | fail | ((first | ((with_reducible (first | apply oA | apply oB)); exact rfl; intro K hK) | (refine hK _ ?_; clear hK K) | ((with_reducible (first | apply oG | apply oH)); iterate 3 exact rfl) | ((with_reducible apply oI); (iterate 2 exact rfl); intro K hK) | (with_reducible (first | apply wI | apply wJ | apply wK))); try simp only [go_sem, simprocAttr, hb, hxo, hve, hvl, buO, buN]) | (show awp _ (.region 14 _ _) _ _; (refine awp_mvB hX 38 1 202 200 rfl rfl rfl (by first | exact .inl rfl | exact .inr rfl) (by decide) (by decide) ?_; simp only [LA.app, ASt.put, ASt.kill, subT, rmk, putM, rml, kl, AV.sub, AV.subs, AObj.sub, List.set_cons_zero, List.set_cons_succ, go_sem, simprocAttr, hb, hxo, hve, hvl, buO, buN])) | (with_reducible (first | apply oC | apply oJ | exact oK | apply wA | apply wB | apply wC hX hC | apply wD hX hC | apply wE hX hC hmix | apply wF hX hC hmix | apply wG | apply wH | apply And.intro)) | ((with_reducible refine oD ?_ ?_); first | fail | kernel_rfl) | ((with_reducible (first | apply oE | apply oF)); (iterate 3 exact rfl); all_goals (intro h; first | (exact absurd h (by decide)) | ((try simp only [go_sem, simprocAttr, hb, hxo, hve, hvl, buO, buN] at h); (try with_reducible intro K hK); simp only [go_sem, simprocAttr, hb, hxo, hve, hvl, buO, buN]))) | ((first | ((with_reducible apply wL); exact rfl) | ((with_reducible apply wM); exact rfl)); all_goals (try ((with_reducible intro h); first | (exact absurd h (by decide)) | (try simp only [go_sem, simprocAttr, hb, hxo, hve, hvl, buO, buN] at h)))) | omega | ((first | first | (refine acall_gen hX hC hP [(10000, 38), (10001, 200), (10002, 35), (10003, 201), (10004, 202)] (hLs) rfl rfl rfl ?_ ?_ ?_ ?_ ?_ ?_ ?_ ?_ ?_ ?_ ?_ ?_ ?_ ?_; (focus (simp only [go_sem, simprocAttr, hb, hxo, hve, hvl, buO, buN]; done)); (iterate 12 (focus (simp [go_sem, simprocAttr, hb, hxo, hve, hvl, buO, buN]; done))); simp only [go_sem, simprocAttr, hb, hxo, hve, hvl, buO, buN, List.map_cons, List.map_nil])); try simp only [go_sem, simprocAttr, hb, hxo, hve, hvl, buO, buN]) | (intro h))
    refine ⟨k + 1, by omega, ?_, by omega⟩
    refine Le.of ?_ ?_ <;> simp [go_sem, simprocAttr, hb, hxo, hve, hvl, buO, buN]
  have hb : decide ((k : Int) < (p.ord.length : Int)) = false := decide_eq_false (by omega)
  obtain rfl : k = g.n.toNat := by omega
  by_cases h1 : 1 < (lastR g p).length
  · have hb1 : decide ((1 : Int) < ((lastR g p).length : Int)) = true := decide_eq_true (by omega)
    obtain ⟨_, _, hrl⟩ := run_inv hm hpo (k := g.n.toNat) (Nat.le_refl _) hrun.2.2
    have hmul : g.n.toNat * (g.es.length + 1) ≤ 64 * 129 := Nat.mul_le_mul (by omega) (by omega)
    have hrl : (lastR g p).length ≤ g.n.toNat * (g.es.length + 1) := hrl
    obtain ⟨hN1, hN2⟩ := newA_ok hrun
    have hnl2 : newL g p = layE g.n (lastR g p) := if_pos h1
    have hLs := lay_spec (g.n + 1) (g.es ++ newK g p g.n.toNat) (p.ord ++ [g.n]) (layO g.es.length (newK g p g.n.toNat) p.outs ++ [[]]) g.n (lastR g p) (by rw [List.length_append]; omega) (fun v hv => by
      have := (hN2 (v, g.n) (by unfold newA; rw [hnl2]; exact List.mem_append_right _ (List.mem_map.2 ⟨v, hv, rfl⟩))).1
      simp only at this
      rw [List.length_append, layO_len]; omega)
    have hq : layO (g.es ++ newK g p g.n.toNat).length (layE g.n (lastR g p)) (layO g.es.length (newK g p g.n.toNat) p.outs ++ [[]]) = (augP g p).outs := by
      show _ = layO g.es.length (newA g p) (if 1 < (lastR g p).length then p.outs ++ [[]] else p.outs)
      have hsn := layO_snoc (m := g.es.length) (N := newK g p g.n.toNat) (O := p.outs) (fun e he => by
        have := hnr e he
        omega)
      rw [if_pos h1, newA, hnl2, layO_app, List.length_append, hsn]
    have he : g.es ++ newK g p g.n.toNat ++ layE g.n (lastR g p) = (augG g p).es := by
      show _ = g.es ++ newA g p
      rw [newA, hnl2, List.append_assoc]
    have ho : p.ord ++ [g.n] = (augP g p).ord := (if_pos h1).symm
    have hg : g.n + 1 = (augG g p).n := (if_pos h1).symm
    have hvs : vI (layO g.es.length (newK g p g.n.toNat) p.outs) ++ [[D.sl 1 []]] = vI (layO g.es.length (newK g p g.n.toNat) p.outs ++ [[]]) := by simp [vI, sI]
    have hos : p.ord.map rI ++ [[D.sc (.int .i64 g.n)]] = (p.ord ++ [g.n]).map rI := by simp [rI]
    rw [hq, he] at hLs
    have hal : (augG g p).es.length ≤ 1000 := by
      rw [← he, List.length_append, List.length_append]
      have : (layE g.n (lastR g p)).length ≤ g.n.toNat := by
        have := nodup_lenX (List.nodup_append.1 (by rw [newA, List.map_append] at hN1; exact hN1)).2.1 (m := allN g.n.toNat) fun v hv' => allN_mem.2 (by
          obtain ⟨e, he, rfl⟩ := List.mem_map.1 hv'
          have := (hN2 e (List.mem_append_right _ he)).1
          omega)
        rw [allN_len, List.length_map, hnl2] at this
        exact this
      omega
    have hA2 : AR = if 64 < (augG g p).n ∨ 128 < (augG g p).es.length then (gz, pz, 10) else (augG g p, augP g p, 0) := hAr
    clear hAr
    have hql : (augP g p).outs.length = (augP g p).outs.length := rfl
    have hpp : augP g p = ⟨(augP g p).ord, (augP g p).outs⟩ := rfl
    generalize augG g p = G at he hg hLs hA2 hal
    rw [ho] at hLs hos
    generalize augP g p = Q at hq ho hLs hA2 hos
    by_cases h2 : 64 < G.n
    · have hb2 : decide (64 < G.n) = true := decide_eq_true h2
      rw [if_pos (.inl h2)] at hA2
      subst hA2
      repeat' (first | fail | ((first | ((with_reducible (first | apply oA | apply oB)); exact rfl; intro K hK) | (refine hK _ ?_; clear hK K) | ((with_reducible (first | apply oG | apply oH)); iterate 3 exact rfl) | ((with_reducible apply oI); (iterate 2 exact rfl); intro K hK) | (with_reducible (first | apply wI | apply wJ | apply wK))); try simp only [go_sem, simprocAttr, hb, hb1, hb2, buO, buN, hvs, hos, hg, gz, pz, vI, List.map_nil]) | fail | (with_reducible (first | apply oC | apply oJ | exact oK | apply wA | apply wB | apply wC hX hC | apply wD hX hC | apply wE hX hC hmix | apply wF hX hC hmix | apply wG | apply wH | apply And.intro)) | ((with_reducible refine oD ?_ ?_); first | fail | kernel_rfl) | ((with_reducible (first | apply oE | apply oF)); (iterate 3 exact rfl); all_goals (intro h; first | (exact absurd h (by decide)) | ((try simp only [go_sem, simprocAttr, hb, hb1, hb2, buO, buN, hvs, hos, hg, gz, pz, vI, List.map_nil] at h); (try with_reducible intro K hK); simp only [go_sem, simprocAttr, hb, hb1, hb2, buO, buN, hvs, hos, hg, gz, pz, vI, List.map_nil]))) | ((first | ((with_reducible apply wL); exact rfl) | ((with_reducible apply wM); exact rfl)); all_goals (try ((with_reducible intro h); first | (exact absurd h (by decide)) | (try simp only [go_sem, simprocAttr, hb, hb1, hb2, buO, buN, hvs, hos, hg, gz, pz, vI, List.map_nil] at h)))) | omega | ((first | first | (refine acall_gen hX hC hP [(10000, 38), (10001, 200), (10002, 87), (10003, 98), (10004, 203)] (hLs) rfl rfl rfl ?_ ?_ ?_ ?_ ?_ ?_ ?_ ?_ ?_ ?_ ?_ ?_ ?_ ?_; (focus (simp only [go_sem, simprocAttr, hb, hb1, hb2, buO, buN, hvs, hos, hg, gz, pz, vI, List.map_nil]; done)); (iterate 12 (focus (simp [go_sem, simprocAttr, hb, hb1, hb2, buO, buN, hvs, hos, hg, gz, pz, vI, List.map_nil]; done))); simp only [go_sem, simprocAttr, hb, hb1, hb2, buO, buN, hvs, hos, hg, gz, pz, vI, List.map_nil, List.map_cons, List.map_nil])); try simp only [go_sem, simprocAttr, hb, hb1, hb2, buO, buN, hvs, hos, hg, gz, pz, vI, List.map_nil]) | (intro h))
    · have hb2 : decide (64 < G.n) = false := decide_eq_false h2
      by_cases h3 : 128 < G.es.length
      · have hb3 : decide (128 < (G.es.length : Int)) = true := decide_eq_true (by omega)
        rw [if_pos (.inr h3)] at hA2
        subst hA2
        repeat' (first | fail | ((first | ((with_reducible (first | apply oA | apply oB)); exact rfl; intro K hK) | (refine hK _ ?_; clear hK K) | ((with_reducible (first | apply oG | apply oH)); iterate 3 exact rfl) | ((with_reducible apply oI); (iterate 2 exact rfl); intro K hK) | (with_reducible (first | apply wI | apply wJ | apply wK))); try simp only [go_sem, simprocAttr, hb, hb1, hb2, hb3, buO, buN, hvs, hos, hg, gz, pz]) | fail | (with_reducible (first | apply oC | apply oJ | exact oK | apply wA | apply wB | apply wC hX hC | apply wD hX hC | apply wE hX hC hmix | apply wF hX hC hmix | apply wG | apply wH | apply And.intro)) | ((with_reducible refine oD ?_ ?_); first | fail | kernel_rfl) | ((with_reducible (first | apply oE | apply oF)); (iterate 3 exact rfl); all_goals (intro h; first | (exact absurd h (by decide)) | ((try simp only [go_sem, simprocAttr, hb, hb1, hb2, hb3, buO, buN, hvs, hos, hg, gz, pz] at h); (try with_reducible intro K hK); simp only [go_sem, simprocAttr, hb, hb1, hb2, hb3, buO, buN, hvs, hos, hg, gz, pz]))) | ((first | ((with_reducible apply wL); exact rfl) | ((with_reducible apply wM); exact rfl)); all_goals (try ((with_reducible intro h); first | (exact absurd h (by decide)) | (try simp only [go_sem, simprocAttr, hb, hb1, hb2, hb3, buO, buN, hvs, hos, hg, gz, pz] at h)))) | omega | ((first | first | (refine acall_gen hX hC hP [(10000, 38), (10001, 200), (10002, 87), (10003, 98), (10004, 203)] (hLs) rfl rfl rfl ?_ ?_ ?_ ?_ ?_ ?_ ?_ ?_ ?_ ?_ ?_ ?_ ?_ ?_; (focus (simp only [go_sem, simprocAttr, hb, hb1, hb2, hb3, buO, buN, hvs, hos, hg, gz, pz]; done)); (iterate 12 (focus (simp [go_sem, simprocAttr, hb, hb1, hb2, hb3, buO, buN, hvs, hos, hg, gz, pz]; done))); simp only [go_sem, simprocAttr, hb, hb1, hb2, hb3, buO, buN, hvs, hos, hg, gz, pz, List.map_cons, List.map_nil])); try simp only [go_sem, simprocAttr, hb, hb1, hb2, hb3, buO, buN, hvs, hos, hg, gz, pz]) | (intro h))
        all_goals rfl
      · have hb3 : decide (128 < (G.es.length : Int)) = false := decide_eq_false (by omega)
        rw [if_neg (by rintro (h | h); exact h2 h; exact h3 h)] at hA2
        subst hA2
        repeat' (first | fail | ((first | ((with_reducible (first | apply oA | apply oB)); exact rfl; intro K hK) | (refine hK _ ?_; clear hK K) | ((with_reducible (first | apply oG | apply oH)); iterate 3 exact rfl) | ((with_reducible apply oI); (iterate 2 exact rfl); intro K hK) | (with_reducible (first | apply wI | apply wJ | apply wK))); try simp only [go_sem, simprocAttr, hb, hb1, hb2, hb3, buO, buN, hvs, hos, hg]) | fail | (with_reducible (first | apply oC | apply oJ | exact oK | apply wA | apply wB | apply wC hX hC | apply wD hX hC | apply wE hX hC hmix | apply wF hX hC hmix | apply wG | apply wH | apply And.intro)) | ((with_reducible refine oD ?_ ?_); first | fail | kernel_rfl) | ((with_reducible (first | apply oE | apply oF)); (iterate 3 exact rfl); all_goals (intro h; first | (exact absurd h (by decide)) | ((try simp only [go_sem, simprocAttr, hb, hb1, hb2, hb3, buO, buN, hvs, hos, hg] at h); (try with_reducible intro K hK); simp only [go_sem, simprocAttr, hb, hb1, hb2, hb3, buO, buN, hvs, hos, hg]))) | ((first | ((with_reducible apply wL); exact rfl) | ((with_reducible apply wM); exact rfl)); all_goals (try ((with_reducible intro h); first | (exact absurd h (by decide)) | (try simp only [go_sem, simprocAttr, hb, hb1, hb2, hb3, buO, buN, hvs, hos, hg] at h)))) | omega | ((first | first | (refine acall_gen hX hC hP [(10000, 38), (10001, 200), (10002, 87), (10003, 98), (10004, 203)] (hLs) rfl rfl rfl ?_ ?_ ?_ ?_ ?_ ?_ ?_ ?_ ?_ ?_ ?_ ?_ ?_ ?_; (focus (simp only [go_sem, simprocAttr, hb, hb1, hb2, hb3, buO, buN, hvs, hos, hg]; done)); (iterate 12 (focus (simp [go_sem, simprocAttr, hb, hb1, hb2, hb3, buO, buN, hvs, hos, hg]; done))); simp only [go_sem, simprocAttr, hb, hb1, hb2, hb3, buO, buN, hvs, hos, hg, List.map_cons, List.map_nil])); try simp only [go_sem, simprocAttr, hb, hb1, hb2, hb3, buO, buN, hvs, hos, hg]) | (intro h))
  · have hb1 : decide ((1 : Int) < ((lastR g p).length : Int)) = false := decide_eq_false (by omega)
    have hnl2 : newL g p = [] := if_neg h1
    have he : g.es ++ newK g p g.n.toNat = (augG g p).es := by
      show _ = g.es ++ newA g p
      rw [newA, hnl2, List.append_nil]
    have hq : layO g.es.length (newK g p g.n.toNat) p.outs = (augP g p).outs := by
      show _ = layO g.es.length (newA g p) (if 1 < (lastR g p).length then p.outs ++ [[]] else p.outs)
      rw [if_neg h1, newA, hnl2, List.append_nil]
    have ho : p.ord = (augP g p).ord := (if_neg h1).symm
    have hg : g.n = (augG g p).n := (if_neg h1).symm
    have hml : (g.es ++ newK g p g.n.toNat).map rE = (augG g p).es.map rE := by rw [he]
    have hel2 : (augG g p).es.length = g.es.length + (newK g p g.n.toNat).length := by rw [← he, List.length_append]
    have hov : p.ord.map rI = (augP g p).ord.map rI := by rw [← ho]
    generalize augG g p = G at he hg hAr hml hel2
    generalize augP g p = Q at hq ho hAr hov
    by_cases h2 : 64 < G.n
    · omega
    · have hb2 : decide (64 < G.n) = false := decide_eq_false h2
      by_cases h3 : 128 < G.es.length
      · have hb3 : decide (128 < (G.es.length : Int)) = true := decide_eq_true (by omega)
        rw [if_pos (.inr h3)] at hAr
        subst hAr
        rw [he]
        repeat' (first | fail | ((first | ((with_reducible (first | apply oA | apply oB)); exact rfl; intro K hK) | (refine hK _ ?_; clear hK K) | ((with_reducible (first | apply oG | apply oH)); iterate 3 exact rfl) | ((with_reducible apply oI); (iterate 2 exact rfl); intro K hK) | (with_reducible (first | apply wI | apply wJ | apply wK))); try simp only [go_sem, simprocAttr, hb, hb1, hb2, hb3, hg, gz, pz]) | fail | (with_reducible (first | apply oC | apply oJ | exact oK | apply wA | apply wB | apply wC hX hC | apply wD hX hC | apply wE hX hC hmix | apply wF hX hC hmix | apply wG | apply wH | apply And.intro)) | ((with_reducible refine oD ?_ ?_); first | fail | kernel_rfl) | ((with_reducible (first | apply oE | apply oF)); (iterate 3 exact rfl); all_goals (intro h; first | (exact absurd h (by decide)) | ((try simp only [go_sem, simprocAttr, hb, hb1, hb2, hb3, hg, gz, pz] at h); (try with_reducible intro K hK); simp only [go_sem, simprocAttr, hb, hb1, hb2, hb3, hg, gz, pz]))) | ((first | ((with_reducible apply wL); exact rfl) | ((with_reducible apply wM); exact rfl)); all_goals (try ((with_reducible intro h); first | (exact absurd h (by decide)) | (try simp only [go_sem, simprocAttr, hb, hb1, hb2, hb3, hg, gz, pz] at h)))) | omega | ((first | fail); try simp only [go_sem, simprocAttr, hb, hb1, hb2, hb3, hg, gz, pz]) | (intro h))
        all_goals rfl
      · have hb3 : decide (128 < (G.es.length : Int)) = false := decide_eq_false (by omega)
        rw [if_neg (by rintro (h | h); exact h2 h; exact h3 h)] at hAr
        subst hAr
        rw [he, hq]
        have hov2 := hov.symm
        have hg2 := hg.symm
        rw [hg2] at hb2
        repeat' (first | fail | ((first | ((with_reducible (first | apply oA | apply oB)); exact rfl; intro K hK) | (refine hK _ ?_; clear hK K) | ((with_reducible (first | apply oG | apply oH)); iterate 3 exact rfl) | ((with_reducible apply oI); (iterate 2 exact rfl); intro K hK) | (with_reducible (first | apply wI | apply wJ | apply wK))); try simp only [go_sem, simprocAttr, hb, hb1, hb2, hb3, hg2, hov2]) | fail | (with_reducible (first | apply oC | apply oJ | exact oK | apply wA | apply wB | apply wC hX hC | apply wD hX hC | apply wE hX hC hmix | apply wF hX hC hmix | apply wG | apply wH | apply And.intro)) | ((with_reducible refine oD ?_ ?_); first | fail | kernel_rfl) | ((with_reducible (first | apply oE | apply oF)); (iterate 3 exact rfl); all_goals (intro h; first | (exact absurd h (by decide)) | ((try simp only [go_sem, simprocAttr, hb, hb1, hb2, hb3, hg2, hov2] at h); (try with_reducible intro K hK); simp only [go_sem, simprocAttr, hb, hb1, hb2, hb3, hg2, hov2]))) | ((first | ((with_reducible apply wL); exact rfl) | ((with_reducible apply wM); exact rfl)); all_goals (try ((with_reducible intro h); first | (exact absurd h (by decide)) | (try simp only [go_sem, simprocAttr, hb, hb1, hb2, hb3, hg2, hov2] at h)))) | omega | ((first | fail); try simp only [go_sem, simprocAttr, hb, hb1, hb2, hb3, hg2, hov2]) | (intro h))
end Go.Ab
end
section
namespace Go.Ab
open Go.Proofs
attribute [local congr] ACall.congr
set_option maxRecDepth 10000
set_option maxHeartbeats 16000000

def docK (p : Pl) (x : Gr) (k : Nat) : List (List Int) := (List.range k).map fun v => if 0 < (p.outs.getD v []).length then p.outs.getD v [] else outZ x (v : Int)
theorem gone_mem {g : Gr} {p : Pl} {k : Nat} {t : It} (h : t ∈ goneK g p k) : t ∈ (fK g p k).row := by
  unfold goneK succF at h
  exact List.mem_of_mem_take (List.mem_of_mem_drop h)
/-- At the end all that stands in the row is loose. -/
theorem last_loose {g : Gr} {p : Pl} (hr : RunsP g p) : ∀ t ∈ lastR g p, t.1 < 0 := by
  obtain ⟨hc, h, hok⟩ := hr
  have hm := good_may hc
  have hn := mayB_n hm
  obtain ⟨hi, hpl, _⟩ := run_inv hm h (k := g.n.toNat) (Nat.le_refl _) hok
  intro t ht
  refine Decidable.byContradiction fun h0 => ?_
  rcases hi.it t ht with ⟨h1, _⟩ | ⟨h1, h2, _, h4⟩
  · omega
  · have hrg := (mayB_e hm (k := t.1.toNat) (by omega)).2
    rw [← h4] at hrg
    refine hi.head t ht h1 (full_none hi.toFrInv ?_ hrg)
    rw [hpl, List.length_take, plan_len h]; omega
end Go.Ab
end
section
namespace Go.Ab
open Go.Proofs
attribute [local congr] ACall.congr
set_option maxRecDepth 10000
set_option maxHeartbeats 8000000

def bigB (g : Gr) (p : Pl) : Bool := decide (200 < g.es.length) || decide (100 < p.ord.length) || decide (100 < p.outs.length) || p.outs.any fun l => decide (200 < l.length)
theorem big_not {g : Gr} {p : Pl} (h : bigB g p = false) : g.es.length ≤ 200 ∧ p.ord.length ≤ 100 ∧ p.outs.length ≤ 100 ∧ ∀ l ∈ p.outs, l.length ≤ 200 := by
  simp only [bigB, Bool.or_eq_false_iff, decide_eq_false_iff_not, List.any_eq_false, decide_eq_true_eq] at h
  obtain ⟨⟨⟨h1, h2⟩, h3⟩, h4⟩ := h
  exact ⟨by omega, by omega, by omega, fun l hl => by have := h4 l hl; omega⟩
theorem plLen_of {g : Gr} {p : Pl} (h : bigB g p = false) : PlLen p := by
  obtain ⟨_, h1, h2, h3⟩ := big_not h
  exact ⟨by omega, by omega, fun l hl => by have := h3 l hl; omega⟩
structure PlMax (p : Pl) : Prop where
  ord : p.ord.length ≤ 9223372036854775807
  outs : p.outs.length ≤ 9223372036854775807
  each : ∀ l ∈ p.outs, l.length ≤ 9223372036854775807
theorem great10_spec (g : Gr) (p : Pl) (hl : g.es.length ≤ 9223372036854775807) (hp : PlMax p) : Spec Try.prog 16 (Args [eG g, ePl p]) [] (eB (bigB g p)) [] := by
  have ho := hp.ord
  have hu := hp.outs
  (refine Spec.intro (C := T.cfg [] []) (rs := [.t 4]) (T.cfg_ok _ _) Try.func16 rfl rfl Try.ntmps16 Try.results16 (by simp [AObj.isNest]) (by simp [AObj.isNest]) (by kernel_rfl) ?_; intro X hX hP hC hXn hXm vals hA; refine ⟨_, by simp, hA, ?_⟩; have hmix : X.P.follows .mixedOrders = true := (by rw [hP]; exact T.mixed); clear hXn hXm)
  generalize hB : bigB g p = B
  by_cases h1 : 200 < g.es.length
  · have hb1 : decide (200 < (g.es.length : Int)) = true := decide_eq_true (by omega)
    have : B = true := by rw [← hB, bigB, decide_eq_true h1]; rfl
    subst this
    repeat' (first | fail | ((first | ((with_reducible (first | apply oA | apply oB)); exact rfl; intro K hK) | (refine hK _ ?_; clear hK K) | ((with_reducible (first | apply oG | apply oH)); iterate 3 exact rfl) | ((with_reducible apply oI); (iterate 2 exact rfl); intro K hK) | (with_reducible (first | apply wI | apply wJ | apply wK))); try simp only [go_sem, simprocAttr, hb1]) | fail | (with_reducible (first | apply oC | apply oJ | exact oK | apply wA | apply wB | apply wC hX hC | apply wD hX hC | apply wE hX hC hmix | apply wF hX hC hmix | apply wG | apply wH | apply And.intro)) | ((with_reducible refine oD ?_ ?_); first | fail | kernel_rfl) | ((with_reducible (first | apply oE | apply oF)); (iterate 3 exact rfl); all_goals (intro h; first | (exact absurd h (by decide)) | ((try simp only [go_sem, simprocAttr, hb1] at h); (try with_reducible intro K hK); simp only [go_sem, simprocAttr, hb1]))) | ((first | ((with_reducible apply wL); exact rfl) | ((with_reducible apply wM); exact rfl)); all_goals (try ((with_reducible intro h); first | (exact absurd h (by decide)) | (try simp only [go_sem, simprocAttr, hb1] at h)))) | omega | ((first | fail); try simp only [go_sem, simprocAttr, hb1]) | (intro h))
  have hb1 : decide (200 < (g.es.length : Int)) = false := decide_eq_false (by omega)
  by_cases h2 : 100 < p.ord.length
  · have hb2 : decide (100 < (p.ord.length : Int)) = true := decide_eq_true (by omega)
    have : B = true := by rw [← hB, bigB, decide_eq_true h2]; simp
    subst this
    repeat' (first | fail | ((first | ((with_reducible (first | apply oA | apply oB)); exact rfl; intro K hK) | (refine hK _ ?_; clear hK K) | ((with_reducible (first | apply oG | apply oH)); iterate 3 exact rfl) | ((with_reducible apply oI); (iterate 2 exact rfl); intro K hK) | (with_reducible (first | apply wI | apply wJ | apply wK))); try simp only [go_sem, simprocAttr, hb1, hb2]) | fail | (with_reducible (first | apply oC | apply oJ | exact oK | apply wA | apply wB | apply wC hX hC | apply wD hX hC | apply wE hX hC hmix | apply wF hX hC hmix | apply wG | apply wH | apply And.intro)) | ((with_reducible refine oD ?_ ?_); first | fail | kernel_rfl) | ((with_reducible (first | apply oE | apply oF)); (iterate 3 exact rfl); all_goals (intro h; first | (exact absurd h (by decide)) | ((try simp only [go_sem, simprocAttr, hb1, hb2] at h); (try with_reducible intro K hK); simp only [go_sem, simprocAttr, hb1, hb2]))) | ((first | ((with_reducible apply wL); exact rfl) | ((with_reducible apply wM); exact rfl)); all_goals (try ((with_reducible intro h); first | (exact absurd h (by decide)) | (try simp only [go_sem, simprocAttr, hb1, hb2] at h)))) | omega | ((first | fail); try simp only [go_sem, simprocAttr, hb1, hb2]) | (intro h))
  have hb2 : decide (100 < (p.ord.length : Int)) = false := decide_eq_false (by omega)
  by_cases h3 : 100 < p.outs.length
  · have hb3 : decide (100 < (p.outs.length : Int)) = true := decide_eq_true (by omega)
    have : B = true := by rw [← hB, bigB, decide_eq_true h3]; simp
    subst this
    repeat' (first | fail | ((first | ((with_reducible (first | apply oA | apply oB)); exact rfl; intro K hK) | (refine hK _ ?_; clear hK K) | ((with_reducible (first | apply oG | apply oH)); iterate 3 exact rfl) | ((with_reducible apply oI); (iterate 2 exact rfl); intro K hK) | (with_reducible (first | apply wI | apply wJ | apply wK))); try simp only [go_sem, simprocAttr, hb1, hb2, hb3]) | fail | (with_reducible (first | apply oC | apply oJ | exact oK | apply wA | apply wB | apply wC hX hC | apply wD hX hC | apply wE hX hC hmix | apply wF hX hC hmix | apply wG | apply wH | apply And.intro)) | ((with_reducible refine oD ?_ ?_); first | fail | kernel_rfl) | ((with_reducible (first | apply oE | apply oF)); (iterate 3 exact rfl); all_goals (intro h; first | (exact absurd h (by decide)) | ((try simp only [go_sem, simprocAttr, hb1, hb2, hb3] at h); (try with_reducible intro K hK); simp only [go_sem, simprocAttr, hb1, hb2, hb3]))) | ((first | ((with_reducible apply wL); exact rfl) | ((with_reducible apply wM); exact rfl)); all_goals (try ((with_reducible intro h); first | (exact absurd h (by decide)) | (try simp only [go_sem, simprocAttr, hb1, hb2, hb3] at h)))) | omega | ((first | fail); try simp only [go_sem, simprocAttr, hb1, hb2, hb3]) | (intro h))
  have hb3 : decide (100 < (p.outs.length : Int)) = false := decide_eq_false (by omega)
  have hB2 : B = p.outs.any fun l => decide (200 < l.length) := by rw [← hB, bigB, decide_eq_false h1, decide_eq_false h2, decide_eq_false h3]; simp
  clear hB
  repeat' (first | fail | ((first | ((with_reducible (first | apply oA | apply oB)); exact rfl; intro K hK) | (refine hK _ ?_; clear hK K) | ((with_reducible (first | apply oG | apply oH)); iterate 3 exact rfl) | ((with_reducible apply oI); (iterate 2 exact rfl); intro K hK) | (with_reducible (first | apply wI | apply wJ | apply wK))); try simp only [go_sem, simprocAttr, hb1, hb2, hb3]) | fail | (with_reducible (first | apply oC | apply oJ | exact oK | apply wA | apply wB | apply wC hX hC | apply wD hX hC | apply wE hX hC hmix | apply wF hX hC hmix | apply wG | apply wH | apply And.intro)) | ((with_reducible refine oD ?_ ?_); first | fail | kernel_rfl) | ((with_reducible (first | apply oE | apply oF)); (iterate 3 exact rfl); all_goals (intro h; first | (exact absurd h (by decide)) | ((try simp only [go_sem, simprocAttr, hb1, hb2, hb3] at h); (try with_reducible intro K hK); simp only [go_sem, simprocAttr, hb1, hb2, hb3]))) | ((first | ((with_reducible apply wL); exact rfl) | ((with_reducible apply wM); exact rfl)); all_goals (try ((with_reducible intro h); first | (exact absurd h (by decide)) | (try simp only [go_sem, simprocAttr, hb1, hb2, hb3] at h)))) | omega | ((first | fail); try simp only [go_sem, simprocAttr, hb1, hb2, hb3]) | (intro h))
  refine awp_loopP (fun k : Nat => k ≤ p.outs.length ∧ ∀ j, j < k → (p.outs.getD j []).length ≤ 200) (fun k => ⟨[(24, .d (.sl 1 (vI p.outs))), (25, eN p.outs.length), (26, eN k)], []⟩) (fun k => p.outs.length - k) 0 (by simp) ?_ ?_
  · (refine Le.of ?_ ?_ <;> simp [go_sem, simprocAttr])
  rintro k ⟨hk, hg⟩
  rcases Nat.lt_or_ge k p.outs.length with hkl | hkg
  · have hb : decide ((k : Int) < (p.outs.length : Int)) = true := decide_eq_true (by omega)
    have hv := vI_getD hkl
    have hm := getD_memX (d := []) hkl
    have hll := hp.each _ hm
    by_cases h4 : 200 < (p.outs.getD k []).length
    · have hb4 : decide (200 < ((p.outs.getD k []).length : Int)) = true := decide_eq_true (by omega)
      have : B = true := by rw [hB2, List.any_eq_true]; exact ⟨_, hm, decide_eq_true h4⟩
      subst this
      repeat' (first | fail | ((first | ((with_reducible (first | apply oA | apply oB)); exact rfl; intro K hK) | (refine hK _ ?_; clear hK K) | ((with_reducible (first | apply oG | apply oH)); iterate 3 exact rfl) | ((with_reducible apply oI); (iterate 2 exact rfl); intro K hK) | (with_reducible (first | apply wI | apply wJ | apply wK))); try simp only [go_sem, simprocAttr, hb, hv, hb4]) | fail | (with_reducible (first | apply oC | apply oJ | exact oK | apply wA | apply wB | apply wC hX hC | apply wD hX hC | apply wE hX hC hmix | apply wF hX hC hmix | apply wG | apply wH | apply And.intro)) | ((with_reducible refine oD ?_ ?_); first | fail | kernel_rfl) | ((with_reducible (first | apply oE | apply oF)); (iterate 3 exact rfl); all_goals (intro h; first | (exact absurd h (by decide)) | ((try simp only [go_sem, simprocAttr, hb, hv, hb4] at h); (try with_reducible intro K hK); simp only [go_sem, simprocAttr, hb, hv, hb4]))) | ((first | ((with_reducible apply wL); exact rfl) | ((with_reducible apply wM); exact rfl)); all_goals (try ((with_reducible intro h); first | (exact absurd h (by decide)) | (try simp only [go_sem, simprocAttr, hb, hv, hb4] at h)))) | omega | ((first | fail); try simp only [go_sem, simprocAttr, hb, hv, hb4]) | (intro h))
    · have hb4 : decide (200 < ((p.outs.getD k []).length : Int)) = false := decide_eq_false (by omega)
      repeat' (first | fail | ((first | ((with_reducible (first | apply oA | apply oB)); exact rfl; intro K hK) | (refine hK _ ?_; clear hK K) | ((with_reducible (first | apply oG | apply oH)); iterate 3 exact rfl) | ((with_reducible apply oI); (iterate 2 exact rfl); intro K hK) | (with_reducible (first | apply wI | apply wJ | apply wK))); try simp only [go_sem, simprocAttr, hb, hv, hb4]) | fail | (with_reducible (first | apply oC | apply oJ | exact oK | apply wA | apply wB | apply wC hX hC | apply wD hX hC | apply wE hX hC hmix | apply wF hX hC hmix | apply wG | apply wH | apply And.intro)) | ((with_reducible refine oD ?_ ?_); first | fail | kernel_rfl) | ((with_reducible (first | apply oE | apply oF)); (iterate 3 exact rfl); all_goals (intro h; first | (exact absurd h (by decide)) | ((try simp only [go_sem, simprocAttr, hb, hv, hb4] at h); (try with_reducible intro K hK); simp only [go_sem, simprocAttr, hb, hv, hb4]))) | ((first | ((with_reducible apply wL); exact rfl) | ((with_reducible apply wM); exact rfl)); all_goals (try ((with_reducible intro h); first | (exact absurd h (by decide)) | (try simp only [go_sem, simprocAttr, hb, hv, hb4] at h)))) | omega | ((first | fail); try simp only [go_sem, simprocAttr, hb, hv, hb4]) | (intro h))
      refine ⟨k + 1, ⟨by omega, fun j hj => ?_⟩, ?_, by omega⟩
      · by_cases e : j = k
        · subst e; omega
        · exact hg j (by omega)
      · (refine Le.of ?_ ?_ <;> simp [go_sem, simprocAttr, hb, hv, hb4])
  · have hb : decide ((k : Int) < (p.outs.length : Int)) = false := decide_eq_false (by omega)
    have : B = false := by
      rw [hB2, List.any_eq_false]
      intro l hl
      obtain ⟨j, hj, rfl⟩ := List.mem_iff_getElem.1 hl
      have := hg j (by omega)
      rw [List.getD_eq_getElem?_getD, List.getElem?_eq_getElem hj, Option.getD_some] at this
      simp; omega
    subst this
    repeat' (first | fail | ((first | ((with_reducible (first | apply oA | apply oB)); exact rfl; intro K hK) | (refine hK _ ?_; clear hK K) | ((with_reducible (first | apply oG | apply oH)); iterate 3 exact rfl) | ((with_reducible apply oI); (iterate 2 exact rfl); intro K hK) | (with_reducible (first | apply wI | apply wJ | apply wK))); try simp only [go_sem, simprocAttr, hb]) | fail | (with_reducible (first | apply oC | apply oJ | exact oK | apply wA | apply wB | apply wC hX hC | apply wD hX hC | apply wE hX hC hmix | apply wF hX hC hmix | apply wG | apply wH | apply And.intro)) | ((with_reducible refine oD ?_ ?_); first | fail | kernel_rfl) | ((with_reducible (first | apply oE | apply oF)); (iterate 3 exact rfl); all_goals (intro h; first | (exact absurd h (by decide)) | ((try simp only [go_sem, simprocAttr, hb] at h); (try with_reducible intro K hK); simp only [go_sem, simprocAttr, hb]))) | ((first | ((with_reducible apply wL); exact rfl) | ((with_reducible apply wM); exact rfl)); all_goals (try ((with_reducible intro h); first | (exact absurd h (by decide)) | (try simp only [go_sem, simprocAttr, hb] at h)))) | omega | ((first | fail); try simp only [go_sem, simprocAttr, hb]) | (intro h))
/-- A plan is the same as itself. -/
theorem samePlan_spec (p : Pl) (hp : PlMax p) : Spec Try.prog 20 (Args [ePl p, ePl p]) [] (eB true) [] := by
  have ho := hp.ord
  have hu := hp.outs
  (refine Spec.intro (C := T.cfg [] []) (rs := [.t 4]) (T.cfg_ok _ _) Try.func20 rfl rfl Try.ntmps20 Try.results20 (by simp [AObj.isNest]) (by simp [AObj.isNest]) (by kernel_rfl) ?_; intro X hX hP hC hXn hXm vals hA; refine ⟨_, by simp, hA, ?_⟩; have hmix : X.P.follows .mixedOrders = true := (by rw [hP]; exact T.mixed); clear hXn hXm)
  repeat' (first | fail | ((first | ((with_reducible (first | apply oA | apply oB)); exact rfl; intro K hK) | (refine hK _ ?_; clear hK K) | ((with_reducible (first | apply oG | apply oH)); iterate 3 exact rfl) | ((with_reducible apply oI); (iterate 2 exact rfl); intro K hK) | (with_reducible (first | apply wI | apply wJ | apply wK))); try simp only [go_sem, simprocAttr, decide_true]) | fail | (with_reducible (first | apply oC | apply oJ | exact oK | apply wA | apply wB | apply wC hX hC | apply wD hX hC | apply wE hX hC hmix | apply wF hX hC hmix | apply wG | apply wH | apply And.intro)) | ((with_reducible refine oD ?_ ?_); first | fail | kernel_rfl) | ((with_reducible (first | apply oE | apply oF)); (iterate 3 exact rfl); all_goals (intro h; first | (exact absurd h (by decide)) | ((try simp only [go_sem, simprocAttr, decide_true] at h); (try with_reducible intro K hK); simp only [go_sem, simprocAttr, decide_true]))) | ((first | ((with_reducible apply wL); exact rfl) | ((with_reducible apply wM); exact rfl)); all_goals (try ((with_reducible intro h); first | (exact absurd h (by decide)) | (try simp only [go_sem, simprocAttr, decide_true] at h)))) | omega | ((first | fail); try simp only [go_sem, simprocAttr, decide_true]) | (intro h))
  refine awp_loopP (fun k : Nat => k ≤ p.ord.length) (fun k => ⟨[(2, .ptr 2 0), (3, .ptr 3 0), (5, eN k)], [(2, .box [.d (sI p.ord), .d (.sl 1 (vI p.outs))]), (3, .box [.d (sI p.ord), .d (.sl 1 (vI p.outs))])]⟩) (fun k => p.ord.length - k) 0 (by simp) ?_ ?_
  · (refine Le.of ?_ ?_ <;> simp [go_sem, simprocAttr, decide_true])
  rintro k hk
  rcases Nat.lt_or_ge k p.ord.length with hkl | hkg
  · have hb : decide ((k : Int) < (p.ord.length : Int)) = true := decide_eq_true (by omega)
    repeat' (first | fail | ((first | ((with_reducible (first | apply oA | apply oB)); exact rfl; intro K hK) | (refine hK _ ?_; clear hK K) | ((with_reducible (first | apply oG | apply oH)); iterate 3 exact rfl) | ((with_reducible apply oI); (iterate 2 exact rfl); intro K hK) | (with_reducible (first | apply wI | apply wJ | apply wK))); try simp only [go_sem, simprocAttr, decide_true, hb]) | fail | (with_reducible (first | apply oC | apply oJ | exact oK | apply wA | apply wB | apply wC hX hC | apply wD hX hC | apply wE hX hC hmix | apply wF hX hC hmix | apply wG | apply wH | apply And.intro)) | ((with_reducible refine oD ?_ ?_); first | fail | kernel_rfl) | ((with_reducible (first | apply oE | apply oF)); (iterate 3 exact rfl); all_goals (intro h; first | (exact absurd h (by decide)) | ((try simp only [go_sem, simprocAttr, decide_true, hb] at h); (try with_reducible intro K hK); simp only [go_sem, simprocAttr, decide_true, hb]))) | ((first | ((with_reducible apply wL); exact rfl) | ((with_reducible apply wM); exact rfl)); all_goals (try ((with_reducible intro h); first | (exact absurd h (by decide)) | (try simp only [go_sem, simprocAttr, decide_true, hb] at h)))) | omega | ((first | fail); try simp only [go_sem, simprocAttr, decide_true, hb]) | (intro h))
    refine ⟨k + 1, by omega, ?_, by omega⟩
    (refine Le.of ?_ ?_ <;> simp [go_sem, simprocAttr, decide_true, hb])
  have hb : decide ((k : Int) < (p.ord.length : Int)) = false := decide_eq_false (by omega)
  repeat' (first | fail | ((first | ((with_reducible (first | apply oA | apply oB)); exact rfl; intro K hK) | (refine hK _ ?_; clear hK K) | ((with_reducible (first | apply oG | apply oH)); iterate 3 exact rfl) | ((with_reducible apply oI); (iterate 2 exact rfl); intro K hK) | (with_reducible (first | apply wI | apply wJ | apply wK))); try simp only [go_sem, simprocAttr, decide_true, hb]) | fail | (with_reducible (first | apply oC | apply oJ | exact oK | apply wA | apply wB | apply wC hX hC | apply wD hX hC | apply wE hX hC hmix | apply wF hX hC hmix | apply wG | apply wH | apply And.intro)) | ((with_reducible refine oD ?_ ?_); first | fail | kernel_rfl) | ((with_reducible (first | apply oE | apply oF)); (iterate 3 exact rfl); all_goals (intro h; first | (exact absurd h (by decide)) | ((try simp only [go_sem, simprocAttr, decide_true, hb] at h); (try with_reducible intro K hK); simp only [go_sem, simprocAttr, decide_true, hb]))) | ((first | ((with_reducible apply wL); exact rfl) | ((with_reducible apply wM); exact rfl)); all_goals (try ((with_reducible intro h); first | (exact absurd h (by decide)) | (try simp only [go_sem, simprocAttr, decide_true, hb] at h)))) | omega | ((first | fail); try simp only [go_sem, simprocAttr, decide_true, hb]) | (intro h))
  clear hb hk hkg
  refine awp_loopP (fun k : Nat => k ≤ p.outs.length) (fun k => ⟨[(2, .ptr 2 0), (3, .ptr 3 0), (6, eN k)], [(2, .box [.d (sI p.ord), .d (.sl 1 (vI p.outs))]), (3, .box [.d (sI p.ord), .d (.sl 1 (vI p.outs))])]⟩) (fun k => p.outs.length - k) 0 (by simp) ?_ ?_
  · (refine Le.of ?_ ?_ <;> simp [go_sem, simprocAttr])
  rintro k hk
  rcases Nat.lt_or_ge k p.outs.length with hkl | hkg
  · have hb : decide ((k : Int) < (p.outs.length : Int)) = true := decide_eq_true (by omega)
    have hv := vI_getD hkl
    have hll := hp.each _ (getD_memX (d := []) hkl)
    generalize p.outs.getD k [] = l at hv hll
    repeat' (first | fail | ((first | ((with_reducible (first | apply oA | apply oB)); exact rfl; intro K hK) | (refine hK _ ?_; clear hK K) | ((with_reducible (first | apply oG | apply oH)); iterate 3 exact rfl) | ((with_reducible apply oI); (iterate 2 exact rfl); intro K hK) | (with_reducible (first | apply wI | apply wJ | apply wK))); try simp only [go_sem, simprocAttr, decide_true, hb, hv]) | fail | (with_reducible (first | apply oC | apply oJ | exact oK | apply wA | apply wB | apply wC hX hC | apply wD hX hC | apply wE hX hC hmix | apply wF hX hC hmix | apply wG | apply wH | apply And.intro)) | ((with_reducible refine oD ?_ ?_); first | fail | kernel_rfl) | ((with_reducible (first | apply oE | apply oF)); (iterate 3 exact rfl); all_goals (intro h; first | (exact absurd h (by decide)) | ((try simp only [go_sem, simprocAttr, decide_true, hb, hv] at h); (try with_reducible intro K hK); simp only [go_sem, simprocAttr, decide_true, hb, hv]))) | ((first | ((with_reducible apply wL); exact rfl) | ((with_reducible apply wM); exact rfl)); all_goals (try ((with_reducible intro h); first | (exact absurd h (by decide)) | (try simp only [go_sem, simprocAttr, decide_true, hb, hv] at h)))) | omega | ((first | fail); try simp only [go_sem, simprocAttr, decide_true, hb, hv]) | (intro h))
    refine awp_loopP (fun j : Nat => j ≤ l.length) (fun j => ⟨[(2, .ptr 2 0), (3, .ptr 3 0), (6, eN k), (7, eN j)], [(2, .box [.d (sI p.ord), .d (.sl 1 (vI p.outs))]), (3, .box [.d (sI p.ord), .d (.sl 1 (vI p.outs))])]⟩) (fun j => l.length - j) 0 (by simp) ?_ ?_
    · (refine Le.of ?_ ?_ <;> simp [go_sem, simprocAttr])
    rintro j hj
    rcases Nat.lt_or_ge j l.length with hjl | hjg
    · have hbj : decide ((j : Int) < (l.length : Int)) = true := decide_eq_true (by omega)
      repeat' (first | fail | ((first | ((with_reducible (first | apply oA | apply oB)); exact rfl; intro K hK) | (refine hK _ ?_; clear hK K) | ((with_reducible (first | apply oG | apply oH)); iterate 3 exact rfl) | ((with_reducible apply oI); (iterate 2 exact rfl); intro K hK) | (with_reducible (first | apply wI | apply wJ | apply wK))); try simp only [go_sem, simprocAttr, decide_true, hbj, hv]) | fail | (with_reducible (first | apply oC | apply oJ | exact oK | apply wA | apply wB | apply wC hX hC | apply wD hX hC | apply wE hX hC hmix | apply wF hX hC hmix | apply wG | apply wH | apply And.intro)) | ((with_reducible refine oD ?_ ?_); first | fail | kernel_rfl) | ((with_reducible (first | apply oE | apply oF)); (iterate 3 exact rfl); all_goals (intro h; first | (exact absurd h (by decide)) | ((try simp only [go_sem, simprocAttr, decide_true, hbj, hv] at h); (try with_reducible intro K hK); simp only [go_sem, simprocAttr, decide_true, hbj, hv]))) | ((first | ((with_reducible apply wL); exact rfl) | ((with_reducible apply wM); exact rfl)); all_goals (try ((with_reducible intro h); first | (exact absurd h (by decide)) | (try simp only [go_sem, simprocAttr, decide_true, hbj, hv] at h)))) | omega | ((first | fail); try simp only [go_sem, simprocAttr, decide_true, hbj, hv]) | (intro h))
      refine ⟨j + 1, by omega, ?_, by omega⟩
      (refine Le.of ?_ ?_ <;> simp [go_sem, simprocAttr, decide_true, hbj, hv])
    · have hbj : decide ((j : Int) < (l.length : Int)) = false := decide_eq_false (by omega)
      repeat' (first | fail | ((first | ((with_reducible (first | apply oA | apply oB)); exact rfl; intro K hK) | (refine hK _ ?_; clear hK K) | ((with_reducible (first | apply oG | apply oH)); iterate 3 exact rfl) | ((with_reducible apply oI); (iterate 2 exact rfl); intro K hK) | (with_reducible (first | apply wI | apply wJ | apply wK))); try simp only [go_sem, simprocAttr, decide_true, hbj, hv]) | fail | (with_reducible (first | apply oC | apply oJ | exact oK | apply wA | apply wB | apply wC hX hC | apply wD hX hC | apply wE hX hC hmix | apply wF hX hC hmix | apply wG | apply wH | apply And.intro)) | ((with_reducible refine oD ?_ ?_); first | fail | kernel_rfl) | ((with_reducible (first | apply oE | apply oF)); (iterate 3 exact rfl); all_goals (intro h; first | (exact absurd h (by decide)) | ((try simp only [go_sem, simprocAttr, decide_true, hbj, hv] at h); (try with_reducible intro K hK); simp only [go_sem, simprocAttr, decide_true, hbj, hv]))) | ((first | ((with_reducible apply wL); exact rfl) | ((with_reducible apply wM); exact rfl)); all_goals (try ((with_reducible intro h); first | (exact absurd h (by decide)) | (try simp only [go_sem, simprocAttr, decide_true, hbj, hv] at h)))) | omega | ((first | fail); try simp only [go_sem, simprocAttr, decide_true, hbj, hv]) | (intro h))
      refine ⟨k + 1, by omega, ?_, by omega⟩
      (refine Le.of ?_ ?_ <;> simp [go_sem, simprocAttr, decide_true, hbj, hv])
  · have hb : decide ((k : Int) < (p.outs.length : Int)) = false := decide_eq_false (by omega)
    repeat' (first | fail | ((first | ((with_reducible (first | apply oA | apply oB)); exact rfl; intro K hK) | (refine hK _ ?_; clear hK K) | ((with_reducible (first | apply oG | apply oH)); iterate 3 exact rfl) | ((with_reducible apply oI); (iterate 2 exact rfl); intro K hK) | (with_reducible (first | apply wI | apply wJ | apply wK))); try simp only [go_sem, simprocAttr, decide_true, hb]) | fail | (with_reducible (first | apply oC | apply oJ | exact oK | apply wA | apply wB | apply wC hX hC | apply wD hX hC | apply wE hX hC hmix | apply wF hX hC hmix | apply wG | apply wH | apply And.intro)) | ((with_reducible refine oD ?_ ?_); first | fail | kernel_rfl) | ((with_reducible (first | apply oE | apply oF)); (iterate 3 exact rfl); all_goals (intro h; first | (exact absurd h (by decide)) | ((try simp only [go_sem, simprocAttr, decide_true, hb] at h); (try with_reducible intro K hK); simp only [go_sem, simprocAttr, decide_true, hb]))) | ((first | ((with_reducible apply wL); exact rfl) | ((with_reducible apply wM); exact rfl)); all_goals (try ((with_reducible intro h); first | (exact absurd h (by decide)) | (try simp only [go_sem, simprocAttr, decide_true, hb] at h)))) | omega | ((first | fail); try simp only [go_sem, simprocAttr, decide_true, hb]) | (intro h))
def isB (g : Gr) : Bool := decide ((chkG g).1 = 0) && decide ((bareG (·.1) g).length = 1)
theorem augIs_spec (g : Gr) (hl : g.es.length ≤ 1000) : Spec Try.prog 21 (Args [eG g]) [] (eB (isB g)) [] := by
  by_cases hc : (chkG g).1 = 0
  · have hm := good_may hc
    have hb1 : decide ((chkG g).1 = 0) = true := decide_eq_true hc
    have hI : isB g = decide (((bareG (·.1) g).length : Int) = 1) := by
      unfold isB; rw [hb1, Bool.true_and, decide_eq_decide]; omega
    rw [hI]
    generalize hbl : bareG (·.1) g = bl
    have hS := sinks_spec g hm
    rw [hbl] at hS
    (refine Spec.intro (C := T.cfg [] []) (rs := [.t 2]) (T.cfg_ok _ _) Try.func21 rfl rfl Try.ntmps21 Try.results21 (by simp [AObj.isNest]) (by simp [AObj.isNest]) (by kernel_rfl) ?_; intro X hX hP hC hXn hXm vals hA; refine ⟨_, by simp, hA, ?_⟩; have hmix : X.P.follows .mixedOrders = true := (by rw [hP]; exact T.mixed); clear hXn hXm)
    repeat' (first | fail | ((first | ((with_reducible (first | apply oA | apply oB)); exact rfl; intro K hK) | (refine hK _ ?_; clear hK K) | ((with_reducible (first | apply oG | apply oH)); iterate 3 exact rfl) | ((with_reducible apply oI); (iterate 2 exact rfl); intro K hK) | (with_reducible (first | apply wI | apply wJ | apply wK))); try simp only [go_sem, simprocAttr, hb1]) | fail | (with_reducible (first | apply oC | apply oJ | exact oK | apply wA | apply wB | apply wC hX hC | apply wD hX hC | apply wE hX hC hmix | apply wF hX hC hmix | apply wG | apply wH | apply And.intro)) | ((with_reducible refine oD ?_ ?_); first | fail | kernel_rfl) | ((with_reducible (first | apply oE | apply oF)); (iterate 3 exact rfl); all_goals (intro h; first | (exact absurd h (by decide)) | ((try simp only [go_sem, simprocAttr, hb1] at h); (try with_reducible intro K hK); simp only [go_sem, simprocAttr, hb1]))) | ((first | ((with_reducible apply wL); exact rfl) | ((with_reducible apply wM); exact rfl)); all_goals (try ((with_reducible intro h); first | (exact absurd h (by decide)) | (try simp only [go_sem, simprocAttr, hb1] at h)))) | omega | ((first | first | refine acall_simple hX hC hP (check_spec g hl) rfl rfl rfl (by simp only [go_sem, simprocAttr, hb1]) rfl ?_ | refine acall_simple hX hC hP (of_spec g hm) rfl rfl rfl (by simp only [go_sem, simprocAttr, hb1]) rfl ?_ | refine acall_simple hX hC hP (hS) rfl rfl rfl (by simp only [go_sem, simprocAttr, hb1]) rfl ?_); try simp only [go_sem, simprocAttr, hb1]) | (intro h))
  · have hb1 : decide ((chkG g).1 = 0) = false := decide_eq_false hc
    have hI : isB g = false := by unfold isB; rw [hb1]; rfl
    rw [hI]
    (refine Spec.intro (C := T.cfg [] []) (rs := [.t 2]) (T.cfg_ok _ _) Try.func21 rfl rfl Try.ntmps21 Try.results21 (by simp [AObj.isNest]) (by simp [AObj.isNest]) (by kernel_rfl) ?_; intro X hX hP hC hXn hXm vals hA; refine ⟨_, by simp, hA, ?_⟩; have hmix : X.P.follows .mixedOrders = true := (by rw [hP]; exact T.mixed); clear hXn hXm)
    repeat' (first | fail | ((first | ((with_reducible (first | apply oA | apply oB)); exact rfl; intro K hK) | (refine hK _ ?_; clear hK K) | ((with_reducible (first | apply oG | apply oH)); iterate 3 exact rfl) | ((with_reducible apply oI); (iterate 2 exact rfl); intro K hK) | (with_reducible (first | apply wI | apply wJ | apply wK))); try simp only [go_sem, simprocAttr, hb1]) | fail | (with_reducible (first | apply oC | apply oJ | exact oK | apply wA | apply wB | apply wC hX hC | apply wD hX hC | apply wE hX hC hmix | apply wF hX hC hmix | apply wG | apply wH | apply And.intro)) | ((with_reducible refine oD ?_ ?_); first | fail | kernel_rfl) | ((with_reducible (first | apply oE | apply oF)); (iterate 3 exact rfl); all_goals (intro h; first | (exact absurd h (by decide)) | ((try simp only [go_sem, simprocAttr, hb1] at h); (try with_reducible intro K hK); simp only [go_sem, simprocAttr, hb1]))) | ((first | ((with_reducible apply wL); exact rfl) | ((with_reducible apply wM); exact rfl)); all_goals (try ((with_reducible intro h); first | (exact absurd h (by decide)) | (try simp only [go_sem, simprocAttr, hb1] at h)))) | omega | ((first | first | refine acall_simple hX hC hP (check_spec g hl) rfl rfl rfl (by simp only [go_sem, simprocAttr, hb1]) rfl ?_); try simp only [go_sem, simprocAttr, hb1]) | (intro h))
theorem refIs_spec (g : Gr) (hl : g.es.length ≤ 1000) : Spec Try.prog 22 (Args [eG g]) [] (eB (isB g)) [] := by
  by_cases hc : (chkG g).1 = 0
  · have hm := good_may hc
    have hn := mayB_n hm
    have hb1 : decide ((chkG g).1 = 0) = true := decide_eq_true hc
    have hI : isB g = decide (((bareG (·.1) g).length : Int) = 1) := by
      unfold isB; rw [hb1, Bool.true_and, decide_eq_decide]; omega
    rw [hI]
    have hS := refBare_spec g false hl (by omega)
    rw [show endF (!false) = (·.1) from rfl] at hS
    generalize bareG (·.1) g = bl at hS
    (refine Spec.intro (C := T.cfg [] []) (rs := [.t 2]) (T.cfg_ok _ _) Try.func22 rfl rfl Try.ntmps22 Try.results22 (by simp [AObj.isNest]) (by simp [AObj.isNest]) (by kernel_rfl) ?_; intro X hX hP hC hXn hXm vals hA; refine ⟨_, by simp, hA, ?_⟩; have hmix : X.P.follows .mixedOrders = true := (by rw [hP]; exact T.mixed); clear hXn hXm)
    repeat' (first | fail | ((first | ((with_reducible (first | apply oA | apply oB)); exact rfl; intro K hK) | (refine hK _ ?_; clear hK K) | ((with_reducible (first | apply oG | apply oH)); iterate 3 exact rfl) | ((with_reducible apply oI); (iterate 2 exact rfl); intro K hK) | (with_reducible (first | apply wI | apply wJ | apply wK))); try simp only [go_sem, simprocAttr, hb1]) | fail | (with_reducible (first | apply oC | apply oJ | exact oK | apply wA | apply wB | apply wC hX hC | apply wD hX hC | apply wE hX hC hmix | apply wF hX hC hmix | apply wG | apply wH | apply And.intro)) | ((with_reducible refine oD ?_ ?_); first | fail | kernel_rfl) | ((with_reducible (first | apply oE | apply oF)); (iterate 3 exact rfl); all_goals (intro h; first | (exact absurd h (by decide)) | ((try simp only [go_sem, simprocAttr, hb1] at h); (try with_reducible intro K hK); simp only [go_sem, simprocAttr, hb1]))) | ((first | ((with_reducible apply wL); exact rfl) | ((with_reducible apply wM); exact rfl)); all_goals (try ((with_reducible intro h); first | (exact absurd h (by decide)) | (try simp only [go_sem, simprocAttr, hb1] at h)))) | omega | ((first | first | refine acall_simple hX hC hP (refGoodA_spec g (by omega)) rfl rfl rfl (by simp only [go_sem, simprocAttr, hb1]) rfl ?_ | refine acall_simple hX hC hP (hS) rfl rfl rfl (by simp only [go_sem, simprocAttr, hb1]) rfl ?_); try simp only [go_sem, simprocAttr, hb1]) | (intro h))
  · have hb1 : decide ((chkG g).1 = 0) = false := decide_eq_false hc
    have hI : isB g = false := by unfold isB; rw [hb1]; rfl
    rw [hI]
    (refine Spec.intro (C := T.cfg [] []) (rs := [.t 2]) (T.cfg_ok _ _) Try.func22 rfl rfl Try.ntmps22 Try.results22 (by simp [AObj.isNest]) (by simp [AObj.isNest]) (by kernel_rfl) ?_; intro X hX hP hC hXn hXm vals hA; refine ⟨_, by simp, hA, ?_⟩; have hmix : X.P.follows .mixedOrders = true := (by rw [hP]; exact T.mixed); clear hXn hXm)
    repeat' (first | fail | ((first | ((with_reducible (first | apply oA | apply oB)); exact rfl; intro K hK) | (refine hK _ ?_; clear hK K) | ((with_reducible (first | apply oG | apply oH)); iterate 3 exact rfl) | ((with_reducible apply oI); (iterate 2 exact rfl); intro K hK) | (with_reducible (first | apply wI | apply wJ | apply wK))); try simp only [go_sem, simprocAttr, hb1]) | fail | (with_reducible (first | apply oC | apply oJ | exact oK | apply wA | apply wB | apply wC hX hC | apply wD hX hC | apply wE hX hC hmix | apply wF hX hC hmix | apply wG | apply wH | apply And.intro)) | ((with_reducible refine oD ?_ ?_); first | fail | kernel_rfl) | ((with_reducible (first | apply oE | apply oF)); (iterate 3 exact rfl); all_goals (intro h; first | (exact absurd h (by decide)) | ((try simp only [go_sem, simprocAttr, hb1] at h); (try with_reducible intro K hK); simp only [go_sem, simprocAttr, hb1]))) | ((first | ((with_reducible apply wL); exact rfl) | ((with_reducible apply wM); exact rfl)); all_goals (try ((with_reducible intro h); first | (exact absurd h (by decide)) | (try simp only [go_sem, simprocAttr, hb1] at h)))) | omega | ((first | first | refine acall_simple hX hC hP (refGoodA_spec g (by omega)) rfl rfl rfl (by simp only [go_sem, simprocAttr, hb1]) rfl ?_); try simp only [go_sem, simprocAttr, hb1]) | (intro h))
end Go.Ab
end
section
namespace Go.Ab
open Go.Proofs
attribute [local congr] ACall.congr
set_option maxRecDepth 10000
set_option maxHeartbeats 8000000

def g16 : Gr := ⟨3, [(0, 1), (0, 2)]⟩
def p16 : Pl := ⟨[0, 1, 2], [[0, 1], [], []]⟩
def x16 : Gr := ⟨4, [(0, 1), (0, 2), (1, 3), (2, 3)]⟩
def q16 : Pl := ⟨[0, 1, 2, 3], [[0, 1], [2], [3], []]⟩
theorem ok16 : (true = true) ↔ (chkG g16).1 = 0 ∧ PlanOk g16 p16 := ⟨fun _ => ⟨by decide, ⟨rfl, by decide, by decide⟩⟩, fun _ => rfl⟩
theorem aug16 : augR true g16 p16 = (x16, q16, 0) := rfl
theorem is16 : isB x16 = true := by decide
theorem is16' : isB g16 = false := by decide
theorem speaks16_spec : Spec Try.prog 15 (Args []) [] (eB true) [] := by
  have hAu := augment_spec g16 (by decide) p16 ⟨by decide, by decide, by decide⟩ (by decide) (by decide) (by decide) true ok16
  rw [aug16] at hAu
  simp only at hAu
  have h1 := is16
  have h2 := is16'
  have e1 : g16.es.map rE = [[.sc (.int .i64 0), .sc (.int .i64 1)], [.sc (.int .i64 0), .sc (.int .i64 2)]] := rfl
  have e2 : p16.ord.map rI = [[.sc (.int .i64 0)], [.sc (.int .i64 1)], [.sc (.int .i64 2)]] := rfl
  have e3 : vI p16.outs = [[.sl 1 [[.sc (.int .i64 0)], [.sc (.int .i64 1)]]], [.sl 1 []], [.sl 1 []]] := rfl
  have e4 : g16.n = 3 := rfl
  have e5 : x16.n = 4 := rfl
  have e6 : x16.es.map rE = [[.sc (.int .i64 0), .sc (.int .i64 1)], [.sc (.int .i64 0), .sc (.int .i64 2)], [.sc (.int .i64 1), .sc (.int .i64 3)], [.sc (.int .i64 2), .sc (.int .i64 3)]] := rfl
  have e7 : q16.ord.map rI = [[.sc (.int .i64 0)], [.sc (.int .i64 1)], [.sc (.int .i64 2)], [.sc (.int .i64 3)]] := rfl
  have e8 : vI q16.outs = [[.sl 1 [[.sc (.int .i64 0)], [.sc (.int .i64 1)]]], [.sl 1 [[.sc (.int .i64 2)]]], [.sl 1 [[.sc (.int .i64 3)]]], [.sl 1 []]] := rfl
  have e9 : ∀ d, [[D.sc (.int .i64 0), D.sc (.int .i64 1)], [D.sc (.int .i64 0), D.sc (.int .i64 2)], [D.sc (.int .i64 1), D.sc (.int .i64 3)], [D.sc (.int .i64 2), D.sc (.int .i64 3)]].getD 3 d = [D.sc (.int .i64 2), D.sc (.int .i64 3)] := fun d => rfl
  (refine Spec.intro (C := T.cfg [] []) (rs := [.t 0]) (T.cfg_ok _ _) Try.func15 rfl rfl Try.ntmps15 Try.results15 (by simp [AObj.isNest]) (by simp [AObj.isNest]) (by kernel_rfl) ?_; intro X hX hP hC hXn hXm vals hA; refine ⟨_, by simp, hA, ?_⟩; have hmix : X.P.follows .mixedOrders = true := (by rw [hP]; exact T.mixed); clear hXn hXm)
  repeat' (first | fail | ((first | ((with_reducible (first | apply oA | apply oB)); exact rfl; intro K hK) | (refine hK _ ?_; clear hK K) | ((with_reducible (first | apply oG | apply oH)); iterate 3 exact rfl) | ((with_reducible apply oI); (iterate 2 exact rfl); intro K hK) | (with_reducible (first | apply wI | apply wJ | apply wK))); try simp only [go_sem, simprocAttr, h1, h2, e1, e2, e3, e4, e5, e6, e7, e8, e9]) | fail | (with_reducible (first | apply oC | apply oJ | exact oK | apply wA | apply wB | apply wC hX hC | apply wD hX hC | apply wE hX hC hmix | apply wF hX hC hmix | apply wG | apply wH | apply And.intro)) | ((with_reducible refine oD ?_ ?_); first | fail | kernel_rfl) | ((with_reducible (first | apply oE | apply oF)); (iterate 3 exact rfl); all_goals (intro h; first | (exact absurd h (by decide)) | ((try simp only [go_sem, simprocAttr, h1, h2, e1, e2, e3, e4, e5, e6, e7, e8, e9] at h); (try with_reducible intro K hK); simp only [go_sem, simprocAttr, h1, h2, e1, e2, e3, e4, e5, e6, e7, e8, e9]))) | ((first | ((with_reducible apply wL); exact rfl) | ((with_reducible apply wM); exact rfl)); all_goals (try ((with_reducible intro h); first | (exact absurd h (by decide)) | (try simp only [go_sem, simprocAttr, h1, h2, e1, e2, e3, e4, e5, e6, e7, e8, e9] at h)))) | omega | ((first | first | (refine acall_look hX hC hP (hAu) rfl rfl rfl ?_ ?_ rfl ?_; iterate 2 (focus (simp only [go_sem, simprocAttr, h1, h2, e1, e2, e3, e4, e5, e6, e7, e8, e9]; done))) | refine acall_simple hX hC hP (augIs_spec x16 (by decide)) rfl rfl rfl (by simp only [go_sem, simprocAttr, h1, h2, e1, e2, e3, e4, e5, e6, e7, e8, e9]) rfl ?_ | refine acall_simple hX hC hP (augIs_spec g16 (by decide)) rfl rfl rfl (by simp only [go_sem, simprocAttr, h1, h2, e1, e2, e3, e4, e5, e6, e7, e8, e9]) rfl ?_ | (refine acall_look hX hC hP (augIs_spec x16 (by decide)) rfl rfl rfl ?_ ?_ rfl ?_; iterate 2 (focus (simp only [go_sem, simprocAttr, h1, h2, e1, e2, e3, e4, e5, e6, e7, e8, e9]; done))) | (refine acall_look hX hC hP (augIs_spec g16 (by decide)) rfl rfl rfl ?_ ?_ rfl ?_; iterate 2 (focus (simp only [go_sem, simprocAttr, h1, h2, e1, e2, e3, e4, e5, e6, e7, e8, e9]; done)))); try simp only [go_sem, simprocAttr, h1, h2, e1, e2, e3, e4, e5, e6, e7, e8, e9]) | (intro h))
theorem aug_len {b : Bool} {g : Gr} {p : Pl} (hr : b = true ↔ (chkG g).1 = 0 ∧ PlanOk g p) (h2 : p.outs.length ≤ 100) (h3 : ∀ l ∈ p.outs, l.length ≤ 200) : (augR b g p).1.es.length ≤ 128 ∧ (augR b g p).2.1.ord.length ≤ 1000 ∧ (augR b g p).2.1.outs.length ≤ 1000 ∧ ∀ l ∈ (augR b g p).2.1.outs, l.length ≤ 1000 := by
  unfold augR
  split
  · simp [gz, pz]
  rename_i h0
  split
  · simp [gz, pz]
  rename_i h1
  obtain ⟨hrun, _⟩ := runRes_ok hr (by simpa using h0)
  have hes : (augG g p).es.length ≤ 128 := by omega
  have hnn : (augG g p).n ≤ 64 := by omega
  refine ⟨hes, ?_, ?_, ?_⟩
  · have hle := plan_len hrun.2.1
    have hn := mayB_n (good_may hrun.1)
    show (if _ then _ else _ : List Int).length ≤ 1000
    split
    · rw [List.length_append]; simp; omega
    · omega
  · rw [aug_outs hrun]; simp [docO]; omega
  · intro l hl
    rw [aug_outs hrun] at hl
    simp only [docO, List.mem_map, List.mem_range] at hl
    obtain ⟨v, hv, rfl⟩ := hl
    split
    · rename_i h4
      by_cases hvo : v < p.outs.length
      · have := h3 _ (getD_memX (d := []) hvo); omega
      · rw [List.getD_eq_getElem?_getD, List.getElem?_eq_none (by omega)] at h4; simp at h4
    · exact Nat.le_trans outZ_len (by omega)
end Go.Ab
end
section
namespace Go.Ab
open Go.Proofs
attribute [local congr] ACall.congr
set_option maxRecDepth 10000

/-- Numbers from 0 on, in order. -/
def upB (l : List Int) (k : Nat) : Bool := (List.range k).all fun i => decide (l.getD i 0 = (i : Int))
/-- The first k edges of the order, under the new names. -/
def renK (g : Gr) (names order : List Int) (k : Nat) : List Edge := (List.range k).map fun i => (names.getD (g.es.getD (order.getD i 0).toNat (0, 0)).1.toNat 0, names.getD (g.es.getD (order.getD i 0).toNat (0, 0)).2.toNat 0)
def renG (g : Gr) (names order : List Int) : Gr := ⟨g.n, renK g names order order.length⟩
theorem renK_length {g : Gr} {names order : List Int} {k : Nat} : (renK g names order k).length = k := by simp [renK]
def renOk (g : Gr) (names order : List Int) : Bool := mayB g && eachB names g.n && eachB order g.es.length
def renR (g : Gr) (names order : List Int) : Gr := if renOk g names order then renG g names order else ⟨0, []⟩
end Go.Ab
end
