/- From what is given to the contracts: acts, that is pairs of a whole number and a slice of them; and what the form's own reach says of these slices' lengths. -/
import Derived.SizedLaws
import Derived.Test.YtcajillldlhdpaaL10P16
set_option linter.unusedSimpArgs false
set_option linter.unusedVariables false
namespace Go.Ab
open Go.ChangeShapes Go.WideShapes Go.ChangeAt Go.RowKit

/-- A slice of whole numbers, and what it weighs. -/
theorem rd_ints_w {H : Type} {enc : TypeId × Value → H} {P : Program} {W : World} {t e : TypeId} {fuel : Nat} {v : Value} {x : DataW H × List MemPlace} (ht : P.underlying t = some (.slice e)) (he : P.underlying e = some (.int .i64))
    (ce : P.cellsOf e = 1) (be : P.bytesOf e = 8) (h : DataW.trod enc P W 0 (fun _ => true) true fuel t [v] = some x) : ∃ l : List Int, Rd W (lawE W).z v (sI l) ∧ l.length ≤ maxLen ∧ ((∀ n ∈ x.1.weights P t, n ≤ reachBytes) → l.length * 8 ≤ reachBytes) := by
  obtain ⟨l, h1, h2, _⟩ := rd_ints ht he ce h
  refine ⟨l, h1, h2, fun hw => ?_⟩
  rcases Go.Deep.open_slice1 ht ce h with ⟨h3, _⟩ | ⟨a, len, cap, m, n, V, D0, P0, h3, _, hlc, hcm, hm, hx, hc⟩
  · simp only [List.cons.injEq, and_true] at h3
    subst h3
    generalize hs : sI l = s at h1
    generalize hv : (Value.slice none 0 0) = v at h1
    cases h1 with
    | sc v h => cases hs
    | pt b off cells vs hz hc hr => cases hs
    | nil p sz =>
      simp only [sI, D.sl.injEq, List.map_eq_nil_iff] at hs
      rw [hs.2]; exact Nat.zero_le _
    | sl b off n cap sz rows vs hn hsz hz hcap hc hr => cases hv
  · simp only [List.cons.injEq, and_true] at h3
    have hlen : l.length = len := by
      generalize hs : sI l = s at h1
      cases h1 with
      | sc v h => cases hs
      | pt b off cells vs hz hc hr => cases hs
      | nil p sz =>
        simp only [sI, D.sl.injEq, List.map_eq_nil_iff] at hs
        simp only [Value.slice.injEq] at h3
        rw [hs.2, ← h3.2.1]; rfl
      | sl b off n cap sz rows vs hn hsz hz hcap hc hr =>
        simp only [sI, D.sl.injEq] at hs
        simp only [Value.slice.injEq] at h3
        obtain ⟨_, rfl⟩ := hs
        rw [List.length_map] at hn
        rw [← h3.2.1, ← hn]
    have := hw ((((List.range len).map D0).length + ((List.range (m - len)).map fun j => D0 (len + j)).length) * P.bytesOf e) (by rw [hx]; simp only [DataW.weights, ht]; exact List.mem_cons_self ..)
    rw [be, List.length_map, List.length_map, List.length_range, List.length_range] at this
    rw [hlen]; omega
theorem weightsAll_mem {H : Type} {P : Program} {e : TypeId} : ∀ {l : List (DataW H)} {d : DataW H}, d ∈ l → ∀ n ∈ d.weights P e, n ∈ DataW.weightsAll P e l
  | [], _, h, _, _ => by cases h
  | x :: l, d, h, n, hn => by
    simp only [DataW.weightsAll, List.mem_append]
    rcases List.mem_cons.1 h with rfl | h
    · exact .inl hn
    · exact .inr (weightsAll_mem h n hn)
/-- A slice of pairs of a whole number and a slice of whole numbers. -/
theorem rd_acts {H : Type} {enc : TypeId × Value → H} {P : Program} {W : World} {t e : TypeId} {f0 f1 : Field} {ei : TypeId} {fuel : Nat} {v : Value} {x : DataW H × List MemPlace} (ht : P.underlying t = some (.slice e)) (he : P.underlying e = some (.struct #[f0, f1]))
    (ce : P.cellsOf e = 2) (o0 : f0.offset = 0) (o1 : f1.offset = 1) (c0 : P.cellsOf f0.type = 1) (c1 : P.cellsOf f1.type = 1) (i0 : P.underlying f0.type = some (.int .i64)) (i1 : P.underlying f1.type = some (.slice ei)) (i2 : P.underlying ei = some (.int .i64)) (ci : P.cellsOf ei = 1) (bi : P.bytesOf ei = 8)
    (h : DataW.trod enc P W 0 (fun _ => true) true fuel t [v] = some x) : ∃ es : List Act, Rd W (lawE W).z v (sA es) ∧ es.length ≤ maxLen ∧ (∀ a ∈ es, a.2.length ≤ maxLen) ∧ ((∀ n ∈ x.1.weights P t, n ≤ reachBytes) → ∀ a ∈ es, a.2.length * 8 ≤ reachBytes) := by
  rcases Go.Deep.open_slice_pairs ht he ce o0 o1 c0 c1 h with ⟨h1, _⟩ | ⟨a, len, cap, m, n, V0, V1, D0, D1, P0, P1, h1, _, hlc, hcm, hm, hx0, hc⟩
  · simp only [List.cons.injEq, and_true] at h1
    exact ⟨[], by rw [h1]; exact .nil _ _, by simp, by simp, by simp⟩
  · simp only [List.cons.injEq, and_true] at h1
    simp only [if_true] at hm
    subst hm
    have hx : ∀ i, i < m → ∃ q : Act, V0 i = .int .i64 q.1 ∧ Rd W (lawE W).z (V1 i) (sI q.2) ∧ q.2.length ≤ maxLen ∧ ((∀ n ∈ (D1 i).weights P f1.type, n ≤ reachBytes) → q.2.length * 8 ≤ reachBytes) := by
      intro i hi
      obtain ⟨_, _, g3, g4⟩ := hc i hi
      obtain ⟨p, hp0, _, hp2⟩ := DataW.trod_int i0 g3
      obtain ⟨l, hl1, hl2, hl3⟩ := rd_ints_w i1 i2 ci bi g4
      simp only [List.cons.injEq, and_true] at hp0
      exact ⟨(p, l), hp0, hl1, hl2, hl3⟩
    rcases Nat.eq_zero_or_pos m with h0 | hpos
    · subst h0
      have : len = 0 := by omega
      subst this
      exact ⟨[], by rw [h1]; exact .nil _ _, by simp, by simp, by simp⟩
    · obtain ⟨q, hq⟩ := Go.Deep.choose_lt hx
      have hspot : a.spot = none := by
        have := World.cell?_spot (hc 0 hpos).1
        simpa [Addr.add] using this
      obtain ⟨b, off, sp⟩ := a
      simp only at hspot
      subst hspot
      have hcell : ∀ k, k < m * 2 → W.cell? ⟨b, off + k, none⟩ = some (if k % 2 = 0 then V0 (k / 2) else V1 (k / 2)) := by
        intro k hk
        obtain ⟨g1, g2, _⟩ := hc (k / 2) (by omega)
        simp only [Addr.add_mid, Nat.add_assoc] at g1 g2
        split
        · rw [← g1]; congr 2; omega
        · rw [← g2]; congr 2; omega
      have hz : off + m * 2 ≤ (lawE W).z b := by
        have := hcell (m * 2 - 1) (by omega)
        unfold World.cell? at this
        simp only [lawE]
        split at this
        · rename_i c _ _ hb
          simp only [Option.isSome_none, Bool.false_eq_true, if_false] at this
          have hlt := (Array.getElem?_eq_some_iff.1 this).1
          simp only [hb]; omega
        · cases this
      refine ⟨(List.range len).map q, ?_, by simp; omega, ?_, ?_⟩
      · rw [h1]
        refine .sl b off len m 2 _ (fun k => if k % 2 = 0 then V0 (k / 2) else V1 (k / 2)) (by simp) (by simp [rA]) (by have := Nat.mul_le_mul_right 2 hlc; omega) hlc (fun k hk => hcell k (by have := Nat.mul_le_mul_right 2 hlc; omega)) ?_
        intro i j r y hi hj
        have hil : i < len := by have := (List.getElem?_eq_some_iff.1 hi).1; simpa using this
        simp only [List.map_map, List.getElem?_map, List.getElem?_range hil, Option.map_some, Option.some.injEq, Function.comp] at hi
        subst hi
        obtain ⟨e0, e1, _⟩ := hq i (by omega)
        match j, hj with
        | 0, hj =>
          simp only [rA, List.getElem?_cons_zero, Option.some.injEq] at hj
          subst hj
          simp only [Nat.add_zero, Nat.mul_mod_left, if_true, Nat.mul_div_cancel _ (show 0 < 2 by omega), e0]
          exact .sc _ rfl
        | 1, hj =>
          simp only [rA, List.getElem?_cons_succ, List.getElem?_cons_zero, Option.some.injEq] at hj
          subst hj
          rw [if_neg (by omega), show (i * 2 + 1) / 2 = i from by omega]
          exact e1
        | j + 2, hj => simp [rA] at hj
      · intro p hp
        obtain ⟨i, hi, rfl⟩ := List.mem_map.1 hp
        have := List.mem_range.1 hi
        exact (hq i (by omega)).2.2.1
      · intro hw p hp
        obtain ⟨i, hi, rfl⟩ := List.mem_map.1 hp
        have hil := List.mem_range.1 hi
        refine (hq i (by omega)).2.2.2 fun n hn => hw n ?_
        rw [hx0]
        simp only [DataW.weights, ht, List.mem_cons, List.mem_append]
        refine .inr (.inl (weightsAll_mem (d := .agg [D0 i, D1 i]) (List.mem_map.2 ⟨i, hi, rfl⟩) n ?_))
        simp only [DataW.weights, he, List.map_cons, List.map_nil, DataW.weightsEach, List.mem_append]
        exact .inr (.inl hn)
end Go.Ab
