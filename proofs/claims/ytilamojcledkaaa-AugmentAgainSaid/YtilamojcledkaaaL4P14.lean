/- A part of the proof. -/
import Derived.Test.YtilamojcledkaaaL4P13
set_option linter.unusedSimpArgs false
set_option linter.unusedVariables false
section
namespace Go.Ab

/-- An edge leads from a to b. -/
def Ed (g : Gr) (a b : Int) : Prop := ∃ i, i < g.es.length ∧ tl g i = a ∧ hd g i = b
/-- Each leads to the next one, the last one to the first. -/
def Cyc (g : Gr) (l : List Int) : Prop := ∀ i, i < l.length → Ed g (l.getD i 0) (l.getD ((i + 1) % l.length) 0)
/-- A way back: each vertex but the first has an edge to the one before. -/
def Chain' (g : Gr) (way : List Int) (at_ : Int) : Prop := ∀ p, p < way.length → Ed g ((way ++ [at_]).getD (p + 1) 0) (way.getD p 0)
theorem getD_last {l : List Int} {a : Int} : (l ++ [a]).getD l.length 0 = a := by
  rw [List.getD_eq_getElem?_getD, List.getElem?_append_right (Nat.le_refl _)]; simp
theorem wayF_chain {g : Gr} (hm : mayB g = true) : ∀ (f : Nat) (way : List Int) (a : Nat), a < g.n.toNat → (a : Int) ∉ runG g → Chain' g way a → left g way ≤ f →
    Chain' g (wayF g (wts g (runG g)) f way a).1 (wayF g (wts g (runG g)) f way a).2 ∧ 0 ≤ (wayF g (wts g (runG g)) f way a).2 ∧ (wayF g (wts g (runG g)) f way a).2 ∈ (wayF g (wts g (runG g)) f way a).1
  | f, way, a, ha, hn, hc, hl => by
    by_cases hmem : (a : Int) ∈ way
    · rw [wayF_end (.inr hmem)]
      exact ⟨hc, by simp only; omega, hmem⟩
    · have hla := left_app ha hmem
      cases f with
      | zero => omega
      | succ f =>
        obtain ⟨⟨i, hi, hhd, htl, hnr⟩, _⟩ := backG_spec hm (Q_of hm ha hn)
        have htr := tl_range hm hi
        rw [htl] at htr
        obtain ⟨b, hbe⟩ : ∃ b : Nat, backG g (wts g (runG g)) a = b := ⟨(backG g (wts g (runG g)) a).toNat, by omega⟩
        rw [hbe] at hnr htr htl
        have e1 : wayF g (wts g (runG g)) (f + 1) way a = wayF g (wts g (runG g)) f (way ++ [(a : Int)]) b := by
          simp only [wayF]; rw [if_neg (by intro h; rcases h with h | h; omega; exact hmem h), hbe]
        rw [e1]
        refine wayF_chain hm f (way ++ [(a : Int)]) b (by omega) hnr ?_ (by omega)
        intro p hp
        rw [List.length_append, List.length_singleton] at hp
        by_cases hpl : p < way.length
        · have := hc p hpl
          rw [getD_app (by simp; omega), getD_app hpl]
          exact this
        · have : p = way.length := by omega
          subst this
          have e2 := getD_last (l := way ++ [(a : Int)]) (a := (b : Int))
          rw [List.length_append, List.length_singleton] at e2
          rw [e2, getD_last]
          exact ⟨i, hi, htl, hhd⟩
theorem getD_drop {l : List Int} {k p : Nat} : (l.drop k).getD p 0 = l.getD (k + p) 0 := by
  rw [List.getD_eq_getElem?_getD, List.getElem?_drop, ← List.getD_eq_getElem?_getD]
theorem Cyc.turn {g : Gr} {l : List Int} (h : ∀ p, p < l.length → Ed g (l.getD ((p + 1) % l.length) 0) (l.getD p 0)) (h0 : 0 < l.length) : Cyc g (turnL l.reverse) := by
  have h0r : 0 < l.reverse.length := by simpa using h0
  obtain ⟨k, hk1, hk2, _⟩ := idxI_mem (minL_mem h0r)
  rw [List.length_reverse] at hk2
  have e1 : turnL l.reverse = l.reverse.drop k ++ l.reverse.take k := by simp only [turnL, hk1, Int.toNat_natCast]
  have hlen : (turnL l.reverse).length = l.length := by rw [e1]; simp; omega
  have hg : ∀ i, i < l.length → (turnL l.reverse).getD i 0 = l.getD (l.length - 1 - (i + k) % l.length) 0 := by
    intro i hi
    rw [e1, List.getD_eq_getElem?_getD]
    by_cases hik : i < l.length - k
    · rw [List.getElem?_append_left (by simp; omega), List.getElem?_drop, List.getElem?_reverse (by omega), Nat.mod_eq_of_lt (by omega), ← List.getD_eq_getElem?_getD]
      congr 1; omega
    · rw [List.getElem?_append_right (by simp; omega), List.length_drop, List.length_reverse, List.getElem?_take, if_pos (by omega), List.getElem?_reverse (by omega), ← List.getD_eq_getElem?_getD]
      have : (i + k) % l.length = i + k - l.length := by rw [Nat.mod_eq_sub_mod (by omega), Nat.mod_eq_of_lt (by omega)]
      rw [this]; congr 1; omega
  intro i hi
  rw [hlen] at hi ⊢
  rw [hg i hi, hg _ (Nat.mod_lt _ h0)]
  have hmm : ((i + 1) % l.length + k) % l.length = ((i + k) % l.length + 1) % l.length := by
    rw [Nat.mod_add_mod, Nat.mod_add_mod]; congr 1; omega
  rw [hmm]
  have hj := Nat.mod_lt (i + k) h0
  generalize (i + k) % l.length = j at hj ⊢
  by_cases hlast : j + 1 < l.length
  · rw [Nat.mod_eq_of_lt hlast]
    have := h (l.length - 1 - (j + 1)) (by omega)
    rw [Nat.mod_eq_of_lt (by omega), show l.length - 1 - (j + 1) + 1 = l.length - 1 - j from by omega] at this
    exact this
  · have : j + 1 = l.length := by omega
    rw [this, Nat.mod_self]
    have := h (l.length - 1) (by omega)
    rw [show l.length - 1 + 1 = l.length from by omega, Nat.mod_self] at this
    rw [show l.length - 1 - j = 0 from by omega]
    exact this
/-- Is there a way to number vertices so that edges rise? -/
def Acyc (g : Gr) : Prop := ∃ r : Int → Nat, ∀ i, i < g.es.length → r (tl g i) < r (hd g i)
theorem okG_iff {g : Gr} (hm : mayB g = true) : okG g = true ↔ Acyc g := by
  constructor
  · intro h
    refine ⟨fun v => ((atK g.n.toNat (runG g) (runG g).length).getD v.toNat 0).toNat, fun i hi => ?_⟩
    have h1 := rises_at (ord_right hm h) hi
    have h2 := atK_nonneg (n := g.n.toNat) (l := runG g) (k := (runG g).length) (y := (tl g i).toNat)
    simp only; omega
  · rintro ⟨r, hr⟩
    cases h : okG g with
    | true => rfl
    | false =>
      exfalso
      obtain ⟨y, hy, hn⟩ := okG_not hm h
      have key : ∀ (p : Nat) (y : Nat), y < g.n.toNat → (y : Int) ∉ runG g → r y = p → False := by
        intro p
        induction p using Nat.strongRecOn with
        | _ p ih =>
          intro y hy hn hp
          obtain ⟨t, i, hi, h1, rfl, h2⟩ := Q_of hm hy hn
          have htr := tl_range hm hi
          have hlt := hr i hi
          rw [h1, hp] at hlt
          have e : ((tl g i).toNat : Int) = tl g i := by omega
          exact ih (r (tl g i)) hlt (tl g i).toNat (by omega) (by rw [e]; exact h2) (by rw [e])
      exact key _ y hy hn rfl
theorem cycG_ok {g : Gr} (hm : mayB g = true) (h : okG g = true) : cycG g = [] := by
  have hall := (eachB_iff.1 (okG_all hm h)).2
  have hn := mayB_n hm
  rcases start_eq hm with ⟨h1, h2⟩ | ⟨a, ha, h1, h2, h3⟩
  · have : wayG g = ([], -1) := by
      unfold wayG; rw [h1]; exact wayF_end (.inl (by omega)) _
    simp only [cycG, this]
    rw [if_pos (by omega)]
  · exact absurd (hall a (allN_mem.2 (by omega))) h3
theorem cycG_not {g : Gr} (hm : mayB g = true) (h : okG g = false) : 0 < (cycG g).length ∧ Cyc g (cycG g) := by
  obtain ⟨y, hy, hny⟩ := okG_not hm h
  have hn := mayB_n hm
  rcases start_eq hm with ⟨h1, h2⟩ | ⟨a, ha, h1, h2, h3⟩
  · exfalso
    rcases findI_spec (f := fun n : Int => decide (0 < n)) (l := wts g (runG g)) 0 with ⟨_, h4⟩ | ⟨k, h4, _⟩
    · have h5 := (wt_pos hm hy).2 hny
      have h6 := h4 ((wts g (runG g)).getD y 0) (by rw [List.getD_eq_getElem?_getD, wts_get hy]; exact List.mem_of_getElem? (wts_get hy))
      rw [wts_getD hy] at h6
      exact absurd h5 (of_decide_eq_false h6)
    · omega
  · obtain ⟨h4, h5, h6⟩ := wayF_chain hm g.n.toNat [] a ha h3 (fun p hp => by simp at hp) left_gx
    have hw : wayG g = wayF g (wts g (runG g)) g.n.toNat [] a := by unfold wayG; rw [h1]
    rw [← hw] at h4 h5 h6
    obtain ⟨k, hk1, hk2, hk3⟩ := idxI_mem h6
    have hc : cycG g = turnL ((wayG g).1.drop k).reverse := by
      simp only [cycG]
      rw [if_neg (by omega), hk1, Int.toNat_natCast]
    have hlen : ((wayG g).1.drop k).length = (wayG g).1.length - k := by simp
    have h0 : 0 < ((wayG g).1.drop k).length := by omega
    refine ⟨?_, ?_⟩
    · rw [hc]
      simp only [turnL, List.length_append, List.length_drop, List.length_take, List.length_reverse]
      omega
    · rw [hc]
      refine Cyc.turn (fun p hp => ?_) h0
      rw [hlen] at hp ⊢
      have h7 := h4 (k + p) (by omega)
      rw [getD_drop (p := p)]
      by_cases hlast : p + 1 < (wayG g).1.length - k
      · rw [Nat.mod_eq_of_lt hlast, getD_drop]
        rw [getD_app (by omega)] at h7
        exact h7
      · have : p + 1 = (wayG g).1.length - k := by omega
        rw [this, Nat.mod_self, getD_drop, Nat.add_zero, hk3]
        rw [show k + p + 1 = (wayG g).1.length from by omega, getD_last] at h7
        exact h7
end Go.Ab
end
section
namespace Go.Ab

def nm (names : List Int) (v : Int) : Int := names.getD v.toNat 0
structure RenOk (g : Gr) (names order : List Int) : Prop where
  may : mayB g = true
  nms : eachB names g.n = true
  ord : eachB order (g.es.length : Int) = true
section
variable {g : Gr} {names order : List Int} (h : RenOk g names order)
include h
theorem RenOk.len : (renG g names order).es.length = g.es.length := by
  have := (eachB_iff.1 h.ord).1
  simp only [renG, renK_length]; omega
theorem RenOk.edge {i : Nat} (hi : i < g.es.length) : ∃ j, j < g.es.length ∧ order.getD i 0 = (j : Int) ∧ (renG g names order).es.getD i (0, 0) = (nm names (tl g j), nm names (hd g j)) := by
  have hol := (eachB_iff.1 h.ord).1
  have := eachB_lo h.ord _ (getD_mem (l := order) (m := i) (by omega))
  refine ⟨(order.getD i 0).toNat, by omega, by omega, ?_⟩
  simp only [renG, renK, nm, tl, hd]
  rw [List.getD_eq_getElem?_getD, List.getElem?_map, List.getElem?_range (by omega)]
  rfl
theorem RenOk.back {j : Nat} (hj : j < g.es.length) : ∃ i, i < g.es.length ∧ order.getD i 0 = (j : Int) ∧ (renG g names order).es.getD i (0, 0) = (nm names (tl g j), nm names (hd g j)) := by
  obtain ⟨hol, hall⟩ := eachB_iff.1 h.ord
  obtain ⟨i, hi, hil, he⟩ := idxI_mem (hall (j : Int) (allN_mem.2 (by omega)))
  obtain ⟨j', _, h2, h3⟩ := h.edge (i := i) (by omega)
  have : j' = j := by omega
  subst this
  exact ⟨i, by omega, he, h3⟩
theorem RenOk.inj {a b : Int} (ha : 0 ≤ a ∧ a < g.n) (hb : 0 ≤ b ∧ b < g.n) (e : nm names a = nm names b) : a = b := by
  have hnl := (eachB_iff.1 h.nms).1
  have := eachB_once h.nms (i := a.toNat) (j := b.toNat) (by omega) (by omega) e
  omega
theorem RenOk.range {a : Int} (ha : 0 ≤ a ∧ a < g.n) : 0 ≤ nm names a ∧ nm names a < g.n := by
  have hnl := (eachB_iff.1 h.nms).1
  exact eachB_lo h.nms _ (getD_mem (by omega))
theorem RenOk.inv {a : Int} (ha : 0 ≤ a ∧ a < g.n) : idxI names (nm names a) = a := by
  have hnl := (eachB_iff.1 h.nms).1
  obtain ⟨k, hk, hkl, he⟩ := idxI_mem (getD_mem (l := names) (m := a.toNat) (by omega))
  have h2 := eachB_once h.nms hkl (j := a.toNat) (by omega) he
  have h3 : idxI names (nm names a) = k := hk
  omega
theorem RenOk.of {v : Int} (hv : 0 ≤ v ∧ v < g.n) : ∃ a, (0 ≤ a ∧ a < g.n) ∧ nm names a = v := by
  obtain ⟨hnl, hall⟩ := eachB_iff.1 h.nms
  obtain ⟨k, hk, hkl, he⟩ := idxI_mem (hall v (allN_mem.2 (by omega)))
  exact ⟨k, by omega, he⟩
theorem RenOk.may' : mayB (renG g names order) = true := by
  have hn := mayB_n h.may
  have hlen := h.len
  have hall : (renG g names order).es.any (outE (renG g names order)) = false := by
    rw [List.any_eq_false]
    intro e he
    obtain ⟨i, hi, rfl⟩ := List.getElem_of_mem he
    obtain ⟨j, hj, _, h3⟩ := h.edge (i := i) (by omega)
    rw [List.getD_eq_getElem?_getD, List.getElem?_eq_getElem hi, Option.getD_some] at h3
    rw [h3]
    have h4 := h.range (tl_range h.may hj)
    have h5 := h.range (hd_range h.may hj)
    have e1 : (renG g names order).n = g.n := rfl
    simp only [outE, outB, e1, Bool.or_eq_true, decide_eq_true_eq]
    omega
  have e1 : (renG g names order).n = g.n := rfl
  simp only [mayB, hall, e1, Bool.not_false, Bool.and_true, Bool.and_eq_true, decide_eq_true_eq]
  omega
omit h in
theorem ren_tl {i j : Nat} (e : (renG g names order).es.getD i (0, 0) = (nm names (tl g j), nm names (hd g j))) : tl (renG g names order) i = nm names (tl g j) ∧ hd (renG g names order) i = nm names (hd g j) := ⟨congrArg Prod.fst e, congrArg Prod.snd e⟩
/-- Loops. -/
theorem RenOk.loop : (0 ≤ loopI (renG g names order)) ↔ 0 ≤ loopI g := by
  have key : ∀ g : Gr, (0 ≤ loopI g) ↔ ∃ i, i < g.es.length ∧ tl g i = hd g i := by
    intro g
    have := findI_any (fun e : Edge => decide (e.1 = e.2)) g.es
    rw [show (0 ≤ loopI g) ↔ g.es.any (fun e : Edge => decide (e.1 = e.2)) = true from by rw [← this]; simp [loopI], List.any_eq_true]
    constructor
    · rintro ⟨e, he, h2⟩
      obtain ⟨i, hi, rfl⟩ := List.getElem_of_mem he
      refine ⟨i, hi, ?_⟩
      simpa [tl, hd, List.getD_eq_getElem?_getD, List.getElem?_eq_getElem hi] using h2
    · rintro ⟨i, hi, h2⟩
      refine ⟨_, List.getElem_mem hi, ?_⟩
      simpa [tl, hd, List.getD_eq_getElem?_getD, List.getElem?_eq_getElem hi] using h2
  rw [key, key, h.len]
  constructor
  · rintro ⟨i, hi, e⟩
    obtain ⟨j, hj, _, h3⟩ := h.edge hi
    obtain ⟨e1, e2⟩ := ren_tl h3
    exact ⟨j, hj, h.inj (tl_range h.may hj) (hd_range h.may hj) (by rw [← e1, ← e2, e])⟩
  · rintro ⟨j, hj, e⟩
    obtain ⟨i, hi, _, h3⟩ := h.back hj
    obtain ⟨e1, e2⟩ := ren_tl h3
    exact ⟨i, hi, by rw [e1, e2, e]⟩
omit h in
theorem twice_iff (g : Gr) : (0 ≤ twiceI g) ↔ ∃ i k, i < g.es.length ∧ k < g.es.length ∧ i ≠ k ∧ g.es.getD i (0, 0) = g.es.getD k (0, 0) := by
  have := findI_any (twiceB g) (List.range g.es.length)
  rw [show (0 ≤ twiceI g) ↔ (List.range g.es.length).any (twiceB g) = true from by rw [← this]; simp [twiceI], List.any_eq_true]
  constructor
  · rintro ⟨i, hi, h2⟩
    have hil := List.mem_range.1 hi
    have h3 := of_decide_eq_true h2
    rw [List.mem_iff_getElem?] at h3
    obtain ⟨k, hk⟩ := h3
    rw [List.getElem?_take] at hk
    split at hk
    · rename_i hki
      exact ⟨i, k, hil, by omega, by omega, by rw [List.getD_eq_getElem?_getD (i := k), hk]; rfl⟩
    · cases hk
  · rintro ⟨i, k, hi, hk, hne, e⟩
    have main : ∀ i k, k < i → i < g.es.length → g.es.getD i (0, 0) = g.es.getD k (0, 0) → twiceB g i = true := by
      intro i k hki hi e
      refine decide_eq_true ?_
      rw [e, List.mem_iff_getElem?]
      refine ⟨k, ?_⟩
      rw [List.getElem?_take, if_pos hki, List.getD_eq_getElem?_getD, List.getElem?_eq_getElem (by omega)]; rfl
    rcases Nat.lt_or_gt_of_ne hne with hlt | hgt
    · exact ⟨k, List.mem_range.2 hk, main k i hlt hk e.symm⟩
    · exact ⟨i, List.mem_range.2 hi, main i k hgt hi e⟩
theorem RenOk.twice : (0 ≤ twiceI (renG g names order)) ↔ 0 ≤ twiceI g := by
  have hol := (eachB_iff.1 h.ord).1
  rw [twice_iff, twice_iff, h.len]
  constructor
  · rintro ⟨i, k, hi, hk, hne, e⟩
    obtain ⟨j, hj, ho, h3⟩ := h.edge hi
    obtain ⟨j', hj', ho', h3'⟩ := h.edge hk
    refine ⟨j, j', hj, hj', fun e' => ?_, ?_⟩
    · subst e'
      exact hne (eachB_once h.ord (by omega) (by omega) (by rw [ho, ho']))
    · rw [h3, h3', Prod.mk.injEq] at e
      have e1 := h.inj (tl_range h.may hj) (tl_range h.may hj') e.1
      have e2 := h.inj (hd_range h.may hj) (hd_range h.may hj') e.2
      exact Prod.ext e1 e2
  · rintro ⟨j, j', hj, hj', hne, e⟩
    obtain ⟨i, hi, ho, h3⟩ := h.back hj
    obtain ⟨k, hk, ho', h3'⟩ := h.back hj'
    refine ⟨i, k, hi, hk, fun e' => ?_, ?_⟩
    · subst e'; omega
    · have e1 : tl g j = tl g j' := congrArg Prod.fst e
      have e2 : hd g j = hd g j' := congrArg Prod.snd e
      rw [h3, h3', e1, e2]
theorem RenOk.acyc : okG (renG g names order) = okG g := by
  rw [Bool.eq_iff_iff, okG_iff h.may', okG_iff h.may]
  constructor
  · rintro ⟨r, hr⟩
    refine ⟨fun v => r (nm names v), fun j hj => ?_⟩
    obtain ⟨i, hi, _, h3⟩ := h.back hj
    obtain ⟨e1, e2⟩ := ren_tl h3
    have := hr i (by rw [h.len]; exact hi)
    rwa [e1, e2] at this
  · rintro ⟨r, hr⟩
    refine ⟨fun v => r (idxI names v), fun i hi => ?_⟩
    rw [h.len] at hi
    obtain ⟨j, hj, _, h3⟩ := h.edge hi
    obtain ⟨e1, e2⟩ := ren_tl h3
    have := hr j hj
    rw [e1, e2]; simp only; rw [h.inv (tl_range h.may hj), h.inv (hd_range h.may hj)]
    exact this
omit h in
theorem bare_mem {g : Gr} {y : Int} : y ∈ bareG (·.2) g ↔ (0 ≤ y ∧ y < g.n) ∧ ∀ i, i < g.es.length → hd g i ≠ y := by
  simp only [bareG, bareK, List.mem_map, List.mem_filter, List.mem_range, decide_eq_true_eq]
  have he : ∀ x : Nat, x < g.n.toNat → (((endsL (·.2) g).getD x []).length = 0 ↔ ∀ i, i < g.es.length → hd g i ≠ (x : Int)) := by
    intro x hx
    have e : (endsL (·.2) g).getD x [] = endsZ (·.2) g.es g.es.length (x : Int) := by
      simp [endsL, List.getD_eq_getElem?_getD, List.getElem?_range hx, endsK_eq]
    rw [e, List.length_eq_zero_iff]
    simp only [endsZ, List.map_eq_nil_iff, List.filter_eq_nil_iff, List.mem_range, decide_eq_true_eq]
    rfl
  constructor
  · rintro ⟨x, ⟨hx, h0⟩, rfl⟩
    refine ⟨by simp; omega, (he x hx).1 h0⟩
  · rintro ⟨⟨h1, h2⟩, h3⟩
    have e : ((y.toNat : Nat) : Int) = y := by omega
    exact ⟨y.toNat, ⟨by omega, (he _ (by omega)).2 (by rw [e]; exact h3)⟩, e⟩
omit h in
theorem bare_nodup {f : Edge → Int} {g : Gr} : (bareG f g).Nodup := by
  unfold bareG bareK
  refine List.Pairwise.map _ (fun a b h e => h (Int.ofNat.inj e)) (List.Pairwise.filter _ List.nodup_range)
theorem RenOk.bare : (bareG (·.2) (renG g names order)).length = (bareG (·.2) g).length := by
  have e1 : (renG g names order).n = g.n := rfl
  have h1 : ((bareG (·.2) g).map (nm names)).length ≤ (bareG (·.2) (renG g names order)).length := by
    refine Nat.le_trans (count_le _ (bareG (·.2) (renG g names order)) ?_ ?_) List.countP_le_length
    · rw [List.nodup_iff_pairwise_ne] 
      refine List.Pairwise.map _ (fun a b h => h) ?_
      refine List.Pairwise.imp_of_mem ?_ bare_nodup
      intro a b ha hb hab e
      exact hab (h.inj (bare_mem.1 ha).1 (bare_mem.1 hb).1 e)
    · intro v hv
      obtain ⟨y, hy, rfl⟩ := List.mem_map.1 hv
      obtain ⟨hy1, hy2⟩ := bare_mem.1 hy
      refine bare_mem.2 ⟨h.range hy1, fun i hi e => ?_⟩
      rw [h.len] at hi
      obtain ⟨j, hj, _, h3⟩ := h.edge hi
      rw [(ren_tl h3).2] at e
      exact hy2 j hj (h.inj (hd_range h.may hj) hy1 e)
  have h2 : ((bareG (·.2) (renG g names order)).map (idxI names)).length ≤ (bareG (·.2) g).length := by
    have hsplit : ∀ v ∈ bareG (·.2) (renG g names order), ∃ a, (0 ≤ a ∧ a < g.n) ∧ nm names a = v := fun v hv => h.of (bare_mem.1 hv).1
    refine Nat.le_trans (count_le _ (bareG (·.2) g) ?_ ?_) List.countP_le_length
    · rw [List.nodup_iff_pairwise_ne]
      refine List.Pairwise.map _ (fun a b h => h) ?_
      refine List.Pairwise.imp_of_mem ?_ bare_nodup
      intro a b ha hb hab e
      obtain ⟨a', ha', rfl⟩ := hsplit a ha
      obtain ⟨b', hb', rfl⟩ := hsplit b hb
      rw [h.inv ha', h.inv hb'] at e
      exact hab (by rw [e])
    · intro v hv
      obtain ⟨y, hy, rfl⟩ := List.mem_map.1 hv
      obtain ⟨a, ha, rfl⟩ := hsplit y hy
      rw [h.inv ha]
      refine bare_mem.2 ⟨ha, fun j hj e => ?_⟩
      obtain ⟨i, hi, _, h3⟩ := h.back hj
      refine (bare_mem.1 hy).2 i (by rw [h.len]; exact hi) ?_
      rw [(ren_tl h3).2, e]
  simp only [List.length_map] at h1 h2
  omega
/-- The faults are of one kind. -/
theorem RenOk.kind : (chkG (renG g names order)).1 = (chkG g).1 := by
  have hm := h.may'
  have hc : (0 < (cycG (renG g names order)).length) ↔ 0 < (cycG g).length := by
    have key : ∀ g : Gr, mayB g = true → ((0 < (cycG g).length) ↔ okG g = false) := by
      intro g hm
      cases ho : okG g with
      | true => rw [cycG_ok hm ho]; simp
      | false => simp [(cycG_not hm ho).1]
    rw [key _ hm, key _ h.may, h.acyc]
  have h1 := h.loop
  have h2 := h.twice
  have h3 := h.bare
  simp only [chkG, chkOf, hm, h.may]
  simp only [Bool.true_eq_false, if_false, h1, h2, hc, h3]
  split
  · rfl
  split
  · rfl
  split
  · rfl
  split <;> rfl
end
end Go.Ab
end
section
namespace Go.Ab
open Go.Proofs
set_option maxRecDepth 10000

/-- The number and the head of the new edge from a sink. -/
def nxt : Nat → List Edge → Int → Option (Int × Int)
  | _, [], _ => none
  | m, e :: N, v => if e.1 = v then some ((m : Int), e.2) else nxt (m + 1) N v
theorem nxt_none {v : Int} : ∀ {m : Nat} {N : List Edge}, (∀ e ∈ N, e.1 ≠ v) → nxt m N v = none
  | _, [], _ => rfl
  | m, e :: N, h => by rw [nxt, if_neg (h e (List.mem_cons_self ..)), nxt_none fun e' he => h e' (List.mem_cons_of_mem _ he)]
theorem nxt_some : ∀ {m : Nat} {N : List Edge}, (N.map (·.1)).Nodup → ∀ {j : Nat}, j < N.length → nxt m N (N.getD j (0, 0)).1 = some (((m + j : Nat) : Int), (N.getD j (0, 0)).2)
  | m, e :: N, hd, 0, _ => by rw [List.getD_cons_zero, nxt, if_pos rfl]; rfl
  | m, e :: N, hd, j + 1, hj => by
    rw [List.map_cons, List.nodup_cons] at hd
    have hj' : j < N.length := by simpa using hj
    rw [List.getD_cons_succ, nxt, if_neg (fun h => hd.1 (List.mem_map.2 ⟨_, getD_memX hj', h.symm⟩)), nxt_some hd.2 hj']
    congr 2
    omega
theorem nxt_mem {m : Nat} {N : List Edge} (hd : (N.map (·.1)).Nodup) {v h : Int} (he : (v, h) ∈ N) : ∃ j : Nat, j < N.length ∧ nxt m N v = some (((m + j : Nat) : Int), h) ∧ N.getD j (0, 0) = (v, h) := by
  obtain ⟨j, hj, e⟩ := List.mem_iff_getElem.1 he
  have e2 : N.getD j (0, 0) = (v, h) := by rw [List.getD_eq_getElem?_getD, List.getElem?_eq_getElem hj, Option.getD_some, e]
  have := nxt_some (m := m) hd hj
  rw [e2] at this
  exact ⟨j, hj, this, e2⟩
theorem nxt_cases {m : Nat} {N : List Edge} (hd : (N.map (·.1)).Nodup) (v : Int) : (nxt m N v = none ∧ ∀ e ∈ N, e.1 ≠ v) ∨ ∃ h, (v, h) ∈ N := by
  by_cases h : ∃ e ∈ N, e.1 = v
  · obtain ⟨e, he, rfl⟩ := h
    exact .inr ⟨e.2, he⟩
  · have h' : ∀ e ∈ N, e.1 ≠ v := fun e he h2 => h ⟨e, he, h2⟩
    exact .inl ⟨nxt_none h', h'⟩
def phi (m : Nat) (N : List Edge) (t : It) : It := if 0 ≤ t.1 then t else match nxt m N t.2.1 with
  | some (i, h) => (i, t.2.1, h)
  | none => t
theorem phi_edge {m : Nat} {N : List Edge} {t : It} (h : 0 ≤ t.1) : phi m N t = t := if_pos h
theorem phi_loose {m : Nat} {N : List Edge} {t : It} (h : t.1 < 0) {i x : Int} (hn : nxt m N t.2.1 = some (i, x)) : phi m N t = (i, t.2.1, x) := by
  unfold phi
  rw [if_neg (by omega), hn]
theorem phi_none {m : Nat} {N : List Edge} {t : It} (hn : nxt m N t.2.1 = none) : phi m N t = t := by
  unfold phi
  split
  · rfl
  · rw [hn]
/-- What is asked of an augment that isn't too large. -/
structure AugOk (g : Gr) (p : Pl) : Prop where
  run : RunsP g p
  n : (augG g p).n ≤ 64
  es : (augG g p).es.length ≤ 128
variable {g : Gr} {p : Pl}
theorem newK_mem {v x : Int} : ∀ {k : Nat}, (v, x) ∈ newK g p k → ∃ i, i < k ∧ x = oAt p i ∧ v ∈ loose (goneK g p i)
  | k + 1, h => by
    rw [newK, List.mem_append] at h
    rcases h with h | h
    · obtain ⟨i, h1, h2⟩ := newK_mem h
      exact ⟨i, by omega, h2⟩
    · obtain ⟨w, hw, e⟩ := List.mem_map.1 h
      cases e
      exact ⟨k, by omega, rfl, hw⟩
theorem mem_newK {v : Int} : ∀ {k i : Nat}, i < k → v ∈ loose (goneK g p i) → (v, oAt p i) ∈ newK g p k
  | k + 1, i, hi, h => by
    rw [newK, List.mem_append]
    by_cases e : i = k
    · subst e; exact .inr (List.mem_map.2 ⟨v, h, rfl⟩)
    · exact .inl (mem_newK (by omega) h)
theorem newA_mem {v x : Int} (h : (v, x) ∈ newA g p) : (∃ i, i < g.n.toNat ∧ x = oAt p i ∧ v ∈ loose (goneK g p i)) ∨ (1 < (lastR g p).length ∧ x = g.n ∧ v ∈ loose (lastR g p)) := by
  rw [newA, List.mem_append] at h
  rcases h with h | h
  · exact .inl (newK_mem h)
  · unfold newL at h
    split at h
    · obtain ⟨w, hw, e⟩ := List.mem_map.1 h
      cases e
      exact .inr ⟨by assumption, rfl, hw⟩
    · cases h
theorem loose_mem {l : List It} {t : It} (h : t ∈ l) (h0 : t.1 < 0) : t.2.1 ∈ loose l := List.mem_map.2 ⟨t, List.mem_filter.2 ⟨h, decide_eq_true h0⟩, rfl⟩
theorem mem_loose {l : List It} {v : Int} (h : v ∈ loose l) : ∃ t ∈ l, t.1 < 0 ∧ t.2.1 = v := by
  obtain ⟨t, ht, e⟩ := List.mem_map.1 h
  obtain ⟨h1, h2⟩ := List.mem_filter.1 ht
  exact ⟨t, h1, of_decide_eq_true h2, e⟩
theorem aug_may (h : AugOk g p) : mayB (augG g p) = true := by
  have hm := good_may h.run.1
  have hn := mayB_n hm
  have hnn : g.n ≤ (augG g p).n := by unfold augG; split <;> simp only <;> omega
  have h1 := h.n
  have h2 := h.es
  simp only [mayB, Bool.and_eq_true, decide_eq_true_eq, Bool.not_eq_true', List.any_eq_false]
  refine ⟨⟨⟨by omega, h1⟩, by omega⟩, fun e he => ?_⟩
  have he : e ∈ g.es ++ newA g p := he
  simp only [outE, outB, Bool.or_eq_true, decide_eq_true_eq, not_or]
  rcases List.mem_append.1 he with he | he
  · obtain ⟨i, hi, rfl⟩ := List.mem_iff_getElem.1 he
    have := mayB_e hm hi
    rw [List.getD_eq_getElem?_getD, List.getElem?_eq_getElem hi, Option.getD_some] at this
    omega
  · have q1 := ((newA_ok h.run).2 e he).1
    rcases newA_mem (v := e.1) (x := e.2) he with ⟨i, hi, hx, _⟩ | ⟨hl, hx, _⟩
    · have := oAt_mem h.run.2.1 hi
      omega
    · have : (augG g p).n = g.n + 1 := if_pos hl
      omega
theorem outZ_old {v : Int} : outZ (augG g p) v = outZ g v ++ (endsZ (·.1) (newA g p) (newA g p).length v).map (· + (g.es.length : Int)) := endsZ_app
theorem aug_es (i : Nat) (hi : i < g.es.length) : (augG g p).es.getD i (0, 0) = g.es.getD i (0, 0) := by
  show (g.es ++ newA g p).getD i (0, 0) = _
  rw [List.getD_eq_getElem?_getD, List.getElem?_append_left hi, ← List.getD_eq_getElem?_getD]
theorem aug_es2 (j : Nat) : (augG g p).es.getD (g.es.length + j) (0, 0) = (newA g p).getD j (0, 0) := by
  show (g.es ++ newA g p).getD _ (0, 0) = _
  rw [List.getD_eq_getElem?_getD, List.getElem?_append_right (by omega), Nat.add_sub_cancel_left, ← List.getD_eq_getElem?_getD]
/-- What goes out of a sink of the graph. -/
theorem outZ_sink (hr : RunsP g p) {v : Int} (h0 : 0 ≤ v ∧ v < g.n) (hs : lAt p v = []) : (∀ h, (v, h) ∈ newA g p → ∃ j : Nat, nxt g.es.length (newA g p) v = some (((g.es.length + j : Nat) : Int), h) ∧ outZ (augG g p) v = [((g.es.length + j : Nat) : Int)] ∧ (augG g p).es.getD (g.es.length + j) (0, 0) = (v, h)) ∧
    ((∀ e ∈ newA g p, e.1 ≠ v) → outZ (augG g p) v = []) := by
  obtain ⟨hN1, hN2⟩ := newA_ok hr
  have hz : outZ g v = [] := (outZ_nil hr.2.1 h0.1 h0.2).2 hs
  constructor
  · intro h hm
    obtain ⟨j, hj, h1, h2⟩ := nxt_mem (m := g.es.length) hN1 hm
    refine ⟨j, h1, ?_, by rw [aug_es2, h2]⟩
    have e1 := ends_one hN1 hj
    rw [h2] at e1
    rw [outZ_old, hz, e1]
    simp; omega
  · intro h
    rw [outZ_old, hz, ends_none h]; rfl
theorem outZ_other (hr : RunsP g p) {v : Int} (h0 : 0 ≤ v ∧ v < g.n) (hs : lAt p v ≠ []) : outZ (augG g p) v = outZ g v := by
  obtain ⟨hN1, hN2⟩ := newA_ok hr
  rw [outZ_old, ends_none fun e he h => hs (by rw [← h]; exact (hN2 e he).2)]
  simp
theorem aug_n_le : g.n ≤ (augG g p).n ∧ (augG g p).n ≤ g.n + 1 := by
  unfold augG; split <;> simp only <;> omega
theorem lAt_old (hr : RunsP g p) {v : Int} (h0 : 0 ≤ v ∧ v < g.n) : lAt (augP g p) v = if lAt p v ≠ [] then lAt p v else outZ (augG g p) v := by
  have hn := aug_n_le (g := g) (p := p)
  unfold lAt
  rw [aug_outs hr, docO, List.getD_eq_getElem?_getD, List.getElem?_map, List.getElem?_range (by omega)]
  simp only [Option.map_some, Option.getD_some]
  rw [show ((v.toNat : Nat) : Int) = v by omega]
  by_cases h : p.outs.getD v.toNat [] = []
  · rw [h]; simp
  · rw [if_pos (List.length_pos_iff.2 h), if_pos h]
theorem lAt_new (hr : RunsP g p) (hl : 1 < (lastR g p).length) : lAt (augP g p) g.n = [] ∧ outZ (augG g p) g.n = [] := by
  have hm := good_may hr.1
  have hn := mayB_n hm
  have hG : (augG g p).n = g.n + 1 := if_pos hl
  have hz : outZ (augG g p) g.n = [] := by
    rw [outZ_old, ends_none fun e he h => by have := ((newA_ok hr).2 e he).1; omega]
    simp only [List.map_nil, List.append_nil]
    refine ends_none fun e he h => ?_
    obtain ⟨i, hi, rfl⟩ := List.mem_iff_getElem.1 he
    have := (mayB_e hm hi).1
    rw [List.getD_eq_getElem?_getD, List.getElem?_eq_getElem hi, Option.getD_some] at this
    omega
  refine ⟨?_, hz⟩
  unfold lAt
  rw [aug_outs hr, docO, List.getD_eq_getElem?_getD, List.getElem?_map, List.getElem?_range (by omega)]
  simp only [Option.map_some, Option.getD_some]
  rw [show ((g.n.toNat : Nat) : Int) = g.n by omega, hz]
  have : p.outs.getD g.n.toNat [] = [] := by rw [List.getD_eq_getElem?_getD, List.getElem?_eq_none (by rw [hr.2.1.1]; exact Nat.le_refl _)]; rfl
  rw [this]; rfl
theorem aug_plan (hr : RunsP g p) : PlanOk (augG g p) (augP g p) := by
  have h := hr.2.1
  have hm := good_may hr.1
  have hn := mayB_n hm
  have ha := aug_n_le (g := g) (p := p)
  refine ⟨by rw [aug_outs hr]; simp [docO], ?_, fun x hx => ?_⟩
  · unfold augP augG
    split
    · have e : (g.n + 1).toNat = g.n.toNat + 1 := by omega
      have e2 : allN (g.n.toNat + 1) = allN g.n.toNat ++ [g.n] := by
        simp only [allN, List.range_succ, List.map_append, List.map_cons, List.map_nil]
        congr 2
        show ((g.n.toNat : Nat) : Int) = g.n
        omega
      show (p.ord ++ [g.n]).Perm (allN (g.n + 1).toNat)
      rw [e, e2]
      exact h.2.1.append_right _
    · exact h.2.1
  · have hl : (augP g p).outs.getD x [] = lAt (augP g p) (x : Int) := by unfold lAt; rw [Int.toNat_natCast]
    rw [hl]
    by_cases hxn : (x : Int) < g.n
    · rw [lAt_old hr ⟨by omega, hxn⟩]
      split
      · rename_i h2
        rw [outZ_other hr ⟨by omega, hxn⟩ h2]
        exact lAt_perm h (by omega) hxn
      · exact List.Perm.refl _
    · have hl1 : 1 < (lastR g p).length := Decidable.byContradiction fun hl => by
        have : (augG g p).n = g.n := if_neg hl
        omega
      have e : (x : Int) = g.n := by omega
      rw [e, (lAt_new hr hl1).1, (lAt_new hr hl1).2]
theorem oAt_old (hr : RunsP g p) {k : Nat} (hk : k < g.n.toNat) : oAt (augP g p) k = oAt p k := by
  have := plan_len hr.2.1
  unfold oAt augP
  simp only
  split
  · rw [List.getD_eq_getElem?_getD, List.getElem?_append_left (by omega), ← List.getD_eq_getElem?_getD]
  · rfl
theorem oAt_new (hr : RunsP g p) (hl : 1 < (lastR g p).length) : oAt (augP g p) g.n.toNat = g.n := by
  have := plan_len hr.2.1
  unfold oAt augP
  simp only
  rw [if_pos hl, List.getD_eq_getElem?_getD, List.getElem?_append_right (by omega), this]
  simp
/-- What stands above a vertex in the augment. -/
theorem above_phi (hr : RunsP g p) {x : Int} (h0 : 0 ≤ x ∧ x < g.n) : aboveF (augG g p) x (lAt (augP g p) x) = (aboveF g x (lAt p x)).map (phi g.es.length (newA g p)) := by
  obtain ⟨hN1, hN2⟩ := newA_ok hr
  rw [lAt_old hr h0]
  by_cases hs : lAt p x = []
  · obtain ⟨s1, s2⟩ := outZ_sink hr h0 hs
    have ha : aboveF g x (lAt p x) = [(-1, x, -1)] := if_pos hs
    rw [if_neg (by simp [hs]), ha]
    rcases nxt_cases (m := g.es.length) hN1 x with ⟨h1, h2⟩ | ⟨h, hm⟩
    · rw [s2 h2, List.map_cons, List.map_nil, phi_none h1]
      rfl
    · obtain ⟨j, h1, h2, h3⟩ := s1 h hm
      rw [h2, List.map_cons, List.map_nil, phi_loose (t := (-1, x, -1)) (by simp) h1]
      have h3' : ((augG g p).es.getD (((g.es.length + j : Nat) : Int)).toNat (0, 0)) = (x, h) := by rw [Int.toNat_natCast]; exact h3
      simp only [aboveF, itemF, List.cons_ne_nil, if_false, List.map_cons, List.map_nil, h3']
  · rw [if_pos hs]
    unfold aboveF
    rw [if_neg hs, if_neg hs, List.map_map]
    refine List.map_congr_left fun i hi => ?_
    obtain ⟨k, rfl, hk, ht⟩ := outZ_mem ((lAt_perm hr.2.1 h0.1 h0.2).mem_iff.1 hi)
    simp only [Function.comp]
    rw [phi_edge (t := itemF g x (k : Int)) (by simp [itemF])]
    simp only [itemF, Int.toNat_natCast, aug_es k hk]
theorem need_aug {x : Int} : needN (augG g p) x = needN g x + ((newA g p).filter fun e => decide (e.2 = x)).length := by
  unfold needN
  have : endsZ (·.2) (augG g p).es (augG g p).es.length x = endsZ (·.2) g.es g.es.length x ++ (endsZ (·.2) (newA g p) (newA g p).length x).map (· + (g.es.length : Int)) := endsZ_app
  rw [this, List.length_append, List.length_map]
  congr 1
  generalize newA g p = N
  unfold endsZ
  rw [List.length_map, ← List.countP_eq_length_filter, ← List.countP_eq_length_filter]
  have e : N = (List.range N.length).map fun i => N.getD i (0, 0) := by
    refine List.ext_getElem (by simp) fun i h1 h2 => ?_
    simp [List.getD_eq_getElem?_getD, List.getElem?_eq_getElem h1]
  conv => rhs; rw [e]
  rw [List.countP_map]
  rfl
end Go.Ab
end
section
namespace Go.Ab
open Go.Proofs
set_option maxRecDepth 10000

variable {g : Gr} {p : Pl}
theorem newK_filter (h : PlanOk g p) {k : Nat} : ∀ {K : Nat}, K ≤ g.n.toNat → k < g.n.toNat → (newK g p K).filter (fun e => decide (e.2 = oAt p k)) = if k < K then (loose (goneK g p k)).map fun v => (v, oAt p k) else []
  | 0, _, _ => by simp [newK]
  | K + 1, hK, hk => by
    rw [newK, List.filter_append, newK_filter h (by omega) hk]
    by_cases e : k = K
    · subst e
      rw [if_neg (by omega), if_pos (by omega), List.nil_append, List.filter_eq_self.2]
      intro e he
      obtain ⟨v, _, rfl⟩ := List.mem_map.1 he
      simp
    · have : ((loose (goneK g p K)).map fun v => (v, oAt p K)).filter (fun e => decide (e.2 = oAt p k)) = [] := List.filter_eq_nil_iff.2 fun e' he => by
        obtain ⟨v, _, rfl⟩ := List.mem_map.1 he
        simp only [decide_eq_true_eq]
        intro h2
        exact e (oAt_inj h hk (by omega) h2.symm)
      rw [this, List.append_nil]
      by_cases h3 : k < K
      · rw [if_pos h3, if_pos (by omega)]
      · rw [if_neg h3, if_neg (by omega)]
theorem newA_filter (hr : RunsP g p) {k : Nat} (hk : k < g.n.toNat) : ((newA g p).filter fun e => decide (e.2 = oAt p k)).length = (loose (goneK g p k)).length := by
  have hx := oAt_mem hr.2.1 hk
  rw [newA, List.filter_append, newK_filter hr.2.1 (Nat.le_refl _) hk, if_pos hk]
  have : (newL g p).filter (fun e => decide (e.2 = oAt p k)) = [] := List.filter_eq_nil_iff.2 fun e' he => by
    unfold newL at he
    split at he
    · obtain ⟨v, _, rfl⟩ := List.mem_map.1 he
      simp only [decide_eq_true_eq]; omega
    · cases he
  rw [this]; simp
theorem not_take {l : List Int} (h : l.Nodup) {k : Nat} (hk : k < l.length) : l.getD k 0 ∉ l.take k := by
  intro hm
  obtain ⟨j, hj, e⟩ := List.mem_iff_getElem.1 hm
  simp only [List.length_take] at hj
  have e2 : l.getD j 0 = l.getD k 0 := by
    rw [← e, List.getD_eq_getElem?_getD, List.getElem?_eq_getElem (by omega)]
    simp
  have := nodup_getD h (by omega) hk e2
  omega
theorem take_at {p : Pl} {k : Nat} {v : Int} (hk : k ≤ p.ord.length) (h : v ∈ p.ord.take k) : ∃ j, j < k ∧ oAt p j = v := by
  obtain ⟨j, hj, e⟩ := List.mem_iff_getElem.1 h
  simp only [List.length_take] at hj
  refine ⟨j, by omega, ?_⟩
  rw [← e, oAt, List.getD_eq_getElem?_getD, List.getElem?_eq_getElem (by omega)]
  simp
theorem loose_count {x : Int} {X : List It} (h : ∀ t ∈ X, (t.1 < 0 ↔ ¬ t.2.2 = x)) : X.countP (isH x) + (loose X).length = X.length := by
  rw [List.length_eq_countP_add_countP (isH x)]
  congr 1
  unfold loose
  rw [List.length_map, ← List.countP_eq_length_filter]
  refine List.countP_congr fun t ht => ?_
  have := h t ht
  simp only [isH, decide_eq_true_eq, Bool.not_eq_true, decide_eq_false_iff_not]
  exact this
theorem sim (h : AugOk g p) : ∀ {k : Nat}, k ≤ g.n.toNat → (∀ j, j < k → okK (augG g p) (augP g p) j = true) ∧ (fK (augG g p) (augP g p) k).row = (fK g p k).row.map (phi g.es.length (newA g p))
  | 0, _ => ⟨fun j hj => by omega, rfl⟩
  | k + 1, hk => by
    have hr := h.run
    have hpo := hr.2.1
    have hm := good_may hr.1
    have hmG := aug_may h
    have hQ := aug_plan hr
    obtain ⟨hN1, hN2⟩ := newA_ok hr
    have hnG := aug_n_le (g := g) (p := p)
    obtain ⟨oks, hrow⟩ := sim h (k := k) (by omega)
    obtain ⟨hi, _, _⟩ := run_inv hm hpo (k := k) (by omega) fun j hj => hr.2.2 j (by omega)
    obtain ⟨hiG, hplG, _⟩ := run_inv hmG hQ (k := k) (by omega) oks
    have hR : rReadyF g (fK g p k) (oAt p k) = true := hr.2.2 k (by omega)
    have hxo := oAt_old hr (k := k) (by omega)
    have hx := oAt_mem hpo (k := k) (by omega)
    obtain ⟨hl1, hl2⟩ := loose_inv hm hpo (k := k) (by omega) fun j hj => hr.2.2 j (by omega)
    have hlr : (loose (fK g p k).row).Nodup := (List.nodup_append.1 hl1).2.1
    have hnot : oAt p k ∉ (fK (augG g p) (augP g p) k).pl := by
      rw [hplG, ← hxo]
      exact not_take (plan_nodup hQ) (by rw [plan_len hQ]; omega)
    have hfil := newA_filter hr (k := k) (by omega)
    have hnd := need_aug (g := g) (p := p) (x := oAt p k)
    have habv := above_phi hr hx
    have hin : ∀ v, (v, oAt p k) ∈ newA g p → v ∈ loose (goneK g p k) := fun v hv => by
      rcases newA_mem hv with ⟨i, h1, h2, h3⟩ | ⟨_, h2, _⟩
      · have := oAt_inj hpo (by omega) h1 h2
        subst this; exact h3
      · omega
    have hout : ∀ v, v ∈ loose (goneK g p k) → (v, oAt p k) ∈ newA g p := fun v hv => List.mem_append_left _ (mem_newK (by omega) hv)
    -- what is to be shown, of the step
    suffices hs : okK (augG g p) (augP g p) k = true ∧ (fK (augG g p) (augP g p) (k + 1)).row = (fK g p (k + 1)).row.map (phi g.es.length (newA g p)) by
      refine ⟨fun j hj => ?_, hs.2⟩
      by_cases e : j = k
      · subst e; exact hs.1
      · exact oks j (by omega)
    have hfG : (fK (augG g p) (augP g p) (k + 1)) = (succF (augG g p) (fK (augG g p) (augP g p) k) (oAt p k) (lAt (augP g p) (oAt p k))).2 := by
      rw [← hxo]; rfl
    have hfg : (fK g p (k + 1)) = (succF g (fK g p k) (oAt p k) (lAt p (oAt p k))).2 := rfl
    have hok : okK (augG g p) (augP g p) k = rReadyF (augG g p) (fK (augG g p) (augP g p) k) (oAt p k) := by unfold okK; rw [hxo]
    rw [hfG, hfg, hok]
    have hgk : goneK g p k = (succF g (fK g p k) (oAt p k) (lAt p (oAt p k))).1.1 := rfl
    generalize oAt p k = x at *
    by_cases hn : needN g x = 0
    · have hno := ready_none hm hi.toFrInv hx.1 hn
      rw [succ_none _ hno] at hgk
      have hnG0 : needN (augG g p) x = 0 := by rw [hnd, hn, hfil, hgk]; rfl
      have hnoG := ready_none hmG hiG.toFrInv hx.1 hnG0
      refine ⟨?_, ?_⟩
      · unfold rReadyF
        rw [if_neg (by rintro (h | h | h); omega; omega; exact hnot h), if_pos hnG0]
      · rw [succ_none _ hno, succ_none _ hnoG]
        simp only [List.map_append]
        rw [habv, hrow]
    · obtain ⟨A, X, C, hrw, nA, nC, hX, cX⟩ := ready_split hm hi.toFrInv hR hn
      rw [succ_of _ hrw nA nC hX] at hgk
      simp only at hgk
      rw [hgk] at hin hout hfil
      have hXm : ∀ t ∈ X, t ∈ (fK g p k).row := fun t ht => by rw [hrw]; simp [ht]
      have hAm : ∀ t ∈ A, t ∈ (fK g p k).row := fun t ht => by rw [hrw]; simp [ht]
      have hCm : ∀ t ∈ C, t ∈ (fK g p k).row := fun t ht => by rw [hrw]; simp [ht]
      have hit : ∀ t ∈ X, (t.1 < 0 ↔ ¬ t.2.2 = x) := fun t ht => by
        have h1 := (hi.it t (hXm t ht)).head hm
        have h2 := hX.al t ht
        omega
      rw [hrw, loose_app, loose_app, List.nodup_append, List.nodup_append] at hlr
      have nA' : NoH x (A.map (phi g.es.length (newA g p))) := fun t' ht' => by
        obtain ⟨t, ht, rfl⟩ := List.mem_map.1 ht'
        by_cases h0 : 0 ≤ t.1
        · rw [phi_edge h0]; exact nA t ht
        · rcases nxt_cases (m := g.es.length) hN1 t.2.1 with ⟨h1, _⟩ | ⟨y, h1⟩
          · rw [phi_none h1]; exact nA t ht
          · obtain ⟨j, _, h2, _⟩ := nxt_mem (m := g.es.length) hN1 h1
            rw [phi_loose (by omega) h2]
            intro e
            have e : y = x := e
            subst e
            exact hlr.1.2.2 _ (loose_mem ht (by omega)) _ (hin _ h1) rfl
      have nC' : NoH x (C.map (phi g.es.length (newA g p))) := fun t' ht' => by
        obtain ⟨t, ht, rfl⟩ := List.mem_map.1 ht'
        by_cases h0 : 0 ≤ t.1
        · rw [phi_edge h0]; exact nC t ht
        · rcases nxt_cases (m := g.es.length) hN1 t.2.1 with ⟨h1, _⟩ | ⟨y, h1⟩
          · rw [phi_none h1]; exact nC t ht
          · obtain ⟨j, _, h2, _⟩ := nxt_mem (m := g.es.length) hN1 h1
            rw [phi_loose (by omega) h2]
            intro e
            have e : y = x := e
            subst e
            exact hlr.2.2 _ (List.mem_append_right _ (hin _ h1)) _ (loose_mem ht (by omega)) rfl
      have hXx : ∀ t ∈ X, (phi g.es.length (newA g p) t).2.2 = x := fun t ht => by
        by_cases h0 : 0 ≤ t.1
        · rw [phi_edge h0]
          have := hit t ht
          omega
        · obtain ⟨j, _, h2, _⟩ := nxt_mem (m := g.es.length) hN1 (hout _ (loose_mem ht (by omega)))
          rw [phi_loose (by omega) h2]
      have hX' : Mid x (X.map (phi g.es.length (newA g p))) := by
        obtain ⟨q, X0, e1, _⟩ := hX.fst
        obtain ⟨X1, q', e2, _⟩ := hX.lst
        refine ⟨⟨phi g.es.length (newA g p) q, X0.map (phi g.es.length (newA g p)), by rw [e1]; rfl, hXx q (by rw [e1]; simp)⟩, ⟨X1.map (phi g.es.length (newA g p)), phi g.es.length (newA g p) q', by rw [e2]; simp, hXx q' (by rw [e2]; simp)⟩, fun t' ht' => ?_⟩
        obtain ⟨t, ht, rfl⟩ := List.mem_map.1 ht'
        exact .inl (hXx t ht)
      have hcnt : (X.map (phi g.es.length (newA g p))).countP (isH x) = needN (augG g p) x := by
        have h1 : (X.map (phi g.es.length (newA g p))).countP (isH x) = (X.map (phi g.es.length (newA g p))).length := List.countP_eq_length.2 fun t' ht' => by
          obtain ⟨t, ht, rfl⟩ := List.mem_map.1 ht'
          simp [isH, hXx t ht]
        rw [h1, List.length_map, hnd, hfil, ← cX, loose_count hit]
      have hrG : (fK (augG g p) (augP g p) k).row = A.map (phi g.es.length (newA g p)) ++ X.map (phi g.es.length (newA g p)) ++ C.map (phi g.es.length (newA g p)) := by rw [hrow, hrw]; simp
      refine ⟨ready_join hmG hiG.toFrInv hx.1 (by omega) hnot hrG nA' nC' hX' hcnt, ?_⟩
      rw [succ_of _ hrw nA nC hX, succ_of _ hrG nA' nC' hX']
      simp only [List.map_append]
      rw [habv]
/-- A loose end goes, or stands in the last row. -/
theorem persist (hr : RunsP g p) {v : Int} {k : Nat} : ∀ {K : Nat}, k ≤ K → K ≤ g.n.toNat → v ∈ loose (fK g p k).row → (∃ i, i < K ∧ v ∈ loose (goneK g p i)) ∨ v ∈ loose (fK g p K).row
  | 0, h1, _, hv => by
    obtain rfl : k = 0 := by omega
    exact .inr hv
  | K + 1, h1, h2, hv => by
    by_cases e : k = K + 1
    · subst e; exact .inr hv
    · rcases persist hr (K := K) (by omega) (by omega) hv with ⟨i, h3, h4⟩ | h3
      · exact .inl ⟨i, by omega, h4⟩
      · have hm := good_may hr.1
        obtain ⟨hi, _, _⟩ := run_inv hm hr.2.1 (k := K) (by omega) fun j hj => hr.2.2 j (by omega)
        obtain ⟨A, X, C, hrw, _, _, _, hs⟩ := succ_cases hm hi.toFrInv (hr.2.2 K (by omega))
        have hg : goneK g p K = X := by unfold goneK; rw [hs]
        have hrow : (fK g p (K + 1)).row = A ++ aboveF g (oAt p K) (lAt p (oAt p K)) ++ C := by show (succF _ _ _ _).2.row = _; rw [hs]
        rw [hrw, loose_app, loose_app, List.mem_append, List.mem_append] at h3
        rcases h3 with (h3 | h3) | h3
        · refine .inr ?_
          rw [hrow, loose_app, loose_app]; simp [h3]
        · exact .inl ⟨K, by omega, by rw [hg]; exact h3⟩
        · refine .inr ?_
          rw [hrow, loose_app, loose_app]; simp [h3]
end Go.Ab
end
section
namespace Go.Ab
open Go.Proofs
set_option maxRecDepth 10000

variable {g : Gr} {p : Pl}
theorem last_ne (hr : RunsP g p) : lastR g p ≠ [] := by
  have hm := good_may hr.1
  have hn := mayB_n hm
  obtain ⟨k, hk⟩ : ∃ k, g.n.toNat = k + 1 := ⟨g.n.toNat - 1, by omega⟩
  obtain ⟨hi, _, _⟩ := run_inv hm hr.2.1 (k := k) (by omega) fun j hj => hr.2.2 j (by omega)
  obtain ⟨A, X, C, hrw, _, _, _, hs⟩ := succ_cases hm hi.toFrInv (hr.2.2 k (by omega))
  unfold lastR
  rw [hk]
  show (succF _ _ _ _).2.row ≠ []
  rw [hs]
  have := (aboveF_len (g := g) (x := oAt p k) (outs := lAt p (oAt p k))).1
  intro e
  have h2 := congrArg List.length e
  simp at h2
  rw [h2.2.1] at this
  simp at this
/-- The vertex that is placed last is a sink, and its loose end is in the last row. -/
theorem last_sink (hr : RunsP g p) : lAt p (oAt p (g.n.toNat - 1)) = [] ∧ oAt p (g.n.toNat - 1) ∈ loose (lastR g p) := by
  have hm := good_may hr.1
  have hn := mayB_n hm
  obtain ⟨k, hk⟩ : ∃ k, g.n.toNat = k + 1 := ⟨g.n.toNat - 1, by omega⟩
  obtain ⟨hi, _, _⟩ := run_inv hm hr.2.1 (k := k) (by omega) fun j hj => hr.2.2 j (by omega)
  obtain ⟨A, X, C, hrw, _, _, _, hs⟩ := succ_cases hm hi.toFrInv (hr.2.2 k (by omega))
  have hL : lastR g p = A ++ aboveF g (oAt p k) (lAt p (oAt p k)) ++ C := by
    unfold lastR; rw [hk]
    show (succF _ _ _ _).2.row = _
    rw [hs]
  have hk1 : g.n.toNat - 1 = k := by omega
  rw [hk1]
  have hll := last_loose hr
  have hx := oAt_mem hr.2.1 (k := k) (by omega)
  have h0 : lAt p (oAt p k) = [] := by
    refine Decidable.byContradiction fun h0 => ?_
    have ha : aboveF g (oAt p k) (lAt p (oAt p k)) = (lAt p (oAt p k)).map (itemF g (oAt p k)) := if_neg h0
    obtain ⟨i, hi'⟩ := List.exists_mem_of_ne_nil _ h0
    have h1 := hll (itemF g (oAt p k) i) (by rw [hL, ha]; simp; exact .inr (.inl ⟨i, hi', rfl⟩))
    obtain ⟨e, rfl, _⟩ := outZ_mem ((lAt_perm hr.2.1 hx.1 hx.2).mem_iff.1 hi')
    simp [itemF] at h1
    omega
  refine ⟨h0, ?_⟩
  have ha : aboveF g (oAt p k) (lAt p (oAt p k)) = [(-1, oAt p k, -1)] := if_pos h0
  rw [hL, ha, loose_app, loose_app]
  simp [loose]
/-- With one end the last row's sink is the vertex that is placed last. -/
theorem last_one (hr : RunsP g p) (hl : ¬ 1 < (lastR g p).length) {v : Int} (hv : v ∈ loose (lastR g p)) : v = oAt p (g.n.toNat - 1) := by
  have h1 := (last_sink hr).2
  have h2 : (loose (lastR g p)).length ≤ 1 := Nat.le_trans loose_len (by omega)
  match hL : loose (lastR g p), h2 with
  | [], _ => rw [hL] at hv; cases hv
  | [w], _ =>
    rw [hL, List.mem_singleton] at hv h1
    rw [hv, h1]
/-- The edges of the augment go from what is placed to what isn't yet. -/
theorem fin_step (h : AugOk g p) (hl : 1 < (lastR g p).length) : okK (augG g p) (augP g p) g.n.toNat = true ∧ (fK (augG g p) (augP g p) (g.n.toNat + 1)).row = [(-1, g.n, -1)] := by
  have hr := h.run
  have hm := good_may hr.1
  have hn := mayB_n hm
  have hmG := aug_may h
  have hQ := aug_plan hr
  obtain ⟨hN1, hN2⟩ := newA_ok hr
  obtain ⟨oks, hrow⟩ := sim h (k := g.n.toNat) (Nat.le_refl _)
  have hG : (augG g p).n = g.n + 1 := if_pos hl
  obtain ⟨hiG, hplG, _⟩ := run_inv hmG hQ (k := g.n.toNat) (by omega) oks
  have hx := oAt_new hr hl
  have hnot : g.n ∉ (fK (augG g p) (augP g p) g.n.toNat).pl := by
    rw [hplG]
    have := not_take (plan_nodup hQ) (k := g.n.toNat) (by rw [plan_len hQ]; omega)
    rw [show (augP g p).ord.getD g.n.toNat 0 = g.n from hx] at this
    exact this
  have hll := last_loose hr
  have hrow : (fK (augG g p) (augP g p) g.n.toNat).row = (lastR g p).map (phi g.es.length (newA g p)) := hrow
  have hmem : ∀ v ∈ loose (lastR g p), (v, g.n) ∈ newA g p := fun v hv => by
    refine List.mem_append_right _ ?_
    unfold newL
    rw [if_pos hl]
    exact List.mem_map.2 ⟨v, hv, rfl⟩
  have hXx : ∀ t ∈ lastR g p, (phi g.es.length (newA g p) t).2.2 = g.n := fun t ht => by
    obtain ⟨j, _, h2, _⟩ := nxt_mem (m := g.es.length) hN1 (hmem _ (loose_mem ht (hll t ht)))
    rw [phi_loose (hll t ht) h2]
  have hX' : Mid g.n ((lastR g p).map (phi g.es.length (newA g p))) := by
    have hne := last_ne hr
    refine ⟨?_, ?_, fun t' ht' => ?_⟩
    · match hL : lastR g p, hne with
      | t :: l, _ => exact ⟨_, _, rfl, hXx t (by rw [hL]; simp)⟩
    · have e := List.dropLast_concat_getLast hne
      refine ⟨(lastR g p).dropLast.map (phi g.es.length (newA g p)), phi g.es.length (newA g p) ((lastR g p).getLast hne), ?_, hXx _ (List.getLast_mem hne)⟩
      conv => lhs; rw [← e]
      simp
    · obtain ⟨t, ht, rfl⟩ := List.mem_map.1 ht'
      exact .inl (hXx t ht)
  have hno : needN g g.n = 0 := by
    have : ¬ 0 < needN g g.n := fun h0 => by
      obtain ⟨i, hi⟩ := List.exists_mem_of_length_pos h0
      obtain ⟨⟨h1, h2⟩, h3⟩ := endsZ_mem hi
      have := (mayB_e hm (k := i.toNat) (by omega)).2
      have h3 : (g.es.getD i.toNat (0, 0)).2 = g.n := h3
      omega
    omega
  have hcnt : ((lastR g p).map (phi g.es.length (newA g p))).countP (isH g.n) = needN (augG g p) g.n := by
    have h1 : ((lastR g p).map (phi g.es.length (newA g p))).countP (isH g.n) = ((lastR g p).map (phi g.es.length (newA g p))).length := List.countP_eq_length.2 fun t' ht' => by
      obtain ⟨t, ht, rfl⟩ := List.mem_map.1 ht'
      simp [isH, hXx t ht]
    have h2 : (newK g p g.n.toNat).filter (fun e => decide (e.2 = g.n)) = [] := List.filter_eq_nil_iff.2 fun e he => by
      obtain ⟨i, hi, hx2, _⟩ := newK_mem (v := e.1) (x := e.2) he
      have := oAt_mem hr.2.1 hi
      simp only [decide_eq_true_eq]; omega
    have h3 : (newL g p).filter (fun e => decide (e.2 = g.n)) = newL g p := List.filter_eq_self.2 fun e he => by
      unfold newL at he
      rw [if_pos hl] at he
      obtain ⟨v, _, rfl⟩ := List.mem_map.1 he
      simp
    have h4 : (loose (lastR g p)).length = (lastR g p).length := by
      unfold loose
      rw [List.length_map, List.filter_eq_self.2]
      intro t ht
      exact decide_eq_true (hll t ht)
    rw [h1, List.length_map, need_aug, hno, newA, List.filter_append, h2, h3]
    unfold newL
    rw [if_pos hl]
    simp [h4]
  have hrG : (fK (augG g p) (augP g p) g.n.toNat).row = [] ++ (lastR g p).map (phi g.es.length (newA g p)) ++ [] := by rw [hrow]; simp
  have nil : NoH g.n ([] : List It) := fun t ht => by cases ht
  refine ⟨?_, ?_⟩
  · unfold okK
    rw [hx]
    exact ready_join hmG hiG.toFrInv (by omega) (by omega) hnot hrG nil nil hX' hcnt
  · show (succF _ _ _ _).2.row = _
    rw [hx, succ_of _ hrG nil nil hX', (lAt_new hr hl).1]
    rfl
theorem aug_oks (h : AugOk g p) : ∀ k, k < (augG g p).n.toNat → okK (augG g p) (augP g p) k = true := by
  have hn := mayB_n (good_may h.run.1)
  intro k hk
  by_cases hkn : k < g.n.toNat
  · exact (sim h (k := g.n.toNat) (Nat.le_refl _)).1 k hkn
  · by_cases hl : 1 < (lastR g p).length
    · have hG : (augG g p).n = g.n + 1 := if_pos hl
      obtain rfl : k = g.n.toNat := by omega
      exact (fin_step h hl).1
    · have hG : (augG g p).n = g.n := if_neg hl
      omega
/-- Which items of the augment's rows are loose. -/
theorem aug_rows (h : AugOk g p) {k : Nat} (hk : k < (augG g p).n.toNat) : (∀ t ∈ (fK (augG g p) (augP g p) (k + 1)).row, (t.1 < 0 ↔ k + 1 = (augG g p).n.toNat)) ∧ (k + 1 = (augG g p).n.toNat → (fK (augG g p) (augP g p) (k + 1)).row.length = 1) := by
  have hr := h.run
  have hm := good_may hr.1
  have hn := mayB_n hm
  obtain ⟨hN1, hN2⟩ := newA_ok hr
  by_cases hkn : k < g.n.toNat
  rotate_left
  · have hl : 1 < (lastR g p).length := Decidable.byContradiction fun hl => by
      have hG : (augG g p).n = g.n := if_neg hl
      omega
    have hG : (augG g p).n = g.n + 1 := if_pos hl
    obtain rfl : k = g.n.toNat := by omega
    rw [(fin_step h hl).2]
    refine ⟨fun t ht => ?_, fun _ => rfl⟩
    rw [List.mem_singleton] at ht
    subst ht
    simp only
    omega
  have hrow := (sim h (k := k + 1) (by omega)).2
  obtain ⟨hl1, hl2⟩ := loose_inv hm hr.2.1 (k := g.n.toNat) (Nat.le_refl _) hr.2.2
  obtain ⟨_, hl3⟩ := loose_inv hm hr.2.1 (k := k + 1) (by omega) fun j hj => hr.2.2 j (by omega)
  obtain ⟨_, hpl, _⟩ := run_inv hm hr.2.1 (k := k + 1) (by omega) fun j hj => hr.2.2 j (by omega)
  have hlr : fK g p g.n.toNat = ⟨lastR g p, (fK g p g.n.toNat).pl⟩ := rfl
  have key : ∀ s ∈ (fK g p (k + 1)).row, s.1 < 0 → (∃ y, (s.2.1, y) ∈ newA g p) ∨ (¬ 1 < (lastR g p).length ∧ s.2.1 ∈ loose (lastR g p)) := fun s hs h0 => by
    rcases persist hr (K := g.n.toNat) (by omega) (Nat.le_refl _) (loose_mem hs h0) with ⟨i, h1, h2⟩ | h2
    · exact .inl ⟨_, List.mem_append_left _ (mem_newK h1 h2)⟩
    · by_cases hl : 1 < (lastR g p).length
      · refine .inl ⟨g.n, List.mem_append_right _ ?_⟩
        unfold newL
        rw [if_pos hl]
        exact List.mem_map.2 ⟨_, h2, rfl⟩
      · exact .inr ⟨hl, h2⟩
  rw [hrow]
  constructor
  · intro t ht
    obtain ⟨s, hs, rfl⟩ := List.mem_map.1 ht
    by_cases h0 : 0 ≤ s.1
    · rw [phi_edge h0]
      refine ⟨fun h => by omega, fun hk1 => ?_⟩
      by_cases hl : 1 < (lastR g p).length
      · have hG : (augG g p).n = g.n + 1 := if_pos hl
        omega
      · have hG : (augG g p).n = g.n := if_neg hl
        have : k + 1 = g.n.toNat := by omega
        rw [this] at hs
        exact last_loose hr s hs
    · rcases key s hs (by omega) with ⟨y, hy⟩ | ⟨hl, hv⟩
      · obtain ⟨j, _, h2, _⟩ := nxt_mem (m := g.es.length) hN1 hy
        rw [phi_loose (by omega) h2]
        refine ⟨fun h => by simp only at h; omega, fun hk1 => ?_⟩
        exfalso
        by_cases hl : 1 < (lastR g p).length
        · have hG : (augG g p).n = g.n + 1 := if_pos hl
          omega
        · have hG : (augG g p).n = g.n := if_neg hl
          have hkk : k + 1 = g.n.toNat := by omega
          rw [hkk] at hs
          rcases newA_mem hy with ⟨i, h3, _, h4⟩ | ⟨h3, _⟩
          · exact (List.nodup_append.1 hl1).2.2 s.2.1 (List.mem_map.2 ⟨_, mem_newK h3 h4, rfl⟩) s.2.1 (loose_mem hs (by omega)) rfl
          · exact hl h3
      · have hG : (augG g p).n = g.n := if_neg hl
        have hno : ∀ e ∈ newA g p, e.1 ≠ s.2.1 := fun e he h2 => by
          rcases newA_mem (v := e.1) (x := e.2) he with ⟨i, h3, _, h4⟩ | ⟨h3, _⟩
          · exact (List.nodup_append.1 hl1).2.2 e.1 (List.mem_map.2 ⟨_, mem_newK h3 h4, rfl⟩) s.2.1 hv h2
          · exact hl h3
        rw [phi_none (nxt_none hno)]
        refine ⟨fun _ => ?_, fun _ => by omega⟩
        have hw := last_one hr hl hv
        have hin := (hl3 s.2.1 (List.mem_append_right _ (loose_mem hs (by omega)))).1
        rw [hpl] at hin
        obtain ⟨j, hj, e⟩ := take_at (by rw [plan_len hr.2.1]; omega) hin
        have := oAt_inj hr.2.1 (by omega) (by omega) (e.trans hw)
        omega
  · intro hk1
    by_cases hl : 1 < (lastR g p).length
    · have hG : (augG g p).n = g.n + 1 := if_pos hl
      omega
    · have hG : (augG g p).n = g.n := if_neg hl
      have hkk : k + 1 = g.n.toNat := by omega
      rw [hkk, List.length_map]
      have h1 := List.length_pos_iff.2 (last_ne hr)
      show (lastR g p).length = 1
      omega
theorem bare_memF {f : Edge → Int} {g : Gr} {y : Int} : y ∈ bareG f g ↔ (0 ≤ y ∧ y < g.n) ∧ endsZ f g.es g.es.length y = [] := by
  simp only [bareG, bareK, List.mem_map, List.mem_filter, List.mem_range, decide_eq_true_eq]
  have he : ∀ x : Nat, x < g.n.toNat → (((endsL f g).getD x []).length = 0 ↔ endsZ f g.es g.es.length (x : Int) = []) := by
    intro x hx
    have e : (endsL f g).getD x [] = endsZ f g.es g.es.length (x : Int) := by
      simp [endsL, List.getD_eq_getElem?_getD, List.getElem?_range hx, endsK_eq]
    rw [e, List.length_eq_zero_iff]
  constructor
  · rintro ⟨x, ⟨hx, h0⟩, rfl⟩
    exact ⟨by simp; omega, (he x hx).1 h0⟩
  · rintro ⟨⟨h1, h2⟩, h3⟩
    have e : ((y.toNat : Nat) : Int) = y := by omega
    exact ⟨y.toNat, ⟨by omega, (he _ (by omega)).2 (by rw [e]; exact h3)⟩, e⟩
theorem one_of {l : List Int} (hd : l.Nodup) {s : Int} (h : ∀ y ∈ l, y = s) : l.length ≤ 1 := by
  match l, hd, h with
  | [], _, _ => simp
  | [_], _, _ => simp
  | a :: b :: l, hd, h =>
    rw [List.nodup_cons] at hd
    exact absurd (by rw [h a (by simp), h b (by simp)]; simp) hd.1
theorem aug_good (h : AugOk g p) : (chkG (augG g p)).1 = 0 := by
  have hr := h.run
  have hm := good_may hr.1
  have hn := mayB_n hm
  have hmG := aug_may h
  have hQ := aug_plan hr
  have hoks := aug_oks h
  have hna := aug_n_le (g := g) (p := p)
  obtain ⟨hN1, hN2⟩ := newA_ok hr
  have hfw : ∀ i, i < (augG g p).es.length → ∃ j k, j < k ∧ k < (augG g p).n.toNat ∧ tl (augG g p) i = oAt (augP g p) j ∧ hd (augG g p) i = oAt (augP g p) k := fun i hi => by
    have hh := (mayB_e hmG hi).2
    obtain ⟨k, hk, e⟩ := oAt_all hQ hh.1 hh.2
    obtain ⟨hiG, hplG, _⟩ := run_inv hmG hQ (k := k) (by omega) fun j hj => hoks j (by omega)
    obtain ⟨t, ht, e1, e2, _⟩ := all_in hmG hiG (hoks k hk) hi e.symm
    have hin := hiG.tail t ht (by omega)
    rw [hplG] at hin
    obtain ⟨j, hj, e3⟩ := take_at (by rw [plan_len hQ]; omega) hin
    exact ⟨j, k, hj, hk, by rw [← e2, e3], e.symm⟩
  have hacyc : okG (augG g p) = true := (okG_iff hmG).2 ⟨fun v => (findI (fun y => decide (y = v)) (augP g p).ord).toNat, fun i hi => by
    obtain ⟨j, k, hjk, hk, e1, e2⟩ := hfw i hi
    have hat : ∀ q, q < (augG g p).n.toNat → findI (fun y => decide (y = oAt (augP g p) q)) (augP g p).ord = q := fun q hq =>
      findI_at (d := 0) (by rw [plan_len hQ]; exact hq) (fun i' hi' => decide_eq_false fun e => by
        have := oAt_inj hQ (by omega) hq e
        omega) (decide_eq_true rfl)
    simp only
    rw [e1, e2, hat j (by omega), hat k hk]
    omega⟩
  have hloop : ¬ 0 ≤ loopI (augG g p) := fun hl => by
    have h1 := findI_any (fun e : Edge => decide (e.1 = e.2)) (augG g p).es
    have h0 : decide (0 ≤ findI (fun e : Edge => decide (e.1 = e.2)) (augG g p).es) = true := decide_eq_true hl
    rw [h0] at h1
    obtain ⟨e, he, h2⟩ := List.any_eq_true.1 h1.symm
    obtain ⟨i, hi, rfl⟩ := List.mem_iff_getElem.1 he
    obtain ⟨j, k, hjk, hk, e1, e2⟩ := hfw i hi
    have h3 : tl (augG g p) i = hd (augG g p) i := by simpa [tl, hd, List.getD_eq_getElem?_getD, List.getElem?_eq_getElem hi] using h2
    have := oAt_inj hQ (by omega) hk (e1.symm.trans (h3.trans e2))
    omega
  have htw : ¬ 0 ≤ twiceI (augG g p) := fun ht => by
    obtain ⟨i, k, hi, hk, hik, e⟩ := (twice_iff _).1 ht
    have hgt : ¬ 0 ≤ twiceI g := by
      have := hr.1
      unfold chkG chkOf at this
      intro h2
      split at this
      · cases this
      split at this
      · cases this
      cases this
    have hel : (augG g p).es.length = g.es.length + (newA g p).length := List.length_append
    have mixed : ∀ a b, a < g.es.length → b < (newA g p).length → g.es.getD a (0, 0) ≠ (newA g p).getD b (0, 0) := fun a b ha hb e => by
      obtain ⟨q0, q1⟩ := hN2 _ (getD_memX (d := (0, 0)) hb)
      have hz := (outZ_nil hr.2.1 q0.1 q0.2).2 q1
      have : (a : Int) ∈ outZ g ((newA g p).getD b (0, 0)).1 := outZ_iff.2 ⟨⟨by omega, by omega⟩, by rw [Int.toNat_natCast, e]⟩
      rw [hz] at this
      cases this
    by_cases h1 : i < g.es.length
    · by_cases h2 : k < g.es.length
      · rw [aug_es i h1, aug_es k h2] at e
        exact hgt ((twice_iff g).2 ⟨i, k, h1, h2, hik, e⟩)
      · obtain ⟨b, rfl⟩ : ∃ b, k = g.es.length + b := ⟨k - g.es.length, by omega⟩
        rw [aug_es i h1, aug_es2] at e
        exact mixed i b h1 (by omega) e
    · obtain ⟨a, rfl⟩ : ∃ a, i = g.es.length + a := ⟨i - g.es.length, by omega⟩
      by_cases h2 : k < g.es.length
      · rw [aug_es k h2, aug_es2] at e
        exact mixed k a h2 (by omega) e.symm
      · obtain ⟨b, rfl⟩ : ∃ b, k = g.es.length + b := ⟨k - g.es.length, by omega⟩
        rw [aug_es2, aug_es2] at e
        have e1 : ∀ q, q < (newA g p).length → ((newA g p).map (·.1)).getD q 0 = ((newA g p).getD q (0, 0)).1 := fun q hq => by
          simp [List.getD_eq_getElem?_getD, List.getElem?_eq_getElem hq]
        have := nodup_getD hN1 (i := a) (j := b) (by simp; omega) (by simp; omega) (by rw [e1 a (by omega), e1 b (by omega), e])
        omega
  have hbare : ¬ 1 < (bareG (·.2) (augG g p)).length := fun hb => by
    obtain ⟨s, hs⟩ : ∃ s, ∀ y ∈ bareG (·.2) (augG g p), y = s := by
      refine ⟨oAt p 0, fun y hy => ?_⟩
      obtain ⟨⟨y0, y1⟩, y2⟩ := bare_mem9.1 hy
      rw [need_aug] at y2
      have yn : y < g.n := by
        refine Decidable.byContradiction fun hyn => ?_
        have hl : 1 < (lastR g p).length := Decidable.byContradiction fun hl => by
          have hG : (augG g p).n = g.n := if_neg hl
          omega
        have e : y = g.n := by have hG : (augG g p).n = g.n + 1 := if_pos hl; omega
        have hm1 := (last_sink hr).2
        have : (oAt p (g.n.toNat - 1), y) ∈ (newA g p).filter fun e => decide (e.2 = y) := List.mem_filter.2 ⟨List.mem_append_right _ (by
          unfold newL
          rw [if_pos hl]
          exact List.mem_map.2 ⟨_, hm1, by rw [e]⟩), by simp⟩
        have := List.length_pos_of_mem this
        omega
      have h0 := oAt_mem hr.2.1 (k := 0) (by omega)
      refine one_src hr.1 ⟨y0, yn⟩ h0 (by omega) ?_
      refine Decidable.byContradiction fun hnz => ?_
      obtain ⟨A, X, C, hrw, _, _, hX, _⟩ := ready_split hm (frI_new g).toFrInv (hr.2.2 0 (by omega)) hnz
      obtain ⟨q, X0, e1, _⟩ := hX.fst
      rw [e1] at hrw
      simp at hrw
    have := one_of bare_nodup hs
    omega
  unfold chkG chkOf
  rw [if_neg (by simp [hmG]), if_neg hloop, if_neg htw, if_neg (by rw [cycG_ok hmG hacyc]; simp), if_neg hbare]
/-- The augment is an st-graph, and its plan runs. -/
theorem aug_runs (h : AugOk g p) : RunsP (augG g p) (augP g p) := ⟨aug_good h, aug_plan h.run, aug_oks h⟩
end Go.Ab
end
section
namespace Go.Ab
open Go.Proofs
attribute [local congr] ACall.congr
set_option maxRecDepth 10000
set_option maxHeartbeats 8000000

theorem runRes_run {b : Bool} {g : Gr} {p : Pl} (hr : b = true ↔ (chkG g).1 = 0 ∧ PlanOk g p) (h : RunsP g p) : runRes b g p = ((endR g p g.n.toNat, lastR g p), (0, 0)) := by
  obtain rfl : b = true := hr.2 ⟨h.1, h.2.1⟩
  unfold runRes
  rw [if_neg (by simp), stopK_none.2 h.2.2]
  rfl
theorem again_of {b : Bool} {g : Gr} {p : Pl} (hr : b = true ↔ (chkG g).1 = 0 ∧ PlanOk g p) (h : RunsP g p) (h1 : newK g p g.n.toNat = []) (h2 : ¬ 1 < (lastR g p).length) : augR b g p = (g, p, 0) := by
  have hn := mayB_n (good_may h.1)
  have hA : newA g p = [] := by unfold newA newL; rw [h1, if_neg h2]; rfl
  have hG : augG g p = g := by unfold augG; rw [if_neg h2, hA, List.append_nil]
  have hP : augP g p = p := by unfold augP; rw [if_neg h2, if_neg h2, hA]; rfl
  unfold augR
  rw [if_neg (by rw [runRes_run hr h]; simp), hG, hP, if_neg (by omega)]
theorem aug_again {g : Gr} {p : Pl} (h : AugOk g p) : newK (augG g p) (augP g p) (augG g p).n.toNat = [] ∧ ¬ 1 < (lastR (augG g p) (augP g p)).length := by
  have hn := mayB_n (aug_may h)
  constructor
  · have key : ∀ k, k ≤ (augG g p).n.toNat → newK (augG g p) (augP g p) k = [] := by
      intro k
      induction k with
      | zero => intro _; rfl
      | succ k ih =>
        intro hk
        rw [newK, ih (by omega), List.nil_append, List.map_eq_nil_iff]
        refine List.eq_nil_iff_forall_not_mem.2 fun v hv => ?_
        obtain ⟨t, ht, h0, _⟩ := mem_loose hv
        have ht2 := gone_mem ht
        cases k with
        | zero => cases ht2
        | succ k =>
          have := ((aug_rows h (k := k) (by omega)).1 t ht2).1 h0
          omega
    exact key _ (Nat.le_refl _)
  · obtain ⟨k, hk⟩ : ∃ k, (augG g p).n.toNat = k + 1 := ⟨(augG g p).n.toNat - 1, by omega⟩
    have := (aug_rows h (k := k) (by omega)).2 hk.symm
    unfold lastR
    rw [hk, this]; omega
theorem st_again {g : Gr} {p : Pl} (h : RunsP g p) (hI : isB g = true) : newK g p g.n.toNat = [] ∧ ¬ 1 < (lastR g p).length := by
  have hm := good_may h.1
  have hn := mayB_n hm
  unfold isB at hI
  rw [Bool.and_eq_true, decide_eq_true_eq, decide_eq_true_eq] at hI
  obtain ⟨w, hw⟩ := List.length_eq_one_iff.1 hI.2
  have hs : ∀ v, 0 ≤ v ∧ v < g.n → lAt p v = [] → v = w := fun v hv hl => by
    have : v ∈ bareG (·.1) g := bare_memF.2 ⟨hv, (outZ_nil h.2.1 hv.1 hv.2).2 hl⟩
    rw [hw, List.mem_singleton] at this
    exact this
  have hz := hs _ (oAt_mem h.2.1 (k := g.n.toNat - 1) (by omega)) (last_sink h).1
  constructor
  · refine List.eq_nil_iff_forall_not_mem.2 fun e he => ?_
    obtain ⟨i, hi, _, hv⟩ := newK_mem (v := e.1) (x := e.2) he
    obtain ⟨t, ht, h0, hte⟩ := mem_loose hv
    obtain ⟨_, h2⟩ := loose_inv hm h.2.1 (k := i) (by omega) fun j hj => h.2.2 j (by omega)
    obtain ⟨hi', hpl, _⟩ := run_inv hm h.2.1 (k := i) (by omega) fun j hj => h.2.2 j (by omega)
    obtain ⟨h3, h4⟩ := h2 e.1 (List.mem_append_right _ (hte ▸ loose_mem (gone_mem ht) h0))
    have h5 := hs e.1 (hi'.rng _ h3) h4
    rw [hpl] at h3
    obtain ⟨j, hj, e1⟩ := take_at (by rw [plan_len h.2.1]; omega) h3
    have := oAt_inj h.2.1 (by omega) (by omega) (e1.trans (h5.trans hz.symm))
    omega
  · obtain ⟨h1, h2⟩ := loose_inv hm h.2.1 (k := g.n.toNat) (Nat.le_refl _) h.2.2
    obtain ⟨hi', _, _⟩ := run_inv hm h.2.1 (k := g.n.toNat) (Nat.le_refl _) h.2.2
    have hl : (loose (lastR g p)).length ≤ 1 := one_of (s := w) (List.nodup_append.1 h1).2.1 fun v hv => by
      obtain ⟨h3, h4⟩ := h2 v (List.mem_append_right _ hv)
      exact hs v (hi'.rng _ h3) h4
    have : (loose (lastR g p)).length = (lastR g p).length := by
      unfold loose
      rw [List.length_map, List.filter_eq_self.2]
      intro t ht
      exact decide_eq_true (last_loose h t ht)
    omega
theorem augR_ok {b : Bool} {g : Gr} {p : Pl} (hr : b = true ↔ (chkG g).1 = 0 ∧ PlanOk g p) (h : (augR b g p).2.2 = 0) : AugOk g p ∧ augR b g p = (augG g p, augP g p, 0) := by
  unfold augR at h ⊢
  split at h
  · cases h
  rename_i h0
  split at h
  · cases h
  rename_i h1
  rw [if_neg h0, if_neg h1]
  exact ⟨⟨(runRes_ok hr (by simpa using h0)).1, by omega, by omega⟩, rfl⟩
theorem exB (g : Gr) (p : Pl) : ∃ b : Bool, (b = true ↔ (chkG g).1 = 0 ∧ PlanOk g p) := by
  by_cases h : (chkG g).1 = 0 ∧ PlanOk g p
  · exact ⟨true, by simp [h]⟩
  · exact ⟨false, by simp [h]⟩
theorem augmentAgain_spec (g : Gr) (p : Pl) (hl : g.es.length ≤ 9223372036854775807) (hp : PlMax p) : Spec Try.prog 6 (Args [eG g, ePl p]) [] (eB true) [] := by
  have hGr := great10_spec g p hl hp
  (refine Spec.intro (C := T.cfg [] []) (rs := [.t 4]) (T.cfg_ok _ _) Try.func6 rfl rfl Try.ntmps6 Try.results6 (by simp [AObj.isNest]) (by simp [AObj.isNest]) (by kernel_rfl) ?_; intro X hX hP hC hXn hXm vals hA; refine ⟨_, by simp, hA, ?_⟩; have hmix : X.P.follows .mixedOrders = true := (by rw [hP]; exact T.mixed); clear hXn hXm)
  cases hB : bigB g p with
  | true =>
    rw [hB] at hGr
    repeat' (first | fail | ((first | ((with_reducible (first | apply oA | apply oB)); exact rfl; intro K hK) | (refine hK _ ?_; clear hK K) | ((with_reducible (first | apply oG | apply oH)); iterate 3 exact rfl) | ((with_reducible apply oI); (iterate 2 exact rfl); intro K hK) | (with_reducible (first | apply wI | apply wJ | apply wK))); try simp only [go_sem, simprocAttr]) | fail | (with_reducible (first | apply oC | apply oJ | exact oK | apply wA | apply wB | apply wC hX hC | apply wD hX hC | apply wE hX hC hmix | apply wF hX hC hmix | apply wG | apply wH | apply And.intro)) | ((with_reducible refine oD ?_ ?_); first | fail | kernel_rfl) | ((with_reducible (first | apply oE | apply oF)); (iterate 3 exact rfl); all_goals (intro h; first | (exact absurd h (by decide)) | ((try simp only [go_sem, simprocAttr] at h); (try with_reducible intro K hK); simp only [go_sem, simprocAttr]))) | ((first | ((with_reducible apply wL); exact rfl) | ((with_reducible apply wM); exact rfl)); all_goals (try ((with_reducible intro h); first | (exact absurd h (by decide)) | (try simp only [go_sem, simprocAttr] at h)))) | omega | ((first | first | refine acall_simple hX hC hP (speaks16_spec) rfl rfl rfl (by simp only [go_sem, simprocAttr]) rfl ?_ | refine acall_simple hX hC hP (hGr) rfl rfl rfl (by simp only [go_sem, simprocAttr]) rfl ?_); try simp only [go_sem, simprocAttr]) | (intro h))
  | false =>
    rw [hB] at hGr
    obtain ⟨b1, b2, b3, b4⟩ := big_not hB
    obtain ⟨b, hr⟩ := exB g p
    have hA1 := augment_spec g (by omega) p (plLen_of hB) (by omega) (by omega) (fun l hl => by have := b4 l hl; omega) b hr
    obtain ⟨l1, l2, l3, l4⟩ := aug_len hr b3 b4
    by_cases h0 : (augR b g p).2.2 = 0
    rotate_left
    · have hb0 : decide ((augR b g p).2.2 = 0) = false := decide_eq_false h0
      repeat' (first | fail | ((first | ((with_reducible (first | apply oA | apply oB)); exact rfl; intro K hK) | (refine hK _ ?_; clear hK K) | ((with_reducible (first | apply oG | apply oH)); iterate 3 exact rfl) | ((with_reducible apply oI); (iterate 2 exact rfl); intro K hK) | (with_reducible (first | apply wI | apply wJ | apply wK))); try simp only [go_sem, simprocAttr, hb0]) | fail | (with_reducible (first | apply oC | apply oJ | exact oK | apply wA | apply wB | apply wC hX hC | apply wD hX hC | apply wE hX hC hmix | apply wF hX hC hmix | apply wG | apply wH | apply And.intro)) | ((with_reducible refine oD ?_ ?_); first | fail | kernel_rfl) | ((with_reducible (first | apply oE | apply oF)); (iterate 3 exact rfl); all_goals (intro h; first | (exact absurd h (by decide)) | ((try simp only [go_sem, simprocAttr, hb0] at h); (try with_reducible intro K hK); simp only [go_sem, simprocAttr, hb0]))) | ((first | ((with_reducible apply wL); exact rfl) | ((with_reducible apply wM); exact rfl)); all_goals (try ((with_reducible intro h); first | (exact absurd h (by decide)) | (try simp only [go_sem, simprocAttr, hb0] at h)))) | omega | ((first | first | refine acall_simple hX hC hP (speaks16_spec) rfl rfl rfl (by simp only [go_sem, simprocAttr, hb0]) rfl ?_ | refine acall_simple hX hC hP (hGr) rfl rfl rfl (by simp only [go_sem, simprocAttr, hb0]) rfl ?_ | refine acall_simple hX hC hP (hA1) rfl rfl rfl (by simp only [go_sem, simprocAttr, hb0]) rfl ?_); try simp only [go_sem, simprocAttr, hb0]) | (intro h))
    obtain ⟨hok, hAR⟩ := augR_ok hr h0
    rw [hAR] at hA1 l1 l2 l3 l4
    simp only at hA1 l1 l2 l3 l4
    obtain ⟨b', hr'⟩ := exB (augG g p) (augP g p)
    have hR' := aug_runs hok
    obtain ⟨q1, q2⟩ := aug_again hok
    have hA2 := augment_spec (augG g p) (by omega) (augP g p) ⟨by omega, by omega, fun l hl => by have := l4 l hl; omega⟩ l2 l3 l4 b' hr'
    rw [again_of hr' hR' q1 q2] at hA2
    simp only at hA2
    have hI := refIs_spec g (by omega)
    cases hIs : isB g with
    | false =>
      rw [hIs] at hI
      generalize augG g p = G at hA1 hA2 l1
      generalize augP g p = Q at hA1 hA2 l2 l3 l4
      have hS := same_spec G G (by omega)
      have hP1 := samePlan_spec Q ⟨by omega, by omega, fun l hl => by have := l4 l hl; omega⟩
      repeat' (first | fail | ((first | ((with_reducible (first | apply oA | apply oB)); exact rfl; intro K hK) | (refine hK _ ?_; clear hK K) | ((with_reducible (first | apply oG | apply oH)); iterate 3 exact rfl) | ((with_reducible apply oI); (iterate 2 exact rfl); intro K hK) | (with_reducible (first | apply wI | apply wJ | apply wK))); try simp only [go_sem, simprocAttr, decide_true, Bool.and_self]) | fail | (with_reducible (first | apply oC | apply oJ | exact oK | apply wA | apply wB | apply wC hX hC | apply wD hX hC | apply wE hX hC hmix | apply wF hX hC hmix | apply wG | apply wH | apply And.intro)) | ((with_reducible refine oD ?_ ?_); first | fail | kernel_rfl) | ((with_reducible (first | apply oE | apply oF)); (iterate 3 exact rfl); all_goals (intro h; first | (exact absurd h (by decide)) | ((try simp only [go_sem, simprocAttr, decide_true, Bool.and_self] at h); (try with_reducible intro K hK); simp only [go_sem, simprocAttr, decide_true, Bool.and_self]))) | ((first | ((with_reducible apply wL); exact rfl) | ((with_reducible apply wM); exact rfl)); all_goals (try ((with_reducible intro h); first | (exact absurd h (by decide)) | (try simp only [go_sem, simprocAttr, decide_true, Bool.and_self] at h)))) | omega | ((first | first | refine acall_simple hX hC hP (speaks16_spec) rfl rfl rfl (by simp only [go_sem, simprocAttr, decide_true, Bool.and_self]) rfl ?_ | refine acall_simple hX hC hP (hGr) rfl rfl rfl (by simp only [go_sem, simprocAttr, decide_true, Bool.and_self]) rfl ?_ | refine acall_simple hX hC hP (hA1) rfl rfl rfl (by simp only [go_sem, simprocAttr, decide_true, Bool.and_self]) rfl ?_ | refine acall_simple hX hC hP (hA2) rfl rfl rfl (by simp only [go_sem, simprocAttr, decide_true, Bool.and_self]) rfl ?_ | refine acall_simple hX hC hP (hS) rfl rfl rfl (by simp only [go_sem, simprocAttr, decide_true, Bool.and_self]) rfl ?_ | refine acall_simple hX hC hP (hP1) rfl rfl rfl (by simp only [go_sem, simprocAttr, decide_true, Bool.and_self]) rfl ?_ | refine acall_simple hX hC hP (hI) rfl rfl rfl (by simp only [go_sem, simprocAttr, decide_true, Bool.and_self]) rfl ?_); try simp only [go_sem, simprocAttr, decide_true, Bool.and_self]) | (intro h))
    | true =>
      rw [hIs] at hI
      obtain ⟨s1, s2⟩ := st_again hok.run hIs
      have e := again_of hr hok.run s1 s2
      rw [hAR] at e
      simp only [Prod.mk.injEq, and_true] at e
      rw [e.1, e.2] at hA1 hA2
      have hS := same_spec g g (by omega)
      have hP1 := samePlan_spec p hp
      repeat' (first | fail | ((first | ((with_reducible (first | apply oA | apply oB)); exact rfl; intro K hK) | (refine hK _ ?_; clear hK K) | ((with_reducible (first | apply oG | apply oH)); iterate 3 exact rfl) | ((with_reducible apply oI); (iterate 2 exact rfl); intro K hK) | (with_reducible (first | apply wI | apply wJ | apply wK))); try simp only [go_sem, simprocAttr, decide_true, Bool.and_self]) | fail | (with_reducible (first | apply oC | apply oJ | exact oK | apply wA | apply wB | apply wC hX hC | apply wD hX hC | apply wE hX hC hmix | apply wF hX hC hmix | apply wG | apply wH | apply And.intro)) | ((with_reducible refine oD ?_ ?_); first | fail | kernel_rfl) | ((with_reducible (first | apply oE | apply oF)); (iterate 3 exact rfl); all_goals (intro h; first | (exact absurd h (by decide)) | ((try simp only [go_sem, simprocAttr, decide_true, Bool.and_self] at h); (try with_reducible intro K hK); simp only [go_sem, simprocAttr, decide_true, Bool.and_self]))) | ((first | ((with_reducible apply wL); exact rfl) | ((with_reducible apply wM); exact rfl)); all_goals (try ((with_reducible intro h); first | (exact absurd h (by decide)) | (try simp only [go_sem, simprocAttr, decide_true, Bool.and_self] at h)))) | omega | ((first | first | refine acall_simple hX hC hP (speaks16_spec) rfl rfl rfl (by simp only [go_sem, simprocAttr, decide_true, Bool.and_self]) rfl ?_ | refine acall_simple hX hC hP (hGr) rfl rfl rfl (by simp only [go_sem, simprocAttr, decide_true, Bool.and_self]) rfl ?_ | refine acall_simple hX hC hP (hA1) rfl rfl rfl (by simp only [go_sem, simprocAttr, decide_true, Bool.and_self]) rfl ?_ | refine acall_simple hX hC hP (hS) rfl rfl rfl (by simp only [go_sem, simprocAttr, decide_true, Bool.and_self]) rfl ?_ | refine acall_simple hX hC hP (hP1) rfl rfl rfl (by simp only [go_sem, simprocAttr, decide_true, Bool.and_self]) rfl ?_ | refine acall_simple hX hC hP (hI) rfl rfl rfl (by simp only [go_sem, simprocAttr, decide_true, Bool.and_self]) rfl ?_); try simp only [go_sem, simprocAttr, decide_true, Bool.and_self]) | (intro h))
end Go.Ab
end
