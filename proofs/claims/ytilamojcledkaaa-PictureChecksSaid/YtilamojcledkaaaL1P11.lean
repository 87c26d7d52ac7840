/- A part of the proof. -/
import Derived.Test.YtilamojcledkaaaL1P10
set_option linter.unusedSimpArgs false
set_option linter.unusedVariables false
section
namespace Go.Ab

/-- What is placed comes behind its tails. -/
def Ord (g : Gr) (out : List Int) : Prop := ∀ p, p < out.length → ∀ i, i < g.es.length → hd g i = out.getD p 0 → tl g i ∈ out.take p
theorem getD_app {l r : List Int} {p : Nat} (h : p < l.length) : (l ++ r).getD p 0 = l.getD p 0 := by
  rw [List.getD_eq_getElem?_getD, List.getD_eq_getElem?_getD, List.getElem?_append_left h]
theorem Ord.next {g : Gr} {out : List Int} (h : Ord g out) {x : Nat} (hb : ∀ i, i < g.es.length → hd g i = x → tl g i ∈ out) : Ord g (out ++ [(x : Int)]) := by
  intro p hp i hi hh
  rw [List.length_append, List.length_singleton] at hp
  by_cases hpl : p < out.length
  · rw [getD_app hpl] at hh
    have := h p hpl i hi hh
    rw [List.take_append_of_le_length (by omega)]
    exact this
  · have hpe : p = out.length := by omega
    subst hpe
    rw [List.getD_eq_getElem?_getD, List.getElem?_append_right (by omega)] at hh
    simp at hh
    rw [List.take_append_of_le_length (by omega), List.take_of_length_le (by omega)]
    exact hb i hi hh
theorem runF_props {g : Gr} (hm : mayB g = true) : ∀ f out, Placed g out → Ord g out → left g out ≤ f → Placed g (runF g f out) ∧ Ord g (runF g f out) ∧ idxI (wts g (runF g f out)) 0 < 0
  | f, out, hP, hO, hl => by
    rcases idxW (g := g) out with hx | ⟨x, hx, hxn, hw⟩
    · rw [runF_end (by omega)]; exact ⟨hP, hO, by omega⟩
    · obtain ⟨hP', _, hb⟩ := hP.next hm hxn hw
      have hn := left_next hP hP'
      cases f with
      | zero => omega
      | succ f =>
        have := runF_props hm f (out ++ [(x : Int)]) hP' (hO.next hb) (by omega)
        simp only [runF, hx]
        rw [if_neg (by omega)]
        exact this
theorem runG_props {g : Gr} (hm : mayB g = true) : Placed g (runG g) ∧ Ord g (runG g) ∧ idxI (wts g (runG g)) 0 < 0 :=
  runF_props hm _ _ (Placed.nil g) (fun p hp => by simp at hp) (by rw [left_nil]; exact Nat.le_refl _)
/-- A vertex waits just if it isn't placed. -/
theorem wt_pos {g : Gr} (hm : mayB g = true) {y : Nat} (hy : y < g.n.toNat) : 0 < wt g (runG g) y ↔ (y : Int) ∉ runG g := by
  obtain ⟨_, _, hi⟩ := runG_props hm
  constructor
  · intro h hin; simp [wt, hin] at h
  · intro h
    have h0 : wt g (runG g) y ≠ 0 := by
      intro e
      rcases findI_spec (f := fun y : Int => decide (0 = y)) (l := wts g (runG g)) 0 with ⟨_, h2⟩ | ⟨k, h1, _⟩
      · have := h2 _ (List.mem_of_getElem? (wts_get hy))
        rw [e] at this; simp at this
      · have : idxI (wts g (runG g)) 0 = k := h1
        omega
    have : 0 ≤ wt g (runG g) y := by simp only [wt, h, if_false]; omega
    omega
theorem nextK_getD {g : Gr} {l : List Bool} {j y : Nat} (h : y < g.n.toNat) : (nextK g l j).getD y false = (List.range j).any fun i => decide (hd g i = (y : Int)) && (l.getD (tl g i).toNat false && l.getD (hd g i).toNat false) := by
  simp [nextK, List.getD_eq_getElem?_getD, List.getElem?_range h]
theorem left_yes {g : Gr} (hm : mayB g = true) : ∀ k y, y < g.n.toNat → (y : Int) ∉ runG g → (leftK g k).getD y false = true
  | 0, y, hy, _ => by simp [leftK, trueK, List.getD_eq_getElem?_getD, List.getElem?_range hy]; omega
  | k + 1, y, hy, h => by
    have hw := (wt_pos hm hy).2 h
    simp only [wt, h, if_false] at hw
    obtain ⟨i, hi, hp⟩ := List.countP_pos_iff.1 (Int.natCast_pos.1 hw)
    simp only [Bool.and_eq_true, decide_eq_true_eq, Bool.not_eq_true', decide_eq_false_iff_not] at hp
    have hil := List.mem_range.1 hi
    obtain ⟨⟨h1, h2⟩, _⟩ := mayB_e hm hil
    have ht : (g.es.getD i (0, 0)).1 = tl g i := rfl
    rw [ht] at h1 h2
    have e : ((tl g i).toNat : Int) = tl g i := by omega
    have g1 := left_yes hm k (tl g i).toNat (by omega) (by rw [e]; exact hp.2)
    have g2 := left_yes hm k y hy h
    show (nextK g (leftK g k) g.es.length).getD y false = true
    rw [nextK_getD hy, List.any_eq_true]
    refine ⟨i, hi, ?_⟩
    rw [hp.1, Int.toNat_natCast, g1, g2]; simp
theorem left_no {g : Gr} (hm : mayB g = true) : ∀ k p, p < k → p < (runG g).length → (leftK g k).getD ((runG g).getD p 0).toNat false = false
  | 0, p, h, _ => by omega
  | k + 1, p, h, hp => by
    obtain ⟨hP, hO, _⟩ := runG_props hm
    have hr := hP.lo _ (getD_mem hp)
    obtain ⟨y, hy⟩ : ∃ y : Nat, (runG g).getD p 0 = y := ⟨((runG g).getD p 0).toNat, by omega⟩
    have hyn : y < g.n.toNat := by omega
    rw [hy, Int.toNat_natCast]
    show (nextK g (leftK g k) g.es.length).getD y false = false
    rw [nextK_getD hyn, List.any_eq_false]
    intro i hi
    have hil := List.mem_range.1 hi
    simp only [Bool.and_eq_true, decide_eq_true_eq]
    rintro ⟨h1, h2, _⟩
    have ht := hO p hp i hil (by rw [h1, hy])
    rw [List.mem_iff_getElem?] at ht
    obtain ⟨q, hq⟩ := ht
    rw [List.getElem?_take] at hq
    split at hq
    · rename_i hqp
      have := left_no hm k q (by omega) (by omega)
      rw [List.getD_eq_getElem?_getD (l := runG g), hq] at this
      rw [Option.getD_some, h2] at this
      cases this
    · cases hq
theorem lf_iff {g : Gr} (hm : mayB g = true) {y : Nat} (hy : y < g.n.toNat) : (lfG g).getD y false = true ↔ (y : Int) ∉ runG g := by
  constructor
  · intro h hin
    obtain ⟨hP, _, _⟩ := runG_props hm
    obtain ⟨p, hp, e⟩ := List.getElem_of_mem hin
    have hl := hP.fuel
    have := left_no hm g.n.toNat p (by omega) hp
    rw [List.getD_eq_getElem?_getD (l := runG g), List.getElem?_eq_getElem hp, Option.getD_some, e, Int.toNat_natCast] at this
    have h2 : (leftK g g.n.toNat).getD y false = true := h
    rw [this] at h2; cases h2
  · intro h; exact left_yes hm _ y hy h

theorem lf_eq {g : Gr} (hm : mayB g = true) {y : Nat} (hy : y < g.n.toNat) : (lfG g).getD y false = decide (0 < (wts g (runG g)).getD y 0) := by
  rw [wts_getD hy, Bool.eq_iff_iff, lf_iff hm hy, decide_eq_true_eq, wt_pos hm hy]
/-- Where the ways begin. -/
theorem start_eq {g : Gr} (hm : mayB g = true) : (findI (fun n => decide (0 < n)) (wts g (runG g)) = -1 ∧ stR g = g.n) ∨ ∃ a : Nat, a < g.n.toNat ∧ findI (fun n => decide (0 < n)) (wts g (runG g)) = a ∧ stR g = a ∧ (a : Int) ∉ runG g := by
  have hlf : (lfG g).length = g.n.toNat := leftK_length
  rcases findI_spec (f := fun n : Int => decide (0 < n)) (l := wts g (runG g)) 0 with ⟨h1, h2⟩ | ⟨k, h1, h2, h3, h4⟩
  · refine .inl ⟨h1, ?_⟩
    have : findI (fun b : Bool => b) (lfG g) = -1 := findI_none false fun j hj => by
      rw [hlf] at hj
      rw [lf_eq hm hj]
      exact h2 _ (by rw [List.getD_eq_getElem?_getD, wts_get hj]; exact List.mem_of_getElem? (wts_get hj))
    unfold stR; rw [this, if_pos (by omega)]
  · rw [wts_length] at h2
    refine .inr ⟨k, h2, h1, ?_, ?_⟩
    · have : findI (fun b : Bool => b) (lfG g) = k := findI_at (d := false) (by omega) (fun j hj => by
        rw [lf_eq hm (by omega)]; exact h4 j hj) (by rw [lf_eq hm h2]; exact h3)
      unfold stR; rw [this, if_neg (by omega)]
    · rw [← wt_pos hm h2]
      rw [wts_getD h2] at h3
      exact of_decide_eq_true h3
/-- A tail that waits. -/
def Q (g : Gr) (a : Nat) (t : Int) : Prop := ∃ i, i < g.es.length ∧ hd g i = (a : Int) ∧ tl g i = t ∧ t ∉ runG g
theorem tl_range {g : Gr} (hm : mayB g = true) {i : Nat} (hi : i < g.es.length) : 0 ≤ tl g i ∧ tl g i < g.n := (mayB_e hm hi).1
theorem hd_range {g : Gr} (hm : mayB g = true) {i : Nat} (hi : i < g.es.length) : 0 ≤ hd g i ∧ hd g i < g.n := (mayB_e hm hi).2
theorem waits_iff {g : Gr} (hm : mayB g = true) {i : Nat} (hi : i < g.es.length) : 0 < (wts g (runG g)).getD (tl g i).toNat 0 ↔ tl g i ∉ runG g := by
  have h := tl_range hm hi
  have e : ((tl g i).toNat : Int) = tl g i := by omega
  rw [wts_getD (by omega), wt_pos hm (by omega), e]
theorem backF_least {g : Gr} (hm : mayB g = true) : ∀ (l : List Int) (b : Int), (∀ e ∈ l, ∃ i : Nat, e = i ∧ i < g.es.length) →
    (b = -1 ∨ 0 ≤ b) → (l.foldl (backS g (wts g (runG g))) b = b ∨ ∃ i : Nat, (i : Int) ∈ l ∧ tl g i ∉ runG g ∧ l.foldl (backS g (wts g (runG g))) b = tl g i) ∧ (0 ≤ b → l.foldl (backS g (wts g (runG g))) b ≤ b) ∧
      (∀ i : Nat, (i : Int) ∈ l → tl g i ∉ runG g → 0 ≤ l.foldl (backS g (wts g (runG g))) b ∧ l.foldl (backS g (wts g (runG g))) b ≤ tl g i)
  | [], b, _, _ => ⟨.inl rfl, fun _ => Int.le_refl _, by simp⟩
  | e :: l, b, he, hb => by
    obtain ⟨i, rfl, hi⟩ := he e List.mem_cons_self
    have htr := tl_range hm hi
    have hw := waits_iff hm hi
    have hstep : backS g (wts g (runG g)) b (i : Int) = if tl g i ∉ runG g ∧ (b < 0 ∨ tl g i < b) then tl g i else b := by
      simp only [backS, Int.toNat_natCast, hw]
    have hb' : backS g (wts g (runG g)) b (i : Int) = -1 ∨ 0 ≤ backS g (wts g (runG g)) b (i : Int) := by
      rw [hstep]; split
      · exact .inr htr.1
      · exact hb
    obtain ⟨h1, h2, h3⟩ := backF_least hm l (backS g (wts g (runG g)) b (i : Int)) (fun e h => he e (List.mem_cons_of_mem _ h)) hb'
    simp only [List.foldl_cons]
    generalize hr : l.foldl (backS g (wts g (runG g))) (backS g (wts g (runG g)) b (i : Int)) = r at h1 h2 h3 ⊢
    refine ⟨?_, ?_, ?_⟩
    · rcases h1 with h1 | ⟨j, hj, h4, h5⟩
      · rw [hstep] at h1
        split at h1
        · rename_i hc
          exact .inr ⟨i, by simp, hc.1, h1⟩
        · exact .inl h1
      · exact .inr ⟨j, by simp [hj], h4, h5⟩
    · intro h0
      rw [hstep] at h2
      split at h2
      · rename_i hc; have := h2 htr.1; omega
      · exact h2 h0
    · intro j hj hjn
      rcases List.mem_cons.1 hj with hj | hj
      · have : j = i := Int.ofNat.inj hj
        subst this
        rw [hstep] at h1 h2
        split at h1
        · rename_i hc
          rw [if_pos hc] at h2
          have := h2 htr.1
          rcases h1 with h1 | ⟨q, hq, h4, h5⟩
          · omega
          · obtain ⟨i', e', hi'⟩ := he q (List.mem_cons_of_mem _ hq)
            have : q = i' := Int.ofNat.inj e'
            subst this
            have := tl_range hm hi'; omega
        · rename_i hc
          rw [if_neg hc] at h2
          have hbn : ¬ (b < 0 ∨ tl g j < b) := fun h => hc ⟨hjn, h⟩
          have := h2 (by omega)
          rcases h1 with h1 | ⟨q, hq, h4, h5⟩
          · omega
          · obtain ⟨i', e', hi'⟩ := he q (List.mem_cons_of_mem _ hq)
            have : q = i' := Int.ofNat.inj e'
            subst this
            have := tl_range hm hi'; omega
      · exact h3 j hj hjn
theorem backG_spec {g : Gr} (hm : mayB g = true) {a : Nat} (h : ∃ t, Q g a t) : Q g a (backG g (wts g (runG g)) a) ∧ ∀ t, Q g a t → backG g (wts g (runG g)) a ≤ t := by
  have hin : ∀ i, i < g.es.length → hd g i = (a : Int) → (i : Int) ∈ inL g a := by
    intro i hi hh
    simp only [inL, endsK, List.mem_map, List.mem_filter, List.mem_range, decide_eq_true_eq]
    exact ⟨i, ⟨hi, hh⟩, rfl⟩
  obtain ⟨h1, _, h3⟩ := backF_least hm (inL g a) (-1) inL_ok (.inl rfl)
  have hG : backG g (wts g (runG g)) a = (inL g a).foldl (backS g (wts g (runG g))) (-1) := by simp [backG, backF]
  rw [← hG] at h1 h3
  have hle : ∀ t, Q g a t → 0 ≤ backG g (wts g (runG g)) a ∧ backG g (wts g (runG g)) a ≤ t := by
    rintro t ⟨i, h4, h5, rfl, h6⟩
    exact h3 i (hin i h4 h5) h6
  obtain ⟨t, ht⟩ := h
  have h0 := (hle t ht).1
  refine ⟨?_, fun t ht => (hle t ht).2⟩
  rcases h1 with h1 | ⟨i, hi, h4, h5⟩
  · omega
  · obtain ⟨i', e', hi', hh⟩ := inL_mem hi
    have : i = i' := Int.ofNat.inj e'
    subst this
    exact ⟨i, hi', hh, h5.symm, by rw [h5]; exact h4⟩
theorem backR_spec {g : Gr} (hm : mayB g = true) {a : Nat} : ∀ k, k ≤ g.es.length → (backR g a k = g.n ∨ Q g a (backR g a k)) ∧ backR g a k ≤ g.n ∧ ∀ i, i < k → hd g i = (a : Int) → tl g i ∉ runG g → backR g a k ≤ tl g i
  | 0, _ => ⟨.inl rfl, Int.le_refl _, by simp⟩
  | k + 1, hk => by
    obtain ⟨h1, h2, h3⟩ := backR_spec hm (a := a) k (by omega)
    have htr := tl_range hm (i := k) (by omega)
    have e : ((tl g k).toNat : Int) = tl g k := by omega
    have hlf := lf_iff hm (y := (tl g k).toNat) (by omega)
    rw [e] at hlf
    rw [backR_next]
    unfold backRS
    split
    · rename_i hc0
      have hc : hd g k = (a : Int) ∧ tl g k ∉ runG g := ⟨hc0.1, hlf.1 hc0.2⟩
      refine ⟨?_, by omega, ?_⟩
      · by_cases hle : backR g a k ≤ tl g k
        · rw [Int.min_eq_left hle]; exact h1
        · rw [Int.min_eq_right (by omega)]; exact .inr ⟨k, by omega, hc.1, rfl, hc.2⟩
      · intro i hi hh hn
        by_cases hik : i = k
        · subst hik; omega
        · have := h3 i (by omega) hh hn; omega
    · rename_i hc
      refine ⟨h1, h2, ?_⟩
      intro i hi hh hn
      by_cases hik : i = k
      · subst hik; exact absurd ⟨hh, hlf.2 hn⟩ hc
      · exact h3 i (by omega) hh hn
theorem back_eq {g : Gr} (hm : mayB g = true) {a : Nat} (h : ∃ t, Q g a t) : backG g (wts g (runG g)) a = backR g a g.es.length ∧ Q g a (backR g a g.es.length) := by
  obtain ⟨h1, h2⟩ := backG_spec hm h
  obtain ⟨h3, h4, h5⟩ := backR_spec hm (a := a) g.es.length (Nat.le_refl _)
  have hb : backR g a g.es.length ≤ backG g (wts g (runG g)) a := by
    obtain ⟨i, h6, h7, h8, h9⟩ := h1
    rw [← h8] at h9 ⊢
    exact h5 i h6 h7 h9
  have hlt : backG g (wts g (runG g)) a < g.n := by
    obtain ⟨i, h6, h7, h8, h9⟩ := h1
    rw [← h8]; exact (tl_range hm h6).2
  rcases h3 with h3 | h3
  · omega
  · exact ⟨by have := h2 _ h3; omega, h3⟩

theorem Q_of {g : Gr} (hm : mayB g = true) {a : Nat} (ha : a < g.n.toNat) (h : (a : Int) ∉ runG g) : ∃ t, Q g a t := by
  have hw := (wt_pos hm ha).2 h
  simp only [wt, h, if_false] at hw
  obtain ⟨i, hi, hp⟩ := List.countP_pos_iff.1 (Int.natCast_pos.1 hw)
  simp only [Bool.and_eq_true, decide_eq_true_eq, Bool.not_eq_true', decide_eq_false_iff_not] at hp
  exact ⟨tl g i, i, List.mem_range.1 hi, hp.1, rfl, hp.2⟩
/-- Both ways are one. -/
theorem way_eq {g : Gr} (hm : mayB g = true) : ∀ (f f' : Nat) (way : List Int) (a : Nat), way.Nodup → a < g.n.toNat → (a : Int) ∉ runG g → left g way ≤ f → left g way ≤ f' →
    wayF g (wts g (runG g)) f way a = wayR g f' way a ∧ (0 ≤ (wayR g f' way a).2 ∧ (wayR g f' way a).2 ∈ (wayR g f' way a).1 ∧ (wayR g f' way a).1.Nodup)
  | f, f', way, a, hd, ha, hn, h1, h2 => by
    by_cases hmem : (a : Int) ∈ way
    · rw [wayF_end (.inr hmem), wayR_end hmem]
      exact ⟨rfl, by simp only; omega, hmem, hd⟩
    · have hla := left_app ha hmem
      cases f with
      | zero => omega
      | succ f =>
        cases f' with
        | zero => omega
        | succ f' =>
          obtain ⟨hb, hq⟩ := back_eq hm (Q_of hm ha hn)
          obtain ⟨i, hi, _, ht, hnr⟩ := hq
          have htr := tl_range hm hi
          rw [ht] at htr
          obtain ⟨b, hbe⟩ : ∃ b : Nat, backR g a g.es.length = b := ⟨(backR g a g.es.length).toNat, by omega⟩
          rw [hbe] at hb hnr htr
          have hd' : (way ++ [(a : Int)]).Nodup := by
            rw [List.nodup_append]
            refine ⟨hd, by simp, ?_⟩
            intro x hx y hy e
            simp at hy
            rw [← hy, ← e] at hmem; exact hmem hx
          have ih := way_eq hm f f' (way ++ [(a : Int)]) b hd' (by omega) hnr (by omega) (by omega)
          have e1 : wayF g (wts g (runG g)) (f + 1) way a = wayF g (wts g (runG g)) f (way ++ [(a : Int)]) b := by
            simp only [wayF]; rw [if_neg (by intro h; rcases h with h | h; omega; exact hmem h), hb]
          have e2 : wayR g (f' + 1) way a = wayR g f' (way ++ [(a : Int)]) b := by
            simp only [wayR]; rw [if_neg hmem, hbe]
          rw [e1, e2]; exact ih
theorem left_gx {g : Gr} {way : List Int} : left g way ≤ g.n.toNat := by
  unfold left
  have := List.countP_le_length (p := fun y : Nat => !decide ((y : Int) ∈ way)) (l := List.range g.n.toNat)
  simpa using this
theorem nodup_getD {l : List Int} (h : l.Nodup) {i j : Nat} (hi : i < l.length) (hj : j < l.length) (e : l.getD i 0 = l.getD j 0) : i = j := by
  rw [List.getD_eq_getElem?_getD, List.getD_eq_getElem?_getD, List.getElem?_eq_getElem hi, List.getElem?_eq_getElem hj] at e
  exact (List.getElem_inj h).1 e
theorem getD_rev {l : List Int} {i : Nat} (hi : i < l.length) : l.reverse.getD i 0 = l.getD (l.length - 1 - i) 0 := by
  rw [List.getD_eq_getElem?_getD, List.getD_eq_getElem?_getD, List.getElem?_reverse hi]
/-- A cycle turned: backwards from the least, and forwards from the least of it the other way round. -/
theorem turn_eq {l : List Int} (hd : l.Nodup) (h0 : 0 < l.length) : turnL l.reverse = turnR l := by
  obtain ⟨m, hm1, hm2, hm3⟩ := idxI_mem (minL_mem h0)
  have h0r : 0 < l.reverse.length := by simpa using h0
  obtain ⟨k, hk1, hk2, hk3⟩ := idxI_mem (minL_mem h0r)
  have hmin : minL l.reverse = minL l := by
    have h1 := minL_le (List.mem_reverse.2 (minL_mem h0))
    have h2 := minL_le (List.mem_reverse.1 (minL_mem h0r))
    omega
  rw [List.length_reverse] at hk2
  have hk : l.length - 1 - k = m := nodup_getD hd (by omega) hm2 (by rw [← getD_rev hk2, hk3, hm3, hmin])
  have e1 : turnL l.reverse = l.reverse.drop k ++ l.reverse.take k := by
    simp only [turnL, hk1, Int.toNat_natCast]
  have e2 : turnR l = rotR l m l.length := by simp only [turnR, hm1, Int.toNat_natCast]
  rw [e1, e2]
  refine List.ext_getElem? fun i => ?_
  by_cases hi : i < l.length
  · have hr : (rotR l m l.length)[i]? = some (l.getD ((m + l.length - i) % l.length) 0) := by
      simp [rotR, List.getElem?_range hi]
    rw [hr]
    by_cases hik : i < l.length - k
    · rw [List.getElem?_append_left (by simp; omega), List.getElem?_drop, List.getElem?_reverse (by omega)]
      have : (m + l.length - i) % l.length = m - i := by
        rw [show m + l.length - i = (m - i) + l.length from by omega, Nat.add_mod_right, Nat.mod_eq_of_lt (by omega)]
      rw [this, show l.length - 1 - (k + i) = m - i from by omega, List.getD_eq_getElem?_getD, List.getElem?_eq_getElem (by omega)]; rfl
    · rw [List.getElem?_append_right (by simp; omega), List.length_drop, List.length_reverse, List.getElem?_take, if_pos (by omega), List.getElem?_reverse (by omega)]
      have : (m + l.length - i) % l.length = m + l.length - i := Nat.mod_eq_of_lt (by omega)
      rw [this, show l.length - 1 - (i - (l.length - k)) = m + l.length - i from by omega, List.getD_eq_getElem?_getD, List.getElem?_eq_getElem (by omega)]; rfl
  · rw [List.getElem?_eq_none (by simp; omega), List.getElem?_eq_none (by simp [rotR]; omega)]
theorem cyc_eq {g : Gr} (hm : mayB g = true) : cycG g = rcycG g := by
  have hn := mayB_n hm
  rcases start_eq hm with ⟨h1, h2⟩ | ⟨a, ha, h1, h2, h3⟩
  · have : wayG g = ([], -1) := by
      unfold wayG; rw [h1]; exact wayF_end (.inl (by omega)) _
    simp only [cycG, rcycG, this]
    rw [if_pos (by omega), if_pos h2]
  · obtain ⟨he, h4, h5, h6⟩ := way_eq hm g.n.toNat (g.n.toNat + 1) [] a (by simp) ha h3 left_gx (Nat.le_succ_of_le left_gx)
    have hw : wayG g = wayRG g := by
      unfold wayG wayRG; rw [h1, h2]; exact he
    have hr : wayR g (g.n.toNat + 1) [] a = wayRG g := by unfold wayRG; rw [h2]
    rw [hr] at h4 h5 h6
    simp only [cycG, rcycG, hw]
    rw [if_neg (by omega), if_neg (by omega)]
    obtain ⟨k, hk1, hk2, _⟩ := idxI_mem h5
    rw [hk1, Int.toNat_natCast]
    exact turn_eq (List.Pairwise.drop h6) (by simp; omega)
theorem chk_eq (g : Gr) : chkG g = rchkG g := by
  unfold chkG rchkG
  cases hm : mayB g with
  | false => simp [chkOf, hm]
  | true => rw [cyc_eq hm]
end Go.Ab
end
section
namespace Go.Ab

theorem chk_len (g : Gr) (hl : g.es.length ≤ 1000) : (chkG g).2.2.length ≤ 9223372036854775807 := by
  unfold chkG chkOf
  split
  · simp
  split
  · simp
  split
  · simp
  split
  · have hm : mayB g = true := by
      cases h : mayB g with
      | true => rfl
      | false => rename_i h1 _ _ _; exact absurd h h1
    have hn := mayB_n hm
    simp only [cycG]
    split
    · simp
    · have hw : ∀ f way a, (wayF g (wts g (runG g)) f way a).1.length ≤ way.length + f := by
        intro f
        induction f with
        | zero => intro way a; exact Nat.le_refl _
        | succ f ih =>
          intro way a
          simp only [wayF]
          split
          · simp only; omega
          · have := ih (way ++ [a]) (backG g (wts g (runG g)) a)
            rw [List.length_append, List.length_singleton] at this
            omega
      have := hw g.n.toNat [] (findI (fun n => decide (0 < n)) (wts g (runG g)))
      simp only [turnL, List.length_append, List.length_drop, List.length_take, List.length_reverse]
      have hw2 : (wayG g).1.length ≤ ([] : List Int).length + g.n.toNat := this
      simp only [List.length_nil] at hw2
      omega
  split
  · simp; omega
  · simp
end Go.Ab
end
section
namespace Go.Ab
open Go.Proofs
attribute [local congr] ACall.congr
set_option maxRecDepth 10000

abbrev Pt := Int × Int
def eP (p : Pt) : AV := .agg [.d (.sc (.int .i64 p.1)), .d (.sc (.int .i64 p.2))]
def rP (p : Pt) : List D := [.sc (.int .i64 p.1), .sc (.int .i64 p.2)]
attribute [go_sem] eP

def InB (p : Pt) : Prop := (-262144 ≤ p.1 ∧ p.1 ≤ 262144) ∧ (-262144 ≤ p.2 ∧ p.2 ≤ 262144)

theorem mulB {x y m n : Int} (hx : -m ≤ x ∧ x ≤ m) (hy : -n ≤ y ∧ y ≤ n) : -(m * n) ≤ x * y ∧ x * y ≤ m * n := by
  have hm : 0 ≤ m := by omega
  have hn : 0 ≤ n := by omega
  have h1 : x.natAbs ≤ m.natAbs := by omega
  have h2 : y.natAbs ≤ n.natAbs := by omega
  have h3 : (x * y).natAbs ≤ (m * n).natAbs := by rw [Int.natAbs_mul, Int.natAbs_mul]; exact Nat.mul_le_mul h1 h2
  have h4 : 0 ≤ m * n := Int.mul_nonneg hm hn
  omega

theorem isNaN_spec (n : Int) : Spec Try.prog 160 (Args [eN n]) [] (eB false) [] := by
  (refine Spec.intro (C := T.cfg [] []) (rs := [.t 2]) (T.cfg_ok _ _) Try.func160 rfl rfl Try.ntmps160 Try.results160 (by simp [AObj.isNest]) (by simp [AObj.isNest]) (by kernel_rfl) ?_; intro X hX hP hC hXn hXm vals hA; refine ⟨_, by simp, hA, ?_⟩; have hmix : X.P.follows .mixedOrders = true := (by rw [hP]; exact T.mixed); clear hXn hXm)
  repeat' (first | (first | ((with_reducible (first | apply oA | apply oB)); exact rfl; intro K hK; simp only [go_sem, simprocAttr]) | (with_reducible apply oC) | ((with_reducible refine oD ?_ ?_); first | fail | kernel_rfl) | ((with_reducible (first | apply oE | apply oF)); (iterate 3 exact rfl); all_goals (intro h; first | (exact absurd h (by decide)) | ((try simp only [go_sem, simprocAttr] at h); first | (intro K hK; simp only [go_sem, simprocAttr]) | (simp only [go_sem, simprocAttr])))) | ((with_reducible (first | apply oG | apply oH)); (iterate 3 exact rfl); simp only [go_sem, simprocAttr]) | ((with_reducible apply oI); (iterate 2 exact rfl); (intro K hK; simp only [go_sem, simprocAttr])) | (with_reducible (first | apply oJ | exact oK))) | (refine hK _ ?_; clear hK K; simp only [LA.app, ASt.put, ASt.kill, subT, rmk, putM, rml, kl, AV.sub, AV.subs, AObj.sub, go_sem, simprocAttr]) | (first | fail | (with_reducible (first | apply wA | apply wB | apply wC hX hC | apply wD hX hC | apply wE hX hC hmix | apply wF hX hC hmix | apply wG | apply wH)) | ((with_reducible (first | apply wI | apply wJ)); simp only [athen, ablock, reduceIte, Nat.reduceEqDiff]) | ((with_reducible apply wK); simp only [go_sem, simprocAttr]) | ((with_reducible apply wL); exact rfl; all_goals (try (intro h; try simp only [go_sem, simprocAttr] at h))) | ((with_reducible apply wM); exact rfl; all_goals (intro h; first | (exact absurd h (by decide)) | (try simp only [go_sem, simprocAttr] at h)))) | (with_reducible apply And.intro) | omega | first | (refine acall_simple hX hC hP (hf _) rfl rfl rfl (by simp only [go_sem, simprocAttr]) rfl ?_; simp only [go_sem, simprocAttr]) | (refine acall_simple hX hC hP (isNaN_spec _) rfl rfl rfl (by simp only [go_sem, simprocAttr]) rfl ?_; simp only [go_sem, simprocAttr]) | (refine acall_simple hX hC hP (compare_spec _ _) rfl rfl rfl (by simp only [go_sem, simprocAttr]) rfl ?_; simp only [go_sem, simprocAttr]) | (refine acall_simple hX hC hP (within_spec _ _ _) rfl rfl rfl (by simp only [go_sem, simprocAttr]) rfl ?_; simp only [go_sem, simprocAttr]) | (refine acall_simple hX hC hP (times_spec _ _ _ _ (by assumption) (by assumption) (by assumption) (by assumption)) rfl rfl rfl (by simp only [go_sem, simprocAttr]) rfl ?_; simp only [go_sem, simprocAttr]) | (refine acall_simple hX hC hP (side_spec _ _ _ (by assumption) (by assumption) (by assumption)) rfl rfl rfl (by simp only [go_sem, simprocAttr]) rfl ?_; simp only [go_sem, simprocAttr]) | (refine acall_simple hX hC hP (on_spec _ _ _ (by assumption) (by assumption) (by assumption)) rfl rfl rfl (by simp only [go_sem, simprocAttr]) rfl ?_; simp only [go_sem, simprocAttr]) | (intro h))

def cmpI (a b : Int) : Int := if a < b then -1 else if b < a then 1 else 0

theorem compare_spec (a b : Int) : Spec Try.prog 146 (Args [eN a, eN b]) [] (eN (cmpI a b)) [] := by
  (refine Spec.intro (C := T.cfg [] []) (rs := [.t 4]) (T.cfg_ok _ _) Try.func146 rfl rfl Try.ntmps146 Try.results146 (by simp [AObj.isNest]) (by simp [AObj.isNest]) (by kernel_rfl) ?_; intro X hX hP hC hXn hXm vals hA; refine ⟨_, by simp, hA, ?_⟩; have hmix : X.P.follows .mixedOrders = true := (by rw [hP]; exact T.mixed); clear hXn hXm)
  repeat' (first | (first | ((with_reducible (first | apply oA | apply oB)); exact rfl; intro K hK; simp only [go_sem, simprocAttr]) | (with_reducible apply oC) | ((with_reducible refine oD ?_ ?_); first | fail | kernel_rfl) | ((with_reducible (first | apply oE | apply oF)); (iterate 3 exact rfl); all_goals (intro h; first | (exact absurd h (by decide)) | ((try simp only [go_sem, simprocAttr] at h); first | (intro K hK; simp only [go_sem, simprocAttr]) | (simp only [go_sem, simprocAttr])))) | ((with_reducible (first | apply oG | apply oH)); (iterate 3 exact rfl); simp only [go_sem, simprocAttr]) | ((with_reducible apply oI); (iterate 2 exact rfl); (intro K hK; simp only [go_sem, simprocAttr])) | (with_reducible (first | apply oJ | exact oK))) | (refine hK _ ?_; clear hK K; simp only [LA.app, ASt.put, ASt.kill, subT, rmk, putM, rml, kl, AV.sub, AV.subs, AObj.sub, go_sem, simprocAttr]) | (first | fail | (with_reducible (first | apply wA | apply wB | apply wC hX hC | apply wD hX hC | apply wE hX hC hmix | apply wF hX hC hmix | apply wG | apply wH)) | ((with_reducible (first | apply wI | apply wJ)); simp only [athen, ablock, reduceIte, Nat.reduceEqDiff]) | ((with_reducible apply wK); simp only [go_sem, simprocAttr]) | ((with_reducible apply wL); exact rfl; all_goals (try (intro h; try simp only [go_sem, simprocAttr] at h))) | ((with_reducible apply wM); exact rfl; all_goals (intro h; first | (exact absurd h (by decide)) | (try simp only [go_sem, simprocAttr] at h)))) | (with_reducible apply And.intro) | omega | first | (refine acall_simple hX hC hP (hf _) rfl rfl rfl (by simp only [go_sem, simprocAttr]) rfl ?_; simp only [go_sem, simprocAttr]) | (refine acall_simple hX hC hP (isNaN_spec _) rfl rfl rfl (by simp only [go_sem, simprocAttr]) rfl ?_; simp only [go_sem, simprocAttr]) | (refine acall_simple hX hC hP (compare_spec _ _) rfl rfl rfl (by simp only [go_sem, simprocAttr]) rfl ?_; simp only [go_sem, simprocAttr]) | (refine acall_simple hX hC hP (within_spec _ _ _) rfl rfl rfl (by simp only [go_sem, simprocAttr]) rfl ?_; simp only [go_sem, simprocAttr]) | (refine acall_simple hX hC hP (times_spec _ _ _ _ (by assumption) (by assumption) (by assumption) (by assumption)) rfl rfl rfl (by simp only [go_sem, simprocAttr]) rfl ?_; simp only [go_sem, simprocAttr]) | (refine acall_simple hX hC hP (side_spec _ _ _ (by assumption) (by assumption) (by assumption)) rfl rfl rfl (by simp only [go_sem, simprocAttr]) rfl ?_; simp only [go_sem, simprocAttr]) | (refine acall_simple hX hC hP (on_spec _ _ _ (by assumption) (by assumption) (by assumption)) rfl rfl rfl (by simp only [go_sem, simprocAttr]) rfl ?_; simp only [go_sem, simprocAttr]) | (intro h))
  all_goals (unfold cmpI; repeat' split) <;> omega

def withinI (a b n : Int) : Bool := decide (min a b ≤ n) && decide (n ≤ max a b)

theorem within_spec (a b n : Int) : Spec Try.prog 145 (Args [eN a, eN b, eN n]) [] (eB (withinI a b n)) [] := by
  (refine Spec.intro (C := T.cfg [] []) (rs := [.t 6]) (T.cfg_ok _ _) Try.func145 rfl rfl Try.ntmps145 Try.results145 (by simp [AObj.isNest]) (by simp [AObj.isNest]) (by kernel_rfl) ?_; intro X hX hP hC hXn hXm vals hA; refine ⟨_, by simp, hA, ?_⟩; have hmix : X.P.follows .mixedOrders = true := (by rw [hP]; exact T.mixed); clear hXn hXm)
  repeat' (first | (first | ((with_reducible (first | apply oA | apply oB)); exact rfl; intro K hK; simp only [go_sem, simprocAttr]) | (with_reducible apply oC) | ((with_reducible refine oD ?_ ?_); first | fail | kernel_rfl) | ((with_reducible (first | apply oE | apply oF)); (iterate 3 exact rfl); all_goals (intro h; first | (exact absurd h (by decide)) | ((try simp only [go_sem, simprocAttr] at h); first | (intro K hK; simp only [go_sem, simprocAttr]) | (simp only [go_sem, simprocAttr])))) | ((with_reducible (first | apply oG | apply oH)); (iterate 3 exact rfl); simp only [go_sem, simprocAttr]) | ((with_reducible apply oI); (iterate 2 exact rfl); (intro K hK; simp only [go_sem, simprocAttr])) | (with_reducible (first | apply oJ | exact oK))) | (refine hK _ ?_; clear hK K; simp only [LA.app, ASt.put, ASt.kill, subT, rmk, putM, rml, kl, AV.sub, AV.subs, AObj.sub, go_sem, simprocAttr]) | (first | fail | (with_reducible (first | apply wA | apply wB | apply wC hX hC | apply wD hX hC | apply wE hX hC hmix | apply wF hX hC hmix | apply wG | apply wH)) | ((with_reducible (first | apply wI | apply wJ)); simp only [athen, ablock, reduceIte, Nat.reduceEqDiff]) | ((with_reducible apply wK); simp only [go_sem, simprocAttr]) | ((with_reducible apply wL); exact rfl; all_goals (try (intro h; try simp only [go_sem, simprocAttr] at h))) | ((with_reducible apply wM); exact rfl; all_goals (intro h; first | (exact absurd h (by decide)) | (try simp only [go_sem, simprocAttr] at h)))) | (with_reducible apply And.intro) | omega | first | (refine acall_simple hX hC hP (hf _) rfl rfl rfl (by simp only [go_sem, simprocAttr]) rfl ?_; simp only [go_sem, simprocAttr]) | (refine acall_simple hX hC hP (isNaN_spec _) rfl rfl rfl (by simp only [go_sem, simprocAttr]) rfl ?_; simp only [go_sem, simprocAttr]) | (refine acall_simple hX hC hP (compare_spec _ _) rfl rfl rfl (by simp only [go_sem, simprocAttr]) rfl ?_; simp only [go_sem, simprocAttr]) | (refine acall_simple hX hC hP (within_spec _ _ _) rfl rfl rfl (by simp only [go_sem, simprocAttr]) rfl ?_; simp only [go_sem, simprocAttr]) | (refine acall_simple hX hC hP (times_spec _ _ _ _ (by assumption) (by assumption) (by assumption) (by assumption)) rfl rfl rfl (by simp only [go_sem, simprocAttr]) rfl ?_; simp only [go_sem, simprocAttr]) | (refine acall_simple hX hC hP (side_spec _ _ _ (by assumption) (by assumption) (by assumption)) rfl rfl rfl (by simp only [go_sem, simprocAttr]) rfl ?_; simp only [go_sem, simprocAttr]) | (refine acall_simple hX hC hP (on_spec _ _ _ (by assumption) (by assumption) (by assumption)) rfl rfl rfl (by simp only [go_sem, simprocAttr]) rfl ?_; simp only [go_sem, simprocAttr]) | (intro h))
  all_goals (unfold withinI; rw [Bool.eq_iff_iff]; simp; omega)

def tm (a b c d : Pt) : Int := (b.1 - a.1) * (d.2 - c.2) - (b.2 - a.2) * (d.1 - c.1)

theorem times_spec (a b c d : Pt) (ha : InB a) (hb : InB b) (hc : InB c) (hd : InB d) : Spec Try.prog 147 (Args [eP a, eP b, eP c, eP d]) [] (eN (tm a b c d)) [] := by
  (refine Spec.intro (C := T.cfg [] []) (rs := [.t 8]) (T.cfg_ok _ _) Try.func147 rfl rfl Try.ntmps147 Try.results147 (by simp [AObj.isNest]) (by simp [AObj.isNest]) (by kernel_rfl) ?_; intro X hX hP hC hXn hXm vals hA; refine ⟨_, by simp, hA, ?_⟩; have hmix : X.P.follows .mixedOrders = true := (by rw [hP]; exact T.mixed); clear hXn hXm)
  obtain ⟨a1, a2⟩ := a
  obtain ⟨b1, b2⟩ := b
  obtain ⟨c1, c2⟩ := c
  obtain ⟨d1, d2⟩ := d
  simp only [InB] at ha hb hc hd
  have m1 := mulB (x := b1 - a1) (y := d2 - c2) (m := 524288) (n := 524288) (by omega) (by omega)
  have m2 := mulB (x := b2 - a2) (y := d1 - c1) (m := 524288) (n := 524288) (by omega) (by omega)
  repeat' (first | (first | ((with_reducible (first | apply oA | apply oB)); exact rfl; intro K hK; simp only [go_sem, simprocAttr]) | (with_reducible apply oC) | ((with_reducible refine oD ?_ ?_); first | fail | kernel_rfl) | ((with_reducible (first | apply oE | apply oF)); (iterate 3 exact rfl); all_goals (intro h; first | (exact absurd h (by decide)) | ((try simp only [go_sem, simprocAttr] at h); first | (intro K hK; simp only [go_sem, simprocAttr]) | (simp only [go_sem, simprocAttr])))) | ((with_reducible (first | apply oG | apply oH)); (iterate 3 exact rfl); simp only [go_sem, simprocAttr]) | ((with_reducible apply oI); (iterate 2 exact rfl); (intro K hK; simp only [go_sem, simprocAttr])) | (with_reducible (first | apply oJ | exact oK))) | (refine hK _ ?_; clear hK K; simp only [LA.app, ASt.put, ASt.kill, subT, rmk, putM, rml, kl, AV.sub, AV.subs, AObj.sub, go_sem, simprocAttr]) | (first | fail | (with_reducible (first | apply wA | apply wB | apply wC hX hC | apply wD hX hC | apply wE hX hC hmix | apply wF hX hC hmix | apply wG | apply wH)) | ((with_reducible (first | apply wI | apply wJ)); simp only [athen, ablock, reduceIte, Nat.reduceEqDiff]) | ((with_reducible apply wK); simp only [go_sem, simprocAttr]) | ((with_reducible apply wL); exact rfl; all_goals (try (intro h; try simp only [go_sem, simprocAttr] at h))) | ((with_reducible apply wM); exact rfl; all_goals (intro h; first | (exact absurd h (by decide)) | (try simp only [go_sem, simprocAttr] at h)))) | (with_reducible apply And.intro) | omega | first | (refine acall_simple hX hC hP (hf _) rfl rfl rfl (by simp only [go_sem, simprocAttr]) rfl ?_; simp only [go_sem, simprocAttr]) | (refine acall_simple hX hC hP (isNaN_spec _) rfl rfl rfl (by simp only [go_sem, simprocAttr]) rfl ?_; simp only [go_sem, simprocAttr]) | (refine acall_simple hX hC hP (compare_spec _ _) rfl rfl rfl (by simp only [go_sem, simprocAttr]) rfl ?_; simp only [go_sem, simprocAttr]) | (refine acall_simple hX hC hP (within_spec _ _ _) rfl rfl rfl (by simp only [go_sem, simprocAttr]) rfl ?_; simp only [go_sem, simprocAttr]) | (refine acall_simple hX hC hP (times_spec _ _ _ _ (by assumption) (by assumption) (by assumption) (by assumption)) rfl rfl rfl (by simp only [go_sem, simprocAttr]) rfl ?_; simp only [go_sem, simprocAttr]) | (refine acall_simple hX hC hP (side_spec _ _ _ (by assumption) (by assumption) (by assumption)) rfl rfl rfl (by simp only [go_sem, simprocAttr]) rfl ?_; simp only [go_sem, simprocAttr]) | (refine acall_simple hX hC hP (on_spec _ _ _ (by assumption) (by assumption) (by assumption)) rfl rfl rfl (by simp only [go_sem, simprocAttr]) rfl ?_; simp only [go_sem, simprocAttr]) | (intro h))
  all_goals simp [tm]

def sd (a b c : Pt) : Int := cmpI (tm a b a c) 0

theorem side_spec (a b c : Pt) (ha : InB a) (hb : InB b) (hc : InB c) : Spec Try.prog 126 (Args [eP a, eP b, eP c]) [] (eN (sd a b c)) [] := by
  (refine Spec.intro (C := T.cfg [] []) (rs := [.t 6]) (T.cfg_ok _ _) Try.func126 rfl rfl Try.ntmps126 Try.results126 (by simp [AObj.isNest]) (by simp [AObj.isNest]) (by kernel_rfl) ?_; intro X hX hP hC hXn hXm vals hA; refine ⟨_, by simp, hA, ?_⟩; have hmix : X.P.follows .mixedOrders = true := (by rw [hP]; exact T.mixed); clear hXn hXm)
  repeat' (first | (first | ((with_reducible (first | apply oA | apply oB)); exact rfl; intro K hK; simp only [go_sem, simprocAttr]) | (with_reducible apply oC) | ((with_reducible refine oD ?_ ?_); first | fail | kernel_rfl) | ((with_reducible (first | apply oE | apply oF)); (iterate 3 exact rfl); all_goals (intro h; first | (exact absurd h (by decide)) | ((try simp only [go_sem, simprocAttr] at h); first | (intro K hK; simp only [go_sem, simprocAttr]) | (simp only [go_sem, simprocAttr])))) | ((with_reducible (first | apply oG | apply oH)); (iterate 3 exact rfl); simp only [go_sem, simprocAttr]) | ((with_reducible apply oI); (iterate 2 exact rfl); (intro K hK; simp only [go_sem, simprocAttr])) | (with_reducible (first | apply oJ | exact oK))) | (refine hK _ ?_; clear hK K; simp only [LA.app, ASt.put, ASt.kill, subT, rmk, putM, rml, kl, AV.sub, AV.subs, AObj.sub, go_sem, simprocAttr]) | (first | fail | (with_reducible (first | apply wA | apply wB | apply wC hX hC | apply wD hX hC | apply wE hX hC hmix | apply wF hX hC hmix | apply wG | apply wH)) | ((with_reducible (first | apply wI | apply wJ)); simp only [athen, ablock, reduceIte, Nat.reduceEqDiff]) | ((with_reducible apply wK); simp only [go_sem, simprocAttr]) | ((with_reducible apply wL); exact rfl; all_goals (try (intro h; try simp only [go_sem, simprocAttr] at h))) | ((with_reducible apply wM); exact rfl; all_goals (intro h; first | (exact absurd h (by decide)) | (try simp only [go_sem, simprocAttr] at h)))) | (with_reducible apply And.intro) | omega | first | (refine acall_simple hX hC hP (hf _) rfl rfl rfl (by simp only [go_sem, simprocAttr]) rfl ?_; simp only [go_sem, simprocAttr]) | (refine acall_simple hX hC hP (isNaN_spec _) rfl rfl rfl (by simp only [go_sem, simprocAttr]) rfl ?_; simp only [go_sem, simprocAttr]) | (refine acall_simple hX hC hP (compare_spec _ _) rfl rfl rfl (by simp only [go_sem, simprocAttr]) rfl ?_; simp only [go_sem, simprocAttr]) | (refine acall_simple hX hC hP (within_spec _ _ _) rfl rfl rfl (by simp only [go_sem, simprocAttr]) rfl ?_; simp only [go_sem, simprocAttr]) | (refine acall_simple hX hC hP (times_spec _ _ _ _ (by assumption) (by assumption) (by assumption) (by assumption)) rfl rfl rfl (by simp only [go_sem, simprocAttr]) rfl ?_; simp only [go_sem, simprocAttr]) | (refine acall_simple hX hC hP (side_spec _ _ _ (by assumption) (by assumption) (by assumption)) rfl rfl rfl (by simp only [go_sem, simprocAttr]) rfl ?_; simp only [go_sem, simprocAttr]) | (refine acall_simple hX hC hP (on_spec _ _ _ (by assumption) (by assumption) (by assumption)) rfl rfl rfl (by simp only [go_sem, simprocAttr]) rfl ?_; simp only [go_sem, simprocAttr]) | (intro h))
  all_goals rfl

def onP (a b c : Pt) : Bool := decide (sd a b c = 0) && withinI a.1 b.1 c.1 && withinI a.2 b.2 c.2

theorem on_spec (a b c : Pt) (ha : InB a) (hb : InB b) (hc : InB c) : Spec Try.prog 125 (Args [eP a, eP b, eP c]) [] (eB (onP a b c)) [] := by
  (refine Spec.intro (C := T.cfg [] []) (rs := [.t 6]) (T.cfg_ok _ _) Try.func125 rfl rfl Try.ntmps125 Try.results125 (by simp [AObj.isNest]) (by simp [AObj.isNest]) (by kernel_rfl) ?_; intro X hX hP hC hXn hXm vals hA; refine ⟨_, by simp, hA, ?_⟩; have hmix : X.P.follows .mixedOrders = true := (by rw [hP]; exact T.mixed); clear hXn hXm)
  repeat' (first | (first | ((with_reducible (first | apply oA | apply oB)); exact rfl; intro K hK; simp only [go_sem, simprocAttr]) | (with_reducible apply oC) | ((with_reducible refine oD ?_ ?_); first | fail | kernel_rfl) | ((with_reducible (first | apply oE | apply oF)); (iterate 3 exact rfl); all_goals (intro h; first | (exact absurd h (by decide)) | ((try simp only [go_sem, simprocAttr] at h); first | (intro K hK; simp only [go_sem, simprocAttr]) | (simp only [go_sem, simprocAttr])))) | ((with_reducible (first | apply oG | apply oH)); (iterate 3 exact rfl); simp only [go_sem, simprocAttr]) | ((with_reducible apply oI); (iterate 2 exact rfl); (intro K hK; simp only [go_sem, simprocAttr])) | (with_reducible (first | apply oJ | exact oK))) | (refine hK _ ?_; clear hK K; simp only [LA.app, ASt.put, ASt.kill, subT, rmk, putM, rml, kl, AV.sub, AV.subs, AObj.sub, go_sem, simprocAttr]) | (first | fail | (with_reducible (first | apply wA | apply wB | apply wC hX hC | apply wD hX hC | apply wE hX hC hmix | apply wF hX hC hmix | apply wG | apply wH)) | ((with_reducible (first | apply wI | apply wJ)); simp only [athen, ablock, reduceIte, Nat.reduceEqDiff]) | ((with_reducible apply wK); simp only [go_sem, simprocAttr]) | ((with_reducible apply wL); exact rfl; all_goals (try (intro h; try simp only [go_sem, simprocAttr] at h))) | ((with_reducible apply wM); exact rfl; all_goals (intro h; first | (exact absurd h (by decide)) | (try simp only [go_sem, simprocAttr] at h)))) | (with_reducible apply And.intro) | omega | first | (refine acall_simple hX hC hP (hf _) rfl rfl rfl (by simp only [go_sem, simprocAttr]) rfl ?_; simp only [go_sem, simprocAttr]) | (refine acall_simple hX hC hP (isNaN_spec _) rfl rfl rfl (by simp only [go_sem, simprocAttr]) rfl ?_; simp only [go_sem, simprocAttr]) | (refine acall_simple hX hC hP (compare_spec _ _) rfl rfl rfl (by simp only [go_sem, simprocAttr]) rfl ?_; simp only [go_sem, simprocAttr]) | (refine acall_simple hX hC hP (within_spec _ _ _) rfl rfl rfl (by simp only [go_sem, simprocAttr]) rfl ?_; simp only [go_sem, simprocAttr]) | (refine acall_simple hX hC hP (times_spec _ _ _ _ (by assumption) (by assumption) (by assumption) (by assumption)) rfl rfl rfl (by simp only [go_sem, simprocAttr]) rfl ?_; simp only [go_sem, simprocAttr]) | (refine acall_simple hX hC hP (side_spec _ _ _ (by assumption) (by assumption) (by assumption)) rfl rfl rfl (by simp only [go_sem, simprocAttr]) rfl ?_; simp only [go_sem, simprocAttr]) | (refine acall_simple hX hC hP (on_spec _ _ _ (by assumption) (by assumption) (by assumption)) rfl rfl rfl (by simp only [go_sem, simprocAttr]) rfl ?_; simp only [go_sem, simprocAttr]) | (intro h))
  all_goals simp_all [onP]

end Go.Ab
end
section
namespace Go.Ab
open Go.Proofs
attribute [local congr] ACall.congr
set_option maxRecDepth 10000

def outP (p : Pt) : Bool := decide (262144 < max p.1 p.2) || decide (min p.1 p.2 < -262144)

theorem mayF_spec (p : Pt) : Spec Try.prog 120 (Args [eP p]) [] (eB (outP p)) [] := by
  (refine Spec.intro (C := T.cfg [] []) (rs := [.t 2]) (T.cfg_ok _ _) Try.func120 rfl rfl Try.ntmps120 Try.results120 (by simp [AObj.isNest]) (by simp [AObj.isNest]) (by kernel_rfl) ?_; intro X hX hP hC hXn hXm vals hA; refine ⟨_, by simp, hA, ?_⟩; have hmix : X.P.follows .mixedOrders = true := (by rw [hP]; exact T.mixed); clear hXn hXm)
  repeat' (first | (first | ((with_reducible (first | apply oA | apply oB)); exact rfl; intro K hK; simp only [go_sem, simprocAttr]) | (with_reducible apply oC) | ((with_reducible refine oD ?_ ?_); first | fail | kernel_rfl) | ((with_reducible (first | apply oE | apply oF)); (iterate 3 exact rfl); all_goals (intro h; first | (exact absurd h (by decide)) | ((try simp only [go_sem, simprocAttr] at h); first | (intro K hK; simp only [go_sem, simprocAttr]) | (simp only [go_sem, simprocAttr])))) | ((with_reducible (first | apply oG | apply oH)); (iterate 3 exact rfl); simp only [go_sem, simprocAttr]) | ((with_reducible apply oI); (iterate 2 exact rfl); (intro K hK; simp only [go_sem, simprocAttr])) | (with_reducible (first | apply oJ | exact oK))) | (refine hK _ ?_; clear hK K; simp only [LA.app, ASt.put, ASt.kill, subT, rmk, putM, rml, kl, AV.sub, AV.subs, AObj.sub, go_sem, simprocAttr]) | (first | fail | (with_reducible (first | apply wA | apply wB | apply wC hX hC | apply wD hX hC | apply wE hX hC hmix | apply wF hX hC hmix | apply wG | apply wH)) | ((with_reducible (first | apply wI | apply wJ)); simp only [athen, ablock, reduceIte, Nat.reduceEqDiff]) | ((with_reducible apply wK); simp only [go_sem, simprocAttr]) | ((with_reducible apply wL); exact rfl; all_goals (try (intro h; try simp only [go_sem, simprocAttr] at h))) | ((with_reducible apply wM); exact rfl; all_goals (intro h; first | (exact absurd h (by decide)) | (try simp only [go_sem, simprocAttr] at h)))) | (with_reducible apply And.intro) | omega | first | (refine acall_simple hX hC hP (hf _) rfl rfl rfl (by simp only [go_sem, simprocAttr]) rfl ?_; simp only [go_sem, simprocAttr]) | (refine acall_simple hX hC hP (indexFuncP_spec _ _ hf _ hl) rfl rfl rfl (by simp only [go_sem, simprocAttr]) rfl ?_; simp only [go_sem, simprocAttr]) | (refine acall_simple hX hC hP (containsFuncP_spec _ _ mayF_spec _ hl) rfl rfl rfl (by simp only [go_sem, simprocAttr]) rfl ?_; simp only [go_sem, simprocAttr]) | (refine acall_simple hX hC hP (isNaN_spec _) rfl rfl rfl (by simp only [go_sem, simprocAttr]) rfl ?_; simp only [go_sem, simprocAttr]) | (refine acall_simple hX hC hP (compare_spec _ _) rfl rfl rfl (by simp only [go_sem, simprocAttr]) rfl ?_; simp only [go_sem, simprocAttr]) | (refine acall_simple hX hC hP (within_spec _ _ _) rfl rfl rfl (by simp only [go_sem, simprocAttr]) rfl ?_; simp only [go_sem, simprocAttr]) | (refine acall_simple hX hC hP (times_spec _ _ _ _ (by assumption) (by assumption) (by assumption) (by assumption)) rfl rfl rfl (by simp only [go_sem, simprocAttr]) rfl ?_; simp only [go_sem, simprocAttr]) | (refine acall_simple hX hC hP (side_spec _ _ _ (by assumption) (by assumption) (by assumption)) rfl rfl rfl (by simp only [go_sem, simprocAttr]) rfl ?_; simp only [go_sem, simprocAttr]) | (refine acall_simple hX hC hP (on_spec _ _ _ (by assumption) (by assumption) (by assumption)) rfl rfl rfl (by simp only [go_sem, simprocAttr]) rfl ?_; simp only [go_sem, simprocAttr]) | (intro h))
  all_goals simp_all [outP]
  all_goals omega

theorem getD_rP (ps : List Pt) (i : Nat) : (ps.map rP).getD i [.sc (.int .i64 0), .sc (.int .i64 0)] = rP (ps.getD i (0, 0)) := by
  simp only [List.getD_eq_getElem?_getD, List.getElem?_map]
  cases ps[i]? <;> rfl
theorem rP_eq (p : Pt) : rP p = [.sc (.int .i64 p.1), .sc (.int .i64 p.2)] := rfl
attribute [go_sem] getD_rP rP_eq Int.toNat_natCast

theorem indexFuncP_spec (f : Nat) (g : Pt → Bool) (hf : ∀ p, Spec Try.prog f (Args [eP p]) [] (eB (g p)) []) (ps : List Pt) (hl : ps.length ≤ 9223372036854775806) :
    Spec Try.prog 127 (Args [.d (.sl 2 (ps.map rP)), .fn f [] []]) [] (eN (findI g ps)) [] := by
  (refine Spec.intro (C := T.cfg [] []) (rs := [.t 4]) (T.cfg_ok _ _) Try.func127 rfl rfl Try.ntmps127 Try.results127 (by simp [AObj.isNest]) (by simp [AObj.isNest]) (by kernel_rfl) ?_; intro X hX hP hC hXn hXm vals hA; refine ⟨_, by simp, hA, ?_⟩; have hmix : X.P.follows .mixedOrders = true := (by rw [hP]; exact T.mixed); clear hXn hXm)
  repeat' (first | (first | ((with_reducible (first | apply oA | apply oB)); exact rfl; intro K hK; simp only [go_sem, simprocAttr]) | (with_reducible apply oC) | ((with_reducible refine oD ?_ ?_); first | fail | kernel_rfl) | ((with_reducible (first | apply oE | apply oF)); (iterate 3 exact rfl); all_goals (intro h; first | (exact absurd h (by decide)) | ((try simp only [go_sem, simprocAttr] at h); first | (intro K hK; simp only [go_sem, simprocAttr]) | (simp only [go_sem, simprocAttr])))) | ((with_reducible (first | apply oG | apply oH)); (iterate 3 exact rfl); simp only [go_sem, simprocAttr]) | ((with_reducible apply oI); (iterate 2 exact rfl); (intro K hK; simp only [go_sem, simprocAttr])) | (with_reducible (first | apply oJ | exact oK))) | (refine hK _ ?_; clear hK K; simp only [LA.app, ASt.put, ASt.kill, subT, rmk, putM, rml, kl, AV.sub, AV.subs, AObj.sub, go_sem, simprocAttr]) | (first | fail | (with_reducible (first | apply wA | apply wB | apply wC hX hC | apply wD hX hC | apply wE hX hC hmix | apply wF hX hC hmix | apply wG | apply wH)) | ((with_reducible (first | apply wI | apply wJ)); simp only [athen, ablock, reduceIte, Nat.reduceEqDiff]) | ((with_reducible apply wK); simp only [go_sem, simprocAttr]) | ((with_reducible apply wL); exact rfl; all_goals (try (intro h; try simp only [go_sem, simprocAttr] at h))) | ((with_reducible apply wM); exact rfl; all_goals (intro h; first | (exact absurd h (by decide)) | (try simp only [go_sem, simprocAttr] at h)))) | (with_reducible apply And.intro) | omega | first | (refine acall_simple hX hC hP (hf _) rfl rfl rfl (by simp only [go_sem, simprocAttr]) rfl ?_; simp only [go_sem, simprocAttr]) | (refine acall_simple hX hC hP (indexFuncP_spec _ _ hf _ hl) rfl rfl rfl (by simp only [go_sem, simprocAttr]) rfl ?_; simp only [go_sem, simprocAttr]) | (refine acall_simple hX hC hP (containsFuncP_spec _ _ mayF_spec _ hl) rfl rfl rfl (by simp only [go_sem, simprocAttr]) rfl ?_; simp only [go_sem, simprocAttr]) | (refine acall_simple hX hC hP (isNaN_spec _) rfl rfl rfl (by simp only [go_sem, simprocAttr]) rfl ?_; simp only [go_sem, simprocAttr]) | (refine acall_simple hX hC hP (compare_spec _ _) rfl rfl rfl (by simp only [go_sem, simprocAttr]) rfl ?_; simp only [go_sem, simprocAttr]) | (refine acall_simple hX hC hP (within_spec _ _ _) rfl rfl rfl (by simp only [go_sem, simprocAttr]) rfl ?_; simp only [go_sem, simprocAttr]) | (refine acall_simple hX hC hP (times_spec _ _ _ _ (by assumption) (by assumption) (by assumption) (by assumption)) rfl rfl rfl (by simp only [go_sem, simprocAttr]) rfl ?_; simp only [go_sem, simprocAttr]) | (refine acall_simple hX hC hP (side_spec _ _ _ (by assumption) (by assumption) (by assumption)) rfl rfl rfl (by simp only [go_sem, simprocAttr]) rfl ?_; simp only [go_sem, simprocAttr]) | (refine acall_simple hX hC hP (on_spec _ _ _ (by assumption) (by assumption) (by assumption)) rfl rfl rfl (by simp only [go_sem, simprocAttr]) rfl ?_; simp only [go_sem, simprocAttr]) | (intro h))
  refine awp_loopP (fun k : Nat => k ≤ ps.length ∧ ∀ j, j < k → g (ps.getD j (0, 0)) = false) (fun k => ⟨[(0, .d (.sl 2 (ps.map rP))), (1, .fn f [] []), (7, .d (.sc (.int .i64 (ps.length : Int)))), (8, .d (.sc (.int .i64 (k : Int))))], []⟩) (fun k => ps.length - k) 0 (by simp) ?_ ?_
  · refine Le.of ?_ ?_ <;> simp [go_sem, simprocAttr]
  rintro k ⟨hk, hg⟩
  repeat' (first | (first | ((with_reducible (first | apply oA | apply oB)); exact rfl; intro K hK; simp only [go_sem, simprocAttr]) | (with_reducible apply oC) | ((with_reducible refine oD ?_ ?_); first | fail | kernel_rfl) | ((with_reducible (first | apply oE | apply oF)); (iterate 3 exact rfl); all_goals (intro h; first | (exact absurd h (by decide)) | ((try simp only [go_sem, simprocAttr] at h); first | (intro K hK; simp only [go_sem, simprocAttr]) | (simp only [go_sem, simprocAttr])))) | ((with_reducible (first | apply oG | apply oH)); (iterate 3 exact rfl); simp only [go_sem, simprocAttr]) | ((with_reducible apply oI); (iterate 2 exact rfl); (intro K hK; simp only [go_sem, simprocAttr])) | (with_reducible (first | apply oJ | exact oK))) | (refine hK _ ?_; clear hK K; simp only [LA.app, ASt.put, ASt.kill, subT, rmk, putM, rml, kl, AV.sub, AV.subs, AObj.sub, go_sem, simprocAttr]) | (first | fail | (with_reducible (first | apply wA | apply wB | apply wC hX hC | apply wD hX hC | apply wE hX hC hmix | apply wF hX hC hmix | apply wG | apply wH)) | ((with_reducible (first | apply wI | apply wJ)); simp only [athen, ablock, reduceIte, Nat.reduceEqDiff]) | ((with_reducible apply wK); simp only [go_sem, simprocAttr]) | ((with_reducible apply wL); exact rfl; all_goals (try (intro h; try simp only [go_sem, simprocAttr] at h))) | ((with_reducible apply wM); exact rfl; all_goals (intro h; first | (exact absurd h (by decide)) | (try simp only [go_sem, simprocAttr] at h)))) | (with_reducible apply And.intro) | omega | first | (refine acall_simple hX hC hP (hf _) rfl rfl rfl (by simp only [go_sem, simprocAttr]) rfl ?_; simp only [go_sem, simprocAttr]) | (refine acall_simple hX hC hP (indexFuncP_spec _ _ hf _ hl) rfl rfl rfl (by simp only [go_sem, simprocAttr]) rfl ?_; simp only [go_sem, simprocAttr]) | (refine acall_simple hX hC hP (containsFuncP_spec _ _ mayF_spec _ hl) rfl rfl rfl (by simp only [go_sem, simprocAttr]) rfl ?_; simp only [go_sem, simprocAttr]) | (refine acall_simple hX hC hP (isNaN_spec _) rfl rfl rfl (by simp only [go_sem, simprocAttr]) rfl ?_; simp only [go_sem, simprocAttr]) | (refine acall_simple hX hC hP (compare_spec _ _) rfl rfl rfl (by simp only [go_sem, simprocAttr]) rfl ?_; simp only [go_sem, simprocAttr]) | (refine acall_simple hX hC hP (within_spec _ _ _) rfl rfl rfl (by simp only [go_sem, simprocAttr]) rfl ?_; simp only [go_sem, simprocAttr]) | (refine acall_simple hX hC hP (times_spec _ _ _ _ (by assumption) (by assumption) (by assumption) (by assumption)) rfl rfl rfl (by simp only [go_sem, simprocAttr]) rfl ?_; simp only [go_sem, simprocAttr]) | (refine acall_simple hX hC hP (side_spec _ _ _ (by assumption) (by assumption) (by assumption)) rfl rfl rfl (by simp only [go_sem, simprocAttr]) rfl ?_; simp only [go_sem, simprocAttr]) | (refine acall_simple hX hC hP (on_spec _ _ _ (by assumption) (by assumption) (by assumption)) rfl rfl rfl (by simp only [go_sem, simprocAttr]) rfl ?_; simp only [go_sem, simprocAttr]) | (intro h))
  · exact (findI_at (d := (0, 0)) (by omega) hg h).symm
  · refine ⟨k + 1, ⟨by omega, fun j hj => ?_⟩, Le.of ?_ ?_, by omega⟩
    · by_cases hjk : j = k
      · subst hjk; exact h
      · exact hg j (by omega)
    · simp [go_sem, simprocAttr]
    · simp [go_sem, simprocAttr]
  · exact (findI_none (0, 0) fun j hj => hg j (by omega)).symm

theorem containsFuncP_spec (f : Nat) (g : Pt → Bool) (hf : ∀ p, Spec Try.prog f (Args [eP p]) [] (eB (g p)) []) (ps : List Pt) (hl : ps.length ≤ 9223372036854775806) :
    Spec Try.prog 88 (Args [.d (.sl 2 (ps.map rP)), .fn f [] []]) [] (eB (ps.any g)) [] := by
  (refine Spec.intro (C := T.cfg [] []) (rs := [.t 4]) (T.cfg_ok _ _) Try.func88 rfl rfl Try.ntmps88 Try.results88 (by simp [AObj.isNest]) (by simp [AObj.isNest]) (by kernel_rfl) ?_; intro X hX hP hC hXn hXm vals hA; refine ⟨_, by simp, hA, ?_⟩; have hmix : X.P.follows .mixedOrders = true := (by rw [hP]; exact T.mixed); clear hXn hXm)
  repeat' (first | (first | ((with_reducible (first | apply oA | apply oB)); exact rfl; intro K hK; simp only [go_sem, simprocAttr]) | (with_reducible apply oC) | ((with_reducible refine oD ?_ ?_); first | fail | kernel_rfl) | ((with_reducible (first | apply oE | apply oF)); (iterate 3 exact rfl); all_goals (intro h; first | (exact absurd h (by decide)) | ((try simp only [go_sem, simprocAttr] at h); first | (intro K hK; simp only [go_sem, simprocAttr]) | (simp only [go_sem, simprocAttr])))) | ((with_reducible (first | apply oG | apply oH)); (iterate 3 exact rfl); simp only [go_sem, simprocAttr]) | ((with_reducible apply oI); (iterate 2 exact rfl); (intro K hK; simp only [go_sem, simprocAttr])) | (with_reducible (first | apply oJ | exact oK))) | (refine hK _ ?_; clear hK K; simp only [LA.app, ASt.put, ASt.kill, subT, rmk, putM, rml, kl, AV.sub, AV.subs, AObj.sub, go_sem, simprocAttr]) | (first | fail | (with_reducible (first | apply wA | apply wB | apply wC hX hC | apply wD hX hC | apply wE hX hC hmix | apply wF hX hC hmix | apply wG | apply wH)) | ((with_reducible (first | apply wI | apply wJ)); simp only [athen, ablock, reduceIte, Nat.reduceEqDiff]) | ((with_reducible apply wK); simp only [go_sem, simprocAttr]) | ((with_reducible apply wL); exact rfl; all_goals (try (intro h; try simp only [go_sem, simprocAttr] at h))) | ((with_reducible apply wM); exact rfl; all_goals (intro h; first | (exact absurd h (by decide)) | (try simp only [go_sem, simprocAttr] at h)))) | (with_reducible apply And.intro) | omega | first | (refine acall_simple hX hC hP (hf _) rfl rfl rfl (by simp only [go_sem, simprocAttr]) rfl ?_; simp only [go_sem, simprocAttr]) | (refine acall_simple hX hC hP (indexFuncP_spec _ _ hf _ hl) rfl rfl rfl (by simp only [go_sem, simprocAttr]) rfl ?_; simp only [go_sem, simprocAttr]) | (refine acall_simple hX hC hP (containsFuncP_spec _ _ mayF_spec _ hl) rfl rfl rfl (by simp only [go_sem, simprocAttr]) rfl ?_; simp only [go_sem, simprocAttr]) | (refine acall_simple hX hC hP (isNaN_spec _) rfl rfl rfl (by simp only [go_sem, simprocAttr]) rfl ?_; simp only [go_sem, simprocAttr]) | (refine acall_simple hX hC hP (compare_spec _ _) rfl rfl rfl (by simp only [go_sem, simprocAttr]) rfl ?_; simp only [go_sem, simprocAttr]) | (refine acall_simple hX hC hP (within_spec _ _ _) rfl rfl rfl (by simp only [go_sem, simprocAttr]) rfl ?_; simp only [go_sem, simprocAttr]) | (refine acall_simple hX hC hP (times_spec _ _ _ _ (by assumption) (by assumption) (by assumption) (by assumption)) rfl rfl rfl (by simp only [go_sem, simprocAttr]) rfl ?_; simp only [go_sem, simprocAttr]) | (refine acall_simple hX hC hP (side_spec _ _ _ (by assumption) (by assumption) (by assumption)) rfl rfl rfl (by simp only [go_sem, simprocAttr]) rfl ?_; simp only [go_sem, simprocAttr]) | (refine acall_simple hX hC hP (on_spec _ _ _ (by assumption) (by assumption) (by assumption)) rfl rfl rfl (by simp only [go_sem, simprocAttr]) rfl ?_; simp only [go_sem, simprocAttr]) | (intro h))
  rw [← findI_any]

theorem mayP_spec (ps : List Pt) (hl : ps.length ≤ 9223372036854775806) : Spec Try.prog 76 (Args [.d (.sl 2 (ps.map rP))]) [] (eB (!ps.any outP)) [] := by
  (refine Spec.intro (C := T.cfg [] []) (rs := [.t 2]) (T.cfg_ok _ _) Try.func76 rfl rfl Try.ntmps76 Try.results76 (by simp [AObj.isNest]) (by simp [AObj.isNest]) (by kernel_rfl) ?_; intro X hX hP hC hXn hXm vals hA; refine ⟨_, by simp, hA, ?_⟩; have hmix : X.P.follows .mixedOrders = true := (by rw [hP]; exact T.mixed); clear hXn hXm)
  repeat' (first | (first | ((with_reducible (first | apply oA | apply oB)); exact rfl; intro K hK; simp only [go_sem, simprocAttr]) | (with_reducible apply oC) | ((with_reducible refine oD ?_ ?_); first | fail | kernel_rfl) | ((with_reducible (first | apply oE | apply oF)); (iterate 3 exact rfl); all_goals (intro h; first | (exact absurd h (by decide)) | ((try simp only [go_sem, simprocAttr] at h); first | (intro K hK; simp only [go_sem, simprocAttr]) | (simp only [go_sem, simprocAttr])))) | ((with_reducible (first | apply oG | apply oH)); (iterate 3 exact rfl); simp only [go_sem, simprocAttr]) | ((with_reducible apply oI); (iterate 2 exact rfl); (intro K hK; simp only [go_sem, simprocAttr])) | (with_reducible (first | apply oJ | exact oK))) | (refine hK _ ?_; clear hK K; simp only [LA.app, ASt.put, ASt.kill, subT, rmk, putM, rml, kl, AV.sub, AV.subs, AObj.sub, go_sem, simprocAttr]) | (first | fail | (with_reducible (first | apply wA | apply wB | apply wC hX hC | apply wD hX hC | apply wE hX hC hmix | apply wF hX hC hmix | apply wG | apply wH)) | ((with_reducible (first | apply wI | apply wJ)); simp only [athen, ablock, reduceIte, Nat.reduceEqDiff]) | ((with_reducible apply wK); simp only [go_sem, simprocAttr]) | ((with_reducible apply wL); exact rfl; all_goals (try (intro h; try simp only [go_sem, simprocAttr] at h))) | ((with_reducible apply wM); exact rfl; all_goals (intro h; first | (exact absurd h (by decide)) | (try simp only [go_sem, simprocAttr] at h)))) | (with_reducible apply And.intro) | omega | first | (refine acall_simple hX hC hP (hf _) rfl rfl rfl (by simp only [go_sem, simprocAttr]) rfl ?_; simp only [go_sem, simprocAttr]) | (refine acall_simple hX hC hP (indexFuncP_spec _ _ hf _ hl) rfl rfl rfl (by simp only [go_sem, simprocAttr]) rfl ?_; simp only [go_sem, simprocAttr]) | (refine acall_simple hX hC hP (containsFuncP_spec _ _ mayF_spec _ hl) rfl rfl rfl (by simp only [go_sem, simprocAttr]) rfl ?_; simp only [go_sem, simprocAttr]) | (refine acall_simple hX hC hP (isNaN_spec _) rfl rfl rfl (by simp only [go_sem, simprocAttr]) rfl ?_; simp only [go_sem, simprocAttr]) | (refine acall_simple hX hC hP (compare_spec _ _) rfl rfl rfl (by simp only [go_sem, simprocAttr]) rfl ?_; simp only [go_sem, simprocAttr]) | (refine acall_simple hX hC hP (within_spec _ _ _) rfl rfl rfl (by simp only [go_sem, simprocAttr]) rfl ?_; simp only [go_sem, simprocAttr]) | (refine acall_simple hX hC hP (times_spec _ _ _ _ (by assumption) (by assumption) (by assumption) (by assumption)) rfl rfl rfl (by simp only [go_sem, simprocAttr]) rfl ?_; simp only [go_sem, simprocAttr]) | (refine acall_simple hX hC hP (side_spec _ _ _ (by assumption) (by assumption) (by assumption)) rfl rfl rfl (by simp only [go_sem, simprocAttr]) rfl ?_; simp only [go_sem, simprocAttr]) | (refine acall_simple hX hC hP (on_spec _ _ _ (by assumption) (by assumption) (by assumption)) rfl rfl rfl (by simp only [go_sem, simprocAttr]) rfl ?_; simp only [go_sem, simprocAttr]) | (intro h))
end Go.Ab
end
section
namespace Go.Ab
open Go.Proofs
attribute [local congr] ACall.congr
set_option maxRecDepth 10000

instance (p : Pt) : Decidable (InB p) := by unfold InB; infer_instance
theorem outP_eq (p : Pt) : outP p = !decide (InB p) := by
  by_cases h : InB p
  · rw [decide_eq_true h]
    simp only [InB] at h
    simp only [outP, Int.max_def, Int.min_def, Bool.not_true, Bool.or_eq_false_iff, decide_eq_false_iff_not]
    split <;> omega
  · rw [decide_eq_false h]
    simp only [InB] at h
    simp only [outP, Int.max_def, Int.min_def, Bool.not_false, Bool.or_eq_true, decide_eq_true_eq]
    split <;> omega
theorem any_out (ps : List Pt) : (!ps.any outP) = decide (∀ p ∈ ps, InB p) := by
  rw [Bool.eq_iff_iff]; simp [outP_eq]
theorem may_in (ps : List Pt) (hl : ps.length ≤ 9223372036854775806) (h : ∀ p ∈ ps, InB p) : Spec Try.prog 76 (Args [.d (.sl 2 (ps.map rP))]) [] (eB true) [] := by
  have := mayP_spec ps hl
  rw [any_out, decide_eq_true h] at this
  exact this
theorem may_out (ps : List Pt) (hl : ps.length ≤ 9223372036854775806) (h : ¬ ∀ p ∈ ps, InB p) : Spec Try.prog 76 (Args [.d (.sl 2 (ps.map rP))]) [] (eB false) [] := by
  have := mayP_spec ps hl
  rw [any_out, decide_eq_false h] at this
  exact this

theorem may_in3 (a b c : Pt) (ha : InB a) (hb : InB b) (hc : InB c) : Spec Try.prog 76 (Args [.d (.sl 2 ([a, b, c].map rP))]) [] (eB true) [] := may_in _ (by simp) (by simp [ha, hb, hc])
theorem may_in4 (a b c d : Pt) (ha : InB a) (hb : InB b) (hc : InB c) (hd : InB d) : Spec Try.prog 76 (Args [.d (.sl 2 ([a, b, c, d].map rP))]) [] (eB true) [] := may_in _ (by simp) (by simp [ha, hb, hc, hd])
theorem may_out3 (a b c : Pt) (h : ¬ (InB a ∧ InB b ∧ InB c)) : Spec Try.prog 76 (Args [.d (.sl 2 ([a, b, c].map rP))]) [] (eB false) [] := may_out _ (by simp) (by simpa using h)
theorem may_out4 (a b c d : Pt) (h : ¬ (InB a ∧ InB b ∧ InB c ∧ InB d)) : Spec Try.prog 76 (Args [.d (.sl 2 ([a, b, c, d].map rP))]) [] (eB false) [] := may_out _ (by simp) (by simpa using h)


def OnV (a b c : Pt) : Bool := decide (InB a ∧ InB b ∧ InB c) && onP a b c
theorem On_spec (a b c : Pt) : Spec Try.prog 87 (Args [eP a, eP b, eP c]) [] (eB (OnV a b c)) [] := by
  by_cases hin : InB a ∧ InB b ∧ InB c
  · obtain ⟨ha, hb, hc⟩ := hin
    (refine Spec.intro (C := T.cfg [] []) (rs := [.t 6]) (T.cfg_ok _ _) Try.func87 rfl rfl Try.ntmps87 Try.results87 (by simp [AObj.isNest]) (by simp [AObj.isNest]) (by kernel_rfl) ?_; intro X hX hP hC hXn hXm vals hA; refine ⟨_, by simp, hA, ?_⟩; have hmix : X.P.follows .mixedOrders = true := (by rw [hP]; exact T.mixed); clear hXn hXm)
    repeat' (first | (first | ((with_reducible (first | apply oA | apply oB)); exact rfl; intro K hK; simp only [go_sem, simprocAttr]) | (with_reducible apply oC) | ((with_reducible refine oD ?_ ?_); first | fail | kernel_rfl) | ((with_reducible (first | apply oE | apply oF)); (iterate 3 exact rfl); all_goals (intro h; first | (exact absurd h (by decide)) | ((try simp only [go_sem, simprocAttr] at h); first | (intro K hK; simp only [go_sem, simprocAttr]) | (simp only [go_sem, simprocAttr])))) | ((with_reducible (first | apply oG | apply oH)); (iterate 3 exact rfl); simp only [go_sem, simprocAttr]) | ((with_reducible apply oI); (iterate 2 exact rfl); (intro K hK; simp only [go_sem, simprocAttr])) | (with_reducible (first | apply oJ | exact oK))) | (refine hK _ ?_; clear hK K; simp only [LA.app, ASt.put, ASt.kill, subT, rmk, putM, rml, kl, AV.sub, AV.subs, AObj.sub, go_sem, simprocAttr]) | (first | fail | (with_reducible (first | apply wA | apply wB | apply wC hX hC | apply wD hX hC | apply wE hX hC hmix | apply wF hX hC hmix | apply wG | apply wH)) | ((with_reducible (first | apply wI | apply wJ)); simp only [athen, ablock, reduceIte, Nat.reduceEqDiff]) | ((with_reducible apply wK); simp only [go_sem, simprocAttr]) | ((with_reducible apply wL); exact rfl; all_goals (try (intro h; try simp only [go_sem, simprocAttr] at h))) | ((with_reducible apply wM); exact rfl; all_goals (intro h; first | (exact absurd h (by decide)) | (try simp only [go_sem, simprocAttr] at h)))) | (with_reducible apply And.intro) | omega | first | (refine acall_simple hX hC hP (compare_spec _ _) rfl rfl rfl (by simp only [go_sem, simprocAttr]) rfl ?_; simp only [go_sem, simprocAttr]) | (refine acall_simple hX hC hP (within_spec _ _ _) rfl rfl rfl (by simp only [go_sem, simprocAttr]) rfl ?_; simp only [go_sem, simprocAttr]) | (refine acall_simple hX hC hP (times_spec _ _ _ _ (by assumption) (by assumption) (by assumption) (by assumption)) rfl rfl rfl (by simp only [go_sem, simprocAttr]) rfl ?_; simp only [go_sem, simprocAttr]) | (refine acall_simple hX hC hP (side_spec _ _ _ (by assumption) (by assumption) (by assumption)) rfl rfl rfl (by simp only [go_sem, simprocAttr]) rfl ?_; simp only [go_sem, simprocAttr]) | (refine acall_simple hX hC hP (on_spec _ _ _ (by assumption) (by assumption) (by assumption)) rfl rfl rfl (by simp only [go_sem, simprocAttr]) rfl ?_; simp only [go_sem, simprocAttr]) | (refine acall_look hX hC hP (may_in3 a b c (by assumption) (by assumption) (by assumption)) rfl rfl rfl ?_ ?_ rfl ?_; (iterate 2 (focus (simp only [go_sem, simprocAttr]; done))); simp only [go_sem, simprocAttr]) | (refine acall_look hX hC hP (may_in4 a b c d (by assumption) (by assumption) (by assumption) (by assumption)) rfl rfl rfl ?_ ?_ rfl ?_; (iterate 2 (focus (simp only [go_sem, simprocAttr]; done))); simp only [go_sem, simprocAttr]) | (refine acall_look hX hC hP (may_out3 a b c (by assumption)) rfl rfl rfl ?_ ?_ rfl ?_; (iterate 2 (focus (simp only [go_sem, simprocAttr]; done))); simp only [go_sem, simprocAttr]) | (refine acall_look hX hC hP (may_out4 a b c d (by assumption)) rfl rfl rfl ?_ ?_ rfl ?_; (iterate 2 (focus (simp only [go_sem, simprocAttr]; done))); simp only [go_sem, simprocAttr]) | (intro h))
    all_goals simp [OnV, ha, hb, hc]
  · (refine Spec.intro (C := T.cfg [] []) (rs := [.t 6]) (T.cfg_ok _ _) Try.func87 rfl rfl Try.ntmps87 Try.results87 (by simp [AObj.isNest]) (by simp [AObj.isNest]) (by kernel_rfl) ?_; intro X hX hP hC hXn hXm vals hA; refine ⟨_, by simp, hA, ?_⟩; have hmix : X.P.follows .mixedOrders = true := (by rw [hP]; exact T.mixed); clear hXn hXm)
    repeat' (first | (first | ((with_reducible (first | apply oA | apply oB)); exact rfl; intro K hK; simp only [go_sem, simprocAttr]) | (with_reducible apply oC) | ((with_reducible refine oD ?_ ?_); first | fail | kernel_rfl) | ((with_reducible (first | apply oE | apply oF)); (iterate 3 exact rfl); all_goals (intro h; first | (exact absurd h (by decide)) | ((try simp only [go_sem, simprocAttr] at h); first | (intro K hK; simp only [go_sem, simprocAttr]) | (simp only [go_sem, simprocAttr])))) | ((with_reducible (first | apply oG | apply oH)); (iterate 3 exact rfl); simp only [go_sem, simprocAttr]) | ((with_reducible apply oI); (iterate 2 exact rfl); (intro K hK; simp only [go_sem, simprocAttr])) | (with_reducible (first | apply oJ | exact oK))) | (refine hK _ ?_; clear hK K; simp only [LA.app, ASt.put, ASt.kill, subT, rmk, putM, rml, kl, AV.sub, AV.subs, AObj.sub, go_sem, simprocAttr]) | (first | fail | (with_reducible (first | apply wA | apply wB | apply wC hX hC | apply wD hX hC | apply wE hX hC hmix | apply wF hX hC hmix | apply wG | apply wH)) | ((with_reducible (first | apply wI | apply wJ)); simp only [athen, ablock, reduceIte, Nat.reduceEqDiff]) | ((with_reducible apply wK); simp only [go_sem, simprocAttr]) | ((with_reducible apply wL); exact rfl; all_goals (try (intro h; try simp only [go_sem, simprocAttr] at h))) | ((with_reducible apply wM); exact rfl; all_goals (intro h; first | (exact absurd h (by decide)) | (try simp only [go_sem, simprocAttr] at h)))) | (with_reducible apply And.intro) | omega | first | (refine acall_simple hX hC hP (compare_spec _ _) rfl rfl rfl (by simp only [go_sem, simprocAttr]) rfl ?_; simp only [go_sem, simprocAttr]) | (refine acall_simple hX hC hP (within_spec _ _ _) rfl rfl rfl (by simp only [go_sem, simprocAttr]) rfl ?_; simp only [go_sem, simprocAttr]) | (refine acall_simple hX hC hP (times_spec _ _ _ _ (by assumption) (by assumption) (by assumption) (by assumption)) rfl rfl rfl (by simp only [go_sem, simprocAttr]) rfl ?_; simp only [go_sem, simprocAttr]) | (refine acall_simple hX hC hP (side_spec _ _ _ (by assumption) (by assumption) (by assumption)) rfl rfl rfl (by simp only [go_sem, simprocAttr]) rfl ?_; simp only [go_sem, simprocAttr]) | (refine acall_simple hX hC hP (on_spec _ _ _ (by assumption) (by assumption) (by assumption)) rfl rfl rfl (by simp only [go_sem, simprocAttr]) rfl ?_; simp only [go_sem, simprocAttr]) | (refine acall_look hX hC hP (may_in3 a b c (by assumption) (by assumption) (by assumption)) rfl rfl rfl ?_ ?_ rfl ?_; (iterate 2 (focus (simp only [go_sem, simprocAttr]; done))); simp only [go_sem, simprocAttr]) | (refine acall_look hX hC hP (may_in4 a b c d (by assumption) (by assumption) (by assumption) (by assumption)) rfl rfl rfl ?_ ?_ rfl ?_; (iterate 2 (focus (simp only [go_sem, simprocAttr]; done))); simp only [go_sem, simprocAttr]) | (refine acall_look hX hC hP (may_out3 a b c (by assumption)) rfl rfl rfl ?_ ?_ rfl ?_; (iterate 2 (focus (simp only [go_sem, simprocAttr]; done))); simp only [go_sem, simprocAttr]) | (refine acall_look hX hC hP (may_out4 a b c d (by assumption)) rfl rfl rfl ?_ ?_ rfl ?_; (iterate 2 (focus (simp only [go_sem, simprocAttr]; done))); simp only [go_sem, simprocAttr]) | (intro h))
    all_goals rw [OnV, decide_eq_false hin]; rfl
end Go.Ab
end
section
namespace Go.Ab
open Go.Proofs
attribute [local congr] ACall.congr
set_option maxRecDepth 10000

theorem dec_of {p : Prop} [Decidable p] {b : Bool} (h : b = true ↔ p) : b = decide p := by
  by_cases hp : p
  · rw [decide_eq_true hp]; exact h.2 hp
  · rw [decide_eq_false hp]
    cases b with
    | true => exact absurd (h.1 rfl) hp
    | false => rfl

theorem refMayP_spec (p : Pt) : Spec Try.prog 89 (Args [eP p]) [] (eB (decide (InB p))) [] := by
  (refine Spec.intro (C := T.cfg [] []) (rs := [.t 2]) (T.cfg_ok _ _) Try.func89 rfl rfl Try.ntmps89 Try.results89 (by simp [AObj.isNest]) (by simp [AObj.isNest]) (by kernel_rfl) ?_; intro X hX hP hC hXn hXm vals hA; refine ⟨_, by simp, hA, ?_⟩; have hmix : X.P.follows .mixedOrders = true := (by rw [hP]; exact T.mixed); clear hXn hXm)
  repeat' (first | (first | ((with_reducible (first | apply oA | apply oB)); exact rfl; intro K hK; simp only [go_sem, simprocAttr]) | (with_reducible apply oC) | ((with_reducible refine oD ?_ ?_); first | fail | kernel_rfl) | ((with_reducible (first | apply oE | apply oF)); (iterate 3 exact rfl); all_goals (intro h; first | (exact absurd h (by decide)) | ((try simp only [go_sem, simprocAttr] at h); first | (intro K hK; simp only [go_sem, simprocAttr]) | (simp only [go_sem, simprocAttr])))) | ((with_reducible (first | apply oG | apply oH)); (iterate 3 exact rfl); simp only [go_sem, simprocAttr]) | ((with_reducible apply oI); (iterate 2 exact rfl); (intro K hK; simp only [go_sem, simprocAttr])) | (with_reducible (first | apply oJ | exact oK))) | (refine hK _ ?_; clear hK K; simp only [LA.app, ASt.put, ASt.kill, subT, rmk, putM, rml, kl, AV.sub, AV.subs, AObj.sub, go_sem, simprocAttr]) | (first | fail | (with_reducible (first | apply wA | apply wB | apply wC hX hC | apply wD hX hC | apply wE hX hC hmix | apply wF hX hC hmix | apply wG | apply wH)) | ((with_reducible (first | apply wI | apply wJ)); simp only [athen, ablock, reduceIte, Nat.reduceEqDiff]) | ((with_reducible apply wK); simp only [go_sem, simprocAttr]) | ((with_reducible apply wL); exact rfl; all_goals (try (intro h; try simp only [go_sem, simprocAttr] at h))) | ((with_reducible apply wM); exact rfl; all_goals (intro h; first | (exact absurd h (by decide)) | (try simp only [go_sem, simprocAttr] at h)))) | (with_reducible apply And.intro) | omega | first | (refine acall_simple hX hC hP (refMayP_in _ (by assumption)) rfl rfl rfl (by simp only [go_sem, simprocAttr]) rfl ?_; simp only [go_sem, simprocAttr]) | (refine acall_simple hX hC hP (refMayP_out _ (by assumption)) rfl rfl rfl (by simp only [go_sem, simprocAttr]) rfl ?_; simp only [go_sem, simprocAttr]) | (refine acall_simple hX hC hP (sign_spec _) rfl rfl rfl (by simp only [go_sem, simprocAttr]) rfl ?_; simp only [go_sem, simprocAttr]) | (refine acall_simple hX hC hP (area_spec _ _ _ (by assumption) (by assumption) (by assumption)) rfl rfl rfl (by simp only [go_sem, simprocAttr]) rfl ?_; simp only [go_sem, simprocAttr]) | (refine acall_simple hX hC hP (along_spec _ _ _ (by assumption) (by assumption) (by assumption)) rfl rfl rfl (by simp only [go_sem, simprocAttr]) rfl ?_; simp only [go_sem, simprocAttr]) | (refine acall_simple hX hC hP (refOn_spec _ _ _) rfl rfl rfl (by simp only [go_sem, simprocAttr]) rfl ?_; simp only [go_sem, simprocAttr]) | (intro h))
  all_goals (refine dec_of ?_; simp only [InB, decide_eq_true_eq, Bool.false_eq_true, false_iff]; omega)
theorem refMayP_in (p : Pt) (h : InB p) : Spec Try.prog 89 (Args [eP p]) [] (eB true) [] := by
  have := refMayP_spec p; rwa [decide_eq_true h] at this
theorem refMayP_out (p : Pt) (h : ¬ InB p) : Spec Try.prog 89 (Args [eP p]) [] (eB false) [] := by
  have := refMayP_spec p; rwa [decide_eq_false h] at this

theorem sign_spec (n : Int) : Spec Try.prog 129 (Args [eN n]) [] (eN (cmpI n 0)) [] := by
  (refine Spec.intro (C := T.cfg [] []) (rs := [.t 2]) (T.cfg_ok _ _) Try.func129 rfl rfl Try.ntmps129 Try.results129 (by simp [AObj.isNest]) (by simp [AObj.isNest]) (by kernel_rfl) ?_; intro X hX hP hC hXn hXm vals hA; refine ⟨_, by simp, hA, ?_⟩; have hmix : X.P.follows .mixedOrders = true := (by rw [hP]; exact T.mixed); clear hXn hXm)
  repeat' (first | (first | ((with_reducible (first | apply oA | apply oB)); exact rfl; intro K hK; simp only [go_sem, simprocAttr]) | (with_reducible apply oC) | ((with_reducible refine oD ?_ ?_); first | fail | kernel_rfl) | ((with_reducible (first | apply oE | apply oF)); (iterate 3 exact rfl); all_goals (intro h; first | (exact absurd h (by decide)) | ((try simp only [go_sem, simprocAttr] at h); first | (intro K hK; simp only [go_sem, simprocAttr]) | (simp only [go_sem, simprocAttr])))) | ((with_reducible (first | apply oG | apply oH)); (iterate 3 exact rfl); simp only [go_sem, simprocAttr]) | ((with_reducible apply oI); (iterate 2 exact rfl); (intro K hK; simp only [go_sem, simprocAttr])) | (with_reducible (first | apply oJ | exact oK))) | (refine hK _ ?_; clear hK K; simp only [LA.app, ASt.put, ASt.kill, subT, rmk, putM, rml, kl, AV.sub, AV.subs, AObj.sub, go_sem, simprocAttr]) | (first | fail | (with_reducible (first | apply wA | apply wB | apply wC hX hC | apply wD hX hC | apply wE hX hC hmix | apply wF hX hC hmix | apply wG | apply wH)) | ((with_reducible (first | apply wI | apply wJ)); simp only [athen, ablock, reduceIte, Nat.reduceEqDiff]) | ((with_reducible apply wK); simp only [go_sem, simprocAttr]) | ((with_reducible apply wL); exact rfl; all_goals (try (intro h; try simp only [go_sem, simprocAttr] at h))) | ((with_reducible apply wM); exact rfl; all_goals (intro h; first | (exact absurd h (by decide)) | (try simp only [go_sem, simprocAttr] at h)))) | (with_reducible apply And.intro) | omega | first | (refine acall_simple hX hC hP (refMayP_in _ (by assumption)) rfl rfl rfl (by simp only [go_sem, simprocAttr]) rfl ?_; simp only [go_sem, simprocAttr]) | (refine acall_simple hX hC hP (refMayP_out _ (by assumption)) rfl rfl rfl (by simp only [go_sem, simprocAttr]) rfl ?_; simp only [go_sem, simprocAttr]) | (refine acall_simple hX hC hP (sign_spec _) rfl rfl rfl (by simp only [go_sem, simprocAttr]) rfl ?_; simp only [go_sem, simprocAttr]) | (refine acall_simple hX hC hP (area_spec _ _ _ (by assumption) (by assumption) (by assumption)) rfl rfl rfl (by simp only [go_sem, simprocAttr]) rfl ?_; simp only [go_sem, simprocAttr]) | (refine acall_simple hX hC hP (along_spec _ _ _ (by assumption) (by assumption) (by assumption)) rfl rfl rfl (by simp only [go_sem, simprocAttr]) rfl ?_; simp only [go_sem, simprocAttr]) | (refine acall_simple hX hC hP (refOn_spec _ _ _) rfl rfl rfl (by simp only [go_sem, simprocAttr]) rfl ?_; simp only [go_sem, simprocAttr]) | (intro h))
  all_goals (unfold cmpI; repeat' split) <;> omega

def areaV (a b c : Pt) : Int := a.1 * b.2 - a.2 * b.1 + b.1 * c.2 - b.2 * c.1 + c.1 * a.2 - c.2 * a.1
theorem area_spec (a b c : Pt) (ha : InB a) (hb : InB b) (hc : InB c) : Spec Try.prog 128 (Args [eP a, eP b, eP c]) [] (eN (areaV a b c)) [] := by
  (refine Spec.intro (C := T.cfg [] []) (rs := [.t 6]) (T.cfg_ok _ _) Try.func128 rfl rfl Try.ntmps128 Try.results128 (by simp [AObj.isNest]) (by simp [AObj.isNest]) (by kernel_rfl) ?_; intro X hX hP hC hXn hXm vals hA; refine ⟨_, by simp, hA, ?_⟩; have hmix : X.P.follows .mixedOrders = true := (by rw [hP]; exact T.mixed); clear hXn hXm)
  have m1 := mulB ha.1 hb.2
  have m2 := mulB ha.2 hb.1
  have m3 := mulB hb.1 hc.2
  have m4 := mulB hb.2 hc.1
  have m5 := mulB hc.1 ha.2
  have m6 := mulB hc.2 ha.1
  repeat' (first | (first | ((with_reducible (first | apply oA | apply oB)); exact rfl; intro K hK; simp only [go_sem, simprocAttr]) | (with_reducible apply oC) | ((with_reducible refine oD ?_ ?_); first | fail | kernel_rfl) | ((with_reducible (first | apply oE | apply oF)); (iterate 3 exact rfl); all_goals (intro h; first | (exact absurd h (by decide)) | ((try simp only [go_sem, simprocAttr] at h); first | (intro K hK; simp only [go_sem, simprocAttr]) | (simp only [go_sem, simprocAttr])))) | ((with_reducible (first | apply oG | apply oH)); (iterate 3 exact rfl); simp only [go_sem, simprocAttr]) | ((with_reducible apply oI); (iterate 2 exact rfl); (intro K hK; simp only [go_sem, simprocAttr])) | (with_reducible (first | apply oJ | exact oK))) | (refine hK _ ?_; clear hK K; simp only [LA.app, ASt.put, ASt.kill, subT, rmk, putM, rml, kl, AV.sub, AV.subs, AObj.sub, go_sem, simprocAttr]) | (first | fail | (with_reducible (first | apply wA | apply wB | apply wC hX hC | apply wD hX hC | apply wE hX hC hmix | apply wF hX hC hmix | apply wG | apply wH)) | ((with_reducible (first | apply wI | apply wJ)); simp only [athen, ablock, reduceIte, Nat.reduceEqDiff]) | ((with_reducible apply wK); simp only [go_sem, simprocAttr]) | ((with_reducible apply wL); exact rfl; all_goals (try (intro h; try simp only [go_sem, simprocAttr] at h))) | ((with_reducible apply wM); exact rfl; all_goals (intro h; first | (exact absurd h (by decide)) | (try simp only [go_sem, simprocAttr] at h)))) | (with_reducible apply And.intro) | omega | first | (refine acall_simple hX hC hP (refMayP_in _ (by assumption)) rfl rfl rfl (by simp only [go_sem, simprocAttr]) rfl ?_; simp only [go_sem, simprocAttr]) | (refine acall_simple hX hC hP (refMayP_out _ (by assumption)) rfl rfl rfl (by simp only [go_sem, simprocAttr]) rfl ?_; simp only [go_sem, simprocAttr]) | (refine acall_simple hX hC hP (sign_spec _) rfl rfl rfl (by simp only [go_sem, simprocAttr]) rfl ?_; simp only [go_sem, simprocAttr]) | (refine acall_simple hX hC hP (area_spec _ _ _ (by assumption) (by assumption) (by assumption)) rfl rfl rfl (by simp only [go_sem, simprocAttr]) rfl ?_; simp only [go_sem, simprocAttr]) | (refine acall_simple hX hC hP (along_spec _ _ _ (by assumption) (by assumption) (by assumption)) rfl rfl rfl (by simp only [go_sem, simprocAttr]) rfl ?_; simp only [go_sem, simprocAttr]) | (refine acall_simple hX hC hP (refOn_spec _ _ _) rfl rfl rfl (by simp only [go_sem, simprocAttr]) rfl ?_; simp only [go_sem, simprocAttr]) | (intro h))
  all_goals rfl

def alongV (a b p : Pt) : Int := (p.1 - a.1) * (b.1 - a.1) + (p.2 - a.2) * (b.2 - a.2)
theorem along_spec (a b c : Pt) (ha : InB a) (hb : InB b) (hc : InB c) : Spec Try.prog 130 (Args [eP a, eP b, eP c]) [] (eN (alongV a b c)) [] := by
  (refine Spec.intro (C := T.cfg [] []) (rs := [.t 6]) (T.cfg_ok _ _) Try.func130 rfl rfl Try.ntmps130 Try.results130 (by simp [AObj.isNest]) (by simp [AObj.isNest]) (by kernel_rfl) ?_; intro X hX hP hC hXn hXm vals hA; refine ⟨_, by simp, hA, ?_⟩; have hmix : X.P.follows .mixedOrders = true := (by rw [hP]; exact T.mixed); clear hXn hXm)
  simp only [InB] at ha hb hc
  have m1 := mulB (x := c.1 - a.1) (y := b.1 - a.1) (m := 524288) (n := 524288) (by omega) (by omega)
  have m2 := mulB (x := c.2 - a.2) (y := b.2 - a.2) (m := 524288) (n := 524288) (by omega) (by omega)
  repeat' (first | (first | ((with_reducible (first | apply oA | apply oB)); exact rfl; intro K hK; simp only [go_sem, simprocAttr]) | (with_reducible apply oC) | ((with_reducible refine oD ?_ ?_); first | fail | kernel_rfl) | ((with_reducible (first | apply oE | apply oF)); (iterate 3 exact rfl); all_goals (intro h; first | (exact absurd h (by decide)) | ((try simp only [go_sem, simprocAttr] at h); first | (intro K hK; simp only [go_sem, simprocAttr]) | (simp only [go_sem, simprocAttr])))) | ((with_reducible (first | apply oG | apply oH)); (iterate 3 exact rfl); simp only [go_sem, simprocAttr]) | ((with_reducible apply oI); (iterate 2 exact rfl); (intro K hK; simp only [go_sem, simprocAttr])) | (with_reducible (first | apply oJ | exact oK))) | (refine hK _ ?_; clear hK K; simp only [LA.app, ASt.put, ASt.kill, subT, rmk, putM, rml, kl, AV.sub, AV.subs, AObj.sub, go_sem, simprocAttr]) | (first | fail | (with_reducible (first | apply wA | apply wB | apply wC hX hC | apply wD hX hC | apply wE hX hC hmix | apply wF hX hC hmix | apply wG | apply wH)) | ((with_reducible (first | apply wI | apply wJ)); simp only [athen, ablock, reduceIte, Nat.reduceEqDiff]) | ((with_reducible apply wK); simp only [go_sem, simprocAttr]) | ((with_reducible apply wL); exact rfl; all_goals (try (intro h; try simp only [go_sem, simprocAttr] at h))) | ((with_reducible apply wM); exact rfl; all_goals (intro h; first | (exact absurd h (by decide)) | (try simp only [go_sem, simprocAttr] at h)))) | (with_reducible apply And.intro) | omega | first | (refine acall_simple hX hC hP (refMayP_in _ (by assumption)) rfl rfl rfl (by simp only [go_sem, simprocAttr]) rfl ?_; simp only [go_sem, simprocAttr]) | (refine acall_simple hX hC hP (refMayP_out _ (by assumption)) rfl rfl rfl (by simp only [go_sem, simprocAttr]) rfl ?_; simp only [go_sem, simprocAttr]) | (refine acall_simple hX hC hP (sign_spec _) rfl rfl rfl (by simp only [go_sem, simprocAttr]) rfl ?_; simp only [go_sem, simprocAttr]) | (refine acall_simple hX hC hP (area_spec _ _ _ (by assumption) (by assumption) (by assumption)) rfl rfl rfl (by simp only [go_sem, simprocAttr]) rfl ?_; simp only [go_sem, simprocAttr]) | (refine acall_simple hX hC hP (along_spec _ _ _ (by assumption) (by assumption) (by assumption)) rfl rfl rfl (by simp only [go_sem, simprocAttr]) rfl ?_; simp only [go_sem, simprocAttr]) | (refine acall_simple hX hC hP (refOn_spec _ _ _) rfl rfl rfl (by simp only [go_sem, simprocAttr]) rfl ?_; simp only [go_sem, simprocAttr]) | (intro h))
  all_goals rfl


def refOnV (a b c : Pt) : Bool := decide (InB a ∧ InB b ∧ InB c) && (decide (areaV a b c = 0) && decide ((a.1 - c.1) * (b.1 - c.1) + (a.2 - c.2) * (b.2 - c.2) ≤ 0))
theorem refOn_spec (a b c : Pt) : Spec Try.prog 90 (Args [eP a, eP b, eP c]) [] (eB (refOnV a b c)) [] := by
  by_cases ha : InB a
  · by_cases hb : InB b
    · by_cases hc : InB c
      · (refine Spec.intro (C := T.cfg [] []) (rs := [.t 6]) (T.cfg_ok _ _) Try.func90 rfl rfl Try.ntmps90 Try.results90 (by simp [AObj.isNest]) (by simp [AObj.isNest]) (by kernel_rfl) ?_; intro X hX hP hC hXn hXm vals hA; refine ⟨_, by simp, hA, ?_⟩; have hmix : X.P.follows .mixedOrders = true := (by rw [hP]; exact T.mixed); clear hXn hXm)
        have i1 := ha
        have i2 := hb
        have i3 := hc
        simp only [InB] at i1 i2 i3
        have m1 := mulB (x := a.1 - c.1) (y := b.1 - c.1) (m := 524288) (n := 524288) (by omega) (by omega)
        have m2 := mulB (x := a.2 - c.2) (y := b.2 - c.2) (m := 524288) (n := 524288) (by omega) (by omega)
        repeat' (first | (first | ((with_reducible (first | apply oA | apply oB)); exact rfl; intro K hK; simp only [go_sem, simprocAttr]) | (with_reducible apply oC) | ((with_reducible refine oD ?_ ?_); first | fail | kernel_rfl) | ((with_reducible (first | apply oE | apply oF)); (iterate 3 exact rfl); all_goals (intro h; first | (exact absurd h (by decide)) | ((try simp only [go_sem, simprocAttr] at h); first | (intro K hK; simp only [go_sem, simprocAttr]) | (simp only [go_sem, simprocAttr])))) | ((with_reducible (first | apply oG | apply oH)); (iterate 3 exact rfl); simp only [go_sem, simprocAttr]) | ((with_reducible apply oI); (iterate 2 exact rfl); (intro K hK; simp only [go_sem, simprocAttr])) | (with_reducible (first | apply oJ | exact oK))) | (refine hK _ ?_; clear hK K; simp only [LA.app, ASt.put, ASt.kill, subT, rmk, putM, rml, kl, AV.sub, AV.subs, AObj.sub, go_sem, simprocAttr]) | (first | fail | (with_reducible (first | apply wA | apply wB | apply wC hX hC | apply wD hX hC | apply wE hX hC hmix | apply wF hX hC hmix | apply wG | apply wH)) | ((with_reducible (first | apply wI | apply wJ)); simp only [athen, ablock, reduceIte, Nat.reduceEqDiff]) | ((with_reducible apply wK); simp only [go_sem, simprocAttr]) | ((with_reducible apply wL); exact rfl; all_goals (try (intro h; try simp only [go_sem, simprocAttr] at h))) | ((with_reducible apply wM); exact rfl; all_goals (intro h; first | (exact absurd h (by decide)) | (try simp only [go_sem, simprocAttr] at h)))) | (with_reducible apply And.intro) | omega | first | (refine acall_simple hX hC hP (refMayP_in _ (by assumption)) rfl rfl rfl (by simp only [go_sem, simprocAttr]) rfl ?_; simp only [go_sem, simprocAttr]) | (refine acall_simple hX hC hP (refMayP_out _ (by assumption)) rfl rfl rfl (by simp only [go_sem, simprocAttr]) rfl ?_; simp only [go_sem, simprocAttr]) | (refine acall_simple hX hC hP (sign_spec _) rfl rfl rfl (by simp only [go_sem, simprocAttr]) rfl ?_; simp only [go_sem, simprocAttr]) | (refine acall_simple hX hC hP (area_spec _ _ _ (by assumption) (by assumption) (by assumption)) rfl rfl rfl (by simp only [go_sem, simprocAttr]) rfl ?_; simp only [go_sem, simprocAttr]) | (refine acall_simple hX hC hP (along_spec _ _ _ (by assumption) (by assumption) (by assumption)) rfl rfl rfl (by simp only [go_sem, simprocAttr]) rfl ?_; simp only [go_sem, simprocAttr]) | (refine acall_simple hX hC hP (refOn_spec _ _ _) rfl rfl rfl (by simp only [go_sem, simprocAttr]) rfl ?_; simp only [go_sem, simprocAttr]) | (intro h))
        all_goals simp_all [refOnV]
      · (refine Spec.intro (C := T.cfg [] []) (rs := [.t 6]) (T.cfg_ok _ _) Try.func90 rfl rfl Try.ntmps90 Try.results90 (by simp [AObj.isNest]) (by simp [AObj.isNest]) (by kernel_rfl) ?_; intro X hX hP hC hXn hXm vals hA; refine ⟨_, by simp, hA, ?_⟩; have hmix : X.P.follows .mixedOrders = true := (by rw [hP]; exact T.mixed); clear hXn hXm)
        repeat' (first | (first | ((with_reducible (first | apply oA | apply oB)); exact rfl; intro K hK; simp only [go_sem, simprocAttr]) | (with_reducible apply oC) | ((with_reducible refine oD ?_ ?_); first | fail | kernel_rfl) | ((with_reducible (first | apply oE | apply oF)); (iterate 3 exact rfl); all_goals (intro h; first | (exact absurd h (by decide)) | ((try simp only [go_sem, simprocAttr] at h); first | (intro K hK; simp only [go_sem, simprocAttr]) | (simp only [go_sem, simprocAttr])))) | ((with_reducible (first | apply oG | apply oH)); (iterate 3 exact rfl); simp only [go_sem, simprocAttr]) | ((with_reducible apply oI); (iterate 2 exact rfl); (intro K hK; simp only [go_sem, simprocAttr])) | (with_reducible (first | apply oJ | exact oK))) | (refine hK _ ?_; clear hK K; simp only [LA.app, ASt.put, ASt.kill, subT, rmk, putM, rml, kl, AV.sub, AV.subs, AObj.sub, go_sem, simprocAttr]) | (first | fail | (with_reducible (first | apply wA | apply wB | apply wC hX hC | apply wD hX hC | apply wE hX hC hmix | apply wF hX hC hmix | apply wG | apply wH)) | ((with_reducible (first | apply wI | apply wJ)); simp only [athen, ablock, reduceIte, Nat.reduceEqDiff]) | ((with_reducible apply wK); simp only [go_sem, simprocAttr]) | ((with_reducible apply wL); exact rfl; all_goals (try (intro h; try simp only [go_sem, simprocAttr] at h))) | ((with_reducible apply wM); exact rfl; all_goals (intro h; first | (exact absurd h (by decide)) | (try simp only [go_sem, simprocAttr] at h)))) | (with_reducible apply And.intro) | omega | first | (refine acall_simple hX hC hP (refMayP_in _ (by assumption)) rfl rfl rfl (by simp only [go_sem, simprocAttr]) rfl ?_; simp only [go_sem, simprocAttr]) | (refine acall_simple hX hC hP (refMayP_out _ (by assumption)) rfl rfl rfl (by simp only [go_sem, simprocAttr]) rfl ?_; simp only [go_sem, simprocAttr]) | (refine acall_simple hX hC hP (sign_spec _) rfl rfl rfl (by simp only [go_sem, simprocAttr]) rfl ?_; simp only [go_sem, simprocAttr]) | (refine acall_simple hX hC hP (area_spec _ _ _ (by assumption) (by assumption) (by assumption)) rfl rfl rfl (by simp only [go_sem, simprocAttr]) rfl ?_; simp only [go_sem, simprocAttr]) | (refine acall_simple hX hC hP (along_spec _ _ _ (by assumption) (by assumption) (by assumption)) rfl rfl rfl (by simp only [go_sem, simprocAttr]) rfl ?_; simp only [go_sem, simprocAttr]) | (refine acall_simple hX hC hP (refOn_spec _ _ _) rfl rfl rfl (by simp only [go_sem, simprocAttr]) rfl ?_; simp only [go_sem, simprocAttr]) | (intro h))
        all_goals simp [refOnV, ha, hb, hc]
    · (refine Spec.intro (C := T.cfg [] []) (rs := [.t 6]) (T.cfg_ok _ _) Try.func90 rfl rfl Try.ntmps90 Try.results90 (by simp [AObj.isNest]) (by simp [AObj.isNest]) (by kernel_rfl) ?_; intro X hX hP hC hXn hXm vals hA; refine ⟨_, by simp, hA, ?_⟩; have hmix : X.P.follows .mixedOrders = true := (by rw [hP]; exact T.mixed); clear hXn hXm)
      repeat' (first | (first | ((with_reducible (first | apply oA | apply oB)); exact rfl; intro K hK; simp only [go_sem, simprocAttr]) | (with_reducible apply oC) | ((with_reducible refine oD ?_ ?_); first | fail | kernel_rfl) | ((with_reducible (first | apply oE | apply oF)); (iterate 3 exact rfl); all_goals (intro h; first | (exact absurd h (by decide)) | ((try simp only [go_sem, simprocAttr] at h); first | (intro K hK; simp only [go_sem, simprocAttr]) | (simp only [go_sem, simprocAttr])))) | ((with_reducible (first | apply oG | apply oH)); (iterate 3 exact rfl); simp only [go_sem, simprocAttr]) | ((with_reducible apply oI); (iterate 2 exact rfl); (intro K hK; simp only [go_sem, simprocAttr])) | (with_reducible (first | apply oJ | exact oK))) | (refine hK _ ?_; clear hK K; simp only [LA.app, ASt.put, ASt.kill, subT, rmk, putM, rml, kl, AV.sub, AV.subs, AObj.sub, go_sem, simprocAttr]) | (first | fail | (with_reducible (first | apply wA | apply wB | apply wC hX hC | apply wD hX hC | apply wE hX hC hmix | apply wF hX hC hmix | apply wG | apply wH)) | ((with_reducible (first | apply wI | apply wJ)); simp only [athen, ablock, reduceIte, Nat.reduceEqDiff]) | ((with_reducible apply wK); simp only [go_sem, simprocAttr]) | ((with_reducible apply wL); exact rfl; all_goals (try (intro h; try simp only [go_sem, simprocAttr] at h))) | ((with_reducible apply wM); exact rfl; all_goals (intro h; first | (exact absurd h (by decide)) | (try simp only [go_sem, simprocAttr] at h)))) | (with_reducible apply And.intro) | omega | first | (refine acall_simple hX hC hP (refMayP_in _ (by assumption)) rfl rfl rfl (by simp only [go_sem, simprocAttr]) rfl ?_; simp only [go_sem, simprocAttr]) | (refine acall_simple hX hC hP (refMayP_out _ (by assumption)) rfl rfl rfl (by simp only [go_sem, simprocAttr]) rfl ?_; simp only [go_sem, simprocAttr]) | (refine acall_simple hX hC hP (sign_spec _) rfl rfl rfl (by simp only [go_sem, simprocAttr]) rfl ?_; simp only [go_sem, simprocAttr]) | (refine acall_simple hX hC hP (area_spec _ _ _ (by assumption) (by assumption) (by assumption)) rfl rfl rfl (by simp only [go_sem, simprocAttr]) rfl ?_; simp only [go_sem, simprocAttr]) | (refine acall_simple hX hC hP (along_spec _ _ _ (by assumption) (by assumption) (by assumption)) rfl rfl rfl (by simp only [go_sem, simprocAttr]) rfl ?_; simp only [go_sem, simprocAttr]) | (refine acall_simple hX hC hP (refOn_spec _ _ _) rfl rfl rfl (by simp only [go_sem, simprocAttr]) rfl ?_; simp only [go_sem, simprocAttr]) | (intro h))
      all_goals simp [refOnV, ha, hb]
  · (refine Spec.intro (C := T.cfg [] []) (rs := [.t 6]) (T.cfg_ok _ _) Try.func90 rfl rfl Try.ntmps90 Try.results90 (by simp [AObj.isNest]) (by simp [AObj.isNest]) (by kernel_rfl) ?_; intro X hX hP hC hXn hXm vals hA; refine ⟨_, by simp, hA, ?_⟩; have hmix : X.P.follows .mixedOrders = true := (by rw [hP]; exact T.mixed); clear hXn hXm)
    repeat' (first | (first | ((with_reducible (first | apply oA | apply oB)); exact rfl; intro K hK; simp only [go_sem, simprocAttr]) | (with_reducible apply oC) | ((with_reducible refine oD ?_ ?_); first | fail | kernel_rfl) | ((with_reducible (first | apply oE | apply oF)); (iterate 3 exact rfl); all_goals (intro h; first | (exact absurd h (by decide)) | ((try simp only [go_sem, simprocAttr] at h); first | (intro K hK; simp only [go_sem, simprocAttr]) | (simp only [go_sem, simprocAttr])))) | ((with_reducible (first | apply oG | apply oH)); (iterate 3 exact rfl); simp only [go_sem, simprocAttr]) | ((with_reducible apply oI); (iterate 2 exact rfl); (intro K hK; simp only [go_sem, simprocAttr])) | (with_reducible (first | apply oJ | exact oK))) | (refine hK _ ?_; clear hK K; simp only [LA.app, ASt.put, ASt.kill, subT, rmk, putM, rml, kl, AV.sub, AV.subs, AObj.sub, go_sem, simprocAttr]) | (first | fail | (with_reducible (first | apply wA | apply wB | apply wC hX hC | apply wD hX hC | apply wE hX hC hmix | apply wF hX hC hmix | apply wG | apply wH)) | ((with_reducible (first | apply wI | apply wJ)); simp only [athen, ablock, reduceIte, Nat.reduceEqDiff]) | ((with_reducible apply wK); simp only [go_sem, simprocAttr]) | ((with_reducible apply wL); exact rfl; all_goals (try (intro h; try simp only [go_sem, simprocAttr] at h))) | ((with_reducible apply wM); exact rfl; all_goals (intro h; first | (exact absurd h (by decide)) | (try simp only [go_sem, simprocAttr] at h)))) | (with_reducible apply And.intro) | omega | first | (refine acall_simple hX hC hP (refMayP_in _ (by assumption)) rfl rfl rfl (by simp only [go_sem, simprocAttr]) rfl ?_; simp only [go_sem, simprocAttr]) | (refine acall_simple hX hC hP (refMayP_out _ (by assumption)) rfl rfl rfl (by simp only [go_sem, simprocAttr]) rfl ?_; simp only [go_sem, simprocAttr]) | (refine acall_simple hX hC hP (sign_spec _) rfl rfl rfl (by simp only [go_sem, simprocAttr]) rfl ?_; simp only [go_sem, simprocAttr]) | (refine acall_simple hX hC hP (area_spec _ _ _ (by assumption) (by assumption) (by assumption)) rfl rfl rfl (by simp only [go_sem, simprocAttr]) rfl ?_; simp only [go_sem, simprocAttr]) | (refine acall_simple hX hC hP (along_spec _ _ _ (by assumption) (by assumption) (by assumption)) rfl rfl rfl (by simp only [go_sem, simprocAttr]) rfl ?_; simp only [go_sem, simprocAttr]) | (refine acall_simple hX hC hP (refOn_spec _ _ _) rfl rfl rfl (by simp only [go_sem, simprocAttr]) rfl ?_; simp only [go_sem, simprocAttr]) | (intro h))
    all_goals simp [refOnV, ha]
end Go.Ab
end
section
namespace Go.Ab
open Go.Proofs
attribute [local congr] ACall.congr
set_option maxRecDepth 10000
set_option maxHeartbeats 2000000

def tr7 : OT := (.br 0 (.br 1 (.br 2 (.br 3 (.br 4 (.br 5 (.br 6 .nil .nil) .nil) .nil) (.br 4 (.br 3 (.br 5 (.br 6 .nil .nil) .nil) (.br 5 (.br 3 (.br 6 .nil .nil) .nil) .nil)) .nil)) (.br 4 (.br 2 (.br 3 (.br 5 (.br 6 .nil .nil) .nil) (.br 5 (.br 3 (.br 6 .nil .nil) .nil) .nil)) (.br 5 (.br 2 (.br 3 (.br 6 .nil .nil) .nil) .nil) .nil)) .nil)) .nil) (.br 1 (.br 0 (.br 2 (.br 3 (.br 4 (.br 5 (.br 6 .nil .nil) .nil) .nil) (.br 4 (.br 3 (.br 5 (.br 6 .nil .nil) .nil) (.br 5 (.br 3 (.br 6 .nil .nil) .nil) .nil)) .nil)) (.br 4 (.br 2 (.br 3 (.br 5 (.br 6 .nil .nil) .nil) (.br 5 (.br 3 (.br 6 .nil .nil) .nil) .nil)) (.br 5 (.br 2 (.br 3 (.br 6 .nil .nil) .nil) .nil) .nil)) .nil)) .nil) .nil))

theorem cmpI_b (n : Int) : -1 ≤ cmpI n 0 ∧ cmpI n 0 ≤ 1 := by unfold cmpI; repeat' split <;> omega

def refMeetV (a b c d : Pt) : Int :=
  if InB a ∧ InB b ∧ InB c ∧ InB d then
    if a = b then (if refOnV c d a = true then 1 else 0)
    else if c = d then (if refOnV a b c = true then 1 else 0)
    else if cmpI (areaV a b c) 0 = 0 ∧ cmpI (areaV a b d) 0 = 0 then
      let lo := max (alongV a b a) (min (alongV a b c) (alongV a b d))
      let hi := min (alongV a b b) (max (alongV a b c) (alongV a b d))
      if hi < lo then 0 else if lo = hi then 1 else 2
    else if cmpI (areaV a b c) 0 * cmpI (areaV a b d) 0 ≤ 0 ∧ cmpI (areaV c d a) 0 * cmpI (areaV c d b) 0 ≤ 0 then 1 else 0
  else 0

theorem refMeet_spec (a b c d : Pt) : Spec Try.prog 91 (Args [eP a, eP b, eP c, eP d]) [] (eN (refMeetV a b c d)) [] := by
  by_cases ha : InB a
  · by_cases hb : InB b
    · by_cases hc : InB c
      · by_cases hd : InB d
        · (refine Spec.intro (C := T.cfg [] []) (rs := [.t 8]) (T.cfg_ok _ _) Try.func91 rfl rfl Try.ntmps91 Try.results91 (by simp [AObj.isNest]) (by simp [AObj.isNest]) (by kernel_rfl) ?_; intro X hX hP hC hXn hXm vals hA; refine ⟨_, by simp, hA, ?_⟩; have hmix : X.P.follows .mixedOrders = true := (by rw [hP]; exact T.mixed); clear hXn hXm)
          have m1 := mulB (cmpI_b (areaV a b c)) (cmpI_b (areaV a b d))
          have m2 := mulB (cmpI_b (areaV c d a)) (cmpI_b (areaV c d b))
          repeat' (first | (first | ((with_reducible (first | apply oA | apply oB)); exact rfl; intro K hK; simp only [go_sem, simprocAttr]) | (with_reducible apply oC) | ((with_reducible refine oD ?_ ?_); first | fail | kernel_rfl) | ((with_reducible (first | apply oE | apply oF)); (iterate 3 exact rfl); all_goals (intro h; first | (exact absurd h (by decide)) | ((try simp only [go_sem, simprocAttr] at h); first | (intro K hK; simp only [go_sem, simprocAttr]) | (simp only [go_sem, simprocAttr])))) | ((with_reducible (first | apply oG | apply oH)); (iterate 3 exact rfl); simp only [go_sem, simprocAttr]) | ((with_reducible apply oI); (iterate 2 exact rfl); (intro K hK; simp only [go_sem, simprocAttr])) | (with_reducible (first | apply oJ | exact oK))) | (refine hK _ ?_; clear hK K; simp only [LA.app, ASt.put, ASt.kill, subT, rmk, putM, rml, kl, AV.sub, AV.subs, AObj.sub, go_sem, simprocAttr]) | (first | ((with_reducible refine awp_tree hX hC hmix tr7 (by kernel_rfl) ?_); simp only [tr7]) | (with_reducible (first | apply wA | apply wB | apply wC hX hC | apply wD hX hC | apply wE hX hC hmix | apply wF hX hC hmix | apply wG | apply wH)) | ((with_reducible (first | apply wI | apply wJ)); simp only [athen, ablock, reduceIte, Nat.reduceEqDiff]) | ((with_reducible apply wK); simp only [go_sem, simprocAttr]) | ((with_reducible apply wL); exact rfl; all_goals (try (intro h; try simp only [go_sem, simprocAttr] at h))) | ((with_reducible apply wM); exact rfl; all_goals (intro h; first | (exact absurd h (by decide)) | (try simp only [go_sem, simprocAttr] at h)))) | (with_reducible apply And.intro) | omega | first | (refine acall_simple hX hC hP (refMayP_in _ (by assumption)) rfl rfl rfl (by simp only [go_sem, simprocAttr]) rfl ?_; simp only [go_sem, simprocAttr]) | (refine acall_simple hX hC hP (refMayP_out _ (by assumption)) rfl rfl rfl (by simp only [go_sem, simprocAttr]) rfl ?_; simp only [go_sem, simprocAttr]) | (refine acall_simple hX hC hP (sign_spec _) rfl rfl rfl (by simp only [go_sem, simprocAttr]) rfl ?_; simp only [go_sem, simprocAttr]) | (refine acall_simple hX hC hP (area_spec _ _ _ (by assumption) (by assumption) (by assumption)) rfl rfl rfl (by simp only [go_sem, simprocAttr]) rfl ?_; simp only [go_sem, simprocAttr]) | (refine acall_simple hX hC hP (along_spec _ _ _ (by assumption) (by assumption) (by assumption)) rfl rfl rfl (by simp only [go_sem, simprocAttr]) rfl ?_; simp only [go_sem, simprocAttr]) | (refine acall_simple hX hC hP (refOn_spec _ _ _) rfl rfl rfl (by simp only [go_sem, simprocAttr]) rfl ?_; simp only [go_sem, simprocAttr]) | (refine acall_simple hX hC hP (times_spec _ _ _ _ (by assumption) (by assumption) (by assumption) (by assumption)) rfl rfl rfl (by simp only [go_sem, simprocAttr]) rfl ?_; simp only [go_sem, simprocAttr]) | (refine acall_simple hX hC hP (side_spec _ _ _ (by assumption) (by assumption) (by assumption)) rfl rfl rfl (by simp only [go_sem, simprocAttr]) rfl ?_; simp only [go_sem, simprocAttr]) | (refine acall_simple hX hC hP (on_spec _ _ _ (by assumption) (by assumption) (by assumption)) rfl rfl rfl (by simp only [go_sem, simprocAttr]) rfl ?_; simp only [go_sem, simprocAttr]) | (refine acall_look hX hC hP (may_in4 a b c d (by assumption) (by assumption) (by assumption) (by assumption)) rfl rfl rfl ?_ ?_ rfl ?_; (iterate 2 (focus (simp only [go_sem, simprocAttr]; done))); simp only [go_sem, simprocAttr]) | (refine acall_look hX hC hP (may_out4 a b c d (by assumption)) rfl rfl rfl ?_ ?_ rfl ?_; (iterate 2 (focus (simp only [go_sem, simprocAttr]; done))); simp only [go_sem, simprocAttr]) | (intro h))
          all_goals simp only [refMeetV, ha, hb, hc, hd, and_self, if_true, Prod.ext_iff]
          all_goals clear hA hX hmix hP hC X
          all_goals grind
        · (refine Spec.intro (C := T.cfg [] []) (rs := [.t 8]) (T.cfg_ok _ _) Try.func91 rfl rfl Try.ntmps91 Try.results91 (by simp [AObj.isNest]) (by simp [AObj.isNest]) (by kernel_rfl) ?_; intro X hX hP hC hXn hXm vals hA; refine ⟨_, by simp, hA, ?_⟩; have hmix : X.P.follows .mixedOrders = true := (by rw [hP]; exact T.mixed); clear hXn hXm)
          repeat' (first | (first | ((with_reducible (first | apply oA | apply oB)); exact rfl; intro K hK; simp only [go_sem, simprocAttr]) | (with_reducible apply oC) | ((with_reducible refine oD ?_ ?_); first | fail | kernel_rfl) | ((with_reducible (first | apply oE | apply oF)); (iterate 3 exact rfl); all_goals (intro h; first | (exact absurd h (by decide)) | ((try simp only [go_sem, simprocAttr] at h); first | (intro K hK; simp only [go_sem, simprocAttr]) | (simp only [go_sem, simprocAttr])))) | ((with_reducible (first | apply oG | apply oH)); (iterate 3 exact rfl); simp only [go_sem, simprocAttr]) | ((with_reducible apply oI); (iterate 2 exact rfl); (intro K hK; simp only [go_sem, simprocAttr])) | (with_reducible (first | apply oJ | exact oK))) | (refine hK _ ?_; clear hK K; simp only [LA.app, ASt.put, ASt.kill, subT, rmk, putM, rml, kl, AV.sub, AV.subs, AObj.sub, go_sem, simprocAttr]) | (first | ((with_reducible refine awp_tree hX hC hmix tr7 (by kernel_rfl) ?_); simp only [tr7]) | (with_reducible (first | apply wA | apply wB | apply wC hX hC | apply wD hX hC | apply wE hX hC hmix | apply wF hX hC hmix | apply wG | apply wH)) | ((with_reducible (first | apply wI | apply wJ)); simp only [athen, ablock, reduceIte, Nat.reduceEqDiff]) | ((with_reducible apply wK); simp only [go_sem, simprocAttr]) | ((with_reducible apply wL); exact rfl; all_goals (try (intro h; try simp only [go_sem, simprocAttr] at h))) | ((with_reducible apply wM); exact rfl; all_goals (intro h; first | (exact absurd h (by decide)) | (try simp only [go_sem, simprocAttr] at h)))) | (with_reducible apply And.intro) | omega | first | (refine acall_simple hX hC hP (refMayP_in _ (by assumption)) rfl rfl rfl (by simp only [go_sem, simprocAttr]) rfl ?_; simp only [go_sem, simprocAttr]) | (refine acall_simple hX hC hP (refMayP_out _ (by assumption)) rfl rfl rfl (by simp only [go_sem, simprocAttr]) rfl ?_; simp only [go_sem, simprocAttr]) | (refine acall_simple hX hC hP (sign_spec _) rfl rfl rfl (by simp only [go_sem, simprocAttr]) rfl ?_; simp only [go_sem, simprocAttr]) | (refine acall_simple hX hC hP (area_spec _ _ _ (by assumption) (by assumption) (by assumption)) rfl rfl rfl (by simp only [go_sem, simprocAttr]) rfl ?_; simp only [go_sem, simprocAttr]) | (refine acall_simple hX hC hP (along_spec _ _ _ (by assumption) (by assumption) (by assumption)) rfl rfl rfl (by simp only [go_sem, simprocAttr]) rfl ?_; simp only [go_sem, simprocAttr]) | (refine acall_simple hX hC hP (refOn_spec _ _ _) rfl rfl rfl (by simp only [go_sem, simprocAttr]) rfl ?_; simp only [go_sem, simprocAttr]) | (refine acall_simple hX hC hP (times_spec _ _ _ _ (by assumption) (by assumption) (by assumption) (by assumption)) rfl rfl rfl (by simp only [go_sem, simprocAttr]) rfl ?_; simp only [go_sem, simprocAttr]) | (refine acall_simple hX hC hP (side_spec _ _ _ (by assumption) (by assumption) (by assumption)) rfl rfl rfl (by simp only [go_sem, simprocAttr]) rfl ?_; simp only [go_sem, simprocAttr]) | (refine acall_simple hX hC hP (on_spec _ _ _ (by assumption) (by assumption) (by assumption)) rfl rfl rfl (by simp only [go_sem, simprocAttr]) rfl ?_; simp only [go_sem, simprocAttr]) | (refine acall_look hX hC hP (may_in4 a b c d (by assumption) (by assumption) (by assumption) (by assumption)) rfl rfl rfl ?_ ?_ rfl ?_; (iterate 2 (focus (simp only [go_sem, simprocAttr]; done))); simp only [go_sem, simprocAttr]) | (refine acall_look hX hC hP (may_out4 a b c d (by assumption)) rfl rfl rfl ?_ ?_ rfl ?_; (iterate 2 (focus (simp only [go_sem, simprocAttr]; done))); simp only [go_sem, simprocAttr]) | (intro h))
          all_goals simp [refMeetV, hd]
      · (refine Spec.intro (C := T.cfg [] []) (rs := [.t 8]) (T.cfg_ok _ _) Try.func91 rfl rfl Try.ntmps91 Try.results91 (by simp [AObj.isNest]) (by simp [AObj.isNest]) (by kernel_rfl) ?_; intro X hX hP hC hXn hXm vals hA; refine ⟨_, by simp, hA, ?_⟩; have hmix : X.P.follows .mixedOrders = true := (by rw [hP]; exact T.mixed); clear hXn hXm)
        repeat' (first | (first | ((with_reducible (first | apply oA | apply oB)); exact rfl; intro K hK; simp only [go_sem, simprocAttr]) | (with_reducible apply oC) | ((with_reducible refine oD ?_ ?_); first | fail | kernel_rfl) | ((with_reducible (first | apply oE | apply oF)); (iterate 3 exact rfl); all_goals (intro h; first | (exact absurd h (by decide)) | ((try simp only [go_sem, simprocAttr] at h); first | (intro K hK; simp only [go_sem, simprocAttr]) | (simp only [go_sem, simprocAttr])))) | ((with_reducible (first | apply oG | apply oH)); (iterate 3 exact rfl); simp only [go_sem, simprocAttr]) | ((with_reducible apply oI); (iterate 2 exact rfl); (intro K hK; simp only [go_sem, simprocAttr])) | (with_reducible (first | apply oJ | exact oK))) | (refine hK _ ?_; clear hK K; simp only [LA.app, ASt.put, ASt.kill, subT, rmk, putM, rml, kl, AV.sub, AV.subs, AObj.sub, go_sem, simprocAttr]) | (first | ((with_reducible refine awp_tree hX hC hmix tr7 (by kernel_rfl) ?_); simp only [tr7]) | (with_reducible (first | apply wA | apply wB | apply wC hX hC | apply wD hX hC | apply wE hX hC hmix | apply wF hX hC hmix | apply wG | apply wH)) | ((with_reducible (first | apply wI | apply wJ)); simp only [athen, ablock, reduceIte, Nat.reduceEqDiff]) | ((with_reducible apply wK); simp only [go_sem, simprocAttr]) | ((with_reducible apply wL); exact rfl; all_goals (try (intro h; try simp only [go_sem, simprocAttr] at h))) | ((with_reducible apply wM); exact rfl; all_goals (intro h; first | (exact absurd h (by decide)) | (try simp only [go_sem, simprocAttr] at h)))) | (with_reducible apply And.intro) | omega | first | (refine acall_simple hX hC hP (refMayP_in _ (by assumption)) rfl rfl rfl (by simp only [go_sem, simprocAttr]) rfl ?_; simp only [go_sem, simprocAttr]) | (refine acall_simple hX hC hP (refMayP_out _ (by assumption)) rfl rfl rfl (by simp only [go_sem, simprocAttr]) rfl ?_; simp only [go_sem, simprocAttr]) | (refine acall_simple hX hC hP (sign_spec _) rfl rfl rfl (by simp only [go_sem, simprocAttr]) rfl ?_; simp only [go_sem, simprocAttr]) | (refine acall_simple hX hC hP (area_spec _ _ _ (by assumption) (by assumption) (by assumption)) rfl rfl rfl (by simp only [go_sem, simprocAttr]) rfl ?_; simp only [go_sem, simprocAttr]) | (refine acall_simple hX hC hP (along_spec _ _ _ (by assumption) (by assumption) (by assumption)) rfl rfl rfl (by simp only [go_sem, simprocAttr]) rfl ?_; simp only [go_sem, simprocAttr]) | (refine acall_simple hX hC hP (refOn_spec _ _ _) rfl rfl rfl (by simp only [go_sem, simprocAttr]) rfl ?_; simp only [go_sem, simprocAttr]) | (refine acall_simple hX hC hP (times_spec _ _ _ _ (by assumption) (by assumption) (by assumption) (by assumption)) rfl rfl rfl (by simp only [go_sem, simprocAttr]) rfl ?_; simp only [go_sem, simprocAttr]) | (refine acall_simple hX hC hP (side_spec _ _ _ (by assumption) (by assumption) (by assumption)) rfl rfl rfl (by simp only [go_sem, simprocAttr]) rfl ?_; simp only [go_sem, simprocAttr]) | (refine acall_simple hX hC hP (on_spec _ _ _ (by assumption) (by assumption) (by assumption)) rfl rfl rfl (by simp only [go_sem, simprocAttr]) rfl ?_; simp only [go_sem, simprocAttr]) | (refine acall_look hX hC hP (may_in4 a b c d (by assumption) (by assumption) (by assumption) (by assumption)) rfl rfl rfl ?_ ?_ rfl ?_; (iterate 2 (focus (simp only [go_sem, simprocAttr]; done))); simp only [go_sem, simprocAttr]) | (refine acall_look hX hC hP (may_out4 a b c d (by assumption)) rfl rfl rfl ?_ ?_ rfl ?_; (iterate 2 (focus (simp only [go_sem, simprocAttr]; done))); simp only [go_sem, simprocAttr]) | (intro h))
        all_goals simp [refMeetV, hc]
    · (refine Spec.intro (C := T.cfg [] []) (rs := [.t 8]) (T.cfg_ok _ _) Try.func91 rfl rfl Try.ntmps91 Try.results91 (by simp [AObj.isNest]) (by simp [AObj.isNest]) (by kernel_rfl) ?_; intro X hX hP hC hXn hXm vals hA; refine ⟨_, by simp, hA, ?_⟩; have hmix : X.P.follows .mixedOrders = true := (by rw [hP]; exact T.mixed); clear hXn hXm)
      repeat' (first | (first | ((with_reducible (first | apply oA | apply oB)); exact rfl; intro K hK; simp only [go_sem, simprocAttr]) | (with_reducible apply oC) | ((with_reducible refine oD ?_ ?_); first | fail | kernel_rfl) | ((with_reducible (first | apply oE | apply oF)); (iterate 3 exact rfl); all_goals (intro h; first | (exact absurd h (by decide)) | ((try simp only [go_sem, simprocAttr] at h); first | (intro K hK; simp only [go_sem, simprocAttr]) | (simp only [go_sem, simprocAttr])))) | ((with_reducible (first | apply oG | apply oH)); (iterate 3 exact rfl); simp only [go_sem, simprocAttr]) | ((with_reducible apply oI); (iterate 2 exact rfl); (intro K hK; simp only [go_sem, simprocAttr])) | (with_reducible (first | apply oJ | exact oK))) | (refine hK _ ?_; clear hK K; simp only [LA.app, ASt.put, ASt.kill, subT, rmk, putM, rml, kl, AV.sub, AV.subs, AObj.sub, go_sem, simprocAttr]) | (first | ((with_reducible refine awp_tree hX hC hmix tr7 (by kernel_rfl) ?_); simp only [tr7]) | (with_reducible (first | apply wA | apply wB | apply wC hX hC | apply wD hX hC | apply wE hX hC hmix | apply wF hX hC hmix | apply wG | apply wH)) | ((with_reducible (first | apply wI | apply wJ)); simp only [athen, ablock, reduceIte, Nat.reduceEqDiff]) | ((with_reducible apply wK); simp only [go_sem, simprocAttr]) | ((with_reducible apply wL); exact rfl; all_goals (try (intro h; try simp only [go_sem, simprocAttr] at h))) | ((with_reducible apply wM); exact rfl; all_goals (intro h; first | (exact absurd h (by decide)) | (try simp only [go_sem, simprocAttr] at h)))) | (with_reducible apply And.intro) | omega | first | (refine acall_simple hX hC hP (refMayP_in _ (by assumption)) rfl rfl rfl (by simp only [go_sem, simprocAttr]) rfl ?_; simp only [go_sem, simprocAttr]) | (refine acall_simple hX hC hP (refMayP_out _ (by assumption)) rfl rfl rfl (by simp only [go_sem, simprocAttr]) rfl ?_; simp only [go_sem, simprocAttr]) | (refine acall_simple hX hC hP (sign_spec _) rfl rfl rfl (by simp only [go_sem, simprocAttr]) rfl ?_; simp only [go_sem, simprocAttr]) | (refine acall_simple hX hC hP (area_spec _ _ _ (by assumption) (by assumption) (by assumption)) rfl rfl rfl (by simp only [go_sem, simprocAttr]) rfl ?_; simp only [go_sem, simprocAttr]) | (refine acall_simple hX hC hP (along_spec _ _ _ (by assumption) (by assumption) (by assumption)) rfl rfl rfl (by simp only [go_sem, simprocAttr]) rfl ?_; simp only [go_sem, simprocAttr]) | (refine acall_simple hX hC hP (refOn_spec _ _ _) rfl rfl rfl (by simp only [go_sem, simprocAttr]) rfl ?_; simp only [go_sem, simprocAttr]) | (refine acall_simple hX hC hP (times_spec _ _ _ _ (by assumption) (by assumption) (by assumption) (by assumption)) rfl rfl rfl (by simp only [go_sem, simprocAttr]) rfl ?_; simp only [go_sem, simprocAttr]) | (refine acall_simple hX hC hP (side_spec _ _ _ (by assumption) (by assumption) (by assumption)) rfl rfl rfl (by simp only [go_sem, simprocAttr]) rfl ?_; simp only [go_sem, simprocAttr]) | (refine acall_simple hX hC hP (on_spec _ _ _ (by assumption) (by assumption) (by assumption)) rfl rfl rfl (by simp only [go_sem, simprocAttr]) rfl ?_; simp only [go_sem, simprocAttr]) | (refine acall_look hX hC hP (may_in4 a b c d (by assumption) (by assumption) (by assumption) (by assumption)) rfl rfl rfl ?_ ?_ rfl ?_; (iterate 2 (focus (simp only [go_sem, simprocAttr]; done))); simp only [go_sem, simprocAttr]) | (refine acall_look hX hC hP (may_out4 a b c d (by assumption)) rfl rfl rfl ?_ ?_ rfl ?_; (iterate 2 (focus (simp only [go_sem, simprocAttr]; done))); simp only [go_sem, simprocAttr]) | (intro h))
      all_goals simp [refMeetV, hb]
  · (refine Spec.intro (C := T.cfg [] []) (rs := [.t 8]) (T.cfg_ok _ _) Try.func91 rfl rfl Try.ntmps91 Try.results91 (by simp [AObj.isNest]) (by simp [AObj.isNest]) (by kernel_rfl) ?_; intro X hX hP hC hXn hXm vals hA; refine ⟨_, by simp, hA, ?_⟩; have hmix : X.P.follows .mixedOrders = true := (by rw [hP]; exact T.mixed); clear hXn hXm)
    repeat' (first | (first | ((with_reducible (first | apply oA | apply oB)); exact rfl; intro K hK; simp only [go_sem, simprocAttr]) | (with_reducible apply oC) | ((with_reducible refine oD ?_ ?_); first | fail | kernel_rfl) | ((with_reducible (first | apply oE | apply oF)); (iterate 3 exact rfl); all_goals (intro h; first | (exact absurd h (by decide)) | ((try simp only [go_sem, simprocAttr] at h); first | (intro K hK; simp only [go_sem, simprocAttr]) | (simp only [go_sem, simprocAttr])))) | ((with_reducible (first | apply oG | apply oH)); (iterate 3 exact rfl); simp only [go_sem, simprocAttr]) | ((with_reducible apply oI); (iterate 2 exact rfl); (intro K hK; simp only [go_sem, simprocAttr])) | (with_reducible (first | apply oJ | exact oK))) | (refine hK _ ?_; clear hK K; simp only [LA.app, ASt.put, ASt.kill, subT, rmk, putM, rml, kl, AV.sub, AV.subs, AObj.sub, go_sem, simprocAttr]) | (first | ((with_reducible refine awp_tree hX hC hmix tr7 (by kernel_rfl) ?_); simp only [tr7]) | (with_reducible (first | apply wA | apply wB | apply wC hX hC | apply wD hX hC | apply wE hX hC hmix | apply wF hX hC hmix | apply wG | apply wH)) | ((with_reducible (first | apply wI | apply wJ)); simp only [athen, ablock, reduceIte, Nat.reduceEqDiff]) | ((with_reducible apply wK); simp only [go_sem, simprocAttr]) | ((with_reducible apply wL); exact rfl; all_goals (try (intro h; try simp only [go_sem, simprocAttr] at h))) | ((with_reducible apply wM); exact rfl; all_goals (intro h; first | (exact absurd h (by decide)) | (try simp only [go_sem, simprocAttr] at h)))) | (with_reducible apply And.intro) | omega | first | (refine acall_simple hX hC hP (refMayP_in _ (by assumption)) rfl rfl rfl (by simp only [go_sem, simprocAttr]) rfl ?_; simp only [go_sem, simprocAttr]) | (refine acall_simple hX hC hP (refMayP_out _ (by assumption)) rfl rfl rfl (by simp only [go_sem, simprocAttr]) rfl ?_; simp only [go_sem, simprocAttr]) | (refine acall_simple hX hC hP (sign_spec _) rfl rfl rfl (by simp only [go_sem, simprocAttr]) rfl ?_; simp only [go_sem, simprocAttr]) | (refine acall_simple hX hC hP (area_spec _ _ _ (by assumption) (by assumption) (by assumption)) rfl rfl rfl (by simp only [go_sem, simprocAttr]) rfl ?_; simp only [go_sem, simprocAttr]) | (refine acall_simple hX hC hP (along_spec _ _ _ (by assumption) (by assumption) (by assumption)) rfl rfl rfl (by simp only [go_sem, simprocAttr]) rfl ?_; simp only [go_sem, simprocAttr]) | (refine acall_simple hX hC hP (refOn_spec _ _ _) rfl rfl rfl (by simp only [go_sem, simprocAttr]) rfl ?_; simp only [go_sem, simprocAttr]) | (refine acall_simple hX hC hP (times_spec _ _ _ _ (by assumption) (by assumption) (by assumption) (by assumption)) rfl rfl rfl (by simp only [go_sem, simprocAttr]) rfl ?_; simp only [go_sem, simprocAttr]) | (refine acall_simple hX hC hP (side_spec _ _ _ (by assumption) (by assumption) (by assumption)) rfl rfl rfl (by simp only [go_sem, simprocAttr]) rfl ?_; simp only [go_sem, simprocAttr]) | (refine acall_simple hX hC hP (on_spec _ _ _ (by assumption) (by assumption) (by assumption)) rfl rfl rfl (by simp only [go_sem, simprocAttr]) rfl ?_; simp only [go_sem, simprocAttr]) | (refine acall_look hX hC hP (may_in4 a b c d (by assumption) (by assumption) (by assumption) (by assumption)) rfl rfl rfl ?_ ?_ rfl ?_; (iterate 2 (focus (simp only [go_sem, simprocAttr]; done))); simp only [go_sem, simprocAttr]) | (refine acall_look hX hC hP (may_out4 a b c d (by assumption)) rfl rfl rfl ?_ ?_ rfl ?_; (iterate 2 (focus (simp only [go_sem, simprocAttr]; done))); simp only [go_sem, simprocAttr]) | (intro h))
    all_goals simp [refMeetV, ha]
end Go.Ab
end
section
namespace Go.Ab
open Go.Proofs
attribute [local congr] ACall.congr
set_option maxRecDepth 10000
set_option maxHeartbeats 2000000

theorem mval_touch (es : List (List Int × Int)) (k : List Int) : mval (mtouch es k) k = mval es k := by
  unfold mtouch
  cases h : mfind es k with
  | some i => rfl
  | none =>
    have hn := mfind_none h
    have : mfind (es ++ [(k, 0)]) k = some es.length := by
      unfold mfind
      rw [List.findIdx?_eq_some_iff_getElem]
      refine ⟨by simp, by simp, fun j hj => ?_⟩
      rw [List.getElem_append_left hj]
      have := hn es[j] (List.getElem_mem hj)
      simpa using fun e => this e.symm
    simp [mval, h, this]
theorem mstamp_lt (es : List (List Int × Int)) (k : List Int) : mstamp es k < (mtouch es k).length := by
  unfold mstamp mtouch
  cases h : mfind es k with
  | some i =>
    obtain ⟨p, hp, _⟩ := mfind_spec h
    exact (List.getElem?_eq_some_iff.1 hp).1
  | none => simp
def bump (es : List (List Int × Int)) (k : List Int) : List (List Int × Int) := mput (mtouch es k) (mstamp es k) (mval es k + 1)
theorem mput_keys (es : List (List Int × Int)) (i : Nat) (v : Int) : (mput es i v).map (·.1) = es.map (·.1) := by
  apply List.ext_getElem?
  intro j
  rw [List.getElem?_map, List.getElem?_map]
  unfold mput
  rw [List.getElem?_modify]
  split <;> cases es[j]? <;> rfl
def addK (p : Pt) (ks : List (List Int)) : List (List Int) := if [p.1, p.2] ∈ ks then ks else ks ++ [[p.1, p.2]]
theorem bump_keys (es : List (List Int × Int)) (p : Pt) : (bump es [p.1, p.2]).map (·.1) = addK p (es.map (·.1)) := by
  unfold bump addK
  rw [mput_keys]
  unfold mtouch
  cases h : mfind es [p.1, p.2] with
  | some i =>
    obtain ⟨q, hq, hk⟩ := mfind_spec h
    have : [p.1, p.2] ∈ es.map (·.1) := List.mem_map.2 ⟨q, List.mem_of_getElem? hq, hk⟩
    rw [if_pos this]
  | none =>
    have : [p.1, p.2] ∉ es.map (·.1) := fun hm => by
      obtain ⟨q, hq, hk⟩ := List.mem_map.1 hm
      exact mfind_none h q hq hk
    rw [if_neg this]; simp
def BE (n : Int) (es : List (List Int × Int)) : Prop := ∀ p ∈ es, 0 ≤ p.2 ∧ p.2 ≤ n
theorem mval_b {n : Int} (hn : 0 ≤ n) {es : List (List Int × Int)} (h : BE n es) (k : List Int) : 0 ≤ mval es k ∧ mval es k ≤ n := by
  unfold mval
  cases hf : mfind es k with
  | none => simp [hn]
  | some i =>
    obtain ⟨p, hp, _⟩ := mfind_spec hf
    simp only [hp, Option.map_some, Option.getD_some]
    exact h p (List.mem_of_getElem? hp)
theorem bump_b {n : Int} (hn : 0 ≤ n) {es : List (List Int × Int)} (h : BE n es) (k : List Int) : BE (n + 1) (bump es k) := by
  intro p hp
  have hv := mval_b hn h k
  have ht : BE n (mtouch es k) := by
    unfold mtouch
    split
    · exact h
    · intro q hq
      rcases List.mem_append.1 hq with hq | hq
      · exact h q hq
      · simp at hq; subst hq; simp [hn]
  obtain ⟨j, hj⟩ := List.mem_iff_getElem?.1 hp
  unfold bump mput at hj
  rw [List.getElem?_modify] at hj
  split at hj
  · simp only [Option.map_eq_map, Option.map_eq_some_iff] at hj
    obtain ⟨q, hq, rfl⟩ := hj
    constructor <;> simp only <;> omega
  · have := ht p (List.mem_of_getElem? (by simpa using hj))
    omega
end Go.Ab
end
section
namespace Go.Ab
open Go.Proofs
attribute [local congr] ACall.congr
set_option maxRecDepth 10000
set_option maxHeartbeats 4000000

attribute [go_sem] mval_touch

def K1 (a _b c d : Pt) : List (List Int) := if onP c d a = true then addK a [] else []
def K2 (a b c d : Pt) : List (List Int) := if onP c d b = true then addK b (K1 a b c d) else K1 a b c d
def K3 (a b c d : Pt) : List (List Int) := if onP a b c = true then addK c (K2 a b c d) else K2 a b c d
def K4 (a b c d : Pt) : List (List Int) := if onP a b d = true then addK d (K3 a b c d) else K3 a b c d

def meetV (a b c d : Pt) : Int :=
  if InB a ∧ InB b ∧ InB c ∧ InB d then
    if 0 < (K4 a b c d).length then min ((K4 a b c d).length : Int) 2
    else if sd a b c * sd a b d < 0 ∧ sd c d a * sd c d b < 0 then 1 else 0
  else 0

/-- The rounds so far. -/
def RS (A B C : List (List Int)) (p : Nat × List (List Int × Int)) (n : Int) : Prop :=
  (p.1 = 0 ∧ p.2.map (·.1) = A ∧ BE n p.2) ∨ (p.1 = 1 ∧ p.2.map (·.1) = B ∧ BE (n + 1) p.2) ∨ (p.1 = 2 ∧ p.2.map (·.1) = C ∧ BE (n + 2) p.2)

def bx (p : Pt) : AObj := .box [.d (.sc (.int .i64 p.1)), .d (.sc (.int .i64 p.2))]
attribute [go_sem] bx
def st1 (a b c d : Pt) (i : Nat × List (List Int × Int)) : ASt :=
  ⟨[(9, .mref 21), (4, .ptr 4 0), (5, .ptr 5 0), (6, .ptr 6 0), (7, .ptr 7 0), (24, .agg [eN a.1, eN a.2, eN b.1, eN b.2]), (25, eN i.1)],
    [(4, bx a), (5, bx b), (6, bx c), (7, bx d), (21, .mp 2 i.2)]⟩
def st2 (a b c d : Pt) (i : Nat × List (List Int × Int)) : ASt :=
  ⟨[(9, .mref 21), (4, .ptr 4 0), (5, .ptr 5 0), (6, .ptr 6 0), (7, .ptr 7 0), (41, .agg [eN c.1, eN c.2, eN d.1, eN d.2]), (42, eN i.1)],
    [(4, bx a), (5, bx b), (6, bx c), (7, bx d), (21, .mp 2 i.2)]⟩

theorem meet_in (a b c d : Pt) (ha : InB a) (hb : InB b) (hc : InB c) (hd : InB d) : Spec Try.prog 85 (Args [eP a, eP b, eP c, eP d]) [] (eN (meetV a b c d)) [] := by
  (refine Spec.intro (C := T.cfg [] []) (rs := [.t 8]) (T.cfg_ok _ _) Try.func85 rfl rfl Try.ntmps85 Try.results85 (by simp [AObj.isNest]) (by simp [AObj.isNest]) (by kernel_rfl) ?_; intro X hX hP hC hXn hXm vals hA; refine ⟨_, by simp, hA, ?_⟩; have hmix : X.P.follows .mixedOrders = true := (by rw [hP]; exact T.mixed); clear hXn hXm)
  repeat' (first | (first | ((with_reducible (first | apply oA | apply oB)); exact rfl; intro K hK; simp only [go_sem, simprocAttr]) | (with_reducible apply oC) | ((with_reducible refine oD ?_ ?_); first | fail | kernel_rfl) | ((with_reducible (first | apply oE | apply oF)); (iterate 3 exact rfl); all_goals (intro h; first | (exact absurd h (by decide)) | ((try simp only [go_sem, simprocAttr] at h); first | (intro K hK; simp only [go_sem, simprocAttr]) | (simp only [go_sem, simprocAttr])))) | ((with_reducible (first | apply oG | apply oH)); (iterate 3 exact rfl); simp only [go_sem, simprocAttr]) | ((with_reducible apply oI); (iterate 2 exact rfl); (intro K hK; simp only [go_sem, simprocAttr])) | (with_reducible (first | apply oJ | exact oK))) | (refine hK _ ?_; clear hK K; simp only [LA.app, ASt.put, ASt.kill, subT, rmk, putM, rml, kl, AV.sub, AV.subs, AObj.sub, go_sem, simprocAttr]) | (first | ((with_reducible refine awp_tree hX hC hmix tr7 (by kernel_rfl) ?_); simp only [tr7]) | (with_reducible (first | apply wA | apply wB | apply wC hX hC | apply wD hX hC | apply wE hX hC hmix | apply wF hX hC hmix | apply wG | apply wH)) | ((with_reducible (first | apply wI | apply wJ)); simp only [athen, ablock, reduceIte, Nat.reduceEqDiff]) | ((with_reducible apply wK); simp only [go_sem, simprocAttr]) | ((with_reducible apply wL); exact rfl; all_goals (try (intro h; try simp only [go_sem, simprocAttr] at h))) | ((with_reducible apply wM); exact rfl; all_goals (intro h; first | (exact absurd h (by decide)) | (try simp only [go_sem, simprocAttr] at h)))) | (with_reducible apply And.intro) | omega | first | (refine acall_simple hX hC hP (refMayP_in _ (by assumption)) rfl rfl rfl (by simp only [go_sem, simprocAttr]) rfl ?_; simp only [go_sem, simprocAttr]) | (refine acall_simple hX hC hP (refMayP_out _ (by assumption)) rfl rfl rfl (by simp only [go_sem, simprocAttr]) rfl ?_; simp only [go_sem, simprocAttr]) | (refine acall_simple hX hC hP (sign_spec _) rfl rfl rfl (by simp only [go_sem, simprocAttr]) rfl ?_; simp only [go_sem, simprocAttr]) | (refine acall_simple hX hC hP (area_spec _ _ _ (by assumption) (by assumption) (by assumption)) rfl rfl rfl (by simp only [go_sem, simprocAttr]) rfl ?_; simp only [go_sem, simprocAttr]) | (refine acall_simple hX hC hP (along_spec _ _ _ (by assumption) (by assumption) (by assumption)) rfl rfl rfl (by simp only [go_sem, simprocAttr]) rfl ?_; simp only [go_sem, simprocAttr]) | (refine acall_simple hX hC hP (refOn_spec _ _ _) rfl rfl rfl (by simp only [go_sem, simprocAttr]) rfl ?_; simp only [go_sem, simprocAttr]) | (refine acall_simple hX hC hP (times_spec _ _ _ _ (by assumption) (by assumption) (by assumption) (by assumption)) rfl rfl rfl (by simp only [go_sem, simprocAttr]) rfl ?_; simp only [go_sem, simprocAttr]) | (refine acall_simple hX hC hP (side_spec _ _ _ (by assumption) (by assumption) (by assumption)) rfl rfl rfl (by simp only [go_sem, simprocAttr]) rfl ?_; simp only [go_sem, simprocAttr]) | (refine acall_simple hX hC hP (on_spec _ _ _ (by assumption) (by assumption) (by assumption)) rfl rfl rfl (by simp only [go_sem, simprocAttr]) rfl ?_; simp only [go_sem, simprocAttr]) | (refine acall_look hX hC hP (may_in4 a b c d (by assumption) (by assumption) (by assumption) (by assumption)) rfl rfl rfl ?_ ?_ rfl ?_; (iterate 2 (focus (simp only [go_sem, simprocAttr]; done))); simp only [go_sem, simprocAttr]) | (refine acall_look hX hC hP (may_out4 a b c d (by assumption)) rfl rfl rfl ?_ ?_ rfl ?_; (iterate 2 (focus (simp only [go_sem, simprocAttr]; done))); simp only [go_sem, simprocAttr]) | (intro h))
  refine awp_loopP (fun i : Nat × List (List Int × Int) => RS [] (K1 a b c d) (K2 a b c d) i 0) (st1 a b c d) (fun i => 2 - i.1) (0, []) (.inl ⟨rfl, rfl, by simp [BE]⟩) ?_ ?_
  · refine Le.of ?_ ?_ <;> simp [go_sem, simprocAttr, st1]
  rintro ⟨k, es⟩ (⟨hk, hks, hbe⟩ | ⟨hk, hks, hbe⟩ | ⟨hk, hks, hbe⟩) <;> simp only at hk hks hbe <;> subst hk <;> simp only [st1]
  · have hv := mval_b (by omega) hbe [a.1, a.2]
    have hs := mstamp_lt es [a.1, a.2]
    have hb2 := bump_b (by omega) hbe [a.1, a.2]
    have hk2 := bump_keys es a
    repeat' (first | (first | ((with_reducible (first | apply oA | apply oB)); exact rfl; intro K hK; simp only [go_sem, simprocAttr]) | (with_reducible apply oC) | ((with_reducible refine oD ?_ ?_); first | fail | kernel_rfl) | ((with_reducible (first | apply oE | apply oF)); (iterate 3 exact rfl); all_goals (intro h; first | (exact absurd h (by decide)) | ((try simp only [go_sem, simprocAttr] at h); first | (intro K hK; simp only [go_sem, simprocAttr]) | (simp only [go_sem, simprocAttr])))) | ((with_reducible (first | apply oG | apply oH)); (iterate 3 exact rfl); simp only [go_sem, simprocAttr]) | ((with_reducible apply oI); (iterate 2 exact rfl); (intro K hK; simp only [go_sem, simprocAttr])) | (with_reducible (first | apply oJ | exact oK))) | (refine hK _ ?_; clear hK K; simp only [LA.app, ASt.put, ASt.kill, subT, rmk, putM, rml, kl, AV.sub, AV.subs, AObj.sub, go_sem, simprocAttr]) | (first | ((with_reducible refine awp_tree hX hC hmix tr7 (by kernel_rfl) ?_); simp only [tr7]) | (with_reducible (first | apply wA | apply wB | apply wC hX hC | apply wD hX hC | apply wE hX hC hmix | apply wF hX hC hmix | apply wG | apply wH)) | ((with_reducible (first | apply wI | apply wJ)); simp only [athen, ablock, reduceIte, Nat.reduceEqDiff]) | ((with_reducible apply wK); simp only [go_sem, simprocAttr]) | ((with_reducible apply wL); exact rfl; all_goals (try (intro h; try simp only [go_sem, simprocAttr] at h))) | ((with_reducible apply wM); exact rfl; all_goals (intro h; first | (exact absurd h (by decide)) | (try simp only [go_sem, simprocAttr] at h)))) | (with_reducible apply And.intro) | omega | first | (refine acall_simple hX hC hP (refMayP_in _ (by assumption)) rfl rfl rfl (by simp only [go_sem, simprocAttr]) rfl ?_; simp only [go_sem, simprocAttr]) | (refine acall_simple hX hC hP (refMayP_out _ (by assumption)) rfl rfl rfl (by simp only [go_sem, simprocAttr]) rfl ?_; simp only [go_sem, simprocAttr]) | (refine acall_simple hX hC hP (sign_spec _) rfl rfl rfl (by simp only [go_sem, simprocAttr]) rfl ?_; simp only [go_sem, simprocAttr]) | (refine acall_simple hX hC hP (area_spec _ _ _ (by assumption) (by assumption) (by assumption)) rfl rfl rfl (by simp only [go_sem, simprocAttr]) rfl ?_; simp only [go_sem, simprocAttr]) | (refine acall_simple hX hC hP (along_spec _ _ _ (by assumption) (by assumption) (by assumption)) rfl rfl rfl (by simp only [go_sem, simprocAttr]) rfl ?_; simp only [go_sem, simprocAttr]) | (refine acall_simple hX hC hP (refOn_spec _ _ _) rfl rfl rfl (by simp only [go_sem, simprocAttr]) rfl ?_; simp only [go_sem, simprocAttr]) | (refine acall_simple hX hC hP (times_spec _ _ _ _ (by assumption) (by assumption) (by assumption) (by assumption)) rfl rfl rfl (by simp only [go_sem, simprocAttr]) rfl ?_; simp only [go_sem, simprocAttr]) | (refine acall_simple hX hC hP (side_spec _ _ _ (by assumption) (by assumption) (by assumption)) rfl rfl rfl (by simp only [go_sem, simprocAttr]) rfl ?_; simp only [go_sem, simprocAttr]) | (refine acall_simple hX hC hP (on_spec _ _ _ (by assumption) (by assumption) (by assumption)) rfl rfl rfl (by simp only [go_sem, simprocAttr]) rfl ?_; simp only [go_sem, simprocAttr]) | (refine acall_look hX hC hP (may_in4 a b c d (by assumption) (by assumption) (by assumption) (by assumption)) rfl rfl rfl ?_ ?_ rfl ?_; (iterate 2 (focus (simp only [go_sem, simprocAttr]; done))); simp only [go_sem, simprocAttr]) | (refine acall_look hX hC hP (may_out4 a b c d (by assumption)) rfl rfl rfl ?_ ?_ rfl ?_; (iterate 2 (focus (simp only [go_sem, simprocAttr]; done))); simp only [go_sem, simprocAttr]) | (intro h))
    all_goals first
      | (refine ⟨(1, bump es [a.1, a.2]), .inr (.inl ⟨rfl, by rw [hk2, hks]; simp only [K1, if_pos h], by simpa using hb2⟩), Le.of ?_ ?_, by simp⟩ <;> simp [go_sem, simprocAttr, bump]; done)
      | (refine ⟨(1, es), .inr (.inl ⟨rfl, by rw [hks]; simp [K1, h], fun p hp => by have := hbe p hp; omega⟩), Le.of ?_ ?_, by simp⟩ <;> simp [go_sem, simprocAttr]; done)
  · have hv := mval_b (by omega) hbe [b.1, b.2]
    have hs := mstamp_lt es [b.1, b.2]
    have hb2 := bump_b (by omega) hbe [b.1, b.2]
    have hk2 := bump_keys es b
    repeat' (first | (first | ((with_reducible (first | apply oA | apply oB)); exact rfl; intro K hK; simp only [go_sem, simprocAttr]) | (with_reducible apply oC) | ((with_reducible refine oD ?_ ?_); first | fail | kernel_rfl) | ((with_reducible (first | apply oE | apply oF)); (iterate 3 exact rfl); all_goals (intro h; first | (exact absurd h (by decide)) | ((try simp only [go_sem, simprocAttr] at h); first | (intro K hK; simp only [go_sem, simprocAttr]) | (simp only [go_sem, simprocAttr])))) | ((with_reducible (first | apply oG | apply oH)); (iterate 3 exact rfl); simp only [go_sem, simprocAttr]) | ((with_reducible apply oI); (iterate 2 exact rfl); (intro K hK; simp only [go_sem, simprocAttr])) | (with_reducible (first | apply oJ | exact oK))) | (refine hK _ ?_; clear hK K; simp only [LA.app, ASt.put, ASt.kill, subT, rmk, putM, rml, kl, AV.sub, AV.subs, AObj.sub, go_sem, simprocAttr]) | (first | ((with_reducible refine awp_tree hX hC hmix tr7 (by kernel_rfl) ?_); simp only [tr7]) | (with_reducible (first | apply wA | apply wB | apply wC hX hC | apply wD hX hC | apply wE hX hC hmix | apply wF hX hC hmix | apply wG | apply wH)) | ((with_reducible (first | apply wI | apply wJ)); simp only [athen, ablock, reduceIte, Nat.reduceEqDiff]) | ((with_reducible apply wK); simp only [go_sem, simprocAttr]) | ((with_reducible apply wL); exact rfl; all_goals (try (intro h; try simp only [go_sem, simprocAttr] at h))) | ((with_reducible apply wM); exact rfl; all_goals (intro h; first | (exact absurd h (by decide)) | (try simp only [go_sem, simprocAttr] at h)))) | (with_reducible apply And.intro) | omega | first | (refine acall_simple hX hC hP (refMayP_in _ (by assumption)) rfl rfl rfl (by simp only [go_sem, simprocAttr]) rfl ?_; simp only [go_sem, simprocAttr]) | (refine acall_simple hX hC hP (refMayP_out _ (by assumption)) rfl rfl rfl (by simp only [go_sem, simprocAttr]) rfl ?_; simp only [go_sem, simprocAttr]) | (refine acall_simple hX hC hP (sign_spec _) rfl rfl rfl (by simp only [go_sem, simprocAttr]) rfl ?_; simp only [go_sem, simprocAttr]) | (refine acall_simple hX hC hP (area_spec _ _ _ (by assumption) (by assumption) (by assumption)) rfl rfl rfl (by simp only [go_sem, simprocAttr]) rfl ?_; simp only [go_sem, simprocAttr]) | (refine acall_simple hX hC hP (along_spec _ _ _ (by assumption) (by assumption) (by assumption)) rfl rfl rfl (by simp only [go_sem, simprocAttr]) rfl ?_; simp only [go_sem, simprocAttr]) | (refine acall_simple hX hC hP (refOn_spec _ _ _) rfl rfl rfl (by simp only [go_sem, simprocAttr]) rfl ?_; simp only [go_sem, simprocAttr]) | (refine acall_simple hX hC hP (times_spec _ _ _ _ (by assumption) (by assumption) (by assumption) (by assumption)) rfl rfl rfl (by simp only [go_sem, simprocAttr]) rfl ?_; simp only [go_sem, simprocAttr]) | (refine acall_simple hX hC hP (side_spec _ _ _ (by assumption) (by assumption) (by assumption)) rfl rfl rfl (by simp only [go_sem, simprocAttr]) rfl ?_; simp only [go_sem, simprocAttr]) | (refine acall_simple hX hC hP (on_spec _ _ _ (by assumption) (by assumption) (by assumption)) rfl rfl rfl (by simp only [go_sem, simprocAttr]) rfl ?_; simp only [go_sem, simprocAttr]) | (refine acall_look hX hC hP (may_in4 a b c d (by assumption) (by assumption) (by assumption) (by assumption)) rfl rfl rfl ?_ ?_ rfl ?_; (iterate 2 (focus (simp only [go_sem, simprocAttr]; done))); simp only [go_sem, simprocAttr]) | (refine acall_look hX hC hP (may_out4 a b c d (by assumption)) rfl rfl rfl ?_ ?_ rfl ?_; (iterate 2 (focus (simp only [go_sem, simprocAttr]; done))); simp only [go_sem, simprocAttr]) | (intro h))
    all_goals first
      | (refine ⟨(2, bump es [b.1, b.2]), .inr (.inr ⟨rfl, by rw [hk2, hks]; simp only [K2, if_pos h], by simpa using hb2⟩), Le.of ?_ ?_, by simp⟩ <;> simp [go_sem, simprocAttr, bump]; done)
      | (refine ⟨(2, es), .inr (.inr ⟨rfl, by rw [hks]; simp [K2, h], fun p hp => by have := hbe p hp; omega⟩), Le.of ?_ ?_, by simp⟩ <;> simp [go_sem, simprocAttr]; done)
  · repeat' (first | (first | ((with_reducible (first | apply oA | apply oB)); exact rfl; intro K hK; simp only [go_sem, simprocAttr]) | (with_reducible apply oC) | ((with_reducible refine oD ?_ ?_); first | fail | kernel_rfl) | ((with_reducible (first | apply oE | apply oF)); (iterate 3 exact rfl); all_goals (intro h; first | (exact absurd h (by decide)) | ((try simp only [go_sem, simprocAttr] at h); first | (intro K hK; simp only [go_sem, simprocAttr]) | (simp only [go_sem, simprocAttr])))) | ((with_reducible (first | apply oG | apply oH)); (iterate 3 exact rfl); simp only [go_sem, simprocAttr]) | ((with_reducible apply oI); (iterate 2 exact rfl); (intro K hK; simp only [go_sem, simprocAttr])) | (with_reducible (first | apply oJ | exact oK))) | (refine hK _ ?_; clear hK K; simp only [LA.app, ASt.put, ASt.kill, subT, rmk, putM, rml, kl, AV.sub, AV.subs, AObj.sub, go_sem, simprocAttr]) | (first | ((with_reducible refine awp_tree hX hC hmix tr7 (by kernel_rfl) ?_); simp only [tr7]) | (with_reducible (first | apply wA | apply wB | apply wC hX hC | apply wD hX hC | apply wE hX hC hmix | apply wF hX hC hmix | apply wG | apply wH)) | ((with_reducible (first | apply wI | apply wJ)); simp only [athen, ablock, reduceIte, Nat.reduceEqDiff]) | ((with_reducible apply wK); simp only [go_sem, simprocAttr]) | ((with_reducible apply wL); exact rfl; all_goals (try (intro h; try simp only [go_sem, simprocAttr] at h))) | ((with_reducible apply wM); exact rfl; all_goals (intro h; first | (exact absurd h (by decide)) | (try simp only [go_sem, simprocAttr] at h)))) | (with_reducible apply And.intro) | omega | first | (refine acall_simple hX hC hP (refMayP_in _ (by assumption)) rfl rfl rfl (by simp only [go_sem, simprocAttr]) rfl ?_; simp only [go_sem, simprocAttr]) | (refine acall_simple hX hC hP (refMayP_out _ (by assumption)) rfl rfl rfl (by simp only [go_sem, simprocAttr]) rfl ?_; simp only [go_sem, simprocAttr]) | (refine acall_simple hX hC hP (sign_spec _) rfl rfl rfl (by simp only [go_sem, simprocAttr]) rfl ?_; simp only [go_sem, simprocAttr]) | (refine acall_simple hX hC hP (area_spec _ _ _ (by assumption) (by assumption) (by assumption)) rfl rfl rfl (by simp only [go_sem, simprocAttr]) rfl ?_; simp only [go_sem, simprocAttr]) | (refine acall_simple hX hC hP (along_spec _ _ _ (by assumption) (by assumption) (by assumption)) rfl rfl rfl (by simp only [go_sem, simprocAttr]) rfl ?_; simp only [go_sem, simprocAttr]) | (refine acall_simple hX hC hP (refOn_spec _ _ _) rfl rfl rfl (by simp only [go_sem, simprocAttr]) rfl ?_; simp only [go_sem, simprocAttr]) | (refine acall_simple hX hC hP (times_spec _ _ _ _ (by assumption) (by assumption) (by assumption) (by assumption)) rfl rfl rfl (by simp only [go_sem, simprocAttr]) rfl ?_; simp only [go_sem, simprocAttr]) | (refine acall_simple hX hC hP (side_spec _ _ _ (by assumption) (by assumption) (by assumption)) rfl rfl rfl (by simp only [go_sem, simprocAttr]) rfl ?_; simp only [go_sem, simprocAttr]) | (refine acall_simple hX hC hP (on_spec _ _ _ (by assumption) (by assumption) (by assumption)) rfl rfl rfl (by simp only [go_sem, simprocAttr]) rfl ?_; simp only [go_sem, simprocAttr]) | (refine acall_look hX hC hP (may_in4 a b c d (by assumption) (by assumption) (by assumption) (by assumption)) rfl rfl rfl ?_ ?_ rfl ?_; (iterate 2 (focus (simp only [go_sem, simprocAttr]; done))); simp only [go_sem, simprocAttr]) | (refine acall_look hX hC hP (may_out4 a b c d (by assumption)) rfl rfl rfl ?_ ?_ rfl ?_; (iterate 2 (focus (simp only [go_sem, simprocAttr]; done))); simp only [go_sem, simprocAttr]) | (intro h))
    refine awp_loopP (fun i : Nat × List (List Int × Int) => RS (K2 a b c d) (K3 a b c d) (K4 a b c d) i 2) (st2 a b c d) (fun i => 2 - i.1) (0, es) (.inl ⟨rfl, hks, by simpa using hbe⟩) ?_ ?_
    · refine Le.of ?_ ?_ <;> simp [go_sem, simprocAttr, st2]
    clear hks hbe es
    rintro ⟨k, es⟩ (⟨hk, hks, hbe⟩ | ⟨hk, hks, hbe⟩ | ⟨hk, hks, hbe⟩) <;> simp only at hk hks hbe <;> subst hk <;> simp only [st2]
    · have hv := mval_b (by omega) hbe [c.1, c.2]
      have hs := mstamp_lt es [c.1, c.2]
      have hb2 := bump_b (by omega) hbe [c.1, c.2]
      have hk2 := bump_keys es c
      repeat' (first | (first | ((with_reducible (first | apply oA | apply oB)); exact rfl; intro K hK; simp only [go_sem, simprocAttr]) | (with_reducible apply oC) | ((with_reducible refine oD ?_ ?_); first | fail | kernel_rfl) | ((with_reducible (first | apply oE | apply oF)); (iterate 3 exact rfl); all_goals (intro h; first | (exact absurd h (by decide)) | ((try simp only [go_sem, simprocAttr] at h); first | (intro K hK; simp only [go_sem, simprocAttr]) | (simp only [go_sem, simprocAttr])))) | ((with_reducible (first | apply oG | apply oH)); (iterate 3 exact rfl); simp only [go_sem, simprocAttr]) | ((with_reducible apply oI); (iterate 2 exact rfl); (intro K hK; simp only [go_sem, simprocAttr])) | (with_reducible (first | apply oJ | exact oK))) | (refine hK _ ?_; clear hK K; simp only [LA.app, ASt.put, ASt.kill, subT, rmk, putM, rml, kl, AV.sub, AV.subs, AObj.sub, go_sem, simprocAttr]) | (first | ((with_reducible refine awp_tree hX hC hmix tr7 (by kernel_rfl) ?_); simp only [tr7]) | (with_reducible (first | apply wA | apply wB | apply wC hX hC | apply wD hX hC | apply wE hX hC hmix | apply wF hX hC hmix | apply wG | apply wH)) | ((with_reducible (first | apply wI | apply wJ)); simp only [athen, ablock, reduceIte, Nat.reduceEqDiff]) | ((with_reducible apply wK); simp only [go_sem, simprocAttr]) | ((with_reducible apply wL); exact rfl; all_goals (try (intro h; try simp only [go_sem, simprocAttr] at h))) | ((with_reducible apply wM); exact rfl; all_goals (intro h; first | (exact absurd h (by decide)) | (try simp only [go_sem, simprocAttr] at h)))) | (with_reducible apply And.intro) | omega | first | (refine acall_simple hX hC hP (refMayP_in _ (by assumption)) rfl rfl rfl (by simp only [go_sem, simprocAttr]) rfl ?_; simp only [go_sem, simprocAttr]) | (refine acall_simple hX hC hP (refMayP_out _ (by assumption)) rfl rfl rfl (by simp only [go_sem, simprocAttr]) rfl ?_; simp only [go_sem, simprocAttr]) | (refine acall_simple hX hC hP (sign_spec _) rfl rfl rfl (by simp only [go_sem, simprocAttr]) rfl ?_; simp only [go_sem, simprocAttr]) | (refine acall_simple hX hC hP (area_spec _ _ _ (by assumption) (by assumption) (by assumption)) rfl rfl rfl (by simp only [go_sem, simprocAttr]) rfl ?_; simp only [go_sem, simprocAttr]) | (refine acall_simple hX hC hP (along_spec _ _ _ (by assumption) (by assumption) (by assumption)) rfl rfl rfl (by simp only [go_sem, simprocAttr]) rfl ?_; simp only [go_sem, simprocAttr]) | (refine acall_simple hX hC hP (refOn_spec _ _ _) rfl rfl rfl (by simp only [go_sem, simprocAttr]) rfl ?_; simp only [go_sem, simprocAttr]) | (refine acall_simple hX hC hP (times_spec _ _ _ _ (by assumption) (by assumption) (by assumption) (by assumption)) rfl rfl rfl (by simp only [go_sem, simprocAttr]) rfl ?_; simp only [go_sem, simprocAttr]) | (refine acall_simple hX hC hP (side_spec _ _ _ (by assumption) (by assumption) (by assumption)) rfl rfl rfl (by simp only [go_sem, simprocAttr]) rfl ?_; simp only [go_sem, simprocAttr]) | (refine acall_simple hX hC hP (on_spec _ _ _ (by assumption) (by assumption) (by assumption)) rfl rfl rfl (by simp only [go_sem, simprocAttr]) rfl ?_; simp only [go_sem, simprocAttr]) | (refine acall_look hX hC hP (may_in4 a b c d (by assumption) (by assumption) (by assumption) (by assumption)) rfl rfl rfl ?_ ?_ rfl ?_; (iterate 2 (focus (simp only [go_sem, simprocAttr]; done))); simp only [go_sem, simprocAttr]) | (refine acall_look hX hC hP (may_out4 a b c d (by assumption)) rfl rfl rfl ?_ ?_ rfl ?_; (iterate 2 (focus (simp only [go_sem, simprocAttr]; done))); simp only [go_sem, simprocAttr]) | (intro h))
      all_goals first
        | (refine ⟨(1, bump es [c.1, c.2]), .inr (.inl ⟨rfl, by rw [hk2, hks]; simp only [K3, if_pos h], by simpa using hb2⟩), Le.of ?_ ?_, by simp⟩ <;> simp [go_sem, simprocAttr, bump]; done)
        | (refine ⟨(1, es), .inr (.inl ⟨rfl, by rw [hks]; simp [K3, h], fun p hp => by have := hbe p hp; omega⟩), Le.of ?_ ?_, by simp⟩ <;> simp [go_sem, simprocAttr]; done)
    · have hv := mval_b (by omega) hbe [d.1, d.2]
      have hs := mstamp_lt es [d.1, d.2]
      have hb2 := bump_b (by omega) hbe [d.1, d.2]
      have hk2 := bump_keys es d
      repeat' (first | (first | ((with_reducible (first | apply oA | apply oB)); exact rfl; intro K hK; simp only [go_sem, simprocAttr]) | (with_reducible apply oC) | ((with_reducible refine oD ?_ ?_); first | fail | kernel_rfl) | ((with_reducible (first | apply oE | apply oF)); (iterate 3 exact rfl); all_goals (intro h; first | (exact absurd h (by decide)) | ((try simp only [go_sem, simprocAttr] at h); first | (intro K hK; simp only [go_sem, simprocAttr]) | (simp only [go_sem, simprocAttr])))) | ((with_reducible (first | apply oG | apply oH)); (iterate 3 exact rfl); simp only [go_sem, simprocAttr]) | ((with_reducible apply oI); (iterate 2 exact rfl); (intro K hK; simp only [go_sem, simprocAttr])) | (with_reducible (first | apply oJ | exact oK))) | (refine hK _ ?_; clear hK K; simp only [LA.app, ASt.put, ASt.kill, subT, rmk, putM, rml, kl, AV.sub, AV.subs, AObj.sub, go_sem, simprocAttr]) | (first | ((with_reducible refine awp_tree hX hC hmix tr7 (by kernel_rfl) ?_); simp only [tr7]) | (with_reducible (first | apply wA | apply wB | apply wC hX hC | apply wD hX hC | apply wE hX hC hmix | apply wF hX hC hmix | apply wG | apply wH)) | ((with_reducible (first | apply wI | apply wJ)); simp only [athen, ablock, reduceIte, Nat.reduceEqDiff]) | ((with_reducible apply wK); simp only [go_sem, simprocAttr]) | ((with_reducible apply wL); exact rfl; all_goals (try (intro h; try simp only [go_sem, simprocAttr] at h))) | ((with_reducible apply wM); exact rfl; all_goals (intro h; first | (exact absurd h (by decide)) | (try simp only [go_sem, simprocAttr] at h)))) | (with_reducible apply And.intro) | omega | first | (refine acall_simple hX hC hP (refMayP_in _ (by assumption)) rfl rfl rfl (by simp only [go_sem, simprocAttr]) rfl ?_; simp only [go_sem, simprocAttr]) | (refine acall_simple hX hC hP (refMayP_out _ (by assumption)) rfl rfl rfl (by simp only [go_sem, simprocAttr]) rfl ?_; simp only [go_sem, simprocAttr]) | (refine acall_simple hX hC hP (sign_spec _) rfl rfl rfl (by simp only [go_sem, simprocAttr]) rfl ?_; simp only [go_sem, simprocAttr]) | (refine acall_simple hX hC hP (area_spec _ _ _ (by assumption) (by assumption) (by assumption)) rfl rfl rfl (by simp only [go_sem, simprocAttr]) rfl ?_; simp only [go_sem, simprocAttr]) | (refine acall_simple hX hC hP (along_spec _ _ _ (by assumption) (by assumption) (by assumption)) rfl rfl rfl (by simp only [go_sem, simprocAttr]) rfl ?_; simp only [go_sem, simprocAttr]) | (refine acall_simple hX hC hP (refOn_spec _ _ _) rfl rfl rfl (by simp only [go_sem, simprocAttr]) rfl ?_; simp only [go_sem, simprocAttr]) | (refine acall_simple hX hC hP (times_spec _ _ _ _ (by assumption) (by assumption) (by assumption) (by assumption)) rfl rfl rfl (by simp only [go_sem, simprocAttr]) rfl ?_; simp only [go_sem, simprocAttr]) | (refine acall_simple hX hC hP (side_spec _ _ _ (by assumption) (by assumption) (by assumption)) rfl rfl rfl (by simp only [go_sem, simprocAttr]) rfl ?_; simp only [go_sem, simprocAttr]) | (refine acall_simple hX hC hP (on_spec _ _ _ (by assumption) (by assumption) (by assumption)) rfl rfl rfl (by simp only [go_sem, simprocAttr]) rfl ?_; simp only [go_sem, simprocAttr]) | (refine acall_look hX hC hP (may_in4 a b c d (by assumption) (by assumption) (by assumption) (by assumption)) rfl rfl rfl ?_ ?_ rfl ?_; (iterate 2 (focus (simp only [go_sem, simprocAttr]; done))); simp only [go_sem, simprocAttr]) | (refine acall_look hX hC hP (may_out4 a b c d (by assumption)) rfl rfl rfl ?_ ?_ rfl ?_; (iterate 2 (focus (simp only [go_sem, simprocAttr]; done))); simp only [go_sem, simprocAttr]) | (intro h))
      all_goals first
        | (refine ⟨(2, bump es [d.1, d.2]), .inr (.inr ⟨rfl, by rw [hk2, hks]; simp only [K4, if_pos h], by simpa using hb2⟩), Le.of ?_ ?_, by simp⟩ <;> simp [go_sem, simprocAttr, bump]; done)
        | (refine ⟨(2, es), .inr (.inr ⟨rfl, by rw [hks]; simp [K4, h], fun p hp => by have := hbe p hp; omega⟩), Le.of ?_ ?_, by simp⟩ <;> simp [go_sem, simprocAttr]; done)
    · have hlen : (es.length : Int) = ((K4 a b c d).length : Int) := by rw [← hks, List.length_map]
      have m1 : -(1 * 1) ≤ sd a b c * sd a b d ∧ sd a b c * sd a b d ≤ 1 * 1 := mulB (cmpI_b _) (cmpI_b _)
      have m2 : -(1 * 1) ≤ sd c d a * sd c d b ∧ sd c d a * sd c d b ≤ 1 * 1 := mulB (cmpI_b _) (cmpI_b _)
      repeat' (first | (first | ((with_reducible (first | apply oA | apply oB)); exact rfl; intro K hK; simp only [go_sem, simprocAttr]) | (with_reducible apply oC) | ((with_reducible refine oD ?_ ?_); first | fail | kernel_rfl) | ((with_reducible (first | apply oE | apply oF)); (iterate 3 exact rfl); all_goals (intro h; first | (exact absurd h (by decide)) | ((try simp only [go_sem, simprocAttr] at h); first | (intro K hK; simp only [go_sem, simprocAttr]) | (simp only [go_sem, simprocAttr])))) | ((with_reducible (first | apply oG | apply oH)); (iterate 3 exact rfl); simp only [go_sem, simprocAttr]) | ((with_reducible apply oI); (iterate 2 exact rfl); (intro K hK; simp only [go_sem, simprocAttr])) | (with_reducible (first | apply oJ | exact oK))) | (refine hK _ ?_; clear hK K; simp only [LA.app, ASt.put, ASt.kill, subT, rmk, putM, rml, kl, AV.sub, AV.subs, AObj.sub, go_sem, simprocAttr]) | (first | ((with_reducible refine awp_tree hX hC hmix tr7 (by kernel_rfl) ?_); simp only [tr7]) | (with_reducible (first | apply wA | apply wB | apply wC hX hC | apply wD hX hC | apply wE hX hC hmix | apply wF hX hC hmix | apply wG | apply wH)) | ((with_reducible (first | apply wI | apply wJ)); simp only [athen, ablock, reduceIte, Nat.reduceEqDiff]) | ((with_reducible apply wK); simp only [go_sem, simprocAttr]) | ((with_reducible apply wL); exact rfl; all_goals (try (intro h; try simp only [go_sem, simprocAttr] at h))) | ((with_reducible apply wM); exact rfl; all_goals (intro h; first | (exact absurd h (by decide)) | (try simp only [go_sem, simprocAttr] at h)))) | (with_reducible apply And.intro) | omega | first | (refine acall_simple hX hC hP (refMayP_in _ (by assumption)) rfl rfl rfl (by simp only [go_sem, simprocAttr]) rfl ?_; simp only [go_sem, simprocAttr]) | (refine acall_simple hX hC hP (refMayP_out _ (by assumption)) rfl rfl rfl (by simp only [go_sem, simprocAttr]) rfl ?_; simp only [go_sem, simprocAttr]) | (refine acall_simple hX hC hP (sign_spec _) rfl rfl rfl (by simp only [go_sem, simprocAttr]) rfl ?_; simp only [go_sem, simprocAttr]) | (refine acall_simple hX hC hP (area_spec _ _ _ (by assumption) (by assumption) (by assumption)) rfl rfl rfl (by simp only [go_sem, simprocAttr]) rfl ?_; simp only [go_sem, simprocAttr]) | (refine acall_simple hX hC hP (along_spec _ _ _ (by assumption) (by assumption) (by assumption)) rfl rfl rfl (by simp only [go_sem, simprocAttr]) rfl ?_; simp only [go_sem, simprocAttr]) | (refine acall_simple hX hC hP (refOn_spec _ _ _) rfl rfl rfl (by simp only [go_sem, simprocAttr]) rfl ?_; simp only [go_sem, simprocAttr]) | (refine acall_simple hX hC hP (times_spec _ _ _ _ (by assumption) (by assumption) (by assumption) (by assumption)) rfl rfl rfl (by simp only [go_sem, simprocAttr]) rfl ?_; simp only [go_sem, simprocAttr]) | (refine acall_simple hX hC hP (side_spec _ _ _ (by assumption) (by assumption) (by assumption)) rfl rfl rfl (by simp only [go_sem, simprocAttr]) rfl ?_; simp only [go_sem, simprocAttr]) | (refine acall_simple hX hC hP (on_spec _ _ _ (by assumption) (by assumption) (by assumption)) rfl rfl rfl (by simp only [go_sem, simprocAttr]) rfl ?_; simp only [go_sem, simprocAttr]) | (refine acall_look hX hC hP (may_in4 a b c d (by assumption) (by assumption) (by assumption) (by assumption)) rfl rfl rfl ?_ ?_ rfl ?_; (iterate 2 (focus (simp only [go_sem, simprocAttr]; done))); simp only [go_sem, simprocAttr]) | (refine acall_look hX hC hP (may_out4 a b c d (by assumption)) rfl rfl rfl ?_ ?_ rfl ?_; (iterate 2 (focus (simp only [go_sem, simprocAttr]; done))); simp only [go_sem, simprocAttr]) | (intro h))
      all_goals clear hA hX hmix hP hC X hks hbe m1 m2
      all_goals simp only [meetV, ha, hb, hc, hd, and_self, if_true, ← hlen]
      all_goals grind
end Go.Ab
end
section
namespace Go.Ab
open Go.Proofs
attribute [local congr] ACall.congr
set_option maxRecDepth 10000

theorem area_tm (a b c : Pt) : areaV a b c = tm a b a c := by unfold areaV tm; grind
theorem cmpI_zero (n : Int) : cmpI n 0 = 0 ↔ n = 0 := by unfold cmpI; split <;> (try split) <;> omega

theorem mul_neg_iff {u v : Int} : (min u v ≤ 0 ∧ 0 ≤ max u v) ↔ u * v ≤ 0 := by
  rcases Int.lt_trichotomy u 0 with hu | hu | hu <;> rcases Int.lt_trichotomy v 0 with hv | hv | hv
  · have := Int.mul_pos_of_neg_of_neg hu hv; omega
  · subst hv; simp; omega
  · have := Int.mul_neg_of_neg_of_pos hu hv; omega
  · subst hu; simp; omega
  · subst hu; simp; omega
  · subst hu; simp; omega
  · have := Int.mul_neg_of_pos_of_neg hu hv; omega
  · subst hv; simp; omega
  · have := Int.mul_pos hu hv; omega

theorem sq_nonneg (s : Int) : 0 ≤ s * s := by
  rcases Int.le_total 0 s with h | h
  · exact Int.mul_nonneg h h
  · exact Int.mul_nonneg_of_nonpos_of_nonpos h h

theorem dot_iff {u1 u2 v1 v2 : Int} (h : u1 * v2 = u2 * v1) : (u1 * v1 ≤ 0 ∧ u2 * v2 ≤ 0) ↔ u1 * v1 + u2 * v2 ≤ 0 := by
  constructor
  · omega
  · intro hs
    have key : (u1 * v1) * (u2 * v2) = (u1 * v2) * (u1 * v2) := by grind
    have h0 := sq_nonneg (u1 * v2)
    rw [← key] at h0
    constructor
    · refine Int.not_lt.1 fun hp => ?_
      have := Int.mul_neg_of_pos_of_neg hp (show u2 * v2 < 0 by omega)
      omega
    · refine Int.not_lt.1 fun hp => ?_
      have := Int.mul_neg_of_neg_of_pos (show u1 * v1 < 0 by omega) hp
      omega

theorem within_iff (a b n : Int) : withinI a b n = decide ((a - n) * (b - n) ≤ 0) := by
  rw [Bool.eq_iff_iff]
  simp only [withinI, Bool.and_eq_true, decide_eq_true_eq]
  rw [← mul_neg_iff]
  omega

theorem onP_eq (a b c : Pt) : onP a b c = (decide (areaV a b c = 0) && decide ((a.1 - c.1) * (b.1 - c.1) + (a.2 - c.2) * (b.2 - c.2) ≤ 0)) := by
  unfold onP sd
  rw [← area_tm, within_iff, within_iff]
  by_cases h : areaV a b c = 0
  · have h' : (a.1 - c.1) * (b.2 - c.2) = (a.2 - c.2) * (b.1 - c.1) := by unfold areaV at h; grind
    rw [Bool.eq_iff_iff]
    simp only [cmpI_zero, h, decide_true, Bool.true_and, Bool.and_eq_true, decide_eq_true_eq]
    exact dot_iff h'
  · simp [cmpI_zero, h]
theorem on_eq (a b c : Pt) : refOnV a b c = OnV a b c := by unfold refOnV OnV; rw [onP_eq]
theorem meet_out (a b c d : Pt) (h : ¬ (InB a ∧ InB b ∧ InB c ∧ InB d)) : Spec Try.prog 85 (Args [eP a, eP b, eP c, eP d]) [] (eN 0) [] := by
  (refine Spec.intro (C := T.cfg [] []) (rs := [.t 8]) (T.cfg_ok _ _) Try.func85 rfl rfl Try.ntmps85 Try.results85 (by simp [AObj.isNest]) (by simp [AObj.isNest]) (by kernel_rfl) ?_; intro X hX hP hC hXn hXm vals hA; refine ⟨_, by simp, hA, ?_⟩; have hmix : X.P.follows .mixedOrders = true := (by rw [hP]; exact T.mixed); clear hXn hXm)
  repeat' (first | (first | ((with_reducible (first | apply oA | apply oB)); exact rfl; intro K hK; simp only [go_sem, simprocAttr]) | (with_reducible apply oC) | ((with_reducible refine oD ?_ ?_); first | fail | kernel_rfl) | ((with_reducible (first | apply oE | apply oF)); (iterate 3 exact rfl); all_goals (intro h; first | (exact absurd h (by decide)) | ((try simp only [go_sem, simprocAttr] at h); first | (intro K hK; simp only [go_sem, simprocAttr]) | (simp only [go_sem, simprocAttr])))) | ((with_reducible (first | apply oG | apply oH)); (iterate 3 exact rfl); simp only [go_sem, simprocAttr]) | ((with_reducible apply oI); (iterate 2 exact rfl); (intro K hK; simp only [go_sem, simprocAttr])) | (with_reducible (first | apply oJ | exact oK))) | (refine hK _ ?_; clear hK K; simp only [LA.app, ASt.put, ASt.kill, subT, rmk, putM, rml, kl, AV.sub, AV.subs, AObj.sub, go_sem, simprocAttr]) | (first | fail | (with_reducible (first | apply wA | apply wB | apply wC hX hC | apply wD hX hC | apply wE hX hC hmix | apply wF hX hC hmix | apply wG | apply wH)) | ((with_reducible (first | apply wI | apply wJ)); simp only [athen, ablock, reduceIte, Nat.reduceEqDiff]) | ((with_reducible apply wK); simp only [go_sem, simprocAttr]) | ((with_reducible apply wL); exact rfl; all_goals (try (intro h; try simp only [go_sem, simprocAttr] at h))) | ((with_reducible apply wM); exact rfl; all_goals (intro h; first | (exact absurd h (by decide)) | (try simp only [go_sem, simprocAttr] at h)))) | (with_reducible apply And.intro) | omega | first | (refine acall_look hX hC hP (may_out4 a b c d (by assumption)) rfl rfl rfl ?_ ?_ rfl ?_; (iterate 2 (focus (simp only [go_sem, simprocAttr]; done))); simp only [go_sem, simprocAttr]) | (intro h))

theorem meetV_out {a b c d : Pt} (h : ¬ (InB a ∧ InB b ∧ InB c ∧ InB d)) : meetV a b c d = 0 := by rw [meetV, if_neg h]
theorem meet_spec (a b c d : Pt) : Spec Try.prog 85 (Args [eP a, eP b, eP c, eP d]) [] (eN (meetV a b c d)) [] := by
  by_cases h : InB a ∧ InB b ∧ InB c ∧ InB d
  · exact meet_in a b c d h.1 h.2.1 h.2.2.1 h.2.2.2
  · rw [meetV_out h]; exact meet_out a b c d h
def key (p : Pt) : List Int := [p.1, p.2]
theorem key_inj {p q : Pt} : key p = key q ↔ p = q := by simp [key, Prod.ext_iff]
theorem mem_addK {x : List Int} {p : Pt} {ks : List (List Int)} : x ∈ addK p ks ↔ x = key p ∨ x ∈ ks := by
  unfold addK
  split
  · rename_i h
    constructor
    · exact .inr
    · rintro (rfl | h')
      · exact h
      · exact h'
  · simp [key, or_comm]
theorem nodup_addK {p : Pt} {ks : List (List Int)} (h : ks.Nodup) : (addK p ks).Nodup := by
  unfold addK
  split
  · exact h
  · rename_i hn
    rw [List.nodup_append]
    exact ⟨h, by simp, fun a ha b hb => by simp at hb; subst hb; exact fun e => hn (e ▸ ha)⟩
theorem nodup_K4 (a b c d : Pt) : (K4 a b c d).Nodup := by
  have h1 : (K1 a b c d).Nodup := by unfold K1; split; exact nodup_addK List.nodup_nil; exact List.nodup_nil
  have h2 : (K2 a b c d).Nodup := by unfold K2; split; exact nodup_addK h1; exact h1
  have h3 : (K3 a b c d).Nodup := by unfold K3; split; exact nodup_addK h2; exact h2
  unfold K4; split; exact nodup_addK h3; exact h3
def Com (a b c d p : Pt) : Prop := (onP c d a = true ∧ p = a) ∨ (onP c d b = true ∧ p = b) ∨ (onP a b c = true ∧ p = c) ∨ (onP a b d = true ∧ p = d)
theorem mem_K4 {a b c d : Pt} {x : List Int} : x ∈ K4 a b c d ↔ ∃ p, Com a b c d p ∧ x = key p := by
  have h1 : x ∈ K1 a b c d ↔ onP c d a = true ∧ x = key a := by unfold K1; split <;> simp_all [mem_addK]
  have h2 : x ∈ K2 a b c d ↔ (onP c d b = true ∧ x = key b) ∨ x ∈ K1 a b c d := by unfold K2; split <;> simp_all [mem_addK]
  have h3 : x ∈ K3 a b c d ↔ (onP a b c = true ∧ x = key c) ∨ x ∈ K2 a b c d := by unfold K3; split <;> simp_all [mem_addK]
  have h4 : x ∈ K4 a b c d ↔ (onP a b d = true ∧ x = key d) ∨ x ∈ K3 a b c d := by unfold K4; split <;> simp_all [mem_addK]
  rw [h4, h3, h2, h1]
  unfold Com
  constructor
  · rintro (⟨h, rfl⟩ | ⟨h, rfl⟩ | ⟨h, rfl⟩ | ⟨h, rfl⟩)
    · exact ⟨d, .inr (.inr (.inr ⟨h, rfl⟩)), rfl⟩
    · exact ⟨c, .inr (.inr (.inl ⟨h, rfl⟩)), rfl⟩
    · exact ⟨b, .inr (.inl ⟨h, rfl⟩), rfl⟩
    · exact ⟨a, .inl ⟨h, rfl⟩, rfl⟩
  · rintro ⟨p, (⟨h, rfl⟩ | ⟨h, rfl⟩ | ⟨h, rfl⟩ | ⟨h, rfl⟩), rfl⟩
    · exact .inr (.inr (.inr ⟨h, rfl⟩))
    · exact .inr (.inr (.inl ⟨h, rfl⟩))
    · exact .inr (.inl ⟨h, rfl⟩)
    · exact .inl ⟨h, rfl⟩
/-- How many: none, one, more. -/
theorem K4_zero {a b c d : Pt} (h : ∀ p, ¬ Com a b c d p) : (K4 a b c d).length = 0 := by
  rw [List.length_eq_zero_iff, List.eq_nil_iff_forall_not_mem]
  intro x hx
  obtain ⟨p, hp, _⟩ := mem_K4.1 hx
  exact h p hp
theorem K4_one {a b c d p : Pt} (h : Com a b c d p) (h1 : ∀ q, Com a b c d q → q = p) : (K4 a b c d).length = 1 := by
  have e : (K4 a b c d).Perm [key p] := (List.perm_ext_iff_of_nodup (nodup_K4 a b c d) (by simp)).2 fun x => by
    rw [mem_K4]
    constructor
    · rintro ⟨q, hq, rfl⟩; rw [h1 q hq]; simp
    · intro hx; simp at hx; exact ⟨p, h, hx⟩
  exact e.length_eq
theorem K4_two {a b c d p q : Pt} (h : Com a b c d p) (h1 : Com a b c d q) (hn : p ≠ q) : 2 ≤ (K4 a b c d).length := by
  have := List.Nodup.length_le_of_subset (l₁ := [key p, key q]) (l₂ := K4 a b c d) (by simp [key_inj, hn]) (by
    intro x hx
    simp at hx
    rcases hx with rfl | rfl
    · exact mem_K4.2 ⟨p, h, rfl⟩
    · exact mem_K4.2 ⟨q, h1, rfl⟩)
  simpa using this

theorem sd_zero {a b c : Pt} : sd a b c = 0 ↔ areaV a b c = 0 := by unfold sd; rw [cmpI_zero, area_tm]
theorem onP_iff {a b c : Pt} : onP a b c = true ↔ areaV a b c = 0 ∧ (a.1 - c.1) * (b.1 - c.1) ≤ 0 ∧ (a.2 - c.2) * (b.2 - c.2) ≤ 0 := by
  unfold onP
  rw [within_iff, within_iff]
  simp only [Bool.and_eq_true, decide_eq_true_eq, sd_zero, and_assoc]

theorem mul_sq_nonpos {x s : Int} (hs : s ≠ 0) (h : x * (s * s) ≤ 0) : x ≤ 0 := by
  have h1 := sq_nonneg s
  have h2 : s * s ≠ 0 := Int.mul_ne_zero hs hs
  refine Int.not_lt.1 fun hp => ?_
  have := Int.mul_pos hp (show 0 < s * s by omega)
  omega
theorem nonpos_mul_sq {x s : Int} (h : x ≤ 0) : x * (s * s) ≤ 0 := Int.mul_nonpos_of_nonpos_of_nonneg h (sq_nonneg s)

theorem cross_x {a b c d : Pt} (h0 : areaV c d a = 0) : tm a b c d * (c.1 - a.1) = areaV a b c * (d.1 - c.1) := by unfold areaV at *; unfold tm; grind
theorem cross_x' {a b c d : Pt} (h0 : areaV c d a = 0) : tm a b c d * (d.1 - a.1) = areaV a b d * (d.1 - c.1) := by unfold areaV at *; unfold tm; grind
theorem cross_y {a b c d : Pt} (h0 : areaV c d a = 0) : tm a b c d * (c.2 - a.2) = areaV a b c * (d.2 - c.2) := by unfold areaV at *; unfold tm; grind
theorem cross_y' {a b c d : Pt} (h0 : areaV c d a = 0) : tm a b c d * (d.2 - a.2) = areaV a b d * (d.2 - c.2) := by unfold areaV at *; unfold tm; grind
theorem sq_of {t p q u v w : Int} (h1 : t * p = u * w) (h2 : t * q = v * w) : (p * q) * (t * t) = (u * v) * (w * w) := by grind
/-- Lines that cross: an end is on the other piece just if it is on its line, and that piece's ends are not at one side. -/
theorem on_cross {a b c d : Pt} (hT : tm a b c d ≠ 0) : onP c d a = true ↔ areaV c d a = 0 ∧ areaV a b c * areaV a b d ≤ 0 := by
  rw [onP_iff]
  refine and_congr_right fun h0 => ?_
  have e1 := sq_of (cross_x (b := b) h0) (cross_x' (b := b) h0)
  have e2 := sq_of (cross_y (b := b) h0) (cross_y' (b := b) h0)
  constructor
  · rintro ⟨h1, h2⟩
    by_cases hx : d.1 - c.1 = 0
    · have hy : d.2 - c.2 ≠ 0 := fun hy => hT (by unfold tm; simp [hx, hy])
      exact mul_sq_nonpos hy (e2 ▸ nonpos_mul_sq h2)
    · exact mul_sq_nonpos hx (e1 ▸ nonpos_mul_sq h1)
  · intro h
    exact ⟨mul_sq_nonpos hT (e1 ▸ nonpos_mul_sq h), mul_sq_nonpos hT (e2 ▸ nonpos_mul_sq h)⟩

theorem tm_swap (a b c d : Pt) : tm b a c d = - tm a b c d := by unfold tm; grind
theorem tm_pair (a b c d : Pt) : tm c d a b = - tm a b c d := by unfold tm; grind
theorem tm_swap2 (a b c d : Pt) : tm a b d c = - tm a b c d := by unfold tm; grind
theorem area_swap (a b c : Pt) : areaV b a c = - areaV a b c := by unfold areaV; grind
theorem area_diff (a b c d : Pt) : areaV a b d - areaV a b c = tm a b c d := by unfold areaV tm; grind
theorem area_diff' (a b c d : Pt) : areaV c d a - areaV c d b = tm a b c d := by unfold areaV tm; grind
theorem onP_swap (a b c : Pt) : onP b a c = onP a b c := by
  rw [Bool.eq_iff_iff, onP_iff, onP_iff, area_swap, Int.mul_comm (b.1 - c.1), Int.mul_comm (b.2 - c.2)]
  simp

theorem on_cross_b {a b c d : Pt} (hT : tm a b c d ≠ 0) : onP c d b = true ↔ areaV c d b = 0 ∧ areaV a b c * areaV a b d ≤ 0 := by
  rw [on_cross (a := b) (b := a) (by rw [tm_swap]; omega), area_swap a b c, area_swap a b d, Int.neg_mul_neg]
theorem on_cross_c {a b c d : Pt} (hT : tm a b c d ≠ 0) : onP a b c = true ↔ areaV a b c = 0 ∧ areaV c d a * areaV c d b ≤ 0 := by
  rw [on_cross (a := c) (b := d) (c := a) (d := b) (by rw [tm_pair]; omega)]
theorem on_cross_d {a b c d : Pt} (hT : tm a b c d ≠ 0) : onP a b d = true ↔ areaV a b d = 0 ∧ areaV c d a * areaV c d b ≤ 0 := by
  rw [on_cross (a := d) (b := c) (c := a) (d := b) (by rw [tm_pair, tm_swap2]; omega), area_swap c d a, area_swap c d b, Int.neg_mul_neg]

/-- The point where two lines cross is one. -/
theorem cross_one {a b c d : Pt} (hT : tm a b c d ≠ 0) (h1 : areaV c d a = 0) (h2 : areaV a b c = 0) : a = c := by
  have k1 := cross_x (b := b) h1
  have k2 := cross_y (b := b) h1
  rw [h2, Int.zero_mul] at k1 k2
  have e1 := (Int.mul_eq_zero.1 k1).resolve_left hT
  have e2 := (Int.mul_eq_zero.1 k2).resolve_left hT
  exact Prod.ext (by omega) (by omega)

theorem cmpI_mul (u v : Int) : cmpI u 0 * cmpI v 0 < 0 ↔ u * v < 0 := by
  unfold cmpI
  rcases Int.lt_trichotomy u 0 with hu | hu | hu <;> rcases Int.lt_trichotomy v 0 with hv | hv | hv
  · have := Int.mul_pos_of_neg_of_neg hu hv; simp [hu, hv]; omega
  · subst hv; simp
  · have := Int.mul_neg_of_neg_of_pos hu hv; simp [hu, hv, show ¬ v < 0 by omega, this]
  · subst hu; simp
  · subst hu; simp
  · subst hu; simp
  · have := Int.mul_neg_of_pos_of_neg hu hv; simp [hu, hv, show ¬ u < 0 by omega, this]
  · subst hv; simp
  · have := Int.mul_pos hu hv; simp [hu, hv, show ¬ u < 0 by omega, show ¬ v < 0 by omega]; omega
theorem cmpI_mul' (u v : Int) : cmpI u 0 * cmpI v 0 ≤ 0 ↔ u * v ≤ 0 := by
  unfold cmpI
  rcases Int.lt_trichotomy u 0 with hu | hu | hu <;> rcases Int.lt_trichotomy v 0 with hv | hv | hv
  · have := Int.mul_pos_of_neg_of_neg hu hv; simp [hu, hv]; omega
  · subst hv; simp
  · have := Int.mul_neg_of_neg_of_pos hu hv; simp [hu, hv, show ¬ v < 0 by omega]; omega
  · subst hu; simp
  · subst hu; simp
  · subst hu; simp
  · have := Int.mul_neg_of_pos_of_neg hu hv; simp [hu, hv, show ¬ u < 0 by omega]; omega
  · subst hv; simp
  · have := Int.mul_pos hu hv; simp [hu, hv, show ¬ u < 0 by omega, show ¬ v < 0 by omega]; omega
theorem sd_area (a b c : Pt) : sd a b c = cmpI (areaV a b c) 0 := by rw [area_tm]; rfl

def meetC (a b c d : Pt) : Int := if 0 < (K4 a b c d).length then min ((K4 a b c d).length : Int) 2 else if sd a b c * sd a b d < 0 ∧ sd c d a * sd c d b < 0 then 1 else 0

theorem meetC_cross {a b c d : Pt} (hT : tm a b c d ≠ 0) : meetC a b c d = if areaV a b c * areaV a b d ≤ 0 ∧ areaV c d a * areaV c d b ≤ 0 then 1 else 0 := by
  have oa := on_cross hT
  have ob := on_cross_b hT
  have oc := on_cross_c hT
  have od := on_cross_d hT
  have d1 := area_diff a b c d
  have d2 := area_diff' a b c d
  have one : ∀ p q, Com a b c d p → Com a b c d q → q = p := by
    have ab : onP c d a = true → onP c d b = true → False := fun h1 h2 => by have := oa.1 h1; have := ob.1 h2; omega
    have cd : onP a b c = true → onP a b d = true → False := fun h1 h2 => by have := oc.1 h1; have := od.1 h2; omega
    have ac : onP c d a = true → onP a b c = true → a = c := fun h1 h2 => cross_one hT (oa.1 h1).1 (oc.1 h2).1
    have ad : onP c d a = true → onP a b d = true → a = d := fun h1 h2 => cross_one (c := d) (d := c) (by rw [tm_swap2]; omega) (by rw [area_swap, (oa.1 h1).1]; rfl) (od.1 h2).1
    have bc : onP c d b = true → onP a b c = true → b = c := fun h1 h2 => cross_one (a := b) (b := a) (d := d) (by rw [tm_swap]; omega) (ob.1 h1).1 (by rw [area_swap, (oc.1 h2).1]; rfl)
    have bd : onP c d b = true → onP a b d = true → b = d := fun h1 h2 => cross_one (a := b) (b := a) (c := d) (d := c) (by rw [tm_swap, tm_swap2]; omega) (by rw [area_swap, (ob.1 h1).1]; rfl) (by rw [area_swap, (od.1 h2).1]; rfl)
    rintro p q (⟨h1, rfl⟩ | ⟨h1, rfl⟩ | ⟨h1, rfl⟩ | ⟨h1, rfl⟩) (⟨h2, rfl⟩ | ⟨h2, rfl⟩ | ⟨h2, rfl⟩ | ⟨h2, rfl⟩)
    · rfl
    · exact (ab h1 h2).elim
    · exact (ac h1 h2).symm
    · exact (ad h1 h2).symm
    · exact (ab h2 h1).elim
    · rfl
    · exact (bc h1 h2).symm
    · exact (bd h1 h2).symm
    · exact ac h2 h1
    · exact bc h2 h1
    · rfl
    · exact (cd h1 h2).elim
    · exact ad h2 h1
    · exact bd h2 h1
    · exact (cd h2 h1).elim
    · rfl
  unfold meetC
  simp only [sd_area, cmpI_mul]
  by_cases hc : ∃ p, Com a b c d p
  · obtain ⟨p, hp⟩ := hc
    rw [K4_one hp fun q hq => one p q hp hq]
    have : areaV a b c * areaV a b d ≤ 0 ∧ areaV c d a * areaV c d b ≤ 0 := by
      rcases hp with ⟨h, _⟩ | ⟨h, _⟩ | ⟨h, _⟩ | ⟨h, _⟩
      · have := oa.1 h; exact ⟨this.2, by rw [this.1]; simp⟩
      · have := ob.1 h; exact ⟨this.2, by rw [this.1]; simp⟩
      · have := oc.1 h; exact ⟨by rw [this.1]; simp, this.2⟩
      · have := od.1 h; exact ⟨by rw [this.1]; simp, this.2⟩
    rw [if_pos this]; rfl
  · have hn : ∀ p, ¬ Com a b c d p := fun p hp => hc ⟨p, hp⟩
    rw [K4_zero hn]
    simp only [Nat.lt_irrefl, if_false]
    by_cases h : areaV a b c * areaV a b d ≤ 0 ∧ areaV c d a * areaV c d b ≤ 0
    · rw [if_pos h, if_pos]
      have n1 : areaV a b c * areaV a b d ≠ 0 := fun h0 => by
        rcases Int.mul_eq_zero.1 h0 with h0 | h0
        · exact hn c (.inr (.inr (.inl ⟨oc.2 ⟨h0, h.2⟩, rfl⟩)))
        · exact hn d (.inr (.inr (.inr ⟨od.2 ⟨h0, h.2⟩, rfl⟩)))
      have n2 : areaV c d a * areaV c d b ≠ 0 := fun h0 => by
        rcases Int.mul_eq_zero.1 h0 with h0 | h0
        · exact hn a (.inl ⟨oa.2 ⟨h0, h.1⟩, rfl⟩)
        · exact hn b (.inr (.inl ⟨ob.2 ⟨h0, h.1⟩, rfl⟩))
      omega
    · rw [if_neg h, if_neg (by omega)]

section
variable {a b : Pt}
theorem line_x {p r : Pt} (hp : areaV a b p = 0) (hr : areaV a b r = 0) : alongV a b b * (p.1 - r.1) = (alongV a b p - alongV a b r) * (b.1 - a.1) := by unfold areaV at *; unfold alongV; grind
theorem line_y {p r : Pt} (hp : areaV a b p = 0) (hr : areaV a b r = 0) : alongV a b b * (p.2 - r.2) = (alongV a b p - alongV a b r) * (b.2 - a.2) := by unfold areaV at *; unfold alongV; grind
theorem along_pos (hab : a ≠ b) : 0 < alongV a b b := by
  unfold alongV
  have h1 := sq_nonneg (b.1 - a.1)
  have h2 := sq_nonneg (b.2 - a.2)
  by_cases hx : b.1 - a.1 = 0
  · have hy : b.2 - a.2 ≠ 0 := fun hy => hab (Prod.ext (by omega) (by omega))
    have := Int.mul_ne_zero hy hy
    omega
  · have := Int.mul_ne_zero hx hx
    omega
theorem along_a : alongV a b a = 0 := by unfold alongV; simp
theorem area_a : areaV a b a = 0 := by unfold areaV; grind
theorem area_b : areaV a b b = 0 := by unfold areaV; grind
theorem line_inj (hab : a ≠ b) {p r : Pt} (hp : areaV a b p = 0) (hr : areaV a b r = 0) (h : alongV a b p = alongV a b r) : p = r := by
  have hN := along_pos hab
  have h1 := line_x hp hr
  have h2 := line_y hp hr
  rw [h, Int.sub_self, Int.zero_mul] at h1 h2
  have e1 := (Int.mul_eq_zero.1 h1).resolve_left (by omega)
  have e2 := (Int.mul_eq_zero.1 h2).resolve_left (by omega)
  exact Prod.ext (by omega) (by omega)
theorem line_area (hab : a ≠ b) {p q r : Pt} (hp : areaV a b p = 0) (hq : areaV a b q = 0) (hr : areaV a b r = 0) : areaV p q r = 0 := by
  have h1 : (b.1 - a.1) * areaV p q r = 0 := by unfold areaV at *; grind
  have h2 : (b.2 - a.2) * areaV p q r = 0 := by unfold areaV at *; grind
  by_cases h : areaV p q r = 0
  · exact h
  · have e1 := (Int.mul_eq_zero.1 h1).resolve_right h
    have e2 := (Int.mul_eq_zero.1 h2).resolve_right h
    exact absurd (Prod.ext (by omega) (by omega)) hab
theorem sq_of' {N x y u v w : Int} (h1 : N * x = u * w) (h2 : N * y = v * w) : (x * y) * (N * N) = (u * v) * (w * w) := by grind
theorem on_line (hab : a ≠ b) {p q r : Pt} (hp : areaV a b p = 0) (hq : areaV a b q = 0) (hr : areaV a b r = 0) : onP p q r = true ↔ min (alongV a b p) (alongV a b q) ≤ alongV a b r ∧ alongV a b r ≤ max (alongV a b p) (alongV a b q) := by
  have hN := along_pos hab
  have e1 := sq_of' (line_x hp hr) (line_x hq hr)
  have e2 := sq_of' (line_y hp hr) (line_y hq hr)
  have e3 : (min (alongV a b p) (alongV a b q) ≤ alongV a b r ∧ alongV a b r ≤ max (alongV a b p) (alongV a b q)) ↔ (alongV a b p - alongV a b r) * (alongV a b q - alongV a b r) ≤ 0 := by
    rw [← mul_neg_iff]; omega
  rw [onP_iff, e3]
  constructor
  · rintro ⟨_, h1, h2⟩
    by_cases hx : b.1 - a.1 = 0
    · have hy : b.2 - a.2 ≠ 0 := fun hy => hab (Prod.ext (by omega) (by omega))
      exact mul_sq_nonpos hy (e2 ▸ nonpos_mul_sq h2)
    · exact mul_sq_nonpos hx (e1 ▸ nonpos_mul_sq h1)
  · intro h
    exact ⟨line_area hab hp hq hr, mul_sq_nonpos (by omega) (e1 ▸ nonpos_mul_sq h), mul_sq_nonpos (by omega) (e2 ▸ nonpos_mul_sq h)⟩
end

theorem meetC_line {a b c d : Pt} (hab : a ≠ b) (hcd : c ≠ d) (hc : areaV a b c = 0) (hd : areaV a b d = 0) :
    meetC a b c d = if min (alongV a b b) (max (alongV a b c) (alongV a b d)) < max (alongV a b a) (min (alongV a b c) (alongV a b d)) then 0
      else if max (alongV a b a) (min (alongV a b c) (alongV a b d)) = min (alongV a b b) (max (alongV a b c) (alongV a b d)) then 1 else 2 := by
  have hN := along_pos hab
  have h0 := along_a (a := a) (b := b)
  have oa := on_line hab hc hd area_a
  have ob := on_line hab hc hd area_b
  have oc := on_line hab area_a area_b hc
  have od := on_line hab area_a area_b hd
  have hne : alongV a b c ≠ alongV a b d := fun h => hcd (line_inj hab hc hd h)
  have on : ∀ p, Com a b c d p → areaV a b p = 0 ∧ max (alongV a b a) (min (alongV a b c) (alongV a b d)) ≤ alongV a b p ∧ alongV a b p ≤ min (alongV a b b) (max (alongV a b c) (alongV a b d)) := by
    rintro p (⟨h, rfl⟩ | ⟨h, rfl⟩ | ⟨h, rfl⟩ | ⟨h, rfl⟩)
    · have := oa.1 h; exact ⟨area_a, by omega⟩
    · have := ob.1 h; exact ⟨area_b, by omega⟩
    · have := oc.1 h; exact ⟨hc, by omega⟩
    · have := od.1 h; exact ⟨hd, by omega⟩
  have hz : ¬ (sd a b c * sd a b d < 0 ∧ sd c d a * sd c d b < 0) := by
    have : sd a b c = 0 := sd_zero.2 hc
    rw [this]; simp
  by_cases hlt : min (alongV a b b) (max (alongV a b c) (alongV a b d)) < max (alongV a b a) (min (alongV a b c) (alongV a b d))
  · unfold meetC
    rw [K4_zero fun p hp => by have := on p hp; omega, if_neg (by simp), if_neg hz, if_pos hlt]
  · rw [if_neg hlt]
    have lo : ∃ p, Com a b c d p ∧ alongV a b p = max (alongV a b a) (min (alongV a b c) (alongV a b d)) := by
      by_cases h1 : min (alongV a b c) (alongV a b d) ≤ alongV a b a
      · exact ⟨a, .inl ⟨oa.2 (by omega), rfl⟩, by omega⟩
      · by_cases h2 : alongV a b c ≤ alongV a b d
        · exact ⟨c, .inr (.inr (.inl ⟨oc.2 (by omega), rfl⟩)), by omega⟩
        · exact ⟨d, .inr (.inr (.inr ⟨od.2 (by omega), rfl⟩)), by omega⟩
    have hi : ∃ p, Com a b c d p ∧ alongV a b p = min (alongV a b b) (max (alongV a b c) (alongV a b d)) := by
      by_cases h1 : alongV a b b ≤ max (alongV a b c) (alongV a b d)
      · exact ⟨b, .inr (.inl ⟨ob.2 (by omega), rfl⟩), by omega⟩
      · by_cases h2 : alongV a b c ≤ alongV a b d
        · exact ⟨d, .inr (.inr (.inr ⟨od.2 (by omega), rfl⟩)), by omega⟩
        · exact ⟨c, .inr (.inr (.inl ⟨oc.2 (by omega), rfl⟩)), by omega⟩
    obtain ⟨p, hp, hp1⟩ := lo
    obtain ⟨q, hq, hq1⟩ := hi
    by_cases heq : max (alongV a b a) (min (alongV a b c) (alongV a b d)) = min (alongV a b b) (max (alongV a b c) (alongV a b d))
    · unfold meetC
      rw [if_pos heq, K4_one hp fun r hr => by
        have h1 := on r hr
        exact line_inj hab h1.1 (on p hp).1 (by omega)]
      rfl
    · have h2 := K4_two hp hq (fun e => by subst e; omega)
      unfold meetC
      rw [if_neg heq, if_pos (by omega)]
      omega

theorem onP_one {a c : Pt} : onP a a c = true ↔ c = a := by
  rw [onP_iff]
  constructor
  · rintro ⟨_, h1, h2⟩
    have e1 : a.1 - c.1 = 0 := by
      by_cases h : a.1 - c.1 = 0
      · exact h
      · have := Int.mul_ne_zero h h; have := sq_nonneg (a.1 - c.1); omega
    have e2 : a.2 - c.2 = 0 := by
      by_cases h : a.2 - c.2 = 0
      · exact h
      · have := Int.mul_ne_zero h h; have := sq_nonneg (a.2 - c.2); omega
    exact Prod.ext (by omega) (by omega)
  · rintro rfl
    exact ⟨by unfold areaV; grind, by simp, by simp⟩
theorem onP_end {a d : Pt} : onP a d a = true := by rw [onP_iff]; exact ⟨area_a, by simp, by simp⟩

theorem meetC_left {a c d : Pt} : meetC a a c d = if onP c d a = true then 1 else 0 := by
  have hz : sd a a c = 0 := sd_zero.2 (by unfold areaV; grind)
  have on : ∀ p, Com a a c d p → onP c d a = true ∧ p = a := by
    rintro p (⟨h, rfl⟩ | ⟨h, rfl⟩ | ⟨h, rfl⟩ | ⟨h, rfl⟩)
    · exact ⟨h, rfl⟩
    · exact ⟨h, rfl⟩
    · have := onP_one.1 h; subst this; exact ⟨onP_end, rfl⟩
    · have := onP_one.1 h; subst this; exact ⟨by rw [onP_swap]; exact onP_end, rfl⟩
  unfold meetC
  by_cases h : onP c d a = true
  · rw [K4_one (p := a) (.inl ⟨h, rfl⟩) fun q hq => (on q hq).2, if_pos h]; rfl
  · rw [K4_zero fun p hp => h (on p hp).1, if_neg h]
    simp [hz]

theorem meetC_pair (a b c d : Pt) : meetC c d a b = meetC a b c d := by
  have e : (K4 c d a b).Perm (K4 a b c d) := (List.perm_ext_iff_of_nodup (nodup_K4 _ _ _ _) (nodup_K4 _ _ _ _)).2 fun x => by
    rw [mem_K4, mem_K4]
    refine exists_congr fun p => and_congr_left fun _ => ?_
    unfold Com
    grind
  unfold meetC
  rw [e.length_eq]
  congr 1
  simp only [and_comm]
theorem meetC_swap (a b c d : Pt) : meetC b a c d = meetC a b c d := by
  have e : (K4 b a c d).Perm (K4 a b c d) := (List.perm_ext_iff_of_nodup (nodup_K4 _ _ _ _) (nodup_K4 _ _ _ _)).2 fun x => by
    rw [mem_K4, mem_K4]
    refine exists_congr fun p => and_congr_left fun _ => ?_
    unfold Com
    rw [onP_swap a b c, onP_swap a b d]
    grind
  unfold meetC
  rw [e.length_eq]
  simp only [sd_area, cmpI_mul, area_swap a b, Int.neg_mul_neg, Int.mul_comm (areaV c d b)]
theorem meetC_right {a b c : Pt} : meetC a b c c = if onP a b c = true then 1 else 0 := by rw [← meetC_pair, meetC_left]

theorem meetV_C (a b c d : Pt) : meetV a b c d = if InB a ∧ InB b ∧ InB c ∧ InB d then meetC a b c d else 0 := rfl

theorem meet_eq (a b c d : Pt) : refMeetV a b c d = meetV a b c d := by
  rw [meetV_C]
  unfold refMeetV
  split
  · rename_i hin
    have hon : ∀ x y z : Pt, InB x → InB y → InB z → refOnV x y z = onP x y z := fun x y z h1 h2 h3 => by rw [on_eq, OnV, decide_eq_true ⟨h1, h2, h3⟩, Bool.true_and]
    rw [hon c d a hin.2.2.1 hin.2.2.2 hin.1, hon a b c hin.1 hin.2.1 hin.2.2.1]
    split
    · rename_i hab; subst hab; rw [meetC_left]
    · rename_i hab
      split
      · rename_i hcd; subst hcd; rw [meetC_right]
      · rename_i hcd
        simp only [cmpI_zero, cmpI_mul']
        by_cases hT : tm a b c d = 0
        · have d1 := area_diff a b c d
          split
          · rename_i hz; rw [meetC_line hab hcd hz.1 hz.2]
          · rename_i hz
            -- one beside the other
            have hne : areaV a b c ≠ 0 := by omega
            have hcd' : ∀ p, onP c d p = true → p = a ∨ p = b → False := fun p hp h => by
              have h1 := (onP_iff.1 hp).1
              have d2 := area_diff' a b c d
              have h2 : areaV c d a = 0 ∧ areaV c d b = 0 := by rcases h with rfl | rfl <;> omega
              exact hne (line_area hcd h2.1 h2.2 area_a)
            have hn : ∀ p, ¬ Com a b c d p := by
              rintro p (⟨h, rfl⟩ | ⟨h, rfl⟩ | ⟨h, rfl⟩ | ⟨h, rfl⟩)
              · exact hcd' _ h (.inl rfl)
              · exact hcd' _ h (.inr rfl)
              · exact hne (onP_iff.1 h).1
              · have := (onP_iff.1 h).1; omega
            have hq : areaV a b d = areaV a b c := by omega
            have hp := sq_nonneg (areaV a b c)
            have hp' := Int.mul_ne_zero hne hne
            unfold meetC
            rw [K4_zero hn]
            simp only [sd_area, cmpI_mul, Nat.lt_irrefl, if_false]
            rw [if_neg (fun h => by have h := h.1; rw [hq] at h; omega), if_neg (fun h => by have h := h.1; rw [hq] at h; omega)]
        · rw [meetC_cross hT, if_neg]
          have d1 := area_diff a b c d
          omega
  · rfl
end Go.Ab
end
