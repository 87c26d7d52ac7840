/- A part of the proof. -/
import Derived.Test.YtilamojcledkaaaL5P14
set_option linter.unusedSimpArgs false
set_option linter.unusedVariables false
section
namespace Go.Ab
open Go.Proofs
set_option maxRecDepth 10000

variable {g : Gr} {p : Pl}
theorem last_ne (hr : RunsP g p) : lastR g p ≠ [] := by
  have hm := good_may hr.1
  have hn := mayB_n hm
  obtain ⟨k, hk⟩ : ∃ k, g.n.toNat = k + 1 := ⟨g.n.toNat - 1, by omega⟩
  obtain ⟨hi, _, _⟩ := run_inv hm hr.2.1 (k := k) (by omega) fun j hj => hr.2.2 j (by omega)
  obtain ⟨A, X, C, hrw, _, _, _, hs⟩ := succ_cases hm hi.toFrInv (hr.2.2 k (by omega))
  unfold lastR
  rw [hk]
  show (succF _ _ _ _).2.row ≠ []
  rw [hs]
  have := (aboveF_len (g := g) (x := oAt p k) (outs := lAt p (oAt p k))).1
  intro e
  have h2 := congrArg List.length e
  simp at h2
  rw [h2.2.1] at this
  simp at this
/-- The vertex that is placed last is a sink, and its loose end is in the last row. -/
theorem last_sink (hr : RunsP g p) : lAt p (oAt p (g.n.toNat - 1)) = [] ∧ oAt p (g.n.toNat - 1) ∈ loose (lastR g p) := by
  have hm := good_may hr.1
  have hn := mayB_n hm
  obtain ⟨k, hk⟩ : ∃ k, g.n.toNat = k + 1 := ⟨g.n.toNat - 1, by omega⟩
  obtain ⟨hi, _, _⟩ := run_inv hm hr.2.1 (k := k) (by omega) fun j hj => hr.2.2 j (by omega)
  obtain ⟨A, X, C, hrw, _, _, _, hs⟩ := succ_cases hm hi.toFrInv (hr.2.2 k (by omega))
  have hL : lastR g p = A ++ aboveF g (oAt p k) (lAt p (oAt p k)) ++ C := by
    unfold lastR; rw [hk]
    show (succF _ _ _ _).2.row = _
    rw [hs]
  have hk1 : g.n.toNat - 1 = k := by omega
  rw [hk1]
  have hll := last_loose hr
  have hx := oAt_mem hr.2.1 (k := k) (by omega)
  have h0 : lAt p (oAt p k) = [] := by
    refine Decidable.byContradiction fun h0 => ?_
    have ha : aboveF g (oAt p k) (lAt p (oAt p k)) = (lAt p (oAt p k)).map (itemF g (oAt p k)) := if_neg h0
    obtain ⟨i, hi'⟩ := List.exists_mem_of_ne_nil _ h0
    have h1 := hll (itemF g (oAt p k) i) (by rw [hL, ha]; simp; exact .inr (.inl ⟨i, hi', rfl⟩))
    obtain ⟨e, rfl, _⟩ := outZ_mem ((lAt_perm hr.2.1 hx.1 hx.2).mem_iff.1 hi')
    simp [itemF] at h1
    omega
  refine ⟨h0, ?_⟩
  have ha : aboveF g (oAt p k) (lAt p (oAt p k)) = [(-1, oAt p k, -1)] := if_pos h0
  rw [hL, ha, loose_app, loose_app]
  simp [loose]
/-- With one end the last row's sink is the vertex that is placed last. -/
theorem last_one (hr : RunsP g p) (hl : ¬ 1 < (lastR g p).length) {v : Int} (hv : v ∈ loose (lastR g p)) : v = oAt p (g.n.toNat - 1) := by
  have h1 := (last_sink hr).2
  have h2 : (loose (lastR g p)).length ≤ 1 := Nat.le_trans loose_len (by omega)
  match hL : loose (lastR g p), h2 with
  | [], _ => rw [hL] at hv; cases hv
  | [w], _ =>
    rw [hL, List.mem_singleton] at hv h1
    rw [hv, h1]
/-- The edges of the augment go from what is placed to what isn't yet. -/
theorem fin_step (h : AugOk g p) (hl : 1 < (lastR g p).length) : okK (augG g p) (augP g p) g.n.toNat = true ∧ (fK (augG g p) (augP g p) (g.n.toNat + 1)).row = [(-1, g.n, -1)] := by
  have hr := h.run
  have hm := good_may hr.1
  have hn := mayB_n hm
  have hmG := aug_may h
  have hQ := aug_plan hr
  obtain ⟨hN1, hN2⟩ := newA_ok hr
  obtain ⟨oks, hrow⟩ := sim h (k := g.n.toNat) (Nat.le_refl _)
  have hG : (augG g p).n = g.n + 1 := if_pos hl
  obtain ⟨hiG, hplG, _⟩ := run_inv hmG hQ (k := g.n.toNat) (by omega) oks
  have hx := oAt_new hr hl
  have hnot : g.n ∉ (fK (augG g p) (augP g p) g.n.toNat).pl := by
    rw [hplG]
    have := not_take (plan_nodup hQ) (k := g.n.toNat) (by rw [plan_len hQ]; omega)
    rw [show (augP g p).ord.getD g.n.toNat 0 = g.n from hx] at this
    exact this
  have hll := last_loose hr
  have hrow : (fK (augG g p) (augP g p) g.n.toNat).row = (lastR g p).map (phi g.es.length (newA g p)) := hrow
  have hmem : ∀ v ∈ loose (lastR g p), (v, g.n) ∈ newA g p := fun v hv => by
    refine List.mem_append_right _ ?_
    unfold newL
    rw [if_pos hl]
    exact List.mem_map.2 ⟨v, hv, rfl⟩
  have hXx : ∀ t ∈ lastR g p, (phi g.es.length (newA g p) t).2.2 = g.n := fun t ht => by
    obtain ⟨j, _, h2, _⟩ := nxt_mem (m := g.es.length) hN1 (hmem _ (loose_mem ht (hll t ht)))
    rw [phi_loose (hll t ht) h2]
  have hX' : Mid g.n ((lastR g p).map (phi g.es.length (newA g p))) := by
    have hne := last_ne hr
    refine ⟨?_, ?_, fun t' ht' => ?_⟩
    · match hL : lastR g p, hne with
      | t :: l, _ => exact ⟨_, _, rfl, hXx t (by rw [hL]; simp)⟩
    · have e := List.dropLast_concat_getLast hne
      refine ⟨(lastR g p).dropLast.map (phi g.es.length (newA g p)), phi g.es.length (newA g p) ((lastR g p).getLast hne), ?_, hXx _ (List.getLast_mem hne)⟩
      conv => lhs; rw [← e]
      simp
    · obtain ⟨t, ht, rfl⟩ := List.mem_map.1 ht'
      exact .inl (hXx t ht)
  have hno : needN g g.n = 0 := by
    have : ¬ 0 < needN g g.n := fun h0 => by
      obtain ⟨i, hi⟩ := List.exists_mem_of_length_pos h0
      obtain ⟨⟨h1, h2⟩, h3⟩ := endsZ_mem hi
      have := (mayB_e hm (k := i.toNat) (by omega)).2
      have h3 : (g.es.getD i.toNat (0, 0)).2 = g.n := h3
      omega
    omega
  have hcnt : ((lastR g p).map (phi g.es.length (newA g p))).countP (isH g.n) = needN (augG g p) g.n := by
    have h1 : ((lastR g p).map (phi g.es.length (newA g p))).countP (isH g.n) = ((lastR g p).map (phi g.es.length (newA g p))).length := List.countP_eq_length.2 fun t' ht' => by
      obtain ⟨t, ht, rfl⟩ := List.mem_map.1 ht'
      simp [isH, hXx t ht]
    have h2 : (newK g p g.n.toNat).filter (fun e => decide (e.2 = g.n)) = [] := List.filter_eq_nil_iff.2 fun e he => by
      obtain ⟨i, hi, hx2, _⟩ := newK_mem (v := e.1) (x := e.2) he
      have := oAt_mem hr.2.1 hi
      simp only [decide_eq_true_eq]; omega
    have h3 : (newL g p).filter (fun e => decide (e.2 = g.n)) = newL g p := List.filter_eq_self.2 fun e he => by
      unfold newL at he
      rw [if_pos hl] at he
      obtain ⟨v, _, rfl⟩ := List.mem_map.1 he
      simp
    have h4 : (loose (lastR g p)).length = (lastR g p).length := by
      unfold loose
      rw [List.length_map, List.filter_eq_self.2]
      intro t ht
      exact decide_eq_true (hll t ht)
    rw [h1, List.length_map, need_aug, hno, newA, List.filter_append, h2, h3]
    unfold newL
    rw [if_pos hl]
    simp [h4]
  have hrG : (fK (augG g p) (augP g p) g.n.toNat).row = [] ++ (lastR g p).map (phi g.es.length (newA g p)) ++ [] := by rw [hrow]; simp
  have nil : NoH g.n ([] : List It) := fun t ht => by cases ht
  refine ⟨?_, ?_⟩
  · unfold okK
    rw [hx]
    exact ready_join hmG hiG.toFrInv (by omega) (by omega) hnot hrG nil nil hX' hcnt
  · show (succF _ _ _ _).2.row = _
    rw [hx, succ_of _ hrG nil nil hX', (lAt_new hr hl).1]
    rfl
theorem aug_oks (h : AugOk g p) : ∀ k, k < (augG g p).n.toNat → okK (augG g p) (augP g p) k = true := by
  have hn := mayB_n (good_may h.run.1)
  intro k hk
  by_cases hkn : k < g.n.toNat
  · exact (sim h (k := g.n.toNat) (Nat.le_refl _)).1 k hkn
  · by_cases hl : 1 < (lastR g p).length
    · have hG : (augG g p).n = g.n + 1 := if_pos hl
      obtain rfl : k = g.n.toNat := by omega
      exact (fin_step h hl).1
    · have hG : (augG g p).n = g.n := if_neg hl
      omega
/-- Which items of the augment's rows are loose. -/
theorem aug_rows (h : AugOk g p) {k : Nat} (hk : k < (augG g p).n.toNat) : (∀ t ∈ (fK (augG g p) (augP g p) (k + 1)).row, (t.1 < 0 ↔ k + 1 = (augG g p).n.toNat)) ∧ (k + 1 = (augG g p).n.toNat → (fK (augG g p) (augP g p) (k + 1)).row.length = 1) := by
  have hr := h.run
  have hm := good_may hr.1
  have hn := mayB_n hm
  obtain ⟨hN1, hN2⟩ := newA_ok hr
  by_cases hkn : k < g.n.toNat
  rotate_left
  · have hl : 1 < (lastR g p).length := Decidable.byContradiction fun hl => by
      have hG : (augG g p).n = g.n := if_neg hl
      omega
    have hG : (augG g p).n = g.n + 1 := if_pos hl
    obtain rfl : k = g.n.toNat := by omega
    rw [(fin_step h hl).2]
    refine ⟨fun t ht => ?_, fun _ => rfl⟩
    rw [List.mem_singleton] at ht
    subst ht
    simp only
    omega
  have hrow := (sim h (k := k + 1) (by omega)).2
  obtain ⟨hl1, hl2⟩ := loose_inv hm hr.2.1 (k := g.n.toNat) (Nat.le_refl _) hr.2.2
  obtain ⟨_, hl3⟩ := loose_inv hm hr.2.1 (k := k + 1) (by omega) fun j hj => hr.2.2 j (by omega)
  obtain ⟨_, hpl, _⟩ := run_inv hm hr.2.1 (k := k + 1) (by omega) fun j hj => hr.2.2 j (by omega)
  have hlr : fK g p g.n.toNat = ⟨lastR g p, (fK g p g.n.toNat).pl⟩ := rfl
  have key : ∀ s ∈ (fK g p (k + 1)).row, s.1 < 0 → (∃ y, (s.2.1, y) ∈ newA g p) ∨ (¬ 1 < (lastR g p).length ∧ s.2.1 ∈ loose (lastR g p)) := fun s hs h0 => by
    rcases persist hr (K := g.n.toNat) (by omega) (Nat.le_refl _) (loose_mem hs h0) with ⟨i, h1, h2⟩ | h2
    · exact .inl ⟨_, List.mem_append_left _ (mem_newK h1 h2)⟩
    · by_cases hl : 1 < (lastR g p).length
      · refine .inl ⟨g.n, List.mem_append_right _ ?_⟩
        unfold newL
        rw [if_pos hl]
        exact List.mem_map.2 ⟨_, h2, rfl⟩
      · exact .inr ⟨hl, h2⟩
  rw [hrow]
  constructor
  · intro t ht
    obtain ⟨s, hs, rfl⟩ := List.mem_map.1 ht
    by_cases h0 : 0 ≤ s.1
    · rw [phi_edge h0]
      refine ⟨fun h => by omega, fun hk1 => ?_⟩
      by_cases hl : 1 < (lastR g p).length
      · have hG : (augG g p).n = g.n + 1 := if_pos hl
        omega
      · have hG : (augG g p).n = g.n := if_neg hl
        have : k + 1 = g.n.toNat := by omega
        rw [this] at hs
        exact last_loose hr s hs
    · rcases key s hs (by omega) with ⟨y, hy⟩ | ⟨hl, hv⟩
      · obtain ⟨j, _, h2, _⟩ := nxt_mem (m := g.es.length) hN1 hy
        rw [phi_loose (by omega) h2]
        refine ⟨fun h => by simp only at h; omega, fun hk1 => ?_⟩
        exfalso
        by_cases hl : 1 < (lastR g p).length
        · have hG : (augG g p).n = g.n + 1 := if_pos hl
          omega
        · have hG : (augG g p).n = g.n := if_neg hl
          have hkk : k + 1 = g.n.toNat := by omega
          rw [hkk] at hs
          rcases newA_mem hy with ⟨i, h3, _, h4⟩ | ⟨h3, _⟩
          · exact (List.nodup_append.1 hl1).2.2 s.2.1 (List.mem_map.2 ⟨_, mem_newK h3 h4, rfl⟩) s.2.1 (loose_mem hs (by omega)) rfl
          · exact hl h3
      · have hG : (augG g p).n = g.n := if_neg hl
        have hno : ∀ e ∈ newA g p, e.1 ≠ s.2.1 := fun e he h2 => by
          rcases newA_mem (v := e.1) (x := e.2) he with ⟨i, h3, _, h4⟩ | ⟨h3, _⟩
          · exact (List.nodup_append.1 hl1).2.2 e.1 (List.mem_map.2 ⟨_, mem_newK h3 h4, rfl⟩) s.2.1 hv h2
          · exact hl h3
        rw [phi_none (nxt_none hno)]
        refine ⟨fun _ => ?_, fun _ => by omega⟩
        have hw := last_one hr hl hv
        have hin := (hl3 s.2.1 (List.mem_append_right _ (loose_mem hs (by omega)))).1
        rw [hpl] at hin
        obtain ⟨j, hj, e⟩ := take_at (by rw [plan_len hr.2.1]; omega) hin
        have := oAt_inj hr.2.1 (by omega) (by omega) (e.trans hw)
        omega
  · intro hk1
    by_cases hl : 1 < (lastR g p).length
    · have hG : (augG g p).n = g.n + 1 := if_pos hl
      omega
    · have hG : (augG g p).n = g.n := if_neg hl
      have hkk : k + 1 = g.n.toNat := by omega
      rw [hkk, List.length_map]
      have h1 := List.length_pos_iff.2 (last_ne hr)
      show (lastR g p).length = 1
      omega
theorem bare_memF {f : Edge → Int} {g : Gr} {y : Int} : y ∈ bareG f g ↔ (0 ≤ y ∧ y < g.n) ∧ endsZ f g.es g.es.length y = [] := by
  simp only [bareG, bareK, List.mem_map, List.mem_filter, List.mem_range, decide_eq_true_eq]
  have he : ∀ x : Nat, x < g.n.toNat → (((endsL f g).getD x []).length = 0 ↔ endsZ f g.es g.es.length (x : Int) = []) := by
    intro x hx
    have e : (endsL f g).getD x [] = endsZ f g.es g.es.length (x : Int) := by
      simp [endsL, List.getD_eq_getElem?_getD, List.getElem?_range hx, endsK_eq]
    rw [e, List.length_eq_zero_iff]
  constructor
  · rintro ⟨x, ⟨hx, h0⟩, rfl⟩
    exact ⟨by simp; omega, (he x hx).1 h0⟩
  · rintro ⟨⟨h1, h2⟩, h3⟩
    have e : ((y.toNat : Nat) : Int) = y := by omega
    exact ⟨y.toNat, ⟨by omega, (he _ (by omega)).2 (by rw [e]; exact h3)⟩, e⟩
theorem one_of {l : List Int} (hd : l.Nodup) {s : Int} (h : ∀ y ∈ l, y = s) : l.length ≤ 1 := by
  match l, hd, h with
  | [], _, _ => simp
  | [_], _, _ => simp
  | a :: b :: l, hd, h =>
    rw [List.nodup_cons] at hd
    exact absurd (by rw [h a (by simp), h b (by simp)]; simp) hd.1
theorem aug_good (h : AugOk g p) : (chkG (augG g p)).1 = 0 := by
  have hr := h.run
  have hm := good_may hr.1
  have hn := mayB_n hm
  have hmG := aug_may h
  have hQ := aug_plan hr
  have hoks := aug_oks h
  have hna := aug_n_le (g := g) (p := p)
  obtain ⟨hN1, hN2⟩ := newA_ok hr
  have hfw : ∀ i, i < (augG g p).es.length → ∃ j k, j < k ∧ k < (augG g p).n.toNat ∧ tl (augG g p) i = oAt (augP g p) j ∧ hd (augG g p) i = oAt (augP g p) k := fun i hi => by
    have hh := (mayB_e hmG hi).2
    obtain ⟨k, hk, e⟩ := oAt_all hQ hh.1 hh.2
    obtain ⟨hiG, hplG, _⟩ := run_inv hmG hQ (k := k) (by omega) fun j hj => hoks j (by omega)
    obtain ⟨t, ht, e1, e2, _⟩ := all_in hmG hiG (hoks k hk) hi e.symm
    have hin := hiG.tail t ht (by omega)
    rw [hplG] at hin
    obtain ⟨j, hj, e3⟩ := take_at (by rw [plan_len hQ]; omega) hin
    exact ⟨j, k, hj, hk, by rw [← e2, e3], e.symm⟩
  have hacyc : okG (augG g p) = true := (okG_iff hmG).2 ⟨fun v => (findI (fun y => decide (y = v)) (augP g p).ord).toNat, fun i hi => by
    obtain ⟨j, k, hjk, hk, e1, e2⟩ := hfw i hi
    have hat : ∀ q, q < (augG g p).n.toNat → findI (fun y => decide (y = oAt (augP g p) q)) (augP g p).ord = q := fun q hq =>
      findI_at (d := 0) (by rw [plan_len hQ]; exact hq) (fun i' hi' => decide_eq_false fun e => by
        have := oAt_inj hQ (by omega) hq e
        omega) (decide_eq_true rfl)
    simp only
    rw [e1, e2, hat j (by omega), hat k hk]
    omega⟩
  have hloop : ¬ 0 ≤ loopI (augG g p) := fun hl => by
    have h1 := findI_any (fun e : Edge => decide (e.1 = e.2)) (augG g p).es
    have h0 : decide (0 ≤ findI (fun e : Edge => decide (e.1 = e.2)) (augG g p).es) = true := decide_eq_true hl
    rw [h0] at h1
    obtain ⟨e, he, h2⟩ := List.any_eq_true.1 h1.symm
    obtain ⟨i, hi, rfl⟩ := List.mem_iff_getElem.1 he
    obtain ⟨j, k, hjk, hk, e1, e2⟩ := hfw i hi
    have h3 : tl (augG g p) i = hd (augG g p) i := by simpa [tl, hd, List.getD_eq_getElem?_getD, List.getElem?_eq_getElem hi] using h2
    have := oAt_inj hQ (by omega) hk (e1.symm.trans (h3.trans e2))
    omega
  have htw : ¬ 0 ≤ twiceI (augG g p) := fun ht => by
    obtain ⟨i, k, hi, hk, hik, e⟩ := (twice_iff _).1 ht
    have hgt : ¬ 0 ≤ twiceI g := by
      have := hr.1
      unfold chkG chkOf at this
      intro h2
      split at this
      · cases this
      split at this
      · cases this
      cases this
    have hel : (augG g p).es.length = g.es.length + (newA g p).length := List.length_append
    have mixed : ∀ a b, a < g.es.length → b < (newA g p).length → g.es.getD a (0, 0) ≠ (newA g p).getD b (0, 0) := fun a b ha hb e => by
      obtain ⟨q0, q1⟩ := hN2 _ (getD_memX (d := (0, 0)) hb)
      have hz := (outZ_nil hr.2.1 q0.1 q0.2).2 q1
      have : (a : Int) ∈ outZ g ((newA g p).getD b (0, 0)).1 := outZ_iff.2 ⟨⟨by omega, by omega⟩, by rw [Int.toNat_natCast, e]⟩
      rw [hz] at this
      cases this
    by_cases h1 : i < g.es.length
    · by_cases h2 : k < g.es.length
      · rw [aug_es i h1, aug_es k h2] at e
        exact hgt ((twice_iff g).2 ⟨i, k, h1, h2, hik, e⟩)
      · obtain ⟨b, rfl⟩ : ∃ b, k = g.es.length + b := ⟨k - g.es.length, by omega⟩
        rw [aug_es i h1, aug_es2] at e
        exact mixed i b h1 (by omega) e
    · obtain ⟨a, rfl⟩ : ∃ a, i = g.es.length + a := ⟨i - g.es.length, by omega⟩
      by_cases h2 : k < g.es.length
      · rw [aug_es k h2, aug_es2] at e
        exact mixed k a h2 (by omega) e.symm
      · obtain ⟨b, rfl⟩ : ∃ b, k = g.es.length + b := ⟨k - g.es.length, by omega⟩
        rw [aug_es2, aug_es2] at e
        have e1 : ∀ q, q < (newA g p).length → ((newA g p).map (·.1)).getD q 0 = ((newA g p).getD q (0, 0)).1 := fun q hq => by
          simp [List.getD_eq_getElem?_getD, List.getElem?_eq_getElem hq]
        have := nodup_getD hN1 (i := a) (j := b) (by simp; omega) (by simp; omega) (by rw [e1 a (by omega), e1 b (by omega), e])
        omega
  have hbare : ¬ 1 < (bareG (·.2) (augG g p)).length := fun hb => by
    obtain ⟨s, hs⟩ : ∃ s, ∀ y ∈ bareG (·.2) (augG g p), y = s := by
      refine ⟨oAt p 0, fun y hy => ?_⟩
      obtain ⟨⟨y0, y1⟩, y2⟩ := bare_mem9.1 hy
      rw [need_aug] at y2
      have yn : y < g.n := by
        refine Decidable.byContradiction fun hyn => ?_
        have hl : 1 < (lastR g p).length := Decidable.byContradiction fun hl => by
          have hG : (augG g p).n = g.n := if_neg hl
          omega
        have e : y = g.n := by have hG : (augG g p).n = g.n + 1 := if_pos hl; omega
        have hm1 := (last_sink hr).2
        have : (oAt p (g.n.toNat - 1), y) ∈ (newA g p).filter fun e => decide (e.2 = y) := List.mem_filter.2 ⟨List.mem_append_right _ (by
          unfold newL
          rw [if_pos hl]
          exact List.mem_map.2 ⟨_, hm1, by rw [e]⟩), by simp⟩
        have := List.length_pos_of_mem this
        omega
      have h0 := oAt_mem hr.2.1 (k := 0) (by omega)
      refine one_src hr.1 ⟨y0, yn⟩ h0 (by omega) ?_
      refine Decidable.byContradiction fun hnz => ?_
      obtain ⟨A, X, C, hrw, _, _, hX, _⟩ := ready_split hm (frI_new g).toFrInv (hr.2.2 0 (by omega)) hnz
      obtain ⟨q, X0, e1, _⟩ := hX.fst
      rw [e1] at hrw
      simp at hrw
    have := one_of bare_nodup hs
    omega
  unfold chkG chkOf
  rw [if_neg (by simp [hmG]), if_neg hloop, if_neg htw, if_neg (by rw [cycG_ok hmG hacyc]; simp), if_neg hbare]
/-- The augment is an st-graph, and its plan runs. -/
theorem aug_runs (h : AugOk g p) : RunsP (augG g p) (augP g p) := ⟨aug_good h, aug_plan h.run, aug_oks h⟩
theorem aug_is (h : AugOk g p) : isB (augG g p) = true := by
  have hr := h.run
  have hm := good_may hr.1
  have hn := mayB_n hm
  have hna := aug_n_le (g := g) (p := p)
  obtain ⟨hN1, hN2⟩ := newA_ok hr
  unfold isB
  rw [decide_eq_true (aug_good h), Bool.true_and, decide_eq_true_eq]
  obtain ⟨hl1, hl2⟩ := loose_inv hm hr.2.1 (k := g.n.toNat) (Nat.le_refl _) hr.2.2
  -- a vertex of the graph from which nothing goes: its loose end is the last one
  have key : ∀ y, 0 ≤ y ∧ y < g.n → outZ (augG g p) y = [] → ¬ 1 < (lastR g p).length ∧ y ∈ loose (lastR g p) := fun y hy hz => by
    have hs : lAt p y = [] := by
      refine Decidable.byContradiction fun hs => ?_
      rw [outZ_other hr hy hs] at hz
      exact hs ((outZ_nil hr.2.1 hy.1 hy.2).1 hz)
    obtain ⟨s1, _⟩ := outZ_sink hr hy hs
    have hno : ∀ x, (y, x) ∉ newA g p := fun x hx => by
      obtain ⟨j, _, h2, _⟩ := s1 x hx
      rw [hz] at h2; cases h2
    obtain ⟨k, hk, e⟩ := oAt_all hr.2.1 hy.1 hy.2
    obtain ⟨hi, _, _⟩ := run_inv hm hr.2.1 (k := k) (by omega) fun j hj => hr.2.2 j (by omega)
    obtain ⟨A, X, C, hrw, _, _, _, hs'⟩ := succ_cases hm hi.toFrInv (hr.2.2 k hk)
    have hin : y ∈ loose (fK g p (k + 1)).row := by
      have hrow : (fK g p (k + 1)).row = A ++ aboveF g (oAt p k) (lAt p (oAt p k)) ++ C := by show (succF _ _ _ _).2.row = _; rw [hs']
      rw [hrow, e, hs, loose_app, loose_app]
      simp [aboveF, loose]
    rcases persist hr (K := g.n.toNat) (by omega) (Nat.le_refl _) hin with ⟨i, h1, h2⟩ | h2
    · exact absurd (List.mem_append_left _ (mem_newK h1 h2)) (hno _)
    · refine ⟨fun hl => hno g.n (List.mem_append_right _ ?_), h2⟩
      unfold newL
      rw [if_pos hl]
      exact List.mem_map.2 ⟨_, h2, rfl⟩
  have le1 : (bareG (·.1) (augG g p)).length ≤ 1 := by
    by_cases hl : 1 < (lastR g p).length
    · refine one_of (s := g.n) bare_nodup fun y hy => ?_
      obtain ⟨hy1, hy2⟩ := bare_memF.1 hy
      refine Decidable.byContradiction fun hne => ?_
      have hG : (augG g p).n = g.n + 1 := if_pos hl
      exact (key y ⟨hy1.1, by omega⟩ hy2).1 hl
    · refine one_of (s := oAt p (g.n.toNat - 1)) bare_nodup fun y hy => ?_
      obtain ⟨hy1, hy2⟩ := bare_memF.1 hy
      have hG : (augG g p).n = g.n := if_neg hl
      exact last_one hr hl (key y ⟨hy1.1, by omega⟩ hy2).2
  have ge1 : 0 < (bareG (·.1) (augG g p)).length := by
    by_cases hl : 1 < (lastR g p).length
    · have hG : (augG g p).n = g.n + 1 := if_pos hl
      exact List.length_pos_of_mem (bare_memF.2 ⟨⟨by omega, by omega⟩, (lAt_new hr hl).2⟩ : g.n ∈ bareG (·.1) (augG g p))
    · have hw := oAt_mem hr.2.1 (k := g.n.toNat - 1) (by omega)
      obtain ⟨h1, h2⟩ := last_sink hr
      refine List.length_pos_of_mem (bare_memF.2 ⟨⟨hw.1, by omega⟩, (outZ_sink hr hw h1).2 fun e he h3 => ?_⟩ : oAt p (g.n.toNat - 1) ∈ bareG (·.1) (augG g p))
      rcases newA_mem (v := e.1) (x := e.2) he with ⟨i, h4, _, h5⟩ | ⟨h4, _⟩
      · exact (List.nodup_append.1 hl1).2.2 e.1 (List.mem_map.2 ⟨_, mem_newK h4 h5, rfl⟩) _ h2 h3
      · exact hl h4
  omega
end Go.Ab
end
section
namespace Go.Ab
open Go.Proofs
attribute [local congr] ACall.congr
set_option maxRecDepth 10000
set_option maxHeartbeats 8000000

theorem augR_ok {b : Bool} {g : Gr} {p : Pl} (hr : b = true ↔ (chkG g).1 = 0 ∧ PlanOk g p) (h : (augR b g p).2.2 = 0) : AugOk g p ∧ augR b g p = (augG g p, augP g p, 0) := by
  unfold augR at h ⊢
  split at h
  · cases h
  rename_i h0
  split at h
  · cases h
  rename_i h1
  rw [if_neg h0, if_neg h1]
  exact ⟨⟨(runRes_ok hr (by simpa using h0)).1, by omega, by omega⟩, rfl⟩
theorem exB (g : Gr) (p : Pl) : ∃ b : Bool, (b = true ↔ (chkG g).1 = 0 ∧ PlanOk g p) := by
  by_cases h : (chkG g).1 = 0 ∧ PlanOk g p
  · exact ⟨true, by simp [h]⟩
  · exact ⟨false, by simp [h]⟩
end Go.Ab
end
section
namespace Go.Ab
open Go.Proofs
attribute [local congr] ACall.congr
set_option maxRecDepth 10000
set_option maxHeartbeats 16000000

theorem runs_spec (g : Gr) (hl : g.es.length ≤ 9223372036854775807) (p : Pl) (hp : PlLen p) (b : Bool) (hr : b = true ↔ (chkG g).1 = 0 ∧ PlanOk g p) : Spec Try.prog 23 (Args [eG g, ePl p]) [] (eB (decide ((runRes b g p).2.1 = 0))) [] := by
  have hO := refRun_spec g hl p hp b hr
  generalize runRes b g p = R at hO
  (refine Spec.intro (C := T.cfg [] []) (rs := [.t 4]) (T.cfg_ok _ _) Try.func23 rfl rfl Try.ntmps23 Try.results23 (by simp [AObj.isNest]) (by simp [AObj.isNest]) (by kernel_rfl) ?_; intro X hX hP hC hXn hXm vals hA; refine ⟨_, by simp, hA, ?_⟩; have hmix : X.P.follows .mixedOrders = true := (by rw [hP]; exact T.mixed); clear hXn hXm)
  repeat' (first | fail | ((first | ((with_reducible (first | apply oA | apply oB)); exact rfl; intro K hK) | (refine hK _ ?_; clear hK K) | ((with_reducible (first | apply oG | apply oH)); iterate 3 exact rfl) | ((with_reducible apply oI); (iterate 2 exact rfl); intro K hK) | (with_reducible (first | apply wI | apply wJ | apply wK))); try simp only [go_sem, simprocAttr]) | fail | (with_reducible (first | apply oC | apply oJ | exact oK | apply wA | apply wB | apply wC hX hC | apply wD hX hC | apply wE hX hC hmix | apply wF hX hC hmix | apply wG | apply wH | apply And.intro)) | ((with_reducible refine oD ?_ ?_); first | fail | kernel_rfl) | ((with_reducible (first | apply oE | apply oF)); (iterate 3 exact rfl); all_goals (intro h; first | (exact absurd h (by decide)) | ((try simp only [go_sem, simprocAttr] at h); (try with_reducible intro K hK); simp only [go_sem, simprocAttr]))) | ((first | ((with_reducible apply wL); exact rfl) | ((with_reducible apply wM); exact rfl)); all_goals (try ((with_reducible intro h); first | (exact absurd h (by decide)) | (try simp only [go_sem, simprocAttr] at h)))) | omega | ((first | first | refine acall_simple hX hC hP (hO) rfl rfl rfl (by simp only [go_sem, simprocAttr]) rfl ?_); try simp only [go_sem, simprocAttr]) | (intro h))
theorem augmentSt_spec (g : Gr) (p : Pl) (hl : g.es.length ≤ 9223372036854775807) (hp : PlMax p) : Spec Try.prog 8 (Args [eG g, ePl p]) [] (eB true) [] := by
  have hGr := great10_spec g p hl hp
  (refine Spec.intro (C := T.cfg [] []) (rs := [.t 4]) (T.cfg_ok _ _) Try.func8 rfl rfl Try.ntmps8 Try.results8 (by simp [AObj.isNest]) (by simp [AObj.isNest]) (by kernel_rfl) ?_; intro X hX hP hC hXn hXm vals hA; refine ⟨_, by simp, hA, ?_⟩; have hmix : X.P.follows .mixedOrders = true := (by rw [hP]; exact T.mixed); clear hXn hXm)
  cases hB : bigB g p with
  | true =>
    rw [hB] at hGr
    repeat' (first | fail | ((first | ((with_reducible (first | apply oA | apply oB)); exact rfl; intro K hK) | (refine hK _ ?_; clear hK K) | ((with_reducible (first | apply oG | apply oH)); iterate 3 exact rfl) | ((with_reducible apply oI); (iterate 2 exact rfl); intro K hK) | (with_reducible (first | apply wI | apply wJ | apply wK))); try simp only [go_sem, simprocAttr]) | fail | (with_reducible (first | apply oC | apply oJ | exact oK | apply wA | apply wB | apply wC hX hC | apply wD hX hC | apply wE hX hC hmix | apply wF hX hC hmix | apply wG | apply wH | apply And.intro)) | ((with_reducible refine oD ?_ ?_); first | fail | kernel_rfl) | ((with_reducible (first | apply oE | apply oF)); (iterate 3 exact rfl); all_goals (intro h; first | (exact absurd h (by decide)) | ((try simp only [go_sem, simprocAttr] at h); (try with_reducible intro K hK); simp only [go_sem, simprocAttr]))) | ((first | ((with_reducible apply wL); exact rfl) | ((with_reducible apply wM); exact rfl)); all_goals (try ((with_reducible intro h); first | (exact absurd h (by decide)) | (try simp only [go_sem, simprocAttr] at h)))) | omega | ((first | first | refine acall_simple hX hC hP (speaks16_spec) rfl rfl rfl (by simp only [go_sem, simprocAttr]) rfl ?_ | refine acall_simple hX hC hP (hGr) rfl rfl rfl (by simp only [go_sem, simprocAttr]) rfl ?_); try simp only [go_sem, simprocAttr]) | (intro h))
  | false =>
  rw [hB] at hGr
  obtain ⟨b1, b2, b3, b4⟩ := big_not hB
  obtain ⟨b, hr⟩ := exB g p
  have hA1 := augment_spec g (by omega) p (plLen_of hB) (by omega) (by omega) (fun l hl => by have := b4 l hl; omega) b hr
  have hRu := runs_spec g (by omega) p (plLen_of hB) b hr
  obtain ⟨l1, l2, l3, l4⟩ := aug_len hr b3 b4
  by_cases h0 : (augR b g p).2.2 = 0
  rotate_left
  · by_cases h1 : (runRes b g p).2.1 = 0
    · have hA : augR b g p = (gz, pz, 10) := by
        unfold augR at h0 ⊢
        rw [if_neg (by rw [h1]; simp)] at h0 ⊢
        split at h0
        · rename_i h2; rw [if_pos h2]
        · exact absurd rfl h0
      rw [hA] at hA1
      rw [decide_eq_true h1] at hRu
      simp only at hA1
      repeat' (first | fail | ((first | ((with_reducible (first | apply oA | apply oB)); exact rfl; intro K hK) | (refine hK _ ?_; clear hK K) | ((with_reducible (first | apply oG | apply oH)); iterate 3 exact rfl) | ((with_reducible apply oI); (iterate 2 exact rfl); intro K hK) | (with_reducible (first | apply wI | apply wJ | apply wK))); try simp only [go_sem, simprocAttr]) | fail | (with_reducible (first | apply oC | apply oJ | exact oK | apply wA | apply wB | apply wC hX hC | apply wD hX hC | apply wE hX hC hmix | apply wF hX hC hmix | apply wG | apply wH | apply And.intro)) | ((with_reducible refine oD ?_ ?_); first | fail | kernel_rfl) | ((with_reducible (first | apply oE | apply oF)); (iterate 3 exact rfl); all_goals (intro h; first | (exact absurd h (by decide)) | ((try simp only [go_sem, simprocAttr] at h); (try with_reducible intro K hK); simp only [go_sem, simprocAttr]))) | ((first | ((with_reducible apply wL); exact rfl) | ((with_reducible apply wM); exact rfl)); all_goals (try ((with_reducible intro h); first | (exact absurd h (by decide)) | (try simp only [go_sem, simprocAttr] at h)))) | omega | ((first | first | refine acall_simple hX hC hP (speaks16_spec) rfl rfl rfl (by simp only [go_sem, simprocAttr]) rfl ?_ | refine acall_simple hX hC hP (hGr) rfl rfl rfl (by simp only [go_sem, simprocAttr]) rfl ?_ | refine acall_simple hX hC hP (hA1) rfl rfl rfl (by simp only [go_sem, simprocAttr]) rfl ?_ | refine acall_simple hX hC hP (hRu) rfl rfl rfl (by simp only [go_sem, simprocAttr]) rfl ?_); try simp only [go_sem, simprocAttr]) | (intro h))
    · have hA : augR b g p = (gz, pz, 1) := if_pos h1
      rw [hA] at hA1
      rw [decide_eq_false h1] at hRu
      simp only at hA1
      repeat' (first | fail | ((first | ((with_reducible (first | apply oA | apply oB)); exact rfl; intro K hK) | (refine hK _ ?_; clear hK K) | ((with_reducible (first | apply oG | apply oH)); iterate 3 exact rfl) | ((with_reducible apply oI); (iterate 2 exact rfl); intro K hK) | (with_reducible (first | apply wI | apply wJ | apply wK))); try simp only [go_sem, simprocAttr]) | fail | (with_reducible (first | apply oC | apply oJ | exact oK | apply wA | apply wB | apply wC hX hC | apply wD hX hC | apply wE hX hC hmix | apply wF hX hC hmix | apply wG | apply wH | apply And.intro)) | ((with_reducible refine oD ?_ ?_); first | fail | kernel_rfl) | ((with_reducible (first | apply oE | apply oF)); (iterate 3 exact rfl); all_goals (intro h; first | (exact absurd h (by decide)) | ((try simp only [go_sem, simprocAttr] at h); (try with_reducible intro K hK); simp only [go_sem, simprocAttr]))) | ((first | ((with_reducible apply wL); exact rfl) | ((with_reducible apply wM); exact rfl)); all_goals (try ((with_reducible intro h); first | (exact absurd h (by decide)) | (try simp only [go_sem, simprocAttr] at h)))) | omega | ((first | first | refine acall_simple hX hC hP (speaks16_spec) rfl rfl rfl (by simp only [go_sem, simprocAttr]) rfl ?_ | refine acall_simple hX hC hP (hGr) rfl rfl rfl (by simp only [go_sem, simprocAttr]) rfl ?_ | refine acall_simple hX hC hP (hA1) rfl rfl rfl (by simp only [go_sem, simprocAttr]) rfl ?_ | refine acall_simple hX hC hP (hRu) rfl rfl rfl (by simp only [go_sem, simprocAttr]) rfl ?_); try simp only [go_sem, simprocAttr]) | (intro h))
  obtain ⟨hok, hAR⟩ := augR_ok hr h0
  rw [hAR] at hA1 l1 l2 l3 l4
  simp only at hA1 l1 l2 l3 l4
  have hR' := aug_runs hok
  have hI1 := augIs_spec (augG g p) (by omega)
  rw [aug_is hok] at hI1
  have hrows := fun k (hk : k < (augG g p).n.toNat) => aug_rows hok hk
  have hm := aug_may hok
  clear hok hAR
  generalize augG g p = G at *
  generalize augP g p = Q at *
  obtain ⟨hc, hpo, hoks⟩ := hR'
  have hn := mayB_n hm
  have hle := plan_len hpo
  have hol := hpo.1
  have e1 : decide ((Q.outs.length : Int) = G.n) = true := decide_eq_true (by omega)
  have e2 : decide ((Q.ord.length : Int) = G.n) = true := decide_eq_true (by omega)
  repeat' (first | fail | ((first | ((with_reducible (first | apply oA | apply oB)); exact rfl; intro K hK) | (refine hK _ ?_; clear hK K) | ((with_reducible (first | apply oG | apply oH)); iterate 3 exact rfl) | ((with_reducible apply oI); (iterate 2 exact rfl); intro K hK) | (with_reducible (first | apply wI | apply wJ | apply wK))); try simp only [go_sem, simprocAttr, e1, e2]) | (show awp _ (.seq (.region 11 _ _) _) _ _; (refine awp_nilD 50 0 3 rfl rfl rfl ?_; simp only [LA.app, ASt.put, ASt.kill, putM, rml, List.set_cons_zero, List.set_cons_succ, go_sem, simprocAttr, e1, e2]); (refine awp_newB hX 50 2 200 (.tip 3 1 []) rfl rfl rfl (by simp only [go_sem, simprocAttr, e1, e2]) (by decide) (by simp [go_sem, simprocAttr, e1, e2]) ⟨3, 1, by decide, .inr rfl⟩ ?_; simp only [LA.app, ASt.put, ASt.kill, subT, rmk, putM, rml, kl, AV.sub, AV.subs, AObj.sub, List.set_cons_zero, List.set_cons_succ, go_sem, simprocAttr, e1, e2])) | (with_reducible (first | apply oC | apply oJ | exact oK | apply wA | apply wB | apply wC hX hC | apply wD hX hC | apply wE hX hC hmix | apply wF hX hC hmix | apply wG | apply wH | apply And.intro)) | ((with_reducible refine oD ?_ ?_); first | fail | kernel_rfl) | ((with_reducible (first | apply oE | apply oF)); (iterate 3 exact rfl); all_goals (intro h; first | (exact absurd h (by decide)) | ((try simp only [go_sem, simprocAttr, e1, e2] at h); (try with_reducible intro K hK); simp only [go_sem, simprocAttr, e1, e2]))) | ((first | ((with_reducible apply wL); exact rfl) | ((with_reducible apply wM); exact rfl)); all_goals (try ((with_reducible intro h); first | (exact absurd h (by decide)) | (try simp only [go_sem, simprocAttr, e1, e2] at h)))) | omega | ((first | first | refine acall_simple hX hC hP (speaks16_spec) rfl rfl rfl (by simp only [go_sem, simprocAttr, e1, e2]) rfl ?_ | refine acall_simple hX hC hP (hGr) rfl rfl rfl (by simp only [go_sem, simprocAttr, e1, e2]) rfl ?_ | refine acall_simple hX hC hP (hA1) rfl rfl rfl (by simp only [go_sem, simprocAttr, e1, e2]) rfl ?_ | refine acall_simple hX hC hP (hI1) rfl rfl rfl (by simp only [go_sem, simprocAttr, e1, e2]) rfl ?_ | (refine acall_genC hX hC hP [(10000, 50)] (newF_spec G (by omega) hc hm) rfl rfl rfl ?_ ?_ ?_ ?_ ?_ ?_ ?_ ?_ ?_ ?_ ?_ ?_ ?_ ?_; (focus (simp only [go_sem, simprocAttr, e1, e2]; done)); (iterate 12 (focus (simp [go_sem, simprocAttr, e1, e2]; done))); simp only [go_sem, simprocAttr, e1, e2, List.map_cons, List.map_nil])); try simp only [go_sem, simprocAttr, e1, e2]) | (intro h))
  refine awp_loopP (fun k : Nat => k ≤ G.n.toNat) (fun k => ⟨[(5, .ptr 5 0), (6, .ptr 6 0), (8, .ptr 50 0), (81, .d (sI Q.ord)), (82, eN Q.ord.length), (83, eN k)], [(5, .box [eN G.n, .d (sE G.es)]), (6, .box [.d (sI Q.ord), .d (.sl 1 (vI Q.outs))]), (50, .box [.d (sT (fK G Q k).row), .d (vw G), .ref 200]), (200, .tip 3 1 ((fK G Q k).pl.map rI))]⟩) (fun k => G.n.toNat - k) 0 (by simp) ?_ ?_
  · refine Le.of ?_ ?_ <;> simp [go_sem, simprocAttr, fK]
  rintro k hk
  obtain ⟨hi, hpl, hrl⟩ := run_inv hm hpo hk fun j hj => hoks j (by omega)
  have hmul : k * (G.es.length + 1) ≤ 64 * 129 := Nat.mul_le_mul (by omega) (by omega)
  rcases Nat.lt_or_ge k G.n.toNat with hkl | hkg
  rotate_left
  · have hb : decide ((k : Int) < (Q.ord.length : Int)) = false := decide_eq_false (by omega)
    have hD := done_spec G (fK G Q k)
    have : decide (((fK G Q k).pl.length : Int) = G.n) = true := decide_eq_true (by rw [hpl, List.length_take]; omega)
    rw [this] at hD
    repeat' (first | fail | ((first | ((with_reducible (first | apply oA | apply oB)); exact rfl; intro K hK) | (refine hK _ ?_; clear hK K) | ((with_reducible (first | apply oG | apply oH)); iterate 3 exact rfl) | ((with_reducible apply oI); (iterate 2 exact rfl); intro K hK) | (with_reducible (first | apply wI | apply wJ | apply wK))); try simp only [go_sem, simprocAttr, hb, frD]) | fail | (with_reducible (first | apply oC | apply oJ | exact oK | apply wA | apply wB | apply wC hX hC | apply wD hX hC | apply wE hX hC hmix | apply wF hX hC hmix | apply wG | apply wH | apply And.intro)) | ((with_reducible refine oD ?_ ?_); first | fail | kernel_rfl) | ((with_reducible (first | apply oE | apply oF)); (iterate 3 exact rfl); all_goals (intro h; first | (exact absurd h (by decide)) | ((try simp only [go_sem, simprocAttr, hb, frD] at h); (try with_reducible intro K hK); simp only [go_sem, simprocAttr, hb, frD]))) | ((first | ((with_reducible apply wL); exact rfl) | ((with_reducible apply wM); exact rfl)); all_goals (try ((with_reducible intro h); first | (exact absurd h (by decide)) | (try simp only [go_sem, simprocAttr, hb, frD] at h)))) | omega | ((first | first | (refine acall_lend hX hC hP (hD) rfl rfl rfl ?_ ?_ ?_ ?_; iterate 3 (focus (simp only [go_sem, simprocAttr, hb, frD]; done)))); try simp only [go_sem, simprocAttr, hb, frD]) | (intro h))
  have hb : decide ((k : Int) < (Q.ord.length : Int)) = true := decide_eq_true (by omega)
  have hxm := oAt_mem hpo hkl
  have hfx : fK G Q (k + 1) = (succF G (fK G Q k) (oAt Q k) (lAt Q (oAt Q k))).2 := rfl
  have hpk := place_ok hpo hkl (hoks k hkl)
  have hll := lAt_len hpo hxm.1 hxm.2
  have hxo : Q.ord.getD k 0 = oAt Q k := rfl
  have hplen : (fK G Q k).pl.length ≤ 64 := by
    rw [hpl, List.length_take]; omega
  obtain ⟨_, _, hrl'⟩ := run_inv hm hpo (k := k + 1) (by omega) fun j hj => hoks j (by omega)
  have hmul' : (k + 1) * (G.es.length + 1) ≤ 64 * 129 := Nat.mul_le_mul (by omega) (by omega)
  obtain ⟨r1, r2⟩ := hrows k hkl
  obtain ⟨x, hx⟩ : ∃ x : Nat, oAt Q k = x := ⟨(oAt Q k).toNat, by omega⟩
  rw [hx] at hxo hfx hpk hxm hll
  have hxl : x < Q.outs.length := by omega
  have hv := vI_getD hxl
  have hla : lAt Q (x : Int) = Q.outs.getD x [] := by unfold lAt; rw [Int.toNat_natCast]
  rw [hla] at hfx hpk hll
  have hPl := placeA_spec G hm (fK G Q k) hi (x : Int) (Q.outs.getD x []) (by omega) (by omega) (by omega)
  rw [hpk] at hPl
  have hcode : (succF G (fK G Q k) (x : Int) (Q.outs.getD x [])).1.2 = 0 := rfl
  have hb1 : decide ((x : Int) < 0) = false := decide_eq_false (by omega)
  have hb2 : decide (G.n ≤ (x : Int)) = false := decide_eq_false (by omega)
  generalize Q.outs.getD x [] = o at hv hfx hpk hPl hcode
  rw [hfx] at r1 r2 hrl'
  generalize fK G Q k = f at hfx hpk hPl hi hrl hcode r1 r2 hrl'
  generalize succF G f (x : Int) o = su at hfx hPl hcode r1 r2 hrl'
  have hRo := rowT_spec [vw G, sI su.2.pl] su.2.row (by omega)
  have hb3 : (decide ((k : Int) = G.n - 1)) = decide (k + 1 = G.n.toNat) := by rw [decide_eq_decide]; omega
  have r1' : ∀ t ∈ su.2.row, decide (t.1 < 0) = decide (k + 1 = G.n.toNat) := fun t ht => by rw [decide_eq_decide]; exact r1 t ht
  generalize hBB : decide (k + 1 = G.n.toNat) = B at hb3 r1'
  repeat' (first | fail | ((first | ((with_reducible (first | apply oA | apply oB)); exact rfl; intro K hK) | (refine hK _ ?_; clear hK K) | ((with_reducible (first | apply oG | apply oH)); iterate 3 exact rfl) | ((with_reducible apply oI); (iterate 2 exact rfl); intro K hK) | (with_reducible (first | apply wI | apply wJ | apply wK))); try simp only [go_sem, simprocAttr, hb, hxo, hv, hb1, hb2, hcode, frO, frN]) | fail | (with_reducible (first | apply oC | apply oJ | exact oK | apply wA | apply wB | apply wC hX hC | apply wD hX hC | apply wE hX hC hmix | apply wF hX hC hmix | apply wG | apply wH | apply And.intro)) | ((with_reducible refine oD ?_ ?_); first | fail | kernel_rfl) | ((with_reducible (first | apply oE | apply oF)); (iterate 3 exact rfl); all_goals (intro h; first | (exact absurd h (by decide)) | ((try simp only [go_sem, simprocAttr, hb, hxo, hv, hb1, hb2, hcode, frO, frN] at h); (try with_reducible intro K hK); simp only [go_sem, simprocAttr, hb, hxo, hv, hb1, hb2, hcode, frO, frN]))) | ((first | ((with_reducible apply wL); exact rfl) | ((with_reducible apply wM); exact rfl)); all_goals (try ((with_reducible intro h); first | (exact absurd h (by decide)) | (try simp only [go_sem, simprocAttr, hb, hxo, hv, hb1, hb2, hcode, frO, frN] at h)))) | omega | ((first | first | (refine acall_gen hX hC hP [(10000, 50), (10001, 200), (10002, 201)] (hPl) rfl rfl rfl ?_ ?_ ?_ ?_ ?_ ?_ ?_ ?_ ?_ ?_ ?_ ?_ ?_ ?_; (focus (simp only [go_sem, simprocAttr, hb, hxo, hv, hb1, hb2, hcode, frO, frN]; done)); (iterate 12 (focus (simp [go_sem, simprocAttr, hb, hxo, hv, hb1, hb2, hcode, frO, frN]; done))); simp only [go_sem, simprocAttr, hb, hxo, hv, hb1, hb2, hcode, frO, frN, List.map_cons, List.map_nil]) | (refine acall_lend1 hX hC hP 112 (hRo) rfl rfl rfl ?_ ?_ (by first | exact ⟨_, _, _, rfl, flatI⟩ | exact ⟨_, _, _, rfl, flatT⟩) rfl (by decide) ?_; (iterate 2 (focus (simp only [go_sem, simprocAttr, hb, hxo, hv, hb1, hb2, hcode, frO, frN]; done))); simp only [go_sem, simprocAttr, hb, hxo, hv, hb1, hb2, hcode, frO, frN])); try simp only [go_sem, simprocAttr, hb, hxo, hv, hb1, hb2, hcode, frO, frN]) | (intro h))
  (refine awp_frzT hX 112 rfl ?_; simp only [go_sem, simprocAttr, hb, hxo, hv, hb1, hb2, hcode, frO, frN])
  refine awp_loopP (fun j : Nat => j ≤ su.2.row.length) (fun j => ⟨[(5, .ptr 5 0), (6, .ptr 6 0), (8, .ptr 50 0), (10, eN k), (14, .d (sT su.2.row)), (81, .d (sI Q.ord)), (82, eN Q.ord.length), (83, eN k), (113, .d (sT su.2.row)), (114, eN su.2.row.length), (115, eN j)], [(5, .box [eN G.n, .d (sE G.es)]), (6, .box [.d (sI Q.ord), .d (.sl 1 (vI Q.outs))]), (50, .box [.d (sT su.2.row), .d (vw G), .ref 201]), (201, .tip 3 1 (su.2.pl.map rI))]⟩) (fun j => su.2.row.length - j) 0 (by simp) ?_ ?_
  · refine Le.of ?_ ?_ <;> simp [go_sem, simprocAttr]
  rintro j hj
  rcases Nat.lt_or_ge j su.2.row.length with hjl | hjg
  · have hbj : decide ((j : Int) < (su.2.row.length : Int)) = true := decide_eq_true (by omega)
    have ht := r1' _ (getD_memX (d := (0, 0, 0)) hjl)
    cases B <;> (
    repeat' (first | fail | ((first | ((with_reducible (first | apply oA | apply oB)); exact rfl; intro K hK) | (refine hK _ ?_; clear hK K) | ((with_reducible (first | apply oG | apply oH)); iterate 3 exact rfl) | ((with_reducible apply oI); (iterate 2 exact rfl); intro K hK) | (with_reducible (first | apply wI | apply wJ | apply wK))); try simp only [go_sem, simprocAttr, hbj, hb3, ht]) | fail | (with_reducible (first | apply oC | apply oJ | exact oK | apply wA | apply wB | apply wC hX hC | apply wD hX hC | apply wE hX hC hmix | apply wF hX hC hmix | apply wG | apply wH | apply And.intro)) | ((with_reducible refine oD ?_ ?_); first | fail | kernel_rfl) | ((with_reducible (first | apply oE | apply oF)); (iterate 3 exact rfl); all_goals (intro h; first | (exact absurd h (by decide)) | ((try simp only [go_sem, simprocAttr, hbj, hb3, ht] at h); (try with_reducible intro K hK); simp only [go_sem, simprocAttr, hbj, hb3, ht]))) | ((first | ((with_reducible apply wL); exact rfl) | ((with_reducible apply wM); exact rfl)); all_goals (try ((with_reducible intro h); first | (exact absurd h (by decide)) | (try simp only [go_sem, simprocAttr, hbj, hb3, ht] at h)))) | omega | ((first | fail); try simp only [go_sem, simprocAttr, hbj, hb3, ht]) | (intro h))
    refine ⟨j + 1, by omega, ?_, by omega⟩
    (refine Le.of ?_ ?_ <;> simp [go_sem, simprocAttr, hbj, hb3, ht]))
  · have hbj : decide ((j : Int) < (su.2.row.length : Int)) = false := decide_eq_false (by omega)
    cases B with
    | false =>
      repeat' (first | fail | ((first | ((with_reducible (first | apply oA | apply oB)); exact rfl; intro K hK) | (refine hK _ ?_; clear hK K) | ((with_reducible (first | apply oG | apply oH)); iterate 3 exact rfl) | ((with_reducible apply oI); (iterate 2 exact rfl); intro K hK) | (with_reducible (first | apply wI | apply wJ | apply wK))); try simp only [go_sem, simprocAttr, hbj, hb3]) | (show awp _ (.region 28 _ _) _ _; (refine awp_mvB hX 50 2 201 200 rfl rfl rfl (by first | exact .inl rfl | exact .inr rfl) (by decide) (by decide) ?_; simp only [LA.app, ASt.put, ASt.kill, subT, rmk, putM, rml, kl, AV.sub, AV.subs, AObj.sub, List.set_cons_zero, List.set_cons_succ, go_sem, simprocAttr, hbj, hb3])) | (with_reducible (first | apply oC | apply oJ | exact oK | apply wA | apply wB | apply wC hX hC | apply wD hX hC | apply wE hX hC hmix | apply wF hX hC hmix | apply wG | apply wH | apply And.intro)) | ((with_reducible refine oD ?_ ?_); first | fail | kernel_rfl) | ((with_reducible (first | apply oE | apply oF)); (iterate 3 exact rfl); all_goals (intro h; first | (exact absurd h (by decide)) | ((try simp only [go_sem, simprocAttr, hbj, hb3] at h); (try with_reducible intro K hK); simp only [go_sem, simprocAttr, hbj, hb3]))) | ((first | ((with_reducible apply wL); exact rfl) | ((with_reducible apply wM); exact rfl)); all_goals (try ((with_reducible intro h); first | (exact absurd h (by decide)) | (try simp only [go_sem, simprocAttr, hbj, hb3] at h)))) | omega | ((first | fail); try simp only [go_sem, simprocAttr, hbj, hb3]) | (intro h))
      refine ⟨k + 1, by omega, ?_, by omega⟩
      rw [hfx]
      (refine Le.of ?_ ?_ <;> simp [go_sem, simprocAttr, hbj, hb3])
    | true =>
      have hlen := r2 (of_decide_eq_true hBB)
      have hb4 : decide ((su.2.row.length : Int) = 1) = true := decide_eq_true (by omega)
      repeat' (first | fail | ((first | ((with_reducible (first | apply oA | apply oB)); exact rfl; intro K hK) | (refine hK _ ?_; clear hK K) | ((with_reducible (first | apply oG | apply oH)); iterate 3 exact rfl) | ((with_reducible apply oI); (iterate 2 exact rfl); intro K hK) | (with_reducible (first | apply wI | apply wJ | apply wK))); try simp only [go_sem, simprocAttr, hbj, hb3, hb4]) | (show awp _ (.region 28 _ _) _ _; (refine awp_mvB hX 50 2 201 200 rfl rfl rfl (by first | exact .inl rfl | exact .inr rfl) (by decide) (by decide) ?_; simp only [LA.app, ASt.put, ASt.kill, subT, rmk, putM, rml, kl, AV.sub, AV.subs, AObj.sub, List.set_cons_zero, List.set_cons_succ, go_sem, simprocAttr, hbj, hb3, hb4])) | (with_reducible (first | apply oC | apply oJ | exact oK | apply wA | apply wB | apply wC hX hC | apply wD hX hC | apply wE hX hC hmix | apply wF hX hC hmix | apply wG | apply wH | apply And.intro)) | ((with_reducible refine oD ?_ ?_); first | fail | kernel_rfl) | ((with_reducible (first | apply oE | apply oF)); (iterate 3 exact rfl); all_goals (intro h; first | (exact absurd h (by decide)) | ((try simp only [go_sem, simprocAttr, hbj, hb3, hb4] at h); (try with_reducible intro K hK); simp only [go_sem, simprocAttr, hbj, hb3, hb4]))) | ((first | ((with_reducible apply wL); exact rfl) | ((with_reducible apply wM); exact rfl)); all_goals (try ((with_reducible intro h); first | (exact absurd h (by decide)) | (try simp only [go_sem, simprocAttr, hbj, hb3, hb4] at h)))) | omega | ((first | fail); try simp only [go_sem, simprocAttr, hbj, hb3, hb4]) | (intro h))
      refine ⟨k + 1, by omega, ?_, by omega⟩
      rw [hfx]
      (refine Le.of ?_ ?_ <;> simp [go_sem, simprocAttr, hbj, hb3, hb4])
end Go.Ab
end
