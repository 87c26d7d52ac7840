/- A part of the proof. -/
import Derived.Test.YtilamojcledkaaaL2P9
set_option linter.unusedSimpArgs false
set_option linter.unusedVariables false
section
namespace Go.Ab
open Go.Proofs
attribute [local congr] ACall.congr
set_option maxRecDepth 10000

/-- The least tail, of what is before, and of some edges, whose vertex waits. -/
def backS (g : Gr) (ws : List Int) (b : Int) (e : Int) : Int := if 0 < ws.getD (tl g e.toNat).toNat 0 ∧ (b < 0 ∨ tl g e.toNat < b) then tl g e.toNat else b
theorem backS_eq (g : Gr) (ws : List Int) (b : Int) (i : Nat) : backS g ws b (i : Int) = if 0 < ws.getD (g.es.getD i (0, 0)).1.toNat 0 ∧ (b < 0 ∨ (g.es.getD i (0, 0)).1 < b) then (g.es.getD i (0, 0)).1 else b := rfl
def backF (g : Gr) (ws : List Int) (es : List Int) : Int := es.foldl (backS g ws) (-1)
def backG (g : Gr) (ws : List Int) (at_ : Int) : Int := backF g ws (inL g at_.toNat)
/-- The way back, as far as vertices are new. -/
def wayF (g : Gr) (ws : List Int) : Nat → List Int → Int → List Int × Int
  | 0, way, at_ => (way, at_)
  | f + 1, way, at_ => if at_ < 0 ∨ at_ ∈ way then (way, at_) else wayF g ws f (way ++ [at_]) (backG g ws at_)
def wayG (g : Gr) : List Int × Int := wayF g (wts g (runG g)) g.n.toNat [] (findI (fun n => decide (0 < n)) (wts g (runG g)))
def turnL (l : List Int) : List Int := l.drop (idxI l (minL l)).toNat ++ l.take (idxI l (minL l)).toNat
def cycG (g : Gr) : List Int := if (wayG g).2 < 0 then [] else turnL ((wayG g).1.drop (idxI (wayG g).1 (wayG g).2).toNat).reverse

theorem cyc1_spec (n : Int) : Spec Try.prog 116 (Args [eN n]) [] (eB (decide (0 < n))) [] := by
  (refine Spec.intro (C := T.cfg [] []) (rs := [.t 2]) (T.cfg_ok _ _) Try.func116 rfl rfl Try.ntmps116 Try.results116 (by simp [AObj.isNest]) (by simp [AObj.isNest]) (by kernel_rfl) ?_; intro X hX hP hC hXn hXm vals hA; refine ⟨_, by simp, hA, ?_⟩; have hmix : X.P.follows .mixedOrders = true := (by rw [hP]; exact T.mixed); clear hXn hXm)
  repeat' (first | ((first | ((with_reducible (first | apply oA | apply oB)); exact rfl; intro K hK) | (refine hK _ ?_; clear hK K) | ((with_reducible (first | apply oG | apply oH)); iterate 3 exact rfl) | ((with_reducible apply oI); (iterate 2 exact rfl); intro K hK) | (with_reducible (first | apply wI | apply wJ | apply wK))); try simp only [go_sem, simprocAttr]) | fail | (with_reducible (first | apply oC | apply oJ | exact oK | apply wA | apply wB | apply wC hX hC | apply wD hX hC | apply wE hX hC hmix | apply wF hX hC hmix | apply wG | apply wH | apply And.intro)) | ((with_reducible refine oD ?_ ?_); first | fail | kernel_rfl) | ((with_reducible (first | apply oE | apply oF)); (iterate 3 exact rfl); all_goals (intro h; first | (exact absurd h (by decide)) | ((try simp only [go_sem, simprocAttr] at h); (try with_reducible intro K hK); simp only [go_sem, simprocAttr]))) | ((first | ((with_reducible apply wL); exact rfl) | ((with_reducible apply wM); exact rfl)); all_goals (try ((with_reducible intro h); first | (exact absurd h (by decide)) | (try simp only [go_sem, simprocAttr] at h)))) | omega | ((first | fail); try simp only [go_sem, simprocAttr]) | (intro h))

structure Way (g : Gr) (way : List Int) : Prop where
  lo : ∀ x ∈ way, 0 ≤ x ∧ x < g.n
  fuel : way.length + left g way = g.n.toNat
theorem left_nil {g : Gr} : left g [] = g.n.toNat := by
  have := (Placed.nil g).fuel
  rw [List.length_nil, Nat.zero_add] at this
  exact this
theorem left_app {g : Gr} {way : List Int} {a : Nat} (ha : a < g.n.toNat) (hn : (a : Int) ∉ way) : left g way = left g (way ++ [(a : Int)]) + 1 := by
  unfold left
  rw [← countP_less (p := fun y : Nat => !decide ((y : Int) ∈ way)) (x := a) (by simp [hn]) ha]
  congr 1
  refine List.countP_congr fun y _ => ?_
  simp; omega
theorem Way.nil (g : Gr) : Way g [] := ⟨by simp, by rw [left_nil]; simp⟩
theorem Way.next {g : Gr} {way : List Int} {a : Nat} (h : Way g way) (ha : a < g.n.toNat) (hn : (a : Int) ∉ way) : Way g (way ++ [(a : Int)]) := by
  refine ⟨fun x hx => ?_, ?_⟩
  · rcases List.mem_append.1 hx with hx | hx
    · exact h.lo x hx
    · simp at hx; omega
  · have h1 := h.fuel
    have h2 := left_app ha hn
    rw [List.length_append, List.length_singleton]; omega
theorem inL_mem {g : Gr} {x : Nat} {e : Int} (h : e ∈ inL g x) : ∃ i : Nat, e = i ∧ i < g.es.length ∧ hd g i = x := by
  simp only [inL, endsK, List.mem_map, List.mem_filter, List.mem_range, decide_eq_true_eq] at h
  obtain ⟨i, ⟨h1, h2⟩, rfl⟩ := h
  exact ⟨i, rfl, h1, h2⟩
theorem fold_next {α β : Type} {f : β → α → β} {b : β} {l : List α} {j : Nat} {x : α} (h : l[j]? = some x) : (l.take (j + 1)).foldl f b = f ((l.take j).foldl f b) x := by
  rw [List.take_add_one, List.foldl_append, h]; rfl
theorem backF_range {g : Gr} (hm : mayB g = true) (ws : List Int) : ∀ (l : List Int) (b : Int), (b = -1 ∨ (0 ≤ b ∧ b < g.n)) → (∀ e ∈ l, ∃ i : Nat, e = i ∧ i < g.es.length) → l.foldl (backS g ws) b = -1 ∨ (0 ≤ l.foldl (backS g ws) b ∧ l.foldl (backS g ws) b < g.n)
  | [], b, hb, _ => hb
  | e :: l, b, hb, h => by
    refine backF_range hm ws l _ ?_ fun e he => h e (List.mem_cons_of_mem _ he)
    obtain ⟨i, rfl, hi⟩ := h e List.mem_cons_self
    obtain ⟨⟨h1, h2⟩, _⟩ := mayB_e hm hi
    unfold backS
    split
    · exact .inr ⟨h1, h2⟩
    · exact hb
theorem inL_ok {g : Gr} {x : Nat} : ∀ e ∈ inL g x, ∃ i : Nat, e = i ∧ i < g.es.length := fun e he => by
  obtain ⟨i, h1, h2, _⟩ := inL_mem he; exact ⟨i, h1, h2⟩
theorem wayF_end {g : Gr} {ws way : List Int} {a : Int} (h : a < 0 ∨ a ∈ way) : ∀ f, wayF g ws f way a = (way, a)
  | 0 => rfl
  | f + 1 => by simp only [wayF]; rw [if_pos h]
theorem idxI_mem {l : List Int} {x : Int} (h : x ∈ l) : ∃ k : Nat, idxI l x = k ∧ k < l.length ∧ l.getD k 0 = x := by
  rcases findI_spec (f := fun y : Int => decide (x = y)) (l := l) 0 with ⟨h1, h2⟩ | ⟨k, h1, h2, h3, _⟩
  · exact absurd (h2 x h) (by simp)
  · exact ⟨k, h1, h2, (of_decide_eq_true h3).symm⟩
theorem minL_mem : ∀ {l : List Int}, 0 < l.length → minL l ∈ l
  | a :: r, _ => by
    have : ∀ (r : List Int) (a : Int), r.foldl min a = a ∨ r.foldl min a ∈ r := by
      intro r
      induction r with
      | nil => intro a; exact .inl rfl
      | cons b r ih =>
        intro a
        simp only [List.foldl_cons]
        rcases ih (min a b) with h | h
        · by_cases hab : a ≤ b
          · left; rw [h]; omega
          · right; rw [h]; simp; omega
        · right; simp [h]
    rcases this r a with h | h
    · simp [minL, h]
    · simp [minL, h]

theorem cycle_spec (g : Gr) (hm : mayB g = true) : Spec Try.prog 74 (Args [.d (vw g)]) [] (.d (sI (cycG g))) [] := by
  have hn := mayB_n hm
  have hlw : (wts g (runG g)).length ≤ 9223372036854775807 := by rw [wts_length]; omega
  (refine Spec.intro (C := T.cfg [30] []) (rs := [.t 2]) (T.cfg_ok _ _) Try.func74 rfl rfl Try.ntmps74 Try.results74 (by simp [AObj.isNest]) (by simp [AObj.isNest]) (by kernel_rfl) ?_; intro X hX hP hC hXn hXm vals hA; refine ⟨_, by simp, hA, ?_⟩; have hmix : X.P.follows .mixedOrders = true := (by rw [hP]; exact T.mixed); clear hXn hXm)
  repeat' (first | ((first | ((with_reducible (first | apply oA | apply oB)); exact rfl; intro K hK) | (refine hK _ ?_; clear hK K) | ((with_reducible (first | apply oG | apply oH)); iterate 3 exact rfl) | ((with_reducible apply oI); (iterate 2 exact rfl); intro K hK) | (with_reducible (first | apply wI | apply wJ | apply wK))); try simp only [go_sem, simprocAttr]) | fail | (with_reducible (first | apply oC | apply oJ | exact oK | apply wA | apply wB | apply wC hX hC | apply wD hX hC | apply wE hX hC hmix | apply wF hX hC hmix | apply wG | apply wH | apply And.intro)) | ((with_reducible refine oD ?_ ?_); first | fail | kernel_rfl) | ((with_reducible (first | apply oE | apply oF)); (iterate 3 exact rfl); all_goals (intro h; first | (exact absurd h (by decide)) | ((try simp only [go_sem, simprocAttr] at h); (try with_reducible intro K hK); simp only [go_sem, simprocAttr]))) | ((first | ((with_reducible apply wL); exact rfl) | ((with_reducible apply wM); exact rfl)); all_goals (try ((with_reducible intro h); first | (exact absurd h (by decide)) | (try simp only [go_sem, simprocAttr] at h)))) | omega | ((first | first | refine acall_simple hX hC hP (run_spec g hm) rfl rfl rfl (by simp only [go_sem, simprocAttr]) rfl ?_ | refine acall_simple hX hC hP (indexFuncI_spec Robs.nil _ [] _ cyc1_spec (wts g (runG g)) hlw) rfl rfl rfl (by simp only [go_sem, simprocAttr]) rfl ?_ | (refine acall_lend hX hC hP (containsI_spec way a hlway) rfl rfl rfl ?_ ?_ ?_ ?_; iterate 3 (focus (simp only [go_sem, simprocAttr]; done))) | (refine acall_lend hX hC hP (indexI_spec way a hlway) rfl rfl rfl ?_ ?_ ?_ ?_; iterate 3 (focus (simp only [go_sem, simprocAttr]; done))) | (refine acall_gen hX hC hP [(10000, 75)] (reverse_spec (way.drop k) hlr) rfl rfl rfl ?_ ?_ ?_ ?_ ?_ ?_ ?_ ?_ ?_ ?_ ?_ ?_ ?_ ?_; (focus (simp only [go_sem, simprocAttr]; done)); (iterate 12 (focus (simp [go_sem, simprocAttr]; done))); simp only [go_sem, simprocAttr, List.map_cons, List.map_nil]) | (refine acall_lend hX hC hP (min_spec rev hrev0 hrev) rfl rfl rfl ?_ ?_ ?_ ?_; iterate 3 (focus (simp only [go_sem, simprocAttr]; done))) | (refine acall_lend hX hC hP (indexI_spec rev (minL rev) hrev') rfl rfl rfl ?_ ?_ ?_ ?_; iterate 3 (focus (simp only [go_sem, simprocAttr]; done))) | (refine acall_look hX hC hP (concat_spec [rev.drop k2, rev.take k2] hc1 hc2 hc3) rfl rfl rfl ?_ ?_ rfl ?_; iterate 2 (focus (simp only [go_sem, simprocAttr]; done)))); try simp only [go_sem, simprocAttr]) | (intro h))
  (refine awp_new hX 6 30 (.own 3 1 []) (by simp only [go_sem, simprocAttr]) (by simp only [go_sem, simprocAttr]) (by decide) ⟨3, 1, by decide, .inl rfl⟩ ?_; simp only [go_sem, simprocAttr])
  refine awp_loopP (fun i : List Int × Int => Way g i.1 ∧ (i.2 = -1 ∨ (0 ≤ i.2 ∧ i.2 < g.n)) ∧ wayF g (wts g (runG g)) (left g i.1) i.1 i.2 = wayG g) (fun i => ⟨[(0, .d (vw g)), (4, .d (sI (wts g (runG g)))), (5, eN i.2), (6, .ref 30)], [(30, .own 3 1 (i.1.map rI))]⟩) (fun i => left g i.1) ([], findI (fun n => decide (0 < n)) (wts g (runG g))) ⟨Way.nil g, ?_, ?_⟩ ?_ ?_
  · rcases findI_range (fun n : Int => decide (0 < n)) (wts g (runG g)) with h | h
    · exact .inl h
    · rw [wts_length] at h; exact .inr (by simp only; omega)
  · rw [left_nil]; rfl
  · (refine Le.of ?_ ?_ <;> simp [go_sem, simprocAttr])
  rintro ⟨way, at_⟩ ⟨hway, hat, hrun⟩
  simp only at hway hat hrun ⊢
  have hwl : way.length ≤ 64 := by have := hway.fuel; omega
  have hlway : way.length ≤ 9223372036854775807 := by omega
  by_cases h0 : at_ < 0
  · have hb1 : decide (0 ≤ at_) = false := decide_eq_false (by omega)
    have hb3 : decide (at_ < 0) = true := decide_eq_true h0
    have he : cycG g = [] := by
      have := wayF_end (g := g) (ws := wts g (runG g)) (way := way) (.inl h0) (left g way)
      rw [hrun] at this
      simp only [cycG, this]; rw [if_pos h0]
    repeat' (first | ((first | ((with_reducible (first | apply oA | apply oB)); exact rfl; intro K hK) | (refine hK _ ?_; clear hK K) | ((with_reducible (first | apply oG | apply oH)); iterate 3 exact rfl) | ((with_reducible apply oI); (iterate 2 exact rfl); intro K hK) | (with_reducible (first | apply wI | apply wJ | apply wK))); try simp only [go_sem, simprocAttr, hb1, hb3]) | fail | (with_reducible (first | apply oC | apply oJ | exact oK | apply wA | apply wB | apply wC hX hC | apply wD hX hC | apply wE hX hC hmix | apply wF hX hC hmix | apply wG | apply wH | apply And.intro)) | ((with_reducible refine oD ?_ ?_); first | fail | kernel_rfl) | ((with_reducible (first | apply oE | apply oF)); (iterate 3 exact rfl); all_goals (intro h; first | (exact absurd h (by decide)) | ((try simp only [go_sem, simprocAttr, hb1, hb3] at h); (try with_reducible intro K hK); simp only [go_sem, simprocAttr, hb1, hb3]))) | ((first | ((with_reducible apply wL); exact rfl) | ((with_reducible apply wM); exact rfl)); all_goals (try ((with_reducible intro h); first | (exact absurd h (by decide)) | (try simp only [go_sem, simprocAttr, hb1, hb3] at h)))) | omega | ((first | first | refine acall_simple hX hC hP (run_spec g hm) rfl rfl rfl (by simp only [go_sem, simprocAttr, hb1, hb3]) rfl ?_ | refine acall_simple hX hC hP (indexFuncI_spec Robs.nil _ [] _ cyc1_spec (wts g (runG g)) hlw) rfl rfl rfl (by simp only [go_sem, simprocAttr, hb1, hb3]) rfl ?_ | (refine acall_lend hX hC hP (containsI_spec way a hlway) rfl rfl rfl ?_ ?_ ?_ ?_; iterate 3 (focus (simp only [go_sem, simprocAttr, hb1, hb3]; done))) | (refine acall_lend hX hC hP (indexI_spec way a hlway) rfl rfl rfl ?_ ?_ ?_ ?_; iterate 3 (focus (simp only [go_sem, simprocAttr, hb1, hb3]; done))) | (refine acall_gen hX hC hP [(10000, 75)] (reverse_spec (way.drop k) hlr) rfl rfl rfl ?_ ?_ ?_ ?_ ?_ ?_ ?_ ?_ ?_ ?_ ?_ ?_ ?_ ?_; (focus (simp only [go_sem, simprocAttr, hb1, hb3]; done)); (iterate 12 (focus (simp [go_sem, simprocAttr, hb1, hb3]; done))); simp only [go_sem, simprocAttr, hb1, hb3, List.map_cons, List.map_nil]) | (refine acall_lend hX hC hP (min_spec rev hrev0 hrev) rfl rfl rfl ?_ ?_ ?_ ?_; iterate 3 (focus (simp only [go_sem, simprocAttr, hb1, hb3]; done))) | (refine acall_lend hX hC hP (indexI_spec rev (minL rev) hrev') rfl rfl rfl ?_ ?_ ?_ ?_; iterate 3 (focus (simp only [go_sem, simprocAttr, hb1, hb3]; done))) | (refine acall_look hX hC hP (concat_spec [rev.drop k2, rev.take k2] hc1 hc2 hc3) rfl rfl rfl ?_ ?_ rfl ?_; iterate 2 (focus (simp only [go_sem, simprocAttr, hb1, hb3]; done)))); try simp only [go_sem, simprocAttr, hb1, hb3]) | (intro h))
    rw [he]; rfl
  obtain ⟨a, rfl⟩ : ∃ a : Nat, at_ = a := ⟨at_.toNat, by omega⟩
  have han : a < g.n.toNat := by omega
  have hb1 : decide (0 ≤ (a : Int)) = true := decide_eq_true (by omega)
  by_cases hmem : (a : Int) ∈ way
  · have hb2 : decide ((a : Int) ∈ way) = true := decide_eq_true hmem
    have hb3 : decide ((a : Int) < 0) = false := decide_eq_false h0
    have hend := wayF_end (g := g) (ws := wts g (runG g)) (.inr hmem) (left g way)
    rw [hrun] at hend
    obtain ⟨k, hk, hkl, _⟩ := idxI_mem hmem
    obtain ⟨rev, hrevE⟩ : ∃ rev, rev = (way.drop k).reverse := ⟨_, rfl⟩
    have hrl : rev.length = way.length - k := by rw [hrevE]; simp
    have hrev0 : 0 < rev.length := by omega
    have hrev : rev.length ≤ 1000000 := by omega
    have hrev' : rev.length ≤ 9223372036854775807 := by omega
    have hlr : (way.drop k).length ≤ 1000000 := by simp; omega
    obtain ⟨k2, hk2, hk2l, _⟩ := idxI_mem (minL_mem hrev0)
    have hc1 : [rev.drop k2, rev.take k2].length ≤ 1000 := by simp
    have hc2 : 0 < [rev.drop k2, rev.take k2].flatten.length := by simp; omega
    have hc3 : [rev.drop k2, rev.take k2].flatten.length ≤ 1000000 := by simp; omega
    have hcyc : cycG g = [rev.drop k2, rev.take k2].flatten := by
      simp only [cycG, hend]
      rw [if_neg h0, hk]
      simp only [Int.toNat_natCast, ← hrevE, turnL, hk2, List.flatten_cons, List.flatten_nil, List.append_nil]
    repeat' (first | ((first | ((with_reducible (first | apply oA | apply oB)); exact rfl; intro K hK) | (refine hK _ ?_; clear hK K) | ((with_reducible (first | apply oG | apply oH)); iterate 3 exact rfl) | ((with_reducible apply oI); (iterate 2 exact rfl); intro K hK) | (with_reducible (first | apply wI | apply wJ | apply wK))); try simp only [go_sem, simprocAttr, hb1, hb2, hb3, hk, hk2, ← List.map_take, ← List.map_drop, List.take_length, ← hrevE, vL]) | (show awp _ (.seq (.region 20 _ _) _) _ _; (refine awp_frz hX 75 rfl (.inr rfl) ?_; simp only [go_sem, simprocAttr, hb1, hb2, hb3, hk, hk2, ← List.map_take, ← List.map_drop, List.take_length, ← hrevE, vL])) | (with_reducible (first | apply oC | apply oJ | exact oK | apply wA | apply wB | apply wC hX hC | apply wD hX hC | apply wE hX hC hmix | apply wF hX hC hmix | apply wG | apply wH | apply And.intro)) | ((with_reducible refine oD ?_ ?_); first | fail | kernel_rfl) | ((with_reducible (first | apply oE | apply oF)); (iterate 3 exact rfl); all_goals (intro h; first | (exact absurd h (by decide)) | ((try simp only [go_sem, simprocAttr, hb1, hb2, hb3, hk, hk2, ← List.map_take, ← List.map_drop, List.take_length, ← hrevE, vL] at h); (try with_reducible intro K hK); simp only [go_sem, simprocAttr, hb1, hb2, hb3, hk, hk2, ← List.map_take, ← List.map_drop, List.take_length, ← hrevE, vL]))) | ((first | ((with_reducible apply wL); exact rfl) | ((with_reducible apply wM); exact rfl)); all_goals (try ((with_reducible intro h); first | (exact absurd h (by decide)) | (try simp only [go_sem, simprocAttr, hb1, hb2, hb3, hk, hk2, ← List.map_take, ← List.map_drop, List.take_length, ← hrevE, vL] at h)))) | omega | ((first | first | refine acall_simple hX hC hP (run_spec g hm) rfl rfl rfl (by simp only [go_sem, simprocAttr, hb1, hb2, hb3, hk, hk2, ← List.map_take, ← List.map_drop, List.take_length, ← hrevE, vL]) rfl ?_ | refine acall_simple hX hC hP (indexFuncI_spec Robs.nil _ [] _ cyc1_spec (wts g (runG g)) hlw) rfl rfl rfl (by simp only [go_sem, simprocAttr, hb1, hb2, hb3, hk, hk2, ← List.map_take, ← List.map_drop, List.take_length, ← hrevE, vL]) rfl ?_ | (refine acall_lend hX hC hP (containsI_spec way a hlway) rfl rfl rfl ?_ ?_ ?_ ?_; iterate 3 (focus (simp only [go_sem, simprocAttr, hb1, hb2, hb3, hk, hk2, ← List.map_take, ← List.map_drop, List.take_length, ← hrevE, vL]; done))) | (refine acall_lend hX hC hP (indexI_spec way a hlway) rfl rfl rfl ?_ ?_ ?_ ?_; iterate 3 (focus (simp only [go_sem, simprocAttr, hb1, hb2, hb3, hk, hk2, ← List.map_take, ← List.map_drop, List.take_length, ← hrevE, vL]; done))) | (refine acall_gen hX hC hP [(10000, 75)] (reverse_spec (way.drop k) hlr) rfl rfl rfl ?_ ?_ ?_ ?_ ?_ ?_ ?_ ?_ ?_ ?_ ?_ ?_ ?_ ?_; (focus (simp only [go_sem, simprocAttr, hb1, hb2, hb3, hk, hk2, ← List.map_take, ← List.map_drop, List.take_length, ← hrevE, vL]; done)); (iterate 12 (focus (simp [go_sem, simprocAttr, hb1, hb2, hb3, hk, hk2, ← List.map_take, ← List.map_drop, List.take_length, ← hrevE, vL]; done))); simp only [go_sem, simprocAttr, hb1, hb2, hb3, hk, hk2, ← List.map_take, ← List.map_drop, List.take_length, ← hrevE, vL, List.map_cons, List.map_nil]) | (refine acall_lend hX hC hP (min_spec rev hrev0 hrev) rfl rfl rfl ?_ ?_ ?_ ?_; iterate 3 (focus (simp only [go_sem, simprocAttr, hb1, hb2, hb3, hk, hk2, ← List.map_take, ← List.map_drop, List.take_length, ← hrevE, vL]; done))) | (refine acall_lend hX hC hP (indexI_spec rev (minL rev) hrev') rfl rfl rfl ?_ ?_ ?_ ?_; iterate 3 (focus (simp only [go_sem, simprocAttr, hb1, hb2, hb3, hk, hk2, ← List.map_take, ← List.map_drop, List.take_length, ← hrevE, vL]; done))) | (refine acall_look hX hC hP (concat_spec [rev.drop k2, rev.take k2] hc1 hc2 hc3) rfl rfl rfl ?_ ?_ rfl ?_; iterate 2 (focus (simp only [go_sem, simprocAttr, hb1, hb2, hb3, hk, hk2, ← List.map_take, ← List.map_drop, List.take_length, ← hrevE, vL]; done)))); try simp only [go_sem, simprocAttr, hb1, hb2, hb3, hk, hk2, ← List.map_take, ← List.map_drop, List.take_length, ← hrevE, vL]) | (intro h))
    rw [hcyc]
  · have hb2 : decide ((a : Int) ∈ way) = false := decide_eq_false hmem
    have hv := vwl_getD (f := (·.2)) han
    have hl1 : (inL g a).length ≤ g.es.length := endsK_len
    repeat' (first | ((first | ((with_reducible (first | apply oA | apply oB)); exact rfl; intro K hK) | (refine hK _ ?_; clear hK K) | ((with_reducible (first | apply oG | apply oH)); iterate 3 exact rfl) | ((with_reducible apply oI); (iterate 2 exact rfl); intro K hK) | (with_reducible (first | apply wI | apply wJ | apply wK))); try simp only [go_sem, simprocAttr, hb1, hb2, hv, vw_eq]) | fail | (with_reducible (first | apply oC | apply oJ | exact oK | apply wA | apply wB | apply wC hX hC | apply wD hX hC | apply wE hX hC hmix | apply wF hX hC hmix | apply wG | apply wH | apply And.intro)) | ((with_reducible refine oD ?_ ?_); first | fail | kernel_rfl) | ((with_reducible (first | apply oE | apply oF)); (iterate 3 exact rfl); all_goals (intro h; first | (exact absurd h (by decide)) | ((try simp only [go_sem, simprocAttr, hb1, hb2, hv, vw_eq] at h); (try with_reducible intro K hK); simp only [go_sem, simprocAttr, hb1, hb2, hv, vw_eq]))) | ((first | ((with_reducible apply wL); exact rfl) | ((with_reducible apply wM); exact rfl)); all_goals (try ((with_reducible intro h); first | (exact absurd h (by decide)) | (try simp only [go_sem, simprocAttr, hb1, hb2, hv, vw_eq] at h)))) | omega | ((first | first | refine acall_simple hX hC hP (run_spec g hm) rfl rfl rfl (by simp only [go_sem, simprocAttr, hb1, hb2, hv, vw_eq]) rfl ?_ | refine acall_simple hX hC hP (indexFuncI_spec Robs.nil _ [] _ cyc1_spec (wts g (runG g)) hlw) rfl rfl rfl (by simp only [go_sem, simprocAttr, hb1, hb2, hv, vw_eq]) rfl ?_ | (refine acall_lend hX hC hP (containsI_spec way a hlway) rfl rfl rfl ?_ ?_ ?_ ?_; iterate 3 (focus (simp only [go_sem, simprocAttr, hb1, hb2, hv, vw_eq]; done))) | (refine acall_lend hX hC hP (indexI_spec way a hlway) rfl rfl rfl ?_ ?_ ?_ ?_; iterate 3 (focus (simp only [go_sem, simprocAttr, hb1, hb2, hv, vw_eq]; done))) | (refine acall_gen hX hC hP [(10000, 75)] (reverse_spec (way.drop k) hlr) rfl rfl rfl ?_ ?_ ?_ ?_ ?_ ?_ ?_ ?_ ?_ ?_ ?_ ?_ ?_ ?_; (focus (simp only [go_sem, simprocAttr, hb1, hb2, hv, vw_eq]; done)); (iterate 12 (focus (simp [go_sem, simprocAttr, hb1, hb2, hv, vw_eq]; done))); simp only [go_sem, simprocAttr, hb1, hb2, hv, vw_eq, List.map_cons, List.map_nil]) | (refine acall_lend hX hC hP (min_spec rev hrev0 hrev) rfl rfl rfl ?_ ?_ ?_ ?_; iterate 3 (focus (simp only [go_sem, simprocAttr, hb1, hb2, hv, vw_eq]; done))) | (refine acall_lend hX hC hP (indexI_spec rev (minL rev) hrev') rfl rfl rfl ?_ ?_ ?_ ?_; iterate 3 (focus (simp only [go_sem, simprocAttr, hb1, hb2, hv, vw_eq]; done))) | (refine acall_look hX hC hP (concat_spec [rev.drop k2, rev.take k2] hc1 hc2 hc3) rfl rfl rfl ?_ ?_ rfl ?_; iterate 2 (focus (simp only [go_sem, simprocAttr, hb1, hb2, hv, vw_eq]; done)))); try simp only [go_sem, simprocAttr, hb1, hb2, hv, vw_eq]) | (intro h))
    refine awp_loopP (fun j : Nat => j ≤ (inL g a).length) (fun j => ⟨[(39, eN j), (38, eN (inL g a).length), (37, .d (sI (inL g a))), (7, eN (backF g (wts g (runG g)) ((inL g a).take j))), (0, .d (vw' g)), (4, .d (sI (wts g (runG g)))), (6, .ref 30)], [(30, .own 3 1 ((way ++ [(a : Int)]).map rI))]⟩) (fun j => (inL g a).length - j) 0 (by simp) ?_ ?_
    · refine Le.of ?_ ?_ <;> simp [go_sem, simprocAttr, hb1, hb2, hv, vw_eq, inL, rI, backF]
    rintro j hj
    rcases Nat.lt_or_ge j (inL g a).length with hlt | hge
    · have hb4 : decide ((j : Int) < ((inL g a).length : Int)) = true := decide_eq_true (by omega)
      obtain ⟨i, hi, hil, hit⟩ := inL_mem (List.getElem_mem hlt)
      have hi1 : (inL g a)[j]? = some (i : Int) := by rw [List.getElem?_eq_getElem hlt, hi]
      have hi2 : (inL g a).getD j 0 = (i : Int) := by rw [List.getD_eq_getElem?_getD, hi1]; rfl
      obtain ⟨⟨he0, he1⟩, _⟩ := mayB_e hm hil
      have hstep : backF g (wts g (runG g)) ((inL g a).take (j + 1)) = backS g (wts g (runG g)) (backF g (wts g (runG g)) ((inL g a).take j)) i := fold_next hi1
      rw [backS_eq] at hstep
      repeat' (first | ((first | ((with_reducible (first | apply oA | apply oB)); exact rfl; intro K hK) | (refine hK _ ?_; clear hK K) | ((with_reducible (first | apply oG | apply oH)); iterate 3 exact rfl) | ((with_reducible apply oI); (iterate 2 exact rfl); intro K hK) | (with_reducible (first | apply wI | apply wJ | apply wK))); try simp only [go_sem, simprocAttr, hb4, hi2, wts_length]) | fail | (with_reducible (first | apply oC | apply oJ | exact oK | apply wA | apply wB | apply wC hX hC | apply wD hX hC | apply wE hX hC hmix | apply wF hX hC hmix | apply wG | apply wH | apply And.intro)) | ((with_reducible refine oD ?_ ?_); first | fail | kernel_rfl) | ((with_reducible (first | apply oE | apply oF)); (iterate 3 exact rfl); all_goals (intro h; first | (exact absurd h (by decide)) | ((try simp only [go_sem, simprocAttr, hb4, hi2, wts_length] at h); (try with_reducible intro K hK); simp only [go_sem, simprocAttr, hb4, hi2, wts_length]))) | ((first | ((with_reducible apply wL); exact rfl) | ((with_reducible apply wM); exact rfl)); all_goals (try ((with_reducible intro h); first | (exact absurd h (by decide)) | (try simp only [go_sem, simprocAttr, hb4, hi2, wts_length] at h)))) | omega | ((first | first | refine acall_simple hX hC hP (run_spec g hm) rfl rfl rfl (by simp only [go_sem, simprocAttr, hb4, hi2, wts_length]) rfl ?_ | refine acall_simple hX hC hP (indexFuncI_spec Robs.nil _ [] _ cyc1_spec (wts g (runG g)) hlw) rfl rfl rfl (by simp only [go_sem, simprocAttr, hb4, hi2, wts_length]) rfl ?_ | (refine acall_lend hX hC hP (containsI_spec way a hlway) rfl rfl rfl ?_ ?_ ?_ ?_; iterate 3 (focus (simp only [go_sem, simprocAttr, hb4, hi2, wts_length]; done))) | (refine acall_lend hX hC hP (indexI_spec way a hlway) rfl rfl rfl ?_ ?_ ?_ ?_; iterate 3 (focus (simp only [go_sem, simprocAttr, hb4, hi2, wts_length]; done))) | (refine acall_gen hX hC hP [(10000, 75)] (reverse_spec (way.drop k) hlr) rfl rfl rfl ?_ ?_ ?_ ?_ ?_ ?_ ?_ ?_ ?_ ?_ ?_ ?_ ?_ ?_; (focus (simp only [go_sem, simprocAttr, hb4, hi2, wts_length]; done)); (iterate 12 (focus (simp [go_sem, simprocAttr, hb4, hi2, wts_length]; done))); simp only [go_sem, simprocAttr, hb4, hi2, wts_length, List.map_cons, List.map_nil]) | (refine acall_lend hX hC hP (min_spec rev hrev0 hrev) rfl rfl rfl ?_ ?_ ?_ ?_; iterate 3 (focus (simp only [go_sem, simprocAttr, hb4, hi2, wts_length]; done))) | (refine acall_lend hX hC hP (indexI_spec rev (minL rev) hrev') rfl rfl rfl ?_ ?_ ?_ ?_; iterate 3 (focus (simp only [go_sem, simprocAttr, hb4, hi2, wts_length]; done))) | (refine acall_look hX hC hP (concat_spec [rev.drop k2, rev.take k2] hc1 hc2 hc3) rfl rfl rfl ?_ ?_ rfl ?_; iterate 2 (focus (simp only [go_sem, simprocAttr, hb4, hi2, wts_length]; done)))); try simp only [go_sem, simprocAttr, hb4, hi2, wts_length]) | (intro h))
      all_goals (refine ⟨j + 1, by omega, ?_, by omega⟩; first | rw [if_pos (by omega)] at hstep | rw [if_neg (by omega)] at hstep)
      all_goals (refine Le.of ?_ ?_ <;> simp [go_sem, simprocAttr, hb4, hi2, wts_length, hstep])
    · have hb4 : decide ((j : Int) < ((inL g a).length : Int)) = false := decide_eq_false (by omega)
      have ht : (inL g a).take j = inL g a := List.take_of_length_le (by omega)
      repeat' (first | ((first | ((with_reducible (first | apply oA | apply oB)); exact rfl; intro K hK) | (refine hK _ ?_; clear hK K) | ((with_reducible (first | apply oG | apply oH)); iterate 3 exact rfl) | ((with_reducible apply oI); (iterate 2 exact rfl); intro K hK) | (with_reducible (first | apply wI | apply wJ | apply wK))); try simp only [go_sem, simprocAttr, hb4, ht]) | fail | (with_reducible (first | apply oC | apply oJ | exact oK | apply wA | apply wB | apply wC hX hC | apply wD hX hC | apply wE hX hC hmix | apply wF hX hC hmix | apply wG | apply wH | apply And.intro)) | ((with_reducible refine oD ?_ ?_); first | fail | kernel_rfl) | ((with_reducible (first | apply oE | apply oF)); (iterate 3 exact rfl); all_goals (intro h; first | (exact absurd h (by decide)) | ((try simp only [go_sem, simprocAttr, hb4, ht] at h); (try with_reducible intro K hK); simp only [go_sem, simprocAttr, hb4, ht]))) | ((first | ((with_reducible apply wL); exact rfl) | ((with_reducible apply wM); exact rfl)); all_goals (try ((with_reducible intro h); first | (exact absurd h (by decide)) | (try simp only [go_sem, simprocAttr, hb4, ht] at h)))) | omega | ((first | first | refine acall_simple hX hC hP (run_spec g hm) rfl rfl rfl (by simp only [go_sem, simprocAttr, hb4, ht]) rfl ?_ | refine acall_simple hX hC hP (indexFuncI_spec Robs.nil _ [] _ cyc1_spec (wts g (runG g)) hlw) rfl rfl rfl (by simp only [go_sem, simprocAttr, hb4, ht]) rfl ?_ | (refine acall_lend hX hC hP (containsI_spec way a hlway) rfl rfl rfl ?_ ?_ ?_ ?_; iterate 3 (focus (simp only [go_sem, simprocAttr, hb4, ht]; done))) | (refine acall_lend hX hC hP (indexI_spec way a hlway) rfl rfl rfl ?_ ?_ ?_ ?_; iterate 3 (focus (simp only [go_sem, simprocAttr, hb4, ht]; done))) | (refine acall_gen hX hC hP [(10000, 75)] (reverse_spec (way.drop k) hlr) rfl rfl rfl ?_ ?_ ?_ ?_ ?_ ?_ ?_ ?_ ?_ ?_ ?_ ?_ ?_ ?_; (focus (simp only [go_sem, simprocAttr, hb4, ht]; done)); (iterate 12 (focus (simp [go_sem, simprocAttr, hb4, ht]; done))); simp only [go_sem, simprocAttr, hb4, ht, List.map_cons, List.map_nil]) | (refine acall_lend hX hC hP (min_spec rev hrev0 hrev) rfl rfl rfl ?_ ?_ ?_ ?_; iterate 3 (focus (simp only [go_sem, simprocAttr, hb4, ht]; done))) | (refine acall_lend hX hC hP (indexI_spec rev (minL rev) hrev') rfl rfl rfl ?_ ?_ ?_ ?_; iterate 3 (focus (simp only [go_sem, simprocAttr, hb4, ht]; done))) | (refine acall_look hX hC hP (concat_spec [rev.drop k2, rev.take k2] hc1 hc2 hc3) rfl rfl rfl ?_ ?_ rfl ?_; iterate 2 (focus (simp only [go_sem, simprocAttr, hb4, ht]; done)))); try simp only [go_sem, simprocAttr, hb4, ht]) | (intro h))
      refine ⟨(way ++ [(a : Int)], backG g (wts g (runG g)) a), ⟨hway.next han hmem, backF_range hm _ _ _ (.inl rfl) inL_ok, ?_⟩, ?_, ?_⟩
      · simp only
        rw [← hrun, left_app han hmem]
        simp only [wayF]
        rw [if_neg (by intro h; rcases h with h | h; omega; exact hmem h)]
      · refine Le.of ?_ ?_ <;> simp [go_sem, simprocAttr, hb4, ht, backG]
      · have := left_app han hmem; simp only; omega
end Go.Ab
end
section
namespace Go.Ab
open Go.Proofs
attribute [local congr] ACall.congr
set_option maxRecDepth 10000

def eF (f : Int × Int × List Int) : AV := .agg [eN f.1, eN f.2.1, .d (sI f.2.2)]
attribute [go_sem] eF
def loopI (g : Gr) : Int := findI (fun e : Edge => decide (e.1 = e.2)) g.es
def twiceB (g : Gr) (i : Nat) : Bool := decide (g.es.getD i (0, 0) ∈ g.es.take i)
def twiceI (g : Gr) : Int := findI (twiceB g) (List.range g.es.length)
/-- The fault, when the cycle and the sources are known. -/
def chkOf (g : Gr) (cyc bare : List Int) : Int × Int × List Int :=
  if mayB g = false then (1, 0, []) else
  if 0 ≤ loopI g then (13, loopI g, []) else
  if 0 ≤ twiceI g then (14, twiceI g, []) else
  if 0 < cyc.length then (15, 0, cyc) else
  if 1 < bare.length then (16, 0, bare.take 2) else (0, 0, [])
def chkG (g : Gr) : Int × Int × List Int := chkOf g (cycG g) (bareG (·.2) g)
theorem chk1_spec (e : Edge) : Spec Try.prog 72 (Args [eE e]) [] (eB (decide (e.1 = e.2))) [] := by
  (refine Spec.intro (C := T.cfg [] []) (rs := [.t 2]) (T.cfg_ok _ _) Try.func72 rfl rfl Try.ntmps72 Try.results72 (by simp [AObj.isNest]) (by simp [AObj.isNest]) (by kernel_rfl) ?_; intro X hX hP hC hXn hXm vals hA; refine ⟨_, by simp, hA, ?_⟩; have hmix : X.P.follows .mixedOrders = true := (by rw [hP]; exact T.mixed); clear hXn hXm)
  repeat' (first | ((first | ((with_reducible (first | apply oA | apply oB)); exact rfl; intro K hK) | (refine hK _ ?_; clear hK K) | ((with_reducible (first | apply oG | apply oH)); iterate 3 exact rfl) | ((with_reducible apply oI); (iterate 2 exact rfl); intro K hK) | (with_reducible (first | apply wI | apply wJ | apply wK))); try simp only [go_sem, simprocAttr]) | fail | (with_reducible (first | apply oC | apply oJ | exact oK | apply wA | apply wB | apply wC hX hC | apply wD hX hC | apply wE hX hC hmix | apply wF hX hC hmix | apply wG | apply wH | apply And.intro)) | ((with_reducible refine oD ?_ ?_); first | fail | kernel_rfl) | ((with_reducible (first | apply oE | apply oF)); (iterate 3 exact rfl); all_goals (intro h; first | (exact absurd h (by decide)) | ((try simp only [go_sem, simprocAttr] at h); (try with_reducible intro K hK); simp only [go_sem, simprocAttr]))) | ((first | ((with_reducible apply wL); exact rfl) | ((with_reducible apply wM); exact rfl)); all_goals (try ((with_reducible intro h); first | (exact absurd h (by decide)) | (try simp only [go_sem, simprocAttr] at h)))) | omega | ((first | fail); try simp only [go_sem, simprocAttr]) | (intro h))
theorem range_getD {n k : Nat} (h : k < n) (d : Nat) : (List.range n).getD k d = k := by
  simp [List.getD_eq_getElem?_getD, List.getElem?_range h]
theorem check_spec (g : Gr) (hl : g.es.length ≤ 1000) : Spec Try.prog 34 (Args [eG g]) [] (eF (chkG g)) [] := by
  have hl : g.es.length ≤ 9223372036854775807 := by omega
  (refine Spec.intro (C := T.cfg [] []) (rs := [.c 2 34]) (T.cfg_ok _ _) Try.func34 rfl rfl Try.ntmps34 Try.results34 (by simp [AObj.isNest]) (by simp [AObj.isNest]) (by kernel_rfl) ?_; intro X hX hP hC hXn hXm vals hA; refine ⟨_, by simp, hA, ?_⟩; have hmix : X.P.follows .mixedOrders = true := (by rw [hP]; exact T.mixed); clear hXn hXm)
  cases hm : mayB g with
  | false =>
    repeat' (first | ((first | ((with_reducible (first | apply oA | apply oB)); exact rfl; intro K hK) | (refine hK _ ?_; clear hK K) | ((with_reducible (first | apply oG | apply oH)); iterate 3 exact rfl) | ((with_reducible apply oI); (iterate 2 exact rfl); intro K hK) | (with_reducible (first | apply wI | apply wJ | apply wK))); try simp only [go_sem, simprocAttr, hm]) | fail | (with_reducible (first | apply oC | apply oJ | exact oK | apply wA | apply wB | apply wC hX hC | apply wD hX hC | apply wE hX hC hmix | apply wF hX hC hmix | apply wG | apply wH | apply And.intro)) | ((with_reducible refine oD ?_ ?_); first | fail | kernel_rfl) | ((with_reducible (first | apply oE | apply oF)); (iterate 3 exact rfl); all_goals (intro h; first | (exact absurd h (by decide)) | ((try simp only [go_sem, simprocAttr, hm] at h); (try with_reducible intro K hK); simp only [go_sem, simprocAttr, hm]))) | ((first | ((with_reducible apply wL); exact rfl) | ((with_reducible apply wM); exact rfl)); all_goals (try ((with_reducible intro h); first | (exact absurd h (by decide)) | (try simp only [go_sem, simprocAttr, hm] at h)))) | omega | ((first | first | refine acall_simple hX hC hP (may_spec g hl) rfl rfl rfl (by simp only [go_sem, simprocAttr, hm]) rfl ?_ | refine acall_simple hX hC hP (indexFuncE_spec Robs.nil _ [] _ chk1_spec g.es hl) rfl rfl rfl (by simp only [go_sem, simprocAttr, hm]) rfl ?_ | refine acall_simple hX hC hP (of_spec g hm) rfl rfl rfl (by simp only [go_sem, simprocAttr, hm]) rfl ?_ | refine acall_simple hX hC hP (cycle_spec g hm) rfl rfl rfl (by simp only [go_sem, simprocAttr, hm]) rfl ?_ | refine acall_simple hX hC hP (sources_spec g hm) rfl rfl rfl (by simp only [go_sem, simprocAttr, hm]) rfl ?_ | refine acall_simple hX hC hP (containsE_spec (g.es.take k) (g.es.getD k (0, 0)) hlk) rfl rfl rfl (by simp only [go_sem, simprocAttr, hm]) rfl ?_); try simp only [go_sem, simprocAttr, hm]) | (intro h))
    all_goals simp [chkG, chkOf, hm]
  | true =>
  have hn := mayB_n hm
  by_cases hlo : 0 ≤ loopI g
  · have hb1 : decide (0 ≤ findI (fun p : Edge => decide (p.1 = p.2)) g.es) = true := decide_eq_true hlo
    repeat' (first | ((first | ((with_reducible (first | apply oA | apply oB)); exact rfl; intro K hK) | (refine hK _ ?_; clear hK K) | ((with_reducible (first | apply oG | apply oH)); iterate 3 exact rfl) | ((with_reducible apply oI); (iterate 2 exact rfl); intro K hK) | (with_reducible (first | apply wI | apply wJ | apply wK))); try simp only [go_sem, simprocAttr, hm, hb1]) | fail | (with_reducible (first | apply oC | apply oJ | exact oK | apply wA | apply wB | apply wC hX hC | apply wD hX hC | apply wE hX hC hmix | apply wF hX hC hmix | apply wG | apply wH | apply And.intro)) | ((with_reducible refine oD ?_ ?_); first | fail | kernel_rfl) | ((with_reducible (first | apply oE | apply oF)); (iterate 3 exact rfl); all_goals (intro h; first | (exact absurd h (by decide)) | ((try simp only [go_sem, simprocAttr, hm, hb1] at h); (try with_reducible intro K hK); simp only [go_sem, simprocAttr, hm, hb1]))) | ((first | ((with_reducible apply wL); exact rfl) | ((with_reducible apply wM); exact rfl)); all_goals (try ((with_reducible intro h); first | (exact absurd h (by decide)) | (try simp only [go_sem, simprocAttr, hm, hb1] at h)))) | omega | ((first | first | refine acall_simple hX hC hP (may_spec g hl) rfl rfl rfl (by simp only [go_sem, simprocAttr, hm, hb1]) rfl ?_ | refine acall_simple hX hC hP (indexFuncE_spec Robs.nil _ [] _ chk1_spec g.es hl) rfl rfl rfl (by simp only [go_sem, simprocAttr, hm, hb1]) rfl ?_ | refine acall_simple hX hC hP (of_spec g hm) rfl rfl rfl (by simp only [go_sem, simprocAttr, hm, hb1]) rfl ?_ | refine acall_simple hX hC hP (cycle_spec g hm) rfl rfl rfl (by simp only [go_sem, simprocAttr, hm, hb1]) rfl ?_ | refine acall_simple hX hC hP (sources_spec g hm) rfl rfl rfl (by simp only [go_sem, simprocAttr, hm, hb1]) rfl ?_ | refine acall_simple hX hC hP (containsE_spec (g.es.take k) (g.es.getD k (0, 0)) hlk) rfl rfl rfl (by simp only [go_sem, simprocAttr, hm, hb1]) rfl ?_); try simp only [go_sem, simprocAttr, hm, hb1]) | (intro h))
    all_goals (
      have hc : chkG g = (13, loopI g, []) := by
        simp only [chkG, chkOf]; rw [if_neg (by simp [hm]), if_pos hlo]
      rw [hc] <;> rfl)
  have hb1 : decide (0 ≤ findI (fun p : Edge => decide (p.1 = p.2)) g.es) = false := decide_eq_false hlo
  repeat' (first | ((first | ((with_reducible (first | apply oA | apply oB)); exact rfl; intro K hK) | (refine hK _ ?_; clear hK K) | ((with_reducible (first | apply oG | apply oH)); iterate 3 exact rfl) | ((with_reducible apply oI); (iterate 2 exact rfl); intro K hK) | (with_reducible (first | apply wI | apply wJ | apply wK))); try simp only [go_sem, simprocAttr, hm, hb1]) | fail | (with_reducible (first | apply oC | apply oJ | exact oK | apply wA | apply wB | apply wC hX hC | apply wD hX hC | apply wE hX hC hmix | apply wF hX hC hmix | apply wG | apply wH | apply And.intro)) | ((with_reducible refine oD ?_ ?_); first | fail | kernel_rfl) | ((with_reducible (first | apply oE | apply oF)); (iterate 3 exact rfl); all_goals (intro h; first | (exact absurd h (by decide)) | ((try simp only [go_sem, simprocAttr, hm, hb1] at h); (try with_reducible intro K hK); simp only [go_sem, simprocAttr, hm, hb1]))) | ((first | ((with_reducible apply wL); exact rfl) | ((with_reducible apply wM); exact rfl)); all_goals (try ((with_reducible intro h); first | (exact absurd h (by decide)) | (try simp only [go_sem, simprocAttr, hm, hb1] at h)))) | omega | ((first | first | refine acall_simple hX hC hP (may_spec g hl) rfl rfl rfl (by simp only [go_sem, simprocAttr, hm, hb1]) rfl ?_ | refine acall_simple hX hC hP (indexFuncE_spec Robs.nil _ [] _ chk1_spec g.es hl) rfl rfl rfl (by simp only [go_sem, simprocAttr, hm, hb1]) rfl ?_ | refine acall_simple hX hC hP (of_spec g hm) rfl rfl rfl (by simp only [go_sem, simprocAttr, hm, hb1]) rfl ?_ | refine acall_simple hX hC hP (cycle_spec g hm) rfl rfl rfl (by simp only [go_sem, simprocAttr, hm, hb1]) rfl ?_ | refine acall_simple hX hC hP (sources_spec g hm) rfl rfl rfl (by simp only [go_sem, simprocAttr, hm, hb1]) rfl ?_ | refine acall_simple hX hC hP (containsE_spec (g.es.take k) (g.es.getD k (0, 0)) hlk) rfl rfl rfl (by simp only [go_sem, simprocAttr, hm, hb1]) rfl ?_); try simp only [go_sem, simprocAttr, hm, hb1]) | (intro h))
  refine awp_loopP (fun k : Nat => k ≤ g.es.length ∧ ∀ j, j < k → twiceB g j = false) (fun k => ⟨[(23, eN k), (22, eN g.es.length), (21, .d (sE g.es)), (1, .ptr 1 0), (2, .ptr 2 0)], [(1, .box [eN g.n, .d (sE g.es)]), (2, .box [eN 0, eN 0, .nil 3])]⟩) (fun k => g.es.length - k) 0 (by simp) ?_ ?_
  · (refine Le.of ?_ ?_ <;> simp [go_sem, simprocAttr, hm, hb1])
  rintro k ⟨hk, htw⟩
  rcases Nat.lt_or_ge k g.es.length with hlt | hge
  · have hb2 : decide ((k : Int) < (g.es.length : Int)) = true := decide_eq_true (by omega)
    have hlk : (g.es.take k).length ≤ 9223372036854775807 := by rw [List.length_take]; omega
    repeat' (first | ((first | ((with_reducible (first | apply oA | apply oB)); exact rfl; intro K hK) | (refine hK _ ?_; clear hK K) | ((with_reducible (first | apply oG | apply oH)); iterate 3 exact rfl) | ((with_reducible apply oI); (iterate 2 exact rfl); intro K hK) | (with_reducible (first | apply wI | apply wJ | apply wK))); try simp only [go_sem, simprocAttr, hm, hb1, hb2, ← List.map_take]) | fail | (with_reducible (first | apply oC | apply oJ | exact oK | apply wA | apply wB | apply wC hX hC | apply wD hX hC | apply wE hX hC hmix | apply wF hX hC hmix | apply wG | apply wH | apply And.intro)) | ((with_reducible refine oD ?_ ?_); first | fail | kernel_rfl) | ((with_reducible (first | apply oE | apply oF)); (iterate 3 exact rfl); all_goals (intro h; first | (exact absurd h (by decide)) | ((try simp only [go_sem, simprocAttr, hm, hb1, hb2, ← List.map_take] at h); (try with_reducible intro K hK); simp only [go_sem, simprocAttr, hm, hb1, hb2, ← List.map_take]))) | ((first | ((with_reducible apply wL); exact rfl) | ((with_reducible apply wM); exact rfl)); all_goals (try ((with_reducible intro h); first | (exact absurd h (by decide)) | (try simp only [go_sem, simprocAttr, hm, hb1, hb2, ← List.map_take] at h)))) | omega | ((first | first | refine acall_simple hX hC hP (may_spec g hl) rfl rfl rfl (by simp only [go_sem, simprocAttr, hm, hb1, hb2, ← List.map_take]) rfl ?_ | refine acall_simple hX hC hP (indexFuncE_spec Robs.nil _ [] _ chk1_spec g.es hl) rfl rfl rfl (by simp only [go_sem, simprocAttr, hm, hb1, hb2, ← List.map_take]) rfl ?_ | refine acall_simple hX hC hP (of_spec g hm) rfl rfl rfl (by simp only [go_sem, simprocAttr, hm, hb1, hb2, ← List.map_take]) rfl ?_ | refine acall_simple hX hC hP (cycle_spec g hm) rfl rfl rfl (by simp only [go_sem, simprocAttr, hm, hb1, hb2, ← List.map_take]) rfl ?_ | refine acall_simple hX hC hP (sources_spec g hm) rfl rfl rfl (by simp only [go_sem, simprocAttr, hm, hb1, hb2, ← List.map_take]) rfl ?_ | refine acall_simple hX hC hP (containsE_spec (g.es.take k) (g.es.getD k (0, 0)) hlk) rfl rfl rfl (by simp only [go_sem, simprocAttr, hm, hb1, hb2, ← List.map_take]) rfl ?_); try simp only [go_sem, simprocAttr, hm, hb1, hb2, ← List.map_take]) | (intro h))
    any_goals (
      have htI : twiceI g = (k : Int) := findI_at (d := 0) (by simpa using hlt) (fun j hj => by rw [range_getD (by omega)]; exact htw j hj) (by rw [range_getD hlt]; exact decide_eq_true h)
      have hc : chkG g = (14, twiceI g, []) := by
        simp only [chkG, chkOf]; rw [if_neg (by simp [hm]), if_neg hlo, if_pos (by omega)]
      rw [hc] <;> first | rfl | exact htI.symm)
    refine ⟨k + 1, ⟨by omega, fun j hj => ?_⟩, ?_, by omega⟩
    · by_cases hjk : j = k
      · subst hjk; exact decide_eq_false h
      · exact htw j (by omega)
    · (refine Le.of ?_ ?_ <;> simp [go_sem, simprocAttr, hm, hb1, hb2, ← List.map_take])
  · have hb2 : decide ((k : Int) < (g.es.length : Int)) = false := decide_eq_false (by omega)
    have htw' : ¬ 0 ≤ twiceI g := by
      have : twiceI g = -1 := findI_none 0 fun j hj => by
        rw [List.length_range] at hj
        rw [range_getD hj]; exact htw j (by omega)
      omega
    repeat' (first | ((first | ((with_reducible (first | apply oA | apply oB)); exact rfl; intro K hK) | (refine hK _ ?_; clear hK K) | ((with_reducible (first | apply oG | apply oH)); iterate 3 exact rfl) | ((with_reducible apply oI); (iterate 2 exact rfl); intro K hK) | (with_reducible (first | apply wI | apply wJ | apply wK))); try simp only [go_sem, simprocAttr, hm, hb1, hb2]) | fail | (with_reducible (first | apply oC | apply oJ | exact oK | apply wA | apply wB | apply wC hX hC | apply wD hX hC | apply wE hX hC hmix | apply wF hX hC hmix | apply wG | apply wH | apply And.intro)) | ((with_reducible refine oD ?_ ?_); first | fail | kernel_rfl) | ((with_reducible (first | apply oE | apply oF)); (iterate 3 exact rfl); all_goals (intro h; first | (exact absurd h (by decide)) | ((try simp only [go_sem, simprocAttr, hm, hb1, hb2] at h); (try with_reducible intro K hK); simp only [go_sem, simprocAttr, hm, hb1, hb2]))) | ((first | ((with_reducible apply wL); exact rfl) | ((with_reducible apply wM); exact rfl)); all_goals (try ((with_reducible intro h); first | (exact absurd h (by decide)) | (try simp only [go_sem, simprocAttr, hm, hb1, hb2] at h)))) | omega | ((first | first | refine acall_simple hX hC hP (may_spec g hl) rfl rfl rfl (by simp only [go_sem, simprocAttr, hm, hb1, hb2]) rfl ?_ | refine acall_simple hX hC hP (indexFuncE_spec Robs.nil _ [] _ chk1_spec g.es hl) rfl rfl rfl (by simp only [go_sem, simprocAttr, hm, hb1, hb2]) rfl ?_ | refine acall_simple hX hC hP (of_spec g hm) rfl rfl rfl (by simp only [go_sem, simprocAttr, hm, hb1, hb2]) rfl ?_ | refine acall_simple hX hC hP (cycle_spec g hm) rfl rfl rfl (by simp only [go_sem, simprocAttr, hm, hb1, hb2]) rfl ?_ | refine acall_simple hX hC hP (sources_spec g hm) rfl rfl rfl (by simp only [go_sem, simprocAttr, hm, hb1, hb2]) rfl ?_ | refine acall_simple hX hC hP (containsE_spec (g.es.take k) (g.es.getD k (0, 0)) hlk) rfl rfl rfl (by simp only [go_sem, simprocAttr, hm, hb1, hb2]) rfl ?_); try simp only [go_sem, simprocAttr, hm, hb1, hb2]) | (intro h))
    all_goals (
      have hc : chkG g = if 0 < (cycG g).length then (15, 0, cycG g) else if 1 < (bareG (·.2) g).length then (16, 0, (bareG (·.2) g).take 2) else (0, 0, []) := by
        simp only [chkG, chkOf]; rw [if_neg (by simp [hm]), if_neg hlo, if_neg htw']
      first | rw [if_pos (by omega)] at hc | (rw [if_neg (by omega)] at hc; first | rw [if_pos (by omega)] at hc | rw [if_neg (by omega)] at hc)
      rw [hc] <;> first | rfl | simp only [List.map_take])
end Go.Ab
end
section
namespace Go.Ab
open Go.Proofs
attribute [local congr] ACall.congr
set_option maxRecDepth 10000

theorem has_spec (ps : List Int) (x : Int) (hl : ps.length ≤ 9223372036854775807) :
    Spec Try.prog 135 (Args [.d (sI ps), eN x]) [] (eN (idxI ps x)) [] := by
  (refine Spec.intro (C := T.cfg [] []) (rs := [.t 4]) (T.cfg_ok _ _) Try.func135 rfl rfl Try.ntmps135 Try.results135 (by simp [AObj.isNest]) (by simp [AObj.isNest]) (by kernel_rfl) ?_; intro X hX hP hC hXn hXm vals hA; refine ⟨_, by simp, hA, ?_⟩; have hmix : X.P.follows .mixedOrders = true := (by rw [hP]; exact T.mixed); clear hXn hXm)
  repeat' (first | ((first | ((with_reducible (first | apply oA | apply oB)); exact rfl; intro K hK) | (refine hK _ ?_; clear hK K) | ((with_reducible (first | apply oG | apply oH)); iterate 3 exact rfl) | ((with_reducible apply oI); (iterate 2 exact rfl); intro K hK) | (with_reducible (first | apply wI | apply wJ | apply wK))); try simp only [go_sem, simprocAttr]) | fail | (with_reducible (first | apply oC | apply oJ | exact oK | apply wA | apply wB | apply wC hX hC | apply wD hX hC | apply wE hX hC hmix | apply wF hX hC hmix | apply wG | apply wH | apply And.intro)) | ((with_reducible refine oD ?_ ?_); first | fail | kernel_rfl) | ((with_reducible (first | apply oE | apply oF)); (iterate 3 exact rfl); all_goals (intro h; first | (exact absurd h (by decide)) | ((try simp only [go_sem, simprocAttr] at h); (try with_reducible intro K hK); simp only [go_sem, simprocAttr]))) | ((first | ((with_reducible apply wL); exact rfl) | ((with_reducible apply wM); exact rfl)); all_goals (try ((with_reducible intro h); first | (exact absurd h (by decide)) | (try simp only [go_sem, simprocAttr] at h)))) | omega | ((first | fail); try simp only [go_sem, simprocAttr]) | (intro h))
  refine awp_loopP (fun k : Nat => k ≤ ps.length ∧ ∀ j, j < k → decide (x = ps.getD j 0) = false) (fun k => ⟨[(0, .d (sI ps)), (1, eN x), (5, eN k)], []⟩) (fun k => ps.length - k) 0 (by simp) ?_ ?_
  · (refine ⟨leT_spec ?_, fun _ _ h => h⟩; simp [go_sem, simprocAttr])
  rintro k ⟨hk, hg⟩
  repeat' (first | ((first | ((with_reducible (first | apply oA | apply oB)); exact rfl; intro K hK) | (refine hK _ ?_; clear hK K) | ((with_reducible (first | apply oG | apply oH)); iterate 3 exact rfl) | ((with_reducible apply oI); (iterate 2 exact rfl); intro K hK) | (with_reducible (first | apply wI | apply wJ | apply wK))); try simp only [go_sem, simprocAttr]) | fail | (with_reducible (first | apply oC | apply oJ | exact oK | apply wA | apply wB | apply wC hX hC | apply wD hX hC | apply wE hX hC hmix | apply wF hX hC hmix | apply wG | apply wH | apply And.intro)) | ((with_reducible refine oD ?_ ?_); first | fail | kernel_rfl) | ((with_reducible (first | apply oE | apply oF)); (iterate 3 exact rfl); all_goals (intro h; first | (exact absurd h (by decide)) | ((try simp only [go_sem, simprocAttr] at h); (try with_reducible intro K hK); simp only [go_sem, simprocAttr]))) | ((first | ((with_reducible apply wL); exact rfl) | ((with_reducible apply wM); exact rfl)); all_goals (try ((with_reducible intro h); first | (exact absurd h (by decide)) | (try simp only [go_sem, simprocAttr] at h)))) | omega | ((first | fail); try simp only [go_sem, simprocAttr]) | (intro h))
  · exact (findI_at (by omega) hg (by simpa using h.symm)).symm
  · refine ⟨k + 1, ⟨by omega, fun j hj => ?_⟩, ?_, by omega⟩
    · by_cases hjk : j = k
      · subst hjk; exact fun e => h (Eq.symm e)
      · simpa using hg j (by omega)
    · (refine ⟨leT_spec ?_, fun _ _ h => h⟩; simp [go_sem, simprocAttr])
  · exact (findI_none 0 fun j hj => hg j (by omega)).symm

/-- The edges below k whose one end is x. -/
def endsZ (f : Edge → Int) (es : List Edge) (k : Nat) (x : Int) : List Int := ((List.range k).filter fun i => decide (f (es.getD i (0, 0)) = x)).map Int.ofNat
theorem endsK_eq (f : Edge → Int) (es : List Edge) (k x : Nat) : endsK f es k x = endsZ f es k (x : Int) := rfl
theorem endsZ_len {f : Edge → Int} {es : List Edge} {k : Nat} {x : Int} : (endsZ f es k x).length ≤ k := by
  simpa [endsZ] using List.length_filter_le (fun i => decide (f (es.getD i (0, 0)) = x)) (List.range k)
theorem endsZ_next {f : Edge → Int} {es : List Edge} {k : Nat} {x : Int} : endsZ f es (k + 1) x = endsZ f es k x ++ if f (es.getD k (0, 0)) = x then [(k : Int)] else [] := by
  simp only [endsZ, List.range_succ, List.filter_append, List.map_append, List.filter_cons, List.filter_nil]
  split <;> simp_all
def endF (b : Bool) (e : Edge) : Int := if b then e.1 else e.2
theorem ends_spec (g : Gr) (x : Int) (b : Bool) (hl : g.es.length ≤ 1000) : Spec Try.prog 49 (Args [eG g, eN x, eB b]) [] (.d (sI (endsZ (endF b) g.es g.es.length x))) [] := by
  (refine Spec.intro (C := T.cfg [] []) (rs := [.t 6]) (T.cfg_ok _ _) Try.func49 rfl rfl Try.ntmps49 Try.results49 (by simp [AObj.isNest]) (by simp [AObj.isNest]) (by kernel_rfl) ?_; intro X hX hP hC hXn hXm vals hA; refine ⟨_, by simp, hA, ?_⟩; have hmix : X.P.follows .mixedOrders = true := (by rw [hP]; exact T.mixed); clear hXn hXm)
  repeat' (first | ((first | ((with_reducible (first | apply oA | apply oB)); exact rfl; intro K hK) | (refine hK _ ?_; clear hK K) | ((with_reducible (first | apply oG | apply oH)); iterate 3 exact rfl) | ((with_reducible apply oI); (iterate 2 exact rfl); intro K hK) | (with_reducible (first | apply wI | apply wJ | apply wK))); try simp only [go_sem, simprocAttr]) | fail | (with_reducible (first | apply oC | apply oJ | exact oK | apply wA | apply wB | apply wC hX hC | apply wD hX hC | apply wE hX hC hmix | apply wF hX hC hmix | apply wG | apply wH | apply And.intro)) | ((with_reducible refine oD ?_ ?_); first | fail | kernel_rfl) | ((with_reducible (first | apply oE | apply oF)); (iterate 3 exact rfl); all_goals (intro h; first | (exact absurd h (by decide)) | ((try simp only [go_sem, simprocAttr] at h); (try with_reducible intro K hK); simp only [go_sem, simprocAttr]))) | ((first | ((with_reducible apply wL); exact rfl) | ((with_reducible apply wM); exact rfl)); all_goals (try ((with_reducible intro h); first | (exact absurd h (by decide)) | (try simp only [go_sem, simprocAttr] at h)))) | omega | ((first | fail); try simp only [go_sem, simprocAttr]) | (intro h))
  (refine awp_mv hX 7 9 45 (by simp only [go_sem, simprocAttr]) rfl (by first | exact .inl rfl | exact .inr rfl) (by decide) ?_; simp only [go_sem, simprocAttr])
  refine awp_loopP (fun k : Nat => k ≤ g.es.length) (fun k => ⟨[(1, eN x), (2, eB b), (3, .ptr 3 0), (8, eN k), (7, .ref 45)], [(3, .box [eN g.n, .d (sE g.es)]), (45, .tip 3 1 ((endsZ (endF b) g.es k x).map rI))]⟩) (fun k => g.es.length - k) 0 (by simp) ?_ ?_
  · refine Le.of ?_ ?_ <;> simp [go_sem, simprocAttr, endsZ]
  rintro k hk
  rcases Nat.lt_or_ge k g.es.length with hlt | hge
  · have hb : decide ((k : Int) < (g.es.length : Int)) = true := decide_eq_true (by omega)
    have hll := endsZ_len (f := endF b) (es := g.es) (k := k) (x := x)
    cases b
    · have hnx : endsZ (endF false) g.es (k + 1) x = endsZ (endF false) g.es k x ++ if (g.es.getD k (0, 0)).2 = x then [(k : Int)] else [] := endsZ_next
      repeat' (first | ((first | ((with_reducible (first | apply oA | apply oB)); exact rfl; intro K hK) | (refine hK _ ?_; clear hK K) | ((with_reducible (first | apply oG | apply oH)); iterate 3 exact rfl) | ((with_reducible apply oI); (iterate 2 exact rfl); intro K hK) | (with_reducible (first | apply wI | apply wJ | apply wK))); try simp only [go_sem, simprocAttr, hb]) | fail | (with_reducible (first | apply oC | apply oJ | exact oK | apply wA | apply wB | apply wC hX hC | apply wD hX hC | apply wE hX hC hmix | apply wF hX hC hmix | apply wG | apply wH | apply And.intro)) | ((with_reducible refine oD ?_ ?_); first | fail | kernel_rfl) | ((with_reducible (first | apply oE | apply oF)); (iterate 3 exact rfl); all_goals (intro h; first | (exact absurd h (by decide)) | ((try simp only [go_sem, simprocAttr, hb] at h); (try with_reducible intro K hK); simp only [go_sem, simprocAttr, hb]))) | ((first | ((with_reducible apply wL); exact rfl) | ((with_reducible apply wM); exact rfl)); all_goals (try ((with_reducible intro h); first | (exact absurd h (by decide)) | (try simp only [go_sem, simprocAttr, hb] at h)))) | omega | ((first | fail); try simp only [go_sem, simprocAttr, hb]) | (intro h))
      all_goals (first | rw [if_pos (by assumption)] at hnx | rw [if_neg (by assumption), List.append_nil] at hnx)
      all_goals (refine ⟨k + 1, by omega, ?_, by omega⟩; refine Le.of ?_ ?_ <;> simp [go_sem, simprocAttr, hb, hnx, rI])
    · have hnx : endsZ (endF true) g.es (k + 1) x = endsZ (endF true) g.es k x ++ if (g.es.getD k (0, 0)).1 = x then [(k : Int)] else [] := endsZ_next
      repeat' (first | ((first | ((with_reducible (first | apply oA | apply oB)); exact rfl; intro K hK) | (refine hK _ ?_; clear hK K) | ((with_reducible (first | apply oG | apply oH)); iterate 3 exact rfl) | ((with_reducible apply oI); (iterate 2 exact rfl); intro K hK) | (with_reducible (first | apply wI | apply wJ | apply wK))); try simp only [go_sem, simprocAttr, hb]) | fail | (with_reducible (first | apply oC | apply oJ | exact oK | apply wA | apply wB | apply wC hX hC | apply wD hX hC | apply wE hX hC hmix | apply wF hX hC hmix | apply wG | apply wH | apply And.intro)) | ((with_reducible refine oD ?_ ?_); first | fail | kernel_rfl) | ((with_reducible (first | apply oE | apply oF)); (iterate 3 exact rfl); all_goals (intro h; first | (exact absurd h (by decide)) | ((try simp only [go_sem, simprocAttr, hb] at h); (try with_reducible intro K hK); simp only [go_sem, simprocAttr, hb]))) | ((first | ((with_reducible apply wL); exact rfl) | ((with_reducible apply wM); exact rfl)); all_goals (try ((with_reducible intro h); first | (exact absurd h (by decide)) | (try simp only [go_sem, simprocAttr, hb] at h)))) | omega | ((first | fail); try simp only [go_sem, simprocAttr, hb]) | (intro h))
      all_goals (first | rw [if_pos (by assumption)] at hnx | rw [if_neg (by assumption), List.append_nil] at hnx)
      all_goals (refine ⟨k + 1, by omega, ?_, by omega⟩; refine Le.of ?_ ?_ <;> simp [go_sem, simprocAttr, hb, hnx, rI])
  · have hb : decide ((k : Int) < (g.es.length : Int)) = false := decide_eq_false (by omega)
    obtain rfl : k = g.es.length := by omega
    repeat' (first | ((first | ((with_reducible (first | apply oA | apply oB)); exact rfl; intro K hK) | (refine hK _ ?_; clear hK K) | ((with_reducible (first | apply oG | apply oH)); iterate 3 exact rfl) | ((with_reducible apply oI); (iterate 2 exact rfl); intro K hK) | (with_reducible (first | apply wI | apply wJ | apply wK))); try simp only [go_sem, simprocAttr, hb]) | fail | (with_reducible (first | apply oC | apply oJ | exact oK | apply wA | apply wB | apply wC hX hC | apply wD hX hC | apply wE hX hC hmix | apply wF hX hC hmix | apply wG | apply wH | apply And.intro)) | ((with_reducible refine oD ?_ ?_); first | fail | kernel_rfl) | ((with_reducible (first | apply oE | apply oF)); (iterate 3 exact rfl); all_goals (intro h; first | (exact absurd h (by decide)) | ((try simp only [go_sem, simprocAttr, hb] at h); (try with_reducible intro K hK); simp only [go_sem, simprocAttr, hb]))) | ((first | ((with_reducible apply wL); exact rfl) | ((with_reducible apply wM); exact rfl)); all_goals (try ((with_reducible intro h); first | (exact absurd h (by decide)) | (try simp only [go_sem, simprocAttr, hb] at h)))) | omega | ((first | fail); try simp only [go_sem, simprocAttr, hb]) | (intro h))
theorem refBare_spec (g : Gr) (b : Bool) (hl : g.es.length ≤ 1000) (hn : 0 ≤ g.n ∧ g.n ≤ 1000) : Spec Try.prog 52 (Args [eG g, eB b]) [] (.d (sI (bareG (endF (!b)) g))) [] := by
  (refine Spec.intro (C := T.cfg [] []) (rs := [.t 4]) (T.cfg_ok _ _) Try.func52 rfl rfl Try.ntmps52 Try.results52 (by simp [AObj.isNest]) (by simp [AObj.isNest]) (by kernel_rfl) ?_; intro X hX hP hC hXn hXm vals hA; refine ⟨_, by simp, hA, ?_⟩; have hmix : X.P.follows .mixedOrders = true := (by rw [hP]; exact T.mixed); clear hXn hXm)
  repeat' (first | ((first | ((with_reducible (first | apply oA | apply oB)); exact rfl; intro K hK) | (refine hK _ ?_; clear hK K) | ((with_reducible (first | apply oG | apply oH)); iterate 3 exact rfl) | ((with_reducible apply oI); (iterate 2 exact rfl); intro K hK) | (with_reducible (first | apply wI | apply wJ | apply wK))); try simp only [go_sem, simprocAttr]) | fail | (with_reducible (first | apply oC | apply oJ | exact oK | apply wA | apply wB | apply wC hX hC | apply wD hX hC | apply wE hX hC hmix | apply wF hX hC hmix | apply wG | apply wH | apply And.intro)) | ((with_reducible refine oD ?_ ?_); first | fail | kernel_rfl) | ((with_reducible (first | apply oE | apply oF)); (iterate 3 exact rfl); all_goals (intro h; first | (exact absurd h (by decide)) | ((try simp only [go_sem, simprocAttr] at h); (try with_reducible intro K hK); simp only [go_sem, simprocAttr]))) | ((first | ((with_reducible apply wL); exact rfl) | ((with_reducible apply wM); exact rfl)); all_goals (try ((with_reducible intro h); first | (exact absurd h (by decide)) | (try simp only [go_sem, simprocAttr] at h)))) | omega | ((first | refine acall_simple hX hC hP (ends_spec g (k : Int) (!b) hl) rfl rfl rfl (by simp only [go_sem, simprocAttr]) rfl ?_); try simp only [go_sem, simprocAttr]) | (intro h))
  (refine awp_mv hX 5 7 24 (by simp only [go_sem, simprocAttr]) rfl (by first | exact .inl rfl | exact .inr rfl) (by decide) ?_; simp only [go_sem, simprocAttr])
  refine awp_loopP (fun k : Nat => k ≤ g.n.toNat) (fun k => ⟨[(1, eB b), (2, .ptr 2 0), (6, eN k), (5, .ref 24)], [(2, .box [eN g.n, .d (sE g.es)]), (24, .tip 3 1 ((bareK (endsL (endF (!b)) g) k).map rI))]⟩) (fun k => g.n.toNat - k) 0 (by simp) ?_ ?_
  · refine Le.of ?_ ?_ <;> simp [go_sem, simprocAttr, bareK]
  rintro k hk
  rcases Nat.lt_or_ge k g.n.toNat with hlt | hge
  · have hb : decide ((k : Int) < g.n) = true := decide_eq_true (by omega)
    have hll := bareK_len (ls := endsL (endF (!b)) g) (k := k)
    have he : (endsL (endF (!b)) g).getD k [] = endsZ (endF (!b)) g.es g.es.length (k : Int) := by
      simp [endsL, List.getD_eq_getElem?_getD, List.getElem?_range hlt, endsK_eq]
    have hnx := bareK_next (ls := endsL (endF (!b)) g) (k := k)
    rw [he] at hnx
    repeat' (first | ((first | ((with_reducible (first | apply oA | apply oB)); exact rfl; intro K hK) | (refine hK _ ?_; clear hK K) | ((with_reducible (first | apply oG | apply oH)); iterate 3 exact rfl) | ((with_reducible apply oI); (iterate 2 exact rfl); intro K hK) | (with_reducible (first | apply wI | apply wJ | apply wK))); try simp only [go_sem, simprocAttr, hb]) | fail | (with_reducible (first | apply oC | apply oJ | exact oK | apply wA | apply wB | apply wC hX hC | apply wD hX hC | apply wE hX hC hmix | apply wF hX hC hmix | apply wG | apply wH | apply And.intro)) | ((with_reducible refine oD ?_ ?_); first | fail | kernel_rfl) | ((with_reducible (first | apply oE | apply oF)); (iterate 3 exact rfl); all_goals (intro h; first | (exact absurd h (by decide)) | ((try simp only [go_sem, simprocAttr, hb] at h); (try with_reducible intro K hK); simp only [go_sem, simprocAttr, hb]))) | ((first | ((with_reducible apply wL); exact rfl) | ((with_reducible apply wM); exact rfl)); all_goals (try ((with_reducible intro h); first | (exact absurd h (by decide)) | (try simp only [go_sem, simprocAttr, hb] at h)))) | omega | ((first | refine acall_simple hX hC hP (ends_spec g (k : Int) (!b) hl) rfl rfl rfl (by simp only [go_sem, simprocAttr, hb]) rfl ?_); try simp only [go_sem, simprocAttr, hb]) | (intro h))
    all_goals (first | rw [if_pos (by omega)] at hnx | rw [if_neg (by omega), List.append_nil] at hnx)
    all_goals (refine ⟨k + 1, by omega, ?_, by omega⟩; refine Le.of ?_ ?_ <;> simp [go_sem, simprocAttr, hb, hnx, rI])
  · have hb : decide ((k : Int) < g.n) = false := decide_eq_false (by omega)
    obtain rfl : k = g.n.toNat := by omega
    repeat' (first | ((first | ((with_reducible (first | apply oA | apply oB)); exact rfl; intro K hK) | (refine hK _ ?_; clear hK K) | ((with_reducible (first | apply oG | apply oH)); iterate 3 exact rfl) | ((with_reducible apply oI); (iterate 2 exact rfl); intro K hK) | (with_reducible (first | apply wI | apply wJ | apply wK))); try simp only [go_sem, simprocAttr, hb]) | fail | (with_reducible (first | apply oC | apply oJ | exact oK | apply wA | apply wB | apply wC hX hC | apply wD hX hC | apply wE hX hC hmix | apply wF hX hC hmix | apply wG | apply wH | apply And.intro)) | ((with_reducible refine oD ?_ ?_); first | fail | kernel_rfl) | ((with_reducible (first | apply oE | apply oF)); (iterate 3 exact rfl); all_goals (intro h; first | (exact absurd h (by decide)) | ((try simp only [go_sem, simprocAttr, hb] at h); (try with_reducible intro K hK); simp only [go_sem, simprocAttr, hb]))) | ((first | ((with_reducible apply wL); exact rfl) | ((with_reducible apply wM); exact rfl)); all_goals (try ((with_reducible intro h); first | (exact absurd h (by decide)) | (try simp only [go_sem, simprocAttr, hb] at h)))) | omega | ((first | refine acall_simple hX hC hP (ends_spec g (k : Int) (!b) hl) rfl rfl rfl (by simp only [go_sem, simprocAttr, hb]) rfl ?_); try simp only [go_sem, simprocAttr, hb]) | (intro h))
    rfl
end Go.Ab
end
section
namespace Go.Ab
open Go.Proofs
attribute [local congr] ACall.congr
set_option maxRecDepth 10000

def rB (b : Bool) : List D := [.sc (.bool b)]
def sB (l : List Bool) : D := .sl 1 (l.map rB)
theorem getD_rB (l : List Bool) (i : Nat) : (l.map rB).getD i [.sc (.bool false)] = [.sc (.bool (l.getD i false))] := by
  simp only [List.getD_eq_getElem?_getD, List.getElem?_map]
  cases l[i]? <;> rfl
attribute [go_sem] getD_rB sB
theorem set_rB (l : List Bool) (k : Nat) (v : Bool) : (l.map rB).set k [.sc (.bool v)] = (l.set k v).map rB := by
  rw [List.map_set]; rfl
theorem set_range {α : Type} {n k : Nat} {f : Nat → α} {v : α} : ((List.range n).map f).set k v = (List.range n).map fun y => if y = k then v else f y := by
  refine List.ext_getElem? fun i => ?_
  rw [List.getElem?_set, List.length_map, List.length_range]
  by_cases hi : i < n
  · rw [List.getElem?_map, List.getElem?_map, List.getElem?_range hi]
    by_cases h : k = i
    · subst h; simp [hi]
    · have : ¬ i = k := fun e => h e.symm
      simp [h, this]
  · rw [List.getElem?_eq_none (by simp; omega), List.getElem?_eq_none (by simp; omega)]
    split
    · rw [if_neg (by omega)]
    · rfl
def trueK (n k : Nat) : List Bool := (List.range n).map fun y => decide (y < k)
def nextK (g : Gr) (l : List Bool) (j : Nat) : List Bool := (List.range g.n.toNat).map fun y : Nat => (List.range j).any fun i => decide (hd g i = (y : Int)) && (l.getD (tl g i).toNat false && l.getD (hd g i).toNat false)
def leftK (g : Gr) : Nat → List Bool
  | 0 => trueK g.n.toNat g.n.toNat
  | k + 1 => nextK g (leftK g k) g.es.length
theorem trueK_length {n k : Nat} : (trueK n k).length = n := by simp [trueK]
theorem nextK_length {g : Gr} {l : List Bool} {j : Nat} : (nextK g l j).length = g.n.toNat := by simp [nextK]
theorem leftK_length {g : Gr} {k : Nat} : (leftK g k).length = g.n.toNat := by
  cases k
  · exact trueK_length
  · exact nextK_length
theorem trueK_zero {n : Nat} : List.replicate n [D.sc (.bool false)] = (trueK n 0).map rB := by
  refine List.ext_getElem? fun i => ?_
  by_cases hi : i < n
  · simp [trueK, hi, rB, List.getElem?_range hi]
  · rw [List.getElem?_eq_none (by simp; omega), List.getElem?_eq_none (by simp [trueK]; omega)]
theorem trueK_next {n k : Nat} : (trueK n k).set k true = trueK n (k + 1) := by
  unfold trueK; rw [set_range]
  refine List.map_congr_left fun y _ => ?_
  split
  · rename_i h; subst h; simp
  · rename_i h
    rw [Bool.eq_iff_iff]; simp; omega
theorem nextK_zero {g : Gr} {l : List Bool} : List.replicate g.n.toNat [D.sc (.bool false)] = (nextK g l 0).map rB := by
  refine List.ext_getElem? fun i => ?_
  by_cases hi : i < g.n.toNat
  · simp [nextK, hi, rB, List.getElem?_range hi]
  · rw [List.getElem?_eq_none (by simp; omega), List.getElem?_eq_none (by simp [nextK]; omega)]
theorem nextK_yes {g : Gr} {l : List Bool} {j : Nat} (h0 : 0 ≤ hd g j) (h : (l.getD (tl g j).toNat false && l.getD (hd g j).toNat false) = true) : (nextK g l j).set (hd g j).toNat true = nextK g l (j + 1) := by
  unfold nextK; rw [set_range]
  refine List.map_congr_left fun y _ => ?_
  rw [List.range_succ, List.any_append]
  simp only [List.any_cons, List.any_nil, h, Bool.and_true, Bool.or_false]
  split
  · rename_i e
    have : hd g j = (y : Int) := by omega
    simp [this]
  · rename_i e
    have : ¬ hd g j = (y : Int) := by omega
    simp [this]
theorem nextK_no {g : Gr} {l : List Bool} {j : Nat} (h : (l.getD (tl g j).toNat false && l.getD (hd g j).toNat false) = false) : nextK g l j = nextK g l (j + 1) := by
  unfold nextK
  refine List.map_congr_left fun y _ => ?_
  rw [List.range_succ, List.any_append]
  simp only [List.any_cons, List.any_nil, h, Bool.and_false, Bool.or_false]
attribute [go_sem] trueK_length nextK_length leftK_length

theorem left_spec (g : Gr) (hm : mayB g = true) : Spec Try.prog 134 (Args [eG g]) [] (.d (sB (leftK g g.n.toNat))) [] := by
  have hn := mayB_n hm
  (refine Spec.intro (C := T.cfg [] []) (rs := [.t 2]) (T.cfg_ok _ _) Try.func134 rfl rfl Try.ntmps134 Try.results134 (by simp [AObj.isNest]) (by simp [AObj.isNest]) (by kernel_rfl) ?_; intro X hX hP hC hXn hXm vals hA; refine ⟨_, by simp, hA, ?_⟩; have hmix : X.P.follows .mixedOrders = true := (by rw [hP]; exact T.mixed); clear hXn hXm)
  repeat' (first | ((first | ((with_reducible (first | apply oA | apply oB)); exact rfl; intro K hK) | (refine hK _ ?_; clear hK K) | ((with_reducible (first | apply oG | apply oH)); iterate 3 exact rfl) | ((with_reducible apply oI); (iterate 2 exact rfl); intro K hK) | (with_reducible (first | apply wI | apply wJ | apply wK))); try simp only [go_sem, simprocAttr]) | first | (show awp _ (.seq (.region 6 _ _) _) _ _; (refine awp_frz hX 11 rfl (.inl rfl) ?_; simp only [go_sem, simprocAttr])) | (show awp _ (.region 8 _ _) _ _; (refine awp_frz hX 29 rfl (.inl rfl) ?_; simp only [go_sem, simprocAttr])) | (with_reducible (first | apply oC | apply oJ | exact oK | apply wA | apply wB | apply wC hX hC | apply wD hX hC | apply wE hX hC hmix | apply wF hX hC hmix | apply wG | apply wH | apply And.intro)) | ((with_reducible refine oD ?_ ?_); first | fail | kernel_rfl) | ((with_reducible (first | apply oE | apply oF)); (iterate 3 exact rfl); all_goals (intro h; first | (exact absurd h (by decide)) | ((try simp only [go_sem, simprocAttr] at h); (try with_reducible intro K hK); simp only [go_sem, simprocAttr]))) | ((first | ((with_reducible apply wL); exact rfl) | ((with_reducible apply wM); exact rfl)); all_goals (try ((with_reducible intro h); first | (exact absurd h (by decide)) | (try simp only [go_sem, simprocAttr] at h)))) | omega | ((first | fail); try simp only [go_sem, simprocAttr]) | (intro h))
  refine awp_loopP (fun k : Nat => k ≤ g.n.toNat) (fun k => ⟨[(1, .ptr 1 0), (4, eN k), (3, .ref 11)], [(1, .box [eN g.n, .d (sE g.es)]), (11, .own 4 1 ((trueK g.n.toNat k).map rB))]⟩) (fun k => g.n.toNat - k) 0 (by simp) ?_ ?_
  · refine Le.of ?_ ?_ <;> simp [go_sem, simprocAttr]
    exact trueK_zero
  rintro k hk
  rcases Nat.lt_or_ge k g.n.toNat with hlt | hge
  · have hb : decide ((k : Int) < g.n) = true := decide_eq_true (by omega)
    repeat' (first | ((first | ((with_reducible (first | apply oA | apply oB)); exact rfl; intro K hK) | (refine hK _ ?_; clear hK K) | ((with_reducible (first | apply oG | apply oH)); iterate 3 exact rfl) | ((with_reducible apply oI); (iterate 2 exact rfl); intro K hK) | (with_reducible (first | apply wI | apply wJ | apply wK))); try simp only [go_sem, simprocAttr, hb, set_rB, trueK_next]) | first | (show awp _ (.seq (.region 6 _ _) _) _ _; (refine awp_frz hX 11 rfl (.inl rfl) ?_; simp only [go_sem, simprocAttr, hb, set_rB, trueK_next])) | (show awp _ (.region 8 _ _) _ _; (refine awp_frz hX 29 rfl (.inl rfl) ?_; simp only [go_sem, simprocAttr, hb, set_rB, trueK_next])) | (with_reducible (first | apply oC | apply oJ | exact oK | apply wA | apply wB | apply wC hX hC | apply wD hX hC | apply wE hX hC hmix | apply wF hX hC hmix | apply wG | apply wH | apply And.intro)) | ((with_reducible refine oD ?_ ?_); first | fail | kernel_rfl) | ((with_reducible (first | apply oE | apply oF)); (iterate 3 exact rfl); all_goals (intro h; first | (exact absurd h (by decide)) | ((try simp only [go_sem, simprocAttr, hb, set_rB, trueK_next] at h); (try with_reducible intro K hK); simp only [go_sem, simprocAttr, hb, set_rB, trueK_next]))) | ((first | ((with_reducible apply wL); exact rfl) | ((with_reducible apply wM); exact rfl)); all_goals (try ((with_reducible intro h); first | (exact absurd h (by decide)) | (try simp only [go_sem, simprocAttr, hb, set_rB, trueK_next] at h)))) | omega | ((first | fail); try simp only [go_sem, simprocAttr, hb, set_rB, trueK_next]) | (intro h))
    refine ⟨k + 1, by omega, ?_, by omega⟩
    (refine Le.of ?_ ?_ <;> simp [go_sem, simprocAttr])
  · have hb : decide ((k : Int) < g.n) = false := decide_eq_false (by omega)
    obtain rfl : k = g.n.toNat := by omega
    repeat' (first | ((first | ((with_reducible (first | apply oA | apply oB)); exact rfl; intro K hK) | (refine hK _ ?_; clear hK K) | ((with_reducible (first | apply oG | apply oH)); iterate 3 exact rfl) | ((with_reducible apply oI); (iterate 2 exact rfl); intro K hK) | (with_reducible (first | apply wI | apply wJ | apply wK))); try simp only [go_sem, simprocAttr, hb]) | first | (show awp _ (.seq (.region 6 _ _) _) _ _; (refine awp_frz hX 11 rfl (.inl rfl) ?_; simp only [go_sem, simprocAttr, hb])) | (show awp _ (.region 8 _ _) _ _; (refine awp_frz hX 29 rfl (.inl rfl) ?_; simp only [go_sem, simprocAttr, hb])) | (with_reducible (first | apply oC | apply oJ | exact oK | apply wA | apply wB | apply wC hX hC | apply wD hX hC | apply wE hX hC hmix | apply wF hX hC hmix | apply wG | apply wH | apply And.intro)) | ((with_reducible refine oD ?_ ?_); first | fail | kernel_rfl) | ((with_reducible (first | apply oE | apply oF)); (iterate 3 exact rfl); all_goals (intro h; first | (exact absurd h (by decide)) | ((try simp only [go_sem, simprocAttr, hb] at h); (try with_reducible intro K hK); simp only [go_sem, simprocAttr, hb]))) | ((first | ((with_reducible apply wL); exact rfl) | ((with_reducible apply wM); exact rfl)); all_goals (try ((with_reducible intro h); first | (exact absurd h (by decide)) | (try simp only [go_sem, simprocAttr, hb] at h)))) | omega | ((first | fail); try simp only [go_sem, simprocAttr, hb]) | (intro h))
    clear hb hk hge
    refine awp_loopP (fun k : Nat => k ≤ g.n.toNat) (fun k => ⟨[(1, .ptr 1 0), (5, eN k), (3, .d (sB (leftK g k)))], [(1, .box [eN g.n, .d (sE g.es)])]⟩) (fun k => g.n.toNat - k) 0 (by simp) ?_ ?_
    · refine Le.of ?_ ?_ <;> simp [go_sem, simprocAttr, leftK]
    rintro k hk
    rcases Nat.lt_or_ge k g.n.toNat with hlt | hge
    · have hb : decide ((k : Int) < g.n) = true := decide_eq_true (by omega)
      repeat' (first | ((first | ((with_reducible (first | apply oA | apply oB)); exact rfl; intro K hK) | (refine hK _ ?_; clear hK K) | ((with_reducible (first | apply oG | apply oH)); iterate 3 exact rfl) | ((with_reducible apply oI); (iterate 2 exact rfl); intro K hK) | (with_reducible (first | apply wI | apply wJ | apply wK))); try simp only [go_sem, simprocAttr, hb]) | first | (show awp _ (.seq (.region 6 _ _) _) _ _; (refine awp_frz hX 11 rfl (.inl rfl) ?_; simp only [go_sem, simprocAttr, hb])) | (show awp _ (.region 8 _ _) _ _; (refine awp_frz hX 29 rfl (.inl rfl) ?_; simp only [go_sem, simprocAttr, hb])) | (with_reducible (first | apply oC | apply oJ | exact oK | apply wA | apply wB | apply wC hX hC | apply wD hX hC | apply wE hX hC hmix | apply wF hX hC hmix | apply wG | apply wH | apply And.intro)) | ((with_reducible refine oD ?_ ?_); first | fail | kernel_rfl) | ((with_reducible (first | apply oE | apply oF)); (iterate 3 exact rfl); all_goals (intro h; first | (exact absurd h (by decide)) | ((try simp only [go_sem, simprocAttr, hb] at h); (try with_reducible intro K hK); simp only [go_sem, simprocAttr, hb]))) | ((first | ((with_reducible apply wL); exact rfl) | ((with_reducible apply wM); exact rfl)); all_goals (try ((with_reducible intro h); first | (exact absurd h (by decide)) | (try simp only [go_sem, simprocAttr, hb] at h)))) | omega | ((first | fail); try simp only [go_sem, simprocAttr, hb]) | (intro h))
      refine awp_loopP (fun j : Nat => j ≤ g.es.length) (fun j => ⟨[(1, .ptr 1 0), (5, eN k), (3, .d (sB (leftK g k))), (7, eN j), (6, .ref 29)], [(1, .box [eN g.n, .d (sE g.es)]), (29, .own 4 1 ((nextK g (leftK g k) j).map rB))]⟩) (fun j => g.es.length - j) 0 (by simp) ?_ ?_
      · refine Le.of ?_ ?_ <;> simp [go_sem, simprocAttr]
        exact nextK_zero
      rintro j hj
      rcases Nat.lt_or_ge j g.es.length with hjl | hjg
      · have hb2 : decide ((j : Int) < (g.es.length : Int)) = true := decide_eq_true (by omega)
        obtain ⟨⟨he0, he1⟩, ⟨he2, he3⟩⟩ := mayB_e hm hjl
        repeat' (first | ((first | ((with_reducible (first | apply oA | apply oB)); exact rfl; intro K hK) | (refine hK _ ?_; clear hK K) | ((with_reducible (first | apply oG | apply oH)); iterate 3 exact rfl) | ((with_reducible apply oI); (iterate 2 exact rfl); intro K hK) | (with_reducible (first | apply wI | apply wJ | apply wK))); try simp only [go_sem, simprocAttr, hb2, set_rB]) | first | (show awp _ (.seq (.region 6 _ _) _) _ _; (refine awp_frz hX 11 rfl (.inl rfl) ?_; simp only [go_sem, simprocAttr, hb2, set_rB])) | (show awp _ (.region 8 _ _) _ _; (refine awp_frz hX 29 rfl (.inl rfl) ?_; simp only [go_sem, simprocAttr, hb2, set_rB])) | (with_reducible (first | apply oC | apply oJ | exact oK | apply wA | apply wB | apply wC hX hC | apply wD hX hC | apply wE hX hC hmix | apply wF hX hC hmix | apply wG | apply wH | apply And.intro)) | ((with_reducible refine oD ?_ ?_); first | fail | kernel_rfl) | ((with_reducible (first | apply oE | apply oF)); (iterate 3 exact rfl); all_goals (intro h; first | (exact absurd h (by decide)) | ((try simp only [go_sem, simprocAttr, hb2, set_rB] at h); (try with_reducible intro K hK); simp only [go_sem, simprocAttr, hb2, set_rB]))) | ((first | ((with_reducible apply wL); exact rfl) | ((with_reducible apply wM); exact rfl)); all_goals (try ((with_reducible intro h); first | (exact absurd h (by decide)) | (try simp only [go_sem, simprocAttr, hb2, set_rB] at h)))) | omega | ((first | fail); try simp only [go_sem, simprocAttr, hb2, set_rB]) | (intro h))
        · have hy : (nextK g (leftK g k) j).set (g.es.getD j (0, 0)).2.toNat true = nextK g (leftK g k) (j + 1) := nextK_yes he2 (by rw [Bool.and_eq_true]; exact ⟨by assumption, by assumption⟩)
          refine ⟨j + 1, by omega, ?_, by omega⟩
          refine Le.of ?_ ?_ <;> simp [go_sem, simprocAttr]
          rw [← hy, List.map_set]; rfl
        all_goals (
          have hy : nextK g (leftK g k) j = nextK g (leftK g k) (j + 1) := nextK_no (Bool.and_eq_false_iff.2 (by first | exact .inl (by assumption) | exact .inr (by assumption)))
          refine ⟨j + 1, by omega, ?_, by omega⟩
          refine Le.of ?_ ?_ <;> simp [go_sem, simprocAttr, ← hy])
      · have hb2 : decide ((j : Int) < (g.es.length : Int)) = false := decide_eq_false (by omega)
        obtain rfl : j = g.es.length := by omega
        repeat' (first | ((first | ((with_reducible (first | apply oA | apply oB)); exact rfl; intro K hK) | (refine hK _ ?_; clear hK K) | ((with_reducible (first | apply oG | apply oH)); iterate 3 exact rfl) | ((with_reducible apply oI); (iterate 2 exact rfl); intro K hK) | (with_reducible (first | apply wI | apply wJ | apply wK))); try simp only [go_sem, simprocAttr, hb2]) | first | (show awp _ (.seq (.region 6 _ _) _) _ _; (refine awp_frz hX 11 rfl (.inl rfl) ?_; simp only [go_sem, simprocAttr, hb2])) | (show awp _ (.region 8 _ _) _ _; (refine awp_frz hX 29 rfl (.inl rfl) ?_; simp only [go_sem, simprocAttr, hb2])) | (with_reducible (first | apply oC | apply oJ | exact oK | apply wA | apply wB | apply wC hX hC | apply wD hX hC | apply wE hX hC hmix | apply wF hX hC hmix | apply wG | apply wH | apply And.intro)) | ((with_reducible refine oD ?_ ?_); first | fail | kernel_rfl) | ((with_reducible (first | apply oE | apply oF)); (iterate 3 exact rfl); all_goals (intro h; first | (exact absurd h (by decide)) | ((try simp only [go_sem, simprocAttr, hb2] at h); (try with_reducible intro K hK); simp only [go_sem, simprocAttr, hb2]))) | ((first | ((with_reducible apply wL); exact rfl) | ((with_reducible apply wM); exact rfl)); all_goals (try ((with_reducible intro h); first | (exact absurd h (by decide)) | (try simp only [go_sem, simprocAttr, hb2] at h)))) | omega | ((first | fail); try simp only [go_sem, simprocAttr, hb2]) | (intro h))
        refine ⟨k + 1, by omega, ?_, by omega⟩
        refine Le.of ?_ ?_ <;> simp [go_sem, simprocAttr, leftK]
    · have hb : decide ((k : Int) < g.n) = false := decide_eq_false (by omega)
      obtain rfl : k = g.n.toNat := by omega
      repeat' (first | ((first | ((with_reducible (first | apply oA | apply oB)); exact rfl; intro K hK) | (refine hK _ ?_; clear hK K) | ((with_reducible (first | apply oG | apply oH)); iterate 3 exact rfl) | ((with_reducible apply oI); (iterate 2 exact rfl); intro K hK) | (with_reducible (first | apply wI | apply wJ | apply wK))); try simp only [go_sem, simprocAttr, hb]) | first | (show awp _ (.seq (.region 6 _ _) _) _ _; (refine awp_frz hX 11 rfl (.inl rfl) ?_; simp only [go_sem, simprocAttr, hb])) | (show awp _ (.region 8 _ _) _ _; (refine awp_frz hX 29 rfl (.inl rfl) ?_; simp only [go_sem, simprocAttr, hb])) | (with_reducible (first | apply oC | apply oJ | exact oK | apply wA | apply wB | apply wC hX hC | apply wD hX hC | apply wE hX hC hmix | apply wF hX hC hmix | apply wG | apply wH | apply And.intro)) | ((with_reducible refine oD ?_ ?_); first | fail | kernel_rfl) | ((with_reducible (first | apply oE | apply oF)); (iterate 3 exact rfl); all_goals (intro h; first | (exact absurd h (by decide)) | ((try simp only [go_sem, simprocAttr, hb] at h); (try with_reducible intro K hK); simp only [go_sem, simprocAttr, hb]))) | ((first | ((with_reducible apply wL); exact rfl) | ((with_reducible apply wM); exact rfl)); all_goals (try ((with_reducible intro h); first | (exact absurd h (by decide)) | (try simp only [go_sem, simprocAttr, hb] at h)))) | omega | ((first | fail); try simp only [go_sem, simprocAttr, hb]) | (intro h))
end Go.Ab
end
section
namespace Go.Ab
open Go.Proofs
attribute [local congr] ACall.congr
set_option maxRecDepth 10000

def lfG (g : Gr) : List Bool := leftK g g.n.toNat
theorem lfG_eq {g : Gr} : leftK g g.n.toNat = lfG g := rfl
/-- Where the way begins. -/
def stR (g : Gr) : Int := if findI (fun b : Bool => b) (lfG g) < 0 then g.n else findI (fun b : Bool => b) (lfG g)
def backRS (g : Gr) (x : Int) (b : Int) (i : Nat) : Int := if hd g i = x ∧ (lfG g).getD (tl g i).toNat false = true then min b (tl g i) else b
def backR (g : Gr) (x : Int) (k : Nat) : Int := (List.range k).foldl (backRS g x) g.n
def wayR (g : Gr) : Nat → List Int → Int → List Int × Int
  | 0, way, x => (way, x)
  | f + 1, way, x => if x ∈ way then (way, x) else wayR g f (way ++ [x]) (backR g x g.es.length)
/-- The same, of a vertex more. -/
def gx (g : Gr) : Gr := ⟨g.n + 1, g.es⟩
def wayRG (g : Gr) : List Int × Int := wayR g (g.n.toNat + 1) [] (stR g)
def rotR (l : List Int) (m k : Nat) : List Int := (List.range k).map fun i => l.getD ((m + l.length - i) % l.length) 0
def turnR (l : List Int) : List Int := rotR l (idxI l (minL l)).toNat l.length
def rcycG (g : Gr) : List Int := if stR g = g.n then [] else turnR ((wayRG g).1.drop (idxI (wayRG g).1 (wayRG g).2).toNat)

theorem backR_next {g : Gr} {x : Int} {k : Nat} : backR g x (k + 1) = backRS g x (backR g x k) k := by
  simp [backR, List.range_succ]
theorem backR_range {g : Gr} (hm : mayB g = true) {x : Int} : ∀ {k : Nat}, k ≤ g.es.length → 0 ≤ backR g x k ∧ backR g x k ≤ g.n
  | 0, _ => by have := mayB_n hm; simp [backR]; omega
  | k + 1, h => by
    have ih := backR_range hm (x := x) (k := k) (by omega)
    obtain ⟨⟨h1, h2⟩, _⟩ := mayB_e hm (k := k) (by omega)
    rw [backR_next]; unfold backRS tl
    split <;> omega
theorem rotR_next {l : List Int} {m k : Nat} : rotR l m (k + 1) = rotR l m k ++ [l.getD ((m + l.length - k) % l.length) 0] := by
  simp [rotR, List.range_succ]
theorem wayR_end {g : Gr} {way : List Int} {a : Int} (h : a ∈ way) : ∀ f, wayR g f way a = (way, a)
  | 0 => rfl
  | f + 1 => by simp only [wayR]; rw [if_pos h]

theorem minL_le : ∀ {l : List Int} {x : Int}, x ∈ l → minL l ≤ x
  | a :: r, x, h => by
    have : ∀ (r : List Int) (a : Int), r.foldl min a ≤ a ∧ ∀ x ∈ r, r.foldl min a ≤ x := by
      intro r
      induction r with
      | nil => intro a; exact ⟨Int.le_refl _, by simp⟩
      | cons b r ih =>
        intro a
        obtain ⟨h1, h2⟩ := ih (min a b)
        simp only [List.foldl_cons]
        refine ⟨by omega, fun x hx => ?_⟩
        rcases List.mem_cons.1 hx with rfl | hx
        · omega
        · exact h2 x hx
    obtain ⟨h1, h2⟩ := this r a
    rcases List.mem_cons.1 h with rfl | h
    · exact h1
    · exact h2 x h
theorem getD_mem {l : List Int} {m : Nat} (h : m < l.length) : l.getD m 0 ∈ l := by
  rw [List.getD_eq_getElem?_getD, List.getElem?_eq_getElem h]; exact List.getElem_mem h
theorem minL_idx {l : List Int} {m : Nat} (hm : m < l.length) (h1 : ∀ j, j < l.length → l.getD m 0 ≤ l.getD j 0) (h2 : ∀ j, j < m → l.getD m 0 < l.getD j 0) : idxI l (minL l) = m := by
  have hmin : minL l = l.getD m 0 := by
    have g1 := minL_le (getD_mem hm)
    obtain ⟨j, hj, e⟩ := List.getElem_of_mem (minL_mem (l := l) (by omega))
    have g2 := h1 j hj
    rw [List.getD_eq_getElem?_getD (l := l) (i := j), List.getElem?_eq_getElem hj, Option.getD_some, e] at g2
    omega
  refine findI_at (d := 0) hm (fun j hj => ?_) ?_
  · have := h2 j hj
    rw [hmin]; simp only [decide_eq_false_iff_not]; omega
  · rw [hmin]; simp

theorem rcycle_spec (g : Gr) (hm : mayB g = true) : Spec Try.prog 96 (Args [eG g]) [] (.d (sI (rcycG g))) [] := by
  have hn := mayB_n hm
  have hlf : (lfG g).length = g.n.toNat := leftK_length
  (refine Spec.intro (C := T.cfg [] []) (rs := [.t 2]) (T.cfg_ok _ _) Try.func96 rfl rfl Try.ntmps96 Try.results96 (by simp [AObj.isNest]) (by simp [AObj.isNest]) (by kernel_rfl) ?_; intro X hX hP hC hXn hXm vals hA; refine ⟨_, by simp, hA, ?_⟩; have hmix : X.P.follows .mixedOrders = true := (by rw [hP]; exact T.mixed); clear hXn hXm)
  repeat' (first | ((first | ((with_reducible (first | apply oA | apply oB)); exact rfl; intro K hK) | (refine hK _ ?_; clear hK K) | ((with_reducible (first | apply oG | apply oH)); iterate 3 exact rfl) | ((with_reducible apply oI); (iterate 2 exact rfl); intro K hK) | (with_reducible (first | apply wI | apply wJ | apply wK))); try simp only [go_sem, simprocAttr, lfG_eq]) | fail | (with_reducible (first | apply oC | apply oJ | exact oK | apply wA | apply wB | apply wC hX hC | apply wD hX hC | apply wE hX hC hmix | apply wF hX hC hmix | apply wG | apply wH | apply And.intro)) | ((with_reducible refine oD ?_ ?_); first | fail | kernel_rfl) | ((with_reducible (first | apply oE | apply oF)); (iterate 3 exact rfl); all_goals (intro h; first | (exact absurd h (by decide)) | ((try simp only [go_sem, simprocAttr, lfG_eq] at h); (try with_reducible intro K hK); simp only [go_sem, simprocAttr, lfG_eq]))) | ((first | ((with_reducible apply wL); exact rfl) | ((with_reducible apply wM); exact rfl)); all_goals (try ((with_reducible intro h); first | (exact absurd h (by decide)) | (try simp only [go_sem, simprocAttr, lfG_eq] at h)))) | omega | ((first | first | refine acall_simple hX hC hP (left_spec g hm) rfl rfl rfl (by simp only [go_sem, simprocAttr, lfG_eq]) rfl ?_ | (refine acall_lend hX hC hP (has_spec way x hlway) rfl rfl rfl ?_ ?_ ?_ ?_; iterate 3 (focus (simp only [go_sem, simprocAttr, lfG_eq]; done))) | (refine acall_lend hX hC hP (has_spec way (a : Int) hlway) rfl rfl rfl ?_ ?_ ?_ ?_; iterate 3 (focus (simp only [go_sem, simprocAttr, lfG_eq]; done)))); try simp only [go_sem, simprocAttr, lfG_eq]) | (intro h))
  refine awp_loopP (fun k : Nat => k ≤ g.n.toNat ∧ ∀ j, j < k → (lfG g).getD j false = false) (fun k => ⟨[(1, .ptr 1 0), (4, eN k), (3, .d (sB (lfG g)))], [(1, .box [eN g.n, .d (sE g.es)])]⟩) (fun k => g.n.toNat - k) 0 (by simp) ?_ ?_
  · refine Le.of ?_ ?_ <;> simp [go_sem, simprocAttr, lfG]
  rintro k ⟨hk, hno⟩
  rcases Nat.lt_or_ge k g.n.toNat with hlt | hge
  · have hb : decide ((k : Int) < g.n) = true := decide_eq_true (by omega)
    cases hkb : (lfG g).getD k false with
    | false =>
      repeat' (first | ((first | ((with_reducible (first | apply oA | apply oB)); exact rfl; intro K hK) | (refine hK _ ?_; clear hK K) | ((with_reducible (first | apply oG | apply oH)); iterate 3 exact rfl) | ((with_reducible apply oI); (iterate 2 exact rfl); intro K hK) | (with_reducible (first | apply wI | apply wJ | apply wK))); try simp only [go_sem, simprocAttr, hb, hkb, hlf]) | fail | (with_reducible (first | apply oC | apply oJ | exact oK | apply wA | apply wB | apply wC hX hC | apply wD hX hC | apply wE hX hC hmix | apply wF hX hC hmix | apply wG | apply wH | apply And.intro)) | ((with_reducible refine oD ?_ ?_); first | fail | kernel_rfl) | ((with_reducible (first | apply oE | apply oF)); (iterate 3 exact rfl); all_goals (intro h; first | (exact absurd h (by decide)) | ((try simp only [go_sem, simprocAttr, hb, hkb, hlf] at h); (try with_reducible intro K hK); simp only [go_sem, simprocAttr, hb, hkb, hlf]))) | ((first | ((with_reducible apply wL); exact rfl) | ((with_reducible apply wM); exact rfl)); all_goals (try ((with_reducible intro h); first | (exact absurd h (by decide)) | (try simp only [go_sem, simprocAttr, hb, hkb, hlf] at h)))) | omega | ((first | first | refine acall_simple hX hC hP (left_spec g hm) rfl rfl rfl (by simp only [go_sem, simprocAttr, hb, hkb, hlf]) rfl ?_ | (refine acall_lend hX hC hP (has_spec way x hlway) rfl rfl rfl ?_ ?_ ?_ ?_; iterate 3 (focus (simp only [go_sem, simprocAttr, hb, hkb, hlf]; done))) | (refine acall_lend hX hC hP (has_spec way (a : Int) hlway) rfl rfl rfl ?_ ?_ ?_ ?_; iterate 3 (focus (simp only [go_sem, simprocAttr, hb, hkb, hlf]; done)))); try simp only [go_sem, simprocAttr, hb, hkb, hlf]) | (intro h))
      refine ⟨k + 1, ⟨by omega, fun j hj => ?_⟩, ?_, by omega⟩
      · by_cases hjk : j = k
        · subst hjk; exact hkb
        · exact hno j (by omega)
      · (refine Le.of ?_ ?_ <;> simp [go_sem, simprocAttr, hb, hkb, hlf])
    | true =>
      have hst : stR g = k := by
        have : findI (fun b : Bool => b) (lfG g) = k := findI_at (d := false) (by omega) hno hkb
        unfold stR; rw [this, if_neg (by omega)]
      have hne : decide ((k : Int) = g.n) = false := decide_eq_false (by omega)
      repeat' (first | ((first | ((with_reducible (first | apply oA | apply oB)); exact rfl; intro K hK) | (refine hK _ ?_; clear hK K) | ((with_reducible (first | apply oG | apply oH)); iterate 3 exact rfl) | ((with_reducible apply oI); (iterate 2 exact rfl); intro K hK) | (with_reducible (first | apply wI | apply wJ | apply wK))); try simp only [go_sem, simprocAttr, hb, hkb, hlf, hne]) | fail | (with_reducible (first | apply oC | apply oJ | exact oK | apply wA | apply wB | apply wC hX hC | apply wD hX hC | apply wE hX hC hmix | apply wF hX hC hmix | apply wG | apply wH | apply And.intro)) | ((with_reducible refine oD ?_ ?_); first | fail | kernel_rfl) | ((with_reducible (first | apply oE | apply oF)); (iterate 3 exact rfl); all_goals (intro h; first | (exact absurd h (by decide)) | ((try simp only [go_sem, simprocAttr, hb, hkb, hlf, hne] at h); (try with_reducible intro K hK); simp only [go_sem, simprocAttr, hb, hkb, hlf, hne]))) | ((first | ((with_reducible apply wL); exact rfl) | ((with_reducible apply wM); exact rfl)); all_goals (try ((with_reducible intro h); first | (exact absurd h (by decide)) | (try simp only [go_sem, simprocAttr, hb, hkb, hlf, hne] at h)))) | omega | ((first | first | refine acall_simple hX hC hP (left_spec g hm) rfl rfl rfl (by simp only [go_sem, simprocAttr, hb, hkb, hlf, hne]) rfl ?_ | (refine acall_lend hX hC hP (has_spec way x hlway) rfl rfl rfl ?_ ?_ ?_ ?_; iterate 3 (focus (simp only [go_sem, simprocAttr, hb, hkb, hlf, hne]; done))) | (refine acall_lend hX hC hP (has_spec way (a : Int) hlway) rfl rfl rfl ?_ ?_ ?_ ?_; iterate 3 (focus (simp only [go_sem, simprocAttr, hb, hkb, hlf, hne]; done)))); try simp only [go_sem, simprocAttr, hb, hkb, hlf, hne]) | (intro h))
      clear hno hb hne hkb
      (refine awp_mv hX 5 31 39 (by simp only [go_sem, simprocAttr]) rfl (by first | exact .inl rfl | exact .inr rfl) (by decide) ?_; simp only [go_sem, simprocAttr])
      refine awp_loopP (fun i : List Int × Int => Way (gx g) i.1 ∧ (0 ≤ i.2 ∧ i.2 ≤ g.n) ∧ wayR g (left (gx g) i.1) i.1 i.2 = wayRG g) (fun i => ⟨[(1, .ptr 1 0), (4, eN i.2), (3, .d (sB (lfG g))), (5, .ref 39)], [(1, .box [eN g.n, .d (sE g.es)]), (39, .tip 3 1 (i.1.map rI))]⟩) (fun i => left (gx g) i.1) ([], (k : Int)) ⟨Way.nil _, by simp only; omega, ?_⟩ ?_ ?_
      · simp only [left_nil, wayRG, gx, hst]
        rw [show (g.n + 1).toNat = g.n.toNat + 1 from by omega]
      · refine Le.of ?_ ?_ <;> simp [go_sem, simprocAttr]
      rintro ⟨way, x⟩ ⟨hway, hx, hrun⟩
      simp only at hway hx hrun ⊢
      have hwl : way.length ≤ 65 := by have := hway.fuel; simp only [gx] at this; omega
      have hlway : way.length ≤ 9223372036854775807 := by omega
      by_cases hmem : x ∈ way
      · have hend := wayR_end (g := g) hmem (left (gx g) way)
        rw [hrun] at hend
        obtain ⟨m, hm1, hm2, _⟩ := idxI_mem hmem
        have hneg : decide ((m : Int) < 0) = false := decide_eq_false (by omega)
        obtain ⟨l, hlE⟩ : ∃ l, l = way.drop m := ⟨_, rfl⟩
        have hll : l.length = way.length - m := by rw [hlE]; simp
        have hcyc : rcycG g = turnR l := by
          simp only [rcycG, hend, hm1, Int.toNat_natCast, ← hlE]
          rw [if_neg (by omega)]
        repeat' (first | ((first | ((with_reducible (first | apply oA | apply oB)); exact rfl; intro K hK) | (refine hK _ ?_; clear hK K) | ((with_reducible (first | apply oG | apply oH)); iterate 3 exact rfl) | ((with_reducible apply oI); (iterate 2 exact rfl); intro K hK) | (with_reducible (first | apply wI | apply wJ | apply wK))); try simp only [go_sem, simprocAttr, hm1, hneg, ← List.map_take, ← List.map_drop, List.take_length, ← hlE]) | fail | (with_reducible (first | apply oC | apply oJ | exact oK | apply wA | apply wB | apply wC hX hC | apply wD hX hC | apply wE hX hC hmix | apply wF hX hC hmix | apply wG | apply wH | apply And.intro)) | ((with_reducible refine oD ?_ ?_); first | fail | kernel_rfl) | ((with_reducible (first | apply oE | apply oF)); (iterate 3 exact rfl); all_goals (intro h; first | (exact absurd h (by decide)) | ((try simp only [go_sem, simprocAttr, hm1, hneg, ← List.map_take, ← List.map_drop, List.take_length, ← hlE] at h); (try with_reducible intro K hK); simp only [go_sem, simprocAttr, hm1, hneg, ← List.map_take, ← List.map_drop, List.take_length, ← hlE]))) | ((first | ((with_reducible apply wL); exact rfl) | ((with_reducible apply wM); exact rfl)); all_goals (try ((with_reducible intro h); first | (exact absurd h (by decide)) | (try simp only [go_sem, simprocAttr, hm1, hneg, ← List.map_take, ← List.map_drop, List.take_length, ← hlE] at h)))) | omega | ((first | first | refine acall_simple hX hC hP (left_spec g hm) rfl rfl rfl (by simp only [go_sem, simprocAttr, hm1, hneg, ← List.map_take, ← List.map_drop, List.take_length, ← hlE]) rfl ?_ | (refine acall_lend hX hC hP (has_spec way x hlway) rfl rfl rfl ?_ ?_ ?_ ?_; iterate 3 (focus (simp only [go_sem, simprocAttr, hm1, hneg, ← List.map_take, ← List.map_drop, List.take_length, ← hlE]; done))) | (refine acall_lend hX hC hP (has_spec way (a : Int) hlway) rfl rfl rfl ?_ ?_ ?_ ?_; iterate 3 (focus (simp only [go_sem, simprocAttr, hm1, hneg, ← List.map_take, ← List.map_drop, List.take_length, ← hlE]; done)))); try simp only [go_sem, simprocAttr, hm1, hneg, ← List.map_take, ← List.map_drop, List.take_length, ← hlE]) | (intro h))
        clear hrun hway hend hm1 hneg hlE
        have hl0 : 0 < l.length := by omega
        have hlm : l.length ≤ 65 := by omega
        refine awp_loopP (fun i : Nat × Nat => i.1 ≤ l.length ∧ i.2 < l.length ∧ (∀ j, j < i.1 → l.getD i.2 0 ≤ l.getD j 0) ∧ (∀ j, j < i.2 → l.getD i.2 0 < l.getD j 0)) (fun i => ⟨[(9, eN i.1), (8, eN i.2), (5, .d (sI l))], []⟩) (fun i => l.length - i.1) (0, 0) ⟨by simp, hl0, by simp, by simp⟩ ?_ ?_
        · refine Le.of ?_ ?_ <;> simp [go_sem, simprocAttr]
        rintro ⟨i, q⟩ ⟨hi, hq, hq1, hq2⟩
        simp only at hi hq hq1 hq2 ⊢
        rcases Nat.lt_or_ge i l.length with hil | hig
        · have hb : decide ((i : Int) < (l.length : Int)) = true := decide_eq_true (by omega)
          repeat' (first | ((first | ((with_reducible (first | apply oA | apply oB)); exact rfl; intro K hK) | (refine hK _ ?_; clear hK K) | ((with_reducible (first | apply oG | apply oH)); iterate 3 exact rfl) | ((with_reducible apply oI); (iterate 2 exact rfl); intro K hK) | (with_reducible (first | apply wI | apply wJ | apply wK))); try simp only [go_sem, simprocAttr, hb]) | fail | (with_reducible (first | apply oC | apply oJ | exact oK | apply wA | apply wB | apply wC hX hC | apply wD hX hC | apply wE hX hC hmix | apply wF hX hC hmix | apply wG | apply wH | apply And.intro)) | ((with_reducible refine oD ?_ ?_); first | fail | kernel_rfl) | ((with_reducible (first | apply oE | apply oF)); (iterate 3 exact rfl); all_goals (intro h; first | (exact absurd h (by decide)) | ((try simp only [go_sem, simprocAttr, hb] at h); (try with_reducible intro K hK); simp only [go_sem, simprocAttr, hb]))) | ((first | ((with_reducible apply wL); exact rfl) | ((with_reducible apply wM); exact rfl)); all_goals (try ((with_reducible intro h); first | (exact absurd h (by decide)) | (try simp only [go_sem, simprocAttr, hb] at h)))) | omega | ((first | first | refine acall_simple hX hC hP (left_spec g hm) rfl rfl rfl (by simp only [go_sem, simprocAttr, hb]) rfl ?_ | (refine acall_lend hX hC hP (has_spec way x hlway) rfl rfl rfl ?_ ?_ ?_ ?_; iterate 3 (focus (simp only [go_sem, simprocAttr, hb]; done))) | (refine acall_lend hX hC hP (has_spec way (a : Int) hlway) rfl rfl rfl ?_ ?_ ?_ ?_; iterate 3 (focus (simp only [go_sem, simprocAttr, hb]; done)))); try simp only [go_sem, simprocAttr, hb]) | (intro h))
          · refine ⟨(i + 1, i), ⟨by simp only; omega, hil, fun j hj => ?_, fun j hj => ?_⟩, ?_, by simp only; omega⟩
            · simp only at hj ⊢
              by_cases hji : j = i
              · subst hji; exact Int.le_refl _
              · have := hq1 j (by omega); omega
            · simp only at hj ⊢
              have := hq1 j hj; omega
            · refine Le.of ?_ ?_ <;> simp [go_sem, simprocAttr]
          · refine ⟨(i + 1, q), ⟨by simp only; omega, hq, fun j hj => ?_, hq2⟩, ?_, by simp only; omega⟩
            · simp only at hj ⊢
              by_cases hji : j = i
              · subst hji; omega
              · exact hq1 j (by omega)
            · refine Le.of ?_ ?_ <;> simp [go_sem, simprocAttr]
        · have hb : decide ((i : Int) < (l.length : Int)) = false := decide_eq_false (by omega)
          obtain rfl : i = l.length := by omega
          have hidx := minL_idx hq hq1 hq2
          repeat' (first | ((first | ((with_reducible (first | apply oA | apply oB)); exact rfl; intro K hK) | (refine hK _ ?_; clear hK K) | ((with_reducible (first | apply oG | apply oH)); iterate 3 exact rfl) | ((with_reducible apply oI); (iterate 2 exact rfl); intro K hK) | (with_reducible (first | apply wI | apply wJ | apply wK))); try simp only [go_sem, simprocAttr, hb]) | fail | (with_reducible (first | apply oC | apply oJ | exact oK | apply wA | apply wB | apply wC hX hC | apply wD hX hC | apply wE hX hC hmix | apply wF hX hC hmix | apply wG | apply wH | apply And.intro)) | ((with_reducible refine oD ?_ ?_); first | fail | kernel_rfl) | ((with_reducible (first | apply oE | apply oF)); (iterate 3 exact rfl); all_goals (intro h; first | (exact absurd h (by decide)) | ((try simp only [go_sem, simprocAttr, hb] at h); (try with_reducible intro K hK); simp only [go_sem, simprocAttr, hb]))) | ((first | ((with_reducible apply wL); exact rfl) | ((with_reducible apply wM); exact rfl)); all_goals (try ((with_reducible intro h); first | (exact absurd h (by decide)) | (try simp only [go_sem, simprocAttr, hb] at h)))) | omega | ((first | first | refine acall_simple hX hC hP (left_spec g hm) rfl rfl rfl (by simp only [go_sem, simprocAttr, hb]) rfl ?_ | (refine acall_lend hX hC hP (has_spec way x hlway) rfl rfl rfl ?_ ?_ ?_ ?_; iterate 3 (focus (simp only [go_sem, simprocAttr, hb]; done))) | (refine acall_lend hX hC hP (has_spec way (a : Int) hlway) rfl rfl rfl ?_ ?_ ?_ ?_; iterate 3 (focus (simp only [go_sem, simprocAttr, hb]; done)))); try simp only [go_sem, simprocAttr, hb]) | (intro h))
          clear hi hb hig
          (refine awp_mv hX 10 98 119 (by simp only [go_sem, simprocAttr]) rfl (by first | exact .inl rfl | exact .inr rfl) (by decide) ?_; simp only [go_sem, simprocAttr])
          refine awp_loopP (fun i : Nat => i ≤ l.length) (fun i => ⟨[(5, .d (sI l)), (8, eN q), (11, eN i), (10, .ref 119)], [(119, .tip 3 1 ((rotR l q i).map rI))]⟩) (fun i => l.length - i) 0 (by simp) ?_ ?_
          · refine Le.of ?_ ?_ <;> simp [go_sem, simprocAttr, rotR]
          rintro i hi
          have hrl : (rotR l q i).length = i := by simp [rotR]
          rcases Nat.lt_or_ge i l.length with hil | hig
          · have hb : decide ((i : Int) < (l.length : Int)) = true := decide_eq_true (by omega)
            have htm : ((q : Int) + (l.length : Int) - (i : Int)).tmod (l.length : Int) = (((q + l.length - i) % l.length : Nat) : Int) := by
              rw [show (q : Int) + (l.length : Int) - (i : Int) = ((q + l.length - i : Nat) : Int) from by omega]
              rw [Int.tmod_eq_emod_of_nonneg (by omega)]; rfl
            have hmod : (q + l.length - i) % l.length < l.length := Nat.mod_lt _ hl0
            repeat' (first | ((first | ((with_reducible (first | apply oA | apply oB)); exact rfl; intro K hK) | (refine hK _ ?_; clear hK K) | ((with_reducible (first | apply oG | apply oH)); iterate 3 exact rfl) | ((with_reducible apply oI); (iterate 2 exact rfl); intro K hK) | (with_reducible (first | apply wI | apply wJ | apply wK))); try simp only [go_sem, simprocAttr, hb, htm]) | fail | (with_reducible (first | apply oC | apply oJ | exact oK | apply wA | apply wB | apply wC hX hC | apply wD hX hC | apply wE hX hC hmix | apply wF hX hC hmix | apply wG | apply wH | apply And.intro)) | ((with_reducible refine oD ?_ ?_); first | fail | kernel_rfl) | ((with_reducible (first | apply oE | apply oF)); (iterate 3 exact rfl); all_goals (intro h; first | (exact absurd h (by decide)) | ((try simp only [go_sem, simprocAttr, hb, htm] at h); (try with_reducible intro K hK); simp only [go_sem, simprocAttr, hb, htm]))) | ((first | ((with_reducible apply wL); exact rfl) | ((with_reducible apply wM); exact rfl)); all_goals (try ((with_reducible intro h); first | (exact absurd h (by decide)) | (try simp only [go_sem, simprocAttr, hb, htm] at h)))) | omega | ((first | first | refine acall_simple hX hC hP (left_spec g hm) rfl rfl rfl (by simp only [go_sem, simprocAttr, hb, htm]) rfl ?_ | (refine acall_lend hX hC hP (has_spec way x hlway) rfl rfl rfl ?_ ?_ ?_ ?_; iterate 3 (focus (simp only [go_sem, simprocAttr, hb, htm]; done))) | (refine acall_lend hX hC hP (has_spec way (a : Int) hlway) rfl rfl rfl ?_ ?_ ?_ ?_; iterate 3 (focus (simp only [go_sem, simprocAttr, hb, htm]; done)))); try simp only [go_sem, simprocAttr, hb, htm]) | (intro h))
            refine ⟨i + 1, by omega, ?_, by omega⟩
            rw [rotR_next]
            refine Le.of ?_ ?_ <;> simp [go_sem, simprocAttr, rI]
          · have hb : decide ((i : Int) < (l.length : Int)) = false := decide_eq_false (by omega)
            obtain rfl : i = l.length := by omega
            repeat' (first | ((first | ((with_reducible (first | apply oA | apply oB)); exact rfl; intro K hK) | (refine hK _ ?_; clear hK K) | ((with_reducible (first | apply oG | apply oH)); iterate 3 exact rfl) | ((with_reducible apply oI); (iterate 2 exact rfl); intro K hK) | (with_reducible (first | apply wI | apply wJ | apply wK))); try simp only [go_sem, simprocAttr, hb]) | fail | (with_reducible (first | apply oC | apply oJ | exact oK | apply wA | apply wB | apply wC hX hC | apply wD hX hC | apply wE hX hC hmix | apply wF hX hC hmix | apply wG | apply wH | apply And.intro)) | ((with_reducible refine oD ?_ ?_); first | fail | kernel_rfl) | ((with_reducible (first | apply oE | apply oF)); (iterate 3 exact rfl); all_goals (intro h; first | (exact absurd h (by decide)) | ((try simp only [go_sem, simprocAttr, hb] at h); (try with_reducible intro K hK); simp only [go_sem, simprocAttr, hb]))) | ((first | ((with_reducible apply wL); exact rfl) | ((with_reducible apply wM); exact rfl)); all_goals (try ((with_reducible intro h); first | (exact absurd h (by decide)) | (try simp only [go_sem, simprocAttr, hb] at h)))) | omega | ((first | first | refine acall_simple hX hC hP (left_spec g hm) rfl rfl rfl (by simp only [go_sem, simprocAttr, hb]) rfl ?_ | (refine acall_lend hX hC hP (has_spec way x hlway) rfl rfl rfl ?_ ?_ ?_ ?_; iterate 3 (focus (simp only [go_sem, simprocAttr, hb]; done))) | (refine acall_lend hX hC hP (has_spec way (a : Int) hlway) rfl rfl rfl ?_ ?_ ?_ ?_; iterate 3 (focus (simp only [go_sem, simprocAttr, hb]; done)))); try simp only [go_sem, simprocAttr, hb]) | (intro h))
            rw [hcyc, turnR, hidx]; rfl
      · have hi : idxI way x = -1 := by
          rcases findI_spec (f := fun y : Int => decide (x = y)) (l := way) 0 with ⟨h1, _⟩ | ⟨q, _, h2, h3, _⟩
          · exact h1
          · exact absurd (by rw [of_decide_eq_true h3, List.getD_eq_getElem?_getD, List.getElem?_eq_getElem h2]; exact List.getElem_mem h2) hmem
        obtain ⟨a, rfl⟩ : ∃ a : Nat, x = a := ⟨x.toNat, by omega⟩
        have han : a < (gx g).n.toNat := by simp only [gx]; omega
        repeat' (first | ((first | ((with_reducible (first | apply oA | apply oB)); exact rfl; intro K hK) | (refine hK _ ?_; clear hK K) | ((with_reducible (first | apply oG | apply oH)); iterate 3 exact rfl) | ((with_reducible apply oI); (iterate 2 exact rfl); intro K hK) | (with_reducible (first | apply wI | apply wJ | apply wK))); try simp only [go_sem, simprocAttr, hi]) | fail | (with_reducible (first | apply oC | apply oJ | exact oK | apply wA | apply wB | apply wC hX hC | apply wD hX hC | apply wE hX hC hmix | apply wF hX hC hmix | apply wG | apply wH | apply And.intro)) | ((with_reducible refine oD ?_ ?_); first | fail | kernel_rfl) | ((with_reducible (first | apply oE | apply oF)); (iterate 3 exact rfl); all_goals (intro h; first | (exact absurd h (by decide)) | ((try simp only [go_sem, simprocAttr, hi] at h); (try with_reducible intro K hK); simp only [go_sem, simprocAttr, hi]))) | ((first | ((with_reducible apply wL); exact rfl) | ((with_reducible apply wM); exact rfl)); all_goals (try ((with_reducible intro h); first | (exact absurd h (by decide)) | (try simp only [go_sem, simprocAttr, hi] at h)))) | omega | ((first | first | refine acall_simple hX hC hP (left_spec g hm) rfl rfl rfl (by simp only [go_sem, simprocAttr, hi]) rfl ?_ | (refine acall_lend hX hC hP (has_spec way x hlway) rfl rfl rfl ?_ ?_ ?_ ?_; iterate 3 (focus (simp only [go_sem, simprocAttr, hi]; done))) | (refine acall_lend hX hC hP (has_spec way (a : Int) hlway) rfl rfl rfl ?_ ?_ ?_ ?_; iterate 3 (focus (simp only [go_sem, simprocAttr, hi]; done)))); try simp only [go_sem, simprocAttr, hi]) | (intro h))
        refine awp_loopP (fun j : Nat => j ≤ g.es.length) (fun j => ⟨[(1, .ptr 1 0), (4, eN a), (3, .d (sB (lfG g))), (5, .ref 39), (6, eN (backR g a j)), (7, eN j)], [(1, .box [eN g.n, .d (sE g.es)]), (39, .tip 3 1 ((way ++ [(a : Int)]).map rI))]⟩) (fun j => g.es.length - j) 0 (by simp) ?_ ?_
        · refine Le.of ?_ ?_ <;> simp [go_sem, simprocAttr, rI, backR]
        rintro j hj
        rcases Nat.lt_or_ge j g.es.length with hjl | hjg
        · have hb2 : decide ((j : Int) < (g.es.length : Int)) = true := decide_eq_true (by omega)
          obtain ⟨⟨he0, he1⟩, _⟩ := mayB_e hm hjl
          have hnx : backR g a (j + 1) = if (g.es.getD j (0, 0)).2 = (a : Int) ∧ (lfG g).getD (g.es.getD j (0, 0)).1.toNat false = true then min (backR g a j) (g.es.getD j (0, 0)).1 else backR g a j := backR_next
          repeat' (first | ((first | ((with_reducible (first | apply oA | apply oB)); exact rfl; intro K hK) | (refine hK _ ?_; clear hK K) | ((with_reducible (first | apply oG | apply oH)); iterate 3 exact rfl) | ((with_reducible apply oI); (iterate 2 exact rfl); intro K hK) | (with_reducible (first | apply wI | apply wJ | apply wK))); try simp only [go_sem, simprocAttr, hb2, hlf]) | fail | (with_reducible (first | apply oC | apply oJ | exact oK | apply wA | apply wB | apply wC hX hC | apply wD hX hC | apply wE hX hC hmix | apply wF hX hC hmix | apply wG | apply wH | apply And.intro)) | ((with_reducible refine oD ?_ ?_); first | fail | kernel_rfl) | ((with_reducible (first | apply oE | apply oF)); (iterate 3 exact rfl); all_goals (intro h; first | (exact absurd h (by decide)) | ((try simp only [go_sem, simprocAttr, hb2, hlf] at h); (try with_reducible intro K hK); simp only [go_sem, simprocAttr, hb2, hlf]))) | ((first | ((with_reducible apply wL); exact rfl) | ((with_reducible apply wM); exact rfl)); all_goals (try ((with_reducible intro h); first | (exact absurd h (by decide)) | (try simp only [go_sem, simprocAttr, hb2, hlf] at h)))) | omega | ((first | first | refine acall_simple hX hC hP (left_spec g hm) rfl rfl rfl (by simp only [go_sem, simprocAttr, hb2, hlf]) rfl ?_ | (refine acall_lend hX hC hP (has_spec way x hlway) rfl rfl rfl ?_ ?_ ?_ ?_; iterate 3 (focus (simp only [go_sem, simprocAttr, hb2, hlf]; done))) | (refine acall_lend hX hC hP (has_spec way (a : Int) hlway) rfl rfl rfl ?_ ?_ ?_ ?_; iterate 3 (focus (simp only [go_sem, simprocAttr, hb2, hlf]; done)))); try simp only [go_sem, simprocAttr, hb2, hlf]) | (intro h))
          all_goals (first | rw [if_pos ⟨by assumption, by assumption⟩] at hnx | rw [if_neg (fun e => by first | exact absurd e.1 (by assumption) | simp_all)] at hnx)
          all_goals (refine ⟨j + 1, by omega, ?_, by omega⟩; refine Le.of ?_ ?_ <;> simp [go_sem, simprocAttr, hnx])
        · have hb2 : decide ((j : Int) < (g.es.length : Int)) = false := decide_eq_false (by omega)
          obtain rfl : j = g.es.length := by omega
          repeat' (first | ((first | ((with_reducible (first | apply oA | apply oB)); exact rfl; intro K hK) | (refine hK _ ?_; clear hK K) | ((with_reducible (first | apply oG | apply oH)); iterate 3 exact rfl) | ((with_reducible apply oI); (iterate 2 exact rfl); intro K hK) | (with_reducible (first | apply wI | apply wJ | apply wK))); try simp only [go_sem, simprocAttr, hb2]) | fail | (with_reducible (first | apply oC | apply oJ | exact oK | apply wA | apply wB | apply wC hX hC | apply wD hX hC | apply wE hX hC hmix | apply wF hX hC hmix | apply wG | apply wH | apply And.intro)) | ((with_reducible refine oD ?_ ?_); first | fail | kernel_rfl) | ((with_reducible (first | apply oE | apply oF)); (iterate 3 exact rfl); all_goals (intro h; first | (exact absurd h (by decide)) | ((try simp only [go_sem, simprocAttr, hb2] at h); (try with_reducible intro K hK); simp only [go_sem, simprocAttr, hb2]))) | ((first | ((with_reducible apply wL); exact rfl) | ((with_reducible apply wM); exact rfl)); all_goals (try ((with_reducible intro h); first | (exact absurd h (by decide)) | (try simp only [go_sem, simprocAttr, hb2] at h)))) | omega | ((first | first | refine acall_simple hX hC hP (left_spec g hm) rfl rfl rfl (by simp only [go_sem, simprocAttr, hb2]) rfl ?_ | (refine acall_lend hX hC hP (has_spec way x hlway) rfl rfl rfl ?_ ?_ ?_ ?_; iterate 3 (focus (simp only [go_sem, simprocAttr, hb2]; done))) | (refine acall_lend hX hC hP (has_spec way (a : Int) hlway) rfl rfl rfl ?_ ?_ ?_ ?_; iterate 3 (focus (simp only [go_sem, simprocAttr, hb2]; done)))); try simp only [go_sem, simprocAttr, hb2]) | (intro h))
          refine ⟨(way ++ [(a : Int)], backR g a g.es.length), ⟨hway.next han hmem, backR_range hm (Nat.le_refl _), ?_⟩, ?_, ?_⟩
          · simp only
            rw [← hrun, left_app han hmem]
            simp only [wayR]
            rw [if_neg hmem]
          · refine Le.of ?_ ?_ <;> simp [go_sem, simprocAttr]
          · have := left_app han hmem; simp only; omega
  · have hb : decide ((k : Int) < g.n) = false := decide_eq_false (by omega)
    have hst : stR g = g.n := by
      have : findI (fun b : Bool => b) (lfG g) = -1 := findI_none false fun j hj => hno j (by omega)
      unfold stR; rw [this, if_pos (by omega)]
    have hne : decide ((k : Int) = g.n) = true := decide_eq_true (by omega)
    repeat' (first | ((first | ((with_reducible (first | apply oA | apply oB)); exact rfl; intro K hK) | (refine hK _ ?_; clear hK K) | ((with_reducible (first | apply oG | apply oH)); iterate 3 exact rfl) | ((with_reducible apply oI); (iterate 2 exact rfl); intro K hK) | (with_reducible (first | apply wI | apply wJ | apply wK))); try simp only [go_sem, simprocAttr, hb, hne]) | fail | (with_reducible (first | apply oC | apply oJ | exact oK | apply wA | apply wB | apply wC hX hC | apply wD hX hC | apply wE hX hC hmix | apply wF hX hC hmix | apply wG | apply wH | apply And.intro)) | ((with_reducible refine oD ?_ ?_); first | fail | kernel_rfl) | ((with_reducible (first | apply oE | apply oF)); (iterate 3 exact rfl); all_goals (intro h; first | (exact absurd h (by decide)) | ((try simp only [go_sem, simprocAttr, hb, hne] at h); (try with_reducible intro K hK); simp only [go_sem, simprocAttr, hb, hne]))) | ((first | ((with_reducible apply wL); exact rfl) | ((with_reducible apply wM); exact rfl)); all_goals (try ((with_reducible intro h); first | (exact absurd h (by decide)) | (try simp only [go_sem, simprocAttr, hb, hne] at h)))) | omega | ((first | first | refine acall_simple hX hC hP (left_spec g hm) rfl rfl rfl (by simp only [go_sem, simprocAttr, hb, hne]) rfl ?_ | (refine acall_lend hX hC hP (has_spec way x hlway) rfl rfl rfl ?_ ?_ ?_ ?_; iterate 3 (focus (simp only [go_sem, simprocAttr, hb, hne]; done))) | (refine acall_lend hX hC hP (has_spec way (a : Int) hlway) rfl rfl rfl ?_ ?_ ?_ ?_; iterate 3 (focus (simp only [go_sem, simprocAttr, hb, hne]; done)))); try simp only [go_sem, simprocAttr, hb, hne]) | (intro h))
    simp only [rcycG]; rw [if_pos hst]; rfl
end Go.Ab
end
section
namespace Go.Ab
open Go.Proofs
attribute [local congr] ACall.congr
set_option maxRecDepth 10000

def rchkG (g : Gr) : Int × Int × List Int := chkOf g (rcycG g) (bareG (·.2) g)
theorem take_mem {l : List Edge} {k : Nat} {x : Edge} : x ∈ l.take k ↔ ∃ j, j < k ∧ j < l.length ∧ l.getD j (0, 0) = x := by
  rw [List.mem_iff_getElem?]
  constructor
  · rintro ⟨j, hj⟩
    rw [List.getElem?_take] at hj
    split at hj
    · exact ⟨j, by assumption, (List.getElem?_eq_some_iff.1 hj).1, by rw [List.getD_eq_getElem?_getD, hj]; rfl⟩
    · cases hj
  · rintro ⟨j, h1, h2, h3⟩
    refine ⟨j, ?_⟩
    rw [List.getElem?_take, if_pos h1, List.getElem?_eq_getElem h2]
    rw [List.getD_eq_getElem?_getD, List.getElem?_eq_getElem h2] at h3
    exact congrArg some h3
theorem bare_eq (g : Gr) : bareG (endF (!true)) g = bareG (·.2) g := rfl
theorem refCheck_spec (g : Gr) (hl0 : g.es.length ≤ 1000) : Spec Try.prog 53 (Args [eG g]) [] (.tup [eN (rchkG g).1, eN (rchkG g).2.1, .d (sI (rchkG g).2.2)]) [] := by
  have hl : g.es.length ≤ 9223372036854775807 := by omega
  (refine Spec.intro (C := T.cfg [] []) (rs := [.t 2, .t 3, .t 4]) (T.cfg_ok _ _) Try.func53 rfl rfl Try.ntmps53 Try.results53 (by simp [AObj.isNest]) (by simp [AObj.isNest]) (by kernel_rfl) ?_; intro X hX hP hC hXn hXm vals hA; refine ⟨_, by simp, hA, ?_⟩; have hmix : X.P.follows .mixedOrders = true := (by rw [hP]; exact T.mixed); clear hXn hXm)
  cases hm : mayB g with
  | false =>
    repeat' (first | ((first | ((with_reducible (first | apply oA | apply oB)); exact rfl; intro K hK) | (refine hK _ ?_; clear hK K) | ((with_reducible (first | apply oG | apply oH)); iterate 3 exact rfl) | ((with_reducible apply oI); (iterate 2 exact rfl); intro K hK) | (with_reducible (first | apply wI | apply wJ | apply wK))); try simp only [go_sem, simprocAttr, hm]) | fail | (with_reducible (first | apply oC | apply oJ | exact oK | apply wA | apply wB | apply wC hX hC | apply wD hX hC | apply wE hX hC hmix | apply wF hX hC hmix | apply wG | apply wH | apply And.intro)) | ((with_reducible refine oD ?_ ?_); first | fail | kernel_rfl) | ((with_reducible (first | apply oE | apply oF)); (iterate 3 exact rfl); all_goals (intro h; first | (exact absurd h (by decide)) | ((try simp only [go_sem, simprocAttr, hm] at h); (try with_reducible intro K hK); simp only [go_sem, simprocAttr, hm]))) | ((first | ((with_reducible apply wL); exact rfl) | ((with_reducible apply wM); exact rfl)); all_goals (try ((with_reducible intro h); first | (exact absurd h (by decide)) | (try simp only [go_sem, simprocAttr, hm] at h)))) | omega | ((first | first | refine acall_simple hX hC hP (refMay_spec g hl) rfl rfl rfl (by simp only [go_sem, simprocAttr, hm]) rfl ?_ | refine acall_simple hX hC hP (rcycle_spec g hm) rfl rfl rfl (by simp only [go_sem, simprocAttr, hm]) rfl ?_ | refine acall_simple hX hC hP (refBare_spec g true hl0 hn0) rfl rfl rfl (by simp only [go_sem, simprocAttr, hm]) rfl ?_); try simp only [go_sem, simprocAttr, hm]) | (intro h))
    all_goals simp [rchkG, chkOf, hm]
  | true =>
  have hn := mayB_n hm
  have hn0 : 0 ≤ g.n ∧ g.n ≤ 1000 := by omega
  repeat' (first | ((first | ((with_reducible (first | apply oA | apply oB)); exact rfl; intro K hK) | (refine hK _ ?_; clear hK K) | ((with_reducible (first | apply oG | apply oH)); iterate 3 exact rfl) | ((with_reducible apply oI); (iterate 2 exact rfl); intro K hK) | (with_reducible (first | apply wI | apply wJ | apply wK))); try simp only [go_sem, simprocAttr, hm]) | fail | (with_reducible (first | apply oC | apply oJ | exact oK | apply wA | apply wB | apply wC hX hC | apply wD hX hC | apply wE hX hC hmix | apply wF hX hC hmix | apply wG | apply wH | apply And.intro)) | ((with_reducible refine oD ?_ ?_); first | fail | kernel_rfl) | ((with_reducible (first | apply oE | apply oF)); (iterate 3 exact rfl); all_goals (intro h; first | (exact absurd h (by decide)) | ((try simp only [go_sem, simprocAttr, hm] at h); (try with_reducible intro K hK); simp only [go_sem, simprocAttr, hm]))) | ((first | ((with_reducible apply wL); exact rfl) | ((with_reducible apply wM); exact rfl)); all_goals (try ((with_reducible intro h); first | (exact absurd h (by decide)) | (try simp only [go_sem, simprocAttr, hm] at h)))) | omega | ((first | first | refine acall_simple hX hC hP (refMay_spec g hl) rfl rfl rfl (by simp only [go_sem, simprocAttr, hm]) rfl ?_ | refine acall_simple hX hC hP (rcycle_spec g hm) rfl rfl rfl (by simp only [go_sem, simprocAttr, hm]) rfl ?_ | refine acall_simple hX hC hP (refBare_spec g true hl0 hn0) rfl rfl rfl (by simp only [go_sem, simprocAttr, hm]) rfl ?_); try simp only [go_sem, simprocAttr, hm]) | (intro h))
  refine awp_loopP (fun k : Nat => k ≤ g.es.length ∧ ∀ j, j < k → decide ((g.es.getD j (0, 0)).1 = (g.es.getD j (0, 0)).2) = false) (fun k => ⟨[(5, eN k), (1, .ptr 1 0)], [(1, .box [eN g.n, .d (sE g.es)])]⟩) (fun k => g.es.length - k) 0 (by simp) ?_ ?_
  · (refine Le.of ?_ ?_ <;> simp [go_sem, simprocAttr, hm])
  rintro k ⟨hk, hno⟩
  rcases Nat.lt_or_ge k g.es.length with hlt | hge
  · have hb2 : decide ((k : Int) < (g.es.length : Int)) = true := decide_eq_true (by omega)
    repeat' (first | ((first | ((with_reducible (first | apply oA | apply oB)); exact rfl; intro K hK) | (refine hK _ ?_; clear hK K) | ((with_reducible (first | apply oG | apply oH)); iterate 3 exact rfl) | ((with_reducible apply oI); (iterate 2 exact rfl); intro K hK) | (with_reducible (first | apply wI | apply wJ | apply wK))); try simp only [go_sem, simprocAttr, hm, hb2]) | fail | (with_reducible (first | apply oC | apply oJ | exact oK | apply wA | apply wB | apply wC hX hC | apply wD hX hC | apply wE hX hC hmix | apply wF hX hC hmix | apply wG | apply wH | apply And.intro)) | ((with_reducible refine oD ?_ ?_); first | fail | kernel_rfl) | ((with_reducible (first | apply oE | apply oF)); (iterate 3 exact rfl); all_goals (intro h; first | (exact absurd h (by decide)) | ((try simp only [go_sem, simprocAttr, hm, hb2] at h); (try with_reducible intro K hK); simp only [go_sem, simprocAttr, hm, hb2]))) | ((first | ((with_reducible apply wL); exact rfl) | ((with_reducible apply wM); exact rfl)); all_goals (try ((with_reducible intro h); first | (exact absurd h (by decide)) | (try simp only [go_sem, simprocAttr, hm, hb2] at h)))) | omega | ((first | first | refine acall_simple hX hC hP (refMay_spec g hl) rfl rfl rfl (by simp only [go_sem, simprocAttr, hm, hb2]) rfl ?_ | refine acall_simple hX hC hP (rcycle_spec g hm) rfl rfl rfl (by simp only [go_sem, simprocAttr, hm, hb2]) rfl ?_ | refine acall_simple hX hC hP (refBare_spec g true hl0 hn0) rfl rfl rfl (by simp only [go_sem, simprocAttr, hm, hb2]) rfl ?_); try simp only [go_sem, simprocAttr, hm, hb2]) | (intro h))
    any_goals (
      have hlo : loopI g = (k : Int) := findI_at (d := (0, 0)) hlt hno (decide_eq_true h)
      have hc : rchkG g = (13, loopI g, []) := by
        simp only [rchkG, chkOf]; rw [if_neg (by simp [hm]), if_pos (by omega)]
      rw [hc] <;> first | rfl | exact hlo.symm)
    refine ⟨k + 1, ⟨by omega, fun j hj => ?_⟩, ?_, by omega⟩
    · by_cases hjk : j = k
      · subst hjk; exact h
      · simpa using hno j (by omega)
    · (refine Le.of ?_ ?_ <;> simp [go_sem, simprocAttr, hm, hb2])
  · have hb2 : decide ((k : Int) < (g.es.length : Int)) = false := decide_eq_false (by omega)
    have hlo : ¬ 0 ≤ loopI g := by
      have : loopI g = -1 := findI_none (0, 0) fun j hj => hno j (by omega)
      omega
    repeat' (first | ((first | ((with_reducible (first | apply oA | apply oB)); exact rfl; intro K hK) | (refine hK _ ?_; clear hK K) | ((with_reducible (first | apply oG | apply oH)); iterate 3 exact rfl) | ((with_reducible apply oI); (iterate 2 exact rfl); intro K hK) | (with_reducible (first | apply wI | apply wJ | apply wK))); try simp only [go_sem, simprocAttr, hm, hb2]) | fail | (with_reducible (first | apply oC | apply oJ | exact oK | apply wA | apply wB | apply wC hX hC | apply wD hX hC | apply wE hX hC hmix | apply wF hX hC hmix | apply wG | apply wH | apply And.intro)) | ((with_reducible refine oD ?_ ?_); first | fail | kernel_rfl) | ((with_reducible (first | apply oE | apply oF)); (iterate 3 exact rfl); all_goals (intro h; first | (exact absurd h (by decide)) | ((try simp only [go_sem, simprocAttr, hm, hb2] at h); (try with_reducible intro K hK); simp only [go_sem, simprocAttr, hm, hb2]))) | ((first | ((with_reducible apply wL); exact rfl) | ((with_reducible apply wM); exact rfl)); all_goals (try ((with_reducible intro h); first | (exact absurd h (by decide)) | (try simp only [go_sem, simprocAttr, hm, hb2] at h)))) | omega | ((first | first | refine acall_simple hX hC hP (refMay_spec g hl) rfl rfl rfl (by simp only [go_sem, simprocAttr, hm, hb2]) rfl ?_ | refine acall_simple hX hC hP (rcycle_spec g hm) rfl rfl rfl (by simp only [go_sem, simprocAttr, hm, hb2]) rfl ?_ | refine acall_simple hX hC hP (refBare_spec g true hl0 hn0) rfl rfl rfl (by simp only [go_sem, simprocAttr, hm, hb2]) rfl ?_); try simp only [go_sem, simprocAttr, hm, hb2]) | (intro h))
    clear hno hb2 hk hge
    refine awp_loopP (fun k : Nat => k ≤ g.es.length ∧ ∀ j, j < k → twiceB g j = false) (fun k => ⟨[(6, eN k), (1, .ptr 1 0)], [(1, .box [eN g.n, .d (sE g.es)])]⟩) (fun k => g.es.length - k) 0 (by simp) ?_ ?_
    · (refine Le.of ?_ ?_ <;> simp [go_sem, simprocAttr])
    rintro k ⟨hk, htw⟩
    rcases Nat.lt_or_ge k g.es.length with hlt | hge
    · have hb2 : decide ((k : Int) < (g.es.length : Int)) = true := decide_eq_true (by omega)
      repeat' (first | ((first | ((with_reducible (first | apply oA | apply oB)); exact rfl; intro K hK) | (refine hK _ ?_; clear hK K) | ((with_reducible (first | apply oG | apply oH)); iterate 3 exact rfl) | ((with_reducible apply oI); (iterate 2 exact rfl); intro K hK) | (with_reducible (first | apply wI | apply wJ | apply wK))); try simp only [go_sem, simprocAttr, hm, hb2]) | fail | (with_reducible (first | apply oC | apply oJ | exact oK | apply wA | apply wB | apply wC hX hC | apply wD hX hC | apply wE hX hC hmix | apply wF hX hC hmix | apply wG | apply wH | apply And.intro)) | ((with_reducible refine oD ?_ ?_); first | fail | kernel_rfl) | ((with_reducible (first | apply oE | apply oF)); (iterate 3 exact rfl); all_goals (intro h; first | (exact absurd h (by decide)) | ((try simp only [go_sem, simprocAttr, hm, hb2] at h); (try with_reducible intro K hK); simp only [go_sem, simprocAttr, hm, hb2]))) | ((first | ((with_reducible apply wL); exact rfl) | ((with_reducible apply wM); exact rfl)); all_goals (try ((with_reducible intro h); first | (exact absurd h (by decide)) | (try simp only [go_sem, simprocAttr, hm, hb2] at h)))) | omega | ((first | first | refine acall_simple hX hC hP (refMay_spec g hl) rfl rfl rfl (by simp only [go_sem, simprocAttr, hm, hb2]) rfl ?_ | refine acall_simple hX hC hP (rcycle_spec g hm) rfl rfl rfl (by simp only [go_sem, simprocAttr, hm, hb2]) rfl ?_ | refine acall_simple hX hC hP (refBare_spec g true hl0 hn0) rfl rfl rfl (by simp only [go_sem, simprocAttr, hm, hb2]) rfl ?_); try simp only [go_sem, simprocAttr, hm, hb2]) | (intro h))
      refine awp_loopP (fun q : Nat => q ≤ k ∧ ∀ j, j < q → ¬ g.es.getD j (0, 0) = g.es.getD k (0, 0)) (fun q => ⟨[(6, eN k), (7, eN q), (1, .ptr 1 0)], [(1, .box [eN g.n, .d (sE g.es)])]⟩) (fun q => k - q) 0 (by simp) ?_ ?_
      · (refine Le.of ?_ ?_ <;> simp [go_sem, simprocAttr, hm, hb2])
      rintro q ⟨hq, hne⟩
      rcases Nat.lt_or_ge q k with hqk | hqk
      · have hb3 : decide ((q : Int) < (k : Int)) = true := decide_eq_true (by omega)
        repeat' (first | ((first | ((with_reducible (first | apply oA | apply oB)); exact rfl; intro K hK) | (refine hK _ ?_; clear hK K) | ((with_reducible (first | apply oG | apply oH)); iterate 3 exact rfl) | ((with_reducible apply oI); (iterate 2 exact rfl); intro K hK) | (with_reducible (first | apply wI | apply wJ | apply wK))); try simp only [go_sem, simprocAttr, hb3, beqE]) | fail | (with_reducible (first | apply oC | apply oJ | exact oK | apply wA | apply wB | apply wC hX hC | apply wD hX hC | apply wE hX hC hmix | apply wF hX hC hmix | apply wG | apply wH | apply And.intro)) | ((with_reducible refine oD ?_ ?_); first | fail | kernel_rfl) | ((with_reducible (first | apply oE | apply oF)); (iterate 3 exact rfl); all_goals (intro h; first | (exact absurd h (by decide)) | ((try simp only [go_sem, simprocAttr, hb3, beqE] at h); (try with_reducible intro K hK); simp only [go_sem, simprocAttr, hb3, beqE]))) | ((first | ((with_reducible apply wL); exact rfl) | ((with_reducible apply wM); exact rfl)); all_goals (try ((with_reducible intro h); first | (exact absurd h (by decide)) | (try simp only [go_sem, simprocAttr, hb3, beqE] at h)))) | omega | ((first | first | refine acall_simple hX hC hP (refMay_spec g hl) rfl rfl rfl (by simp only [go_sem, simprocAttr, hb3, beqE]) rfl ?_ | refine acall_simple hX hC hP (rcycle_spec g hm) rfl rfl rfl (by simp only [go_sem, simprocAttr, hb3, beqE]) rfl ?_ | refine acall_simple hX hC hP (refBare_spec g true hl0 hn0) rfl rfl rfl (by simp only [go_sem, simprocAttr, hb3, beqE]) rfl ?_); try simp only [go_sem, simprocAttr, hb3, beqE]) | (intro h))
        any_goals (
          have htw' : twiceB g k = true := decide_eq_true (take_mem.2 ⟨q, hqk, by omega, h⟩)
          have htI : twiceI g = (k : Int) := findI_at (d := 0) (by simpa using hlt) (fun j hj => by rw [range_getD (by omega)]; exact htw j hj) (by rw [range_getD hlt]; exact htw')
          have hc : rchkG g = (14, twiceI g, []) := by
            simp only [rchkG, chkOf]; rw [if_neg (by simp [hm]), if_neg hlo, if_pos (by omega)]
          rw [hc] <;> first | rfl | exact htI.symm)
        refine ⟨q + 1, ⟨by omega, fun j hj => ?_⟩, ?_, by omega⟩
        · by_cases hjk : j = q
          · subst hjk; exact h
          · exact hne j (by omega)
        · refine Le.of ?_ ?_ <;> simp [go_sem, simprocAttr]
      · have hb3 : decide ((q : Int) < (k : Int)) = false := decide_eq_false (by omega)
        repeat' (first | ((first | ((with_reducible (first | apply oA | apply oB)); exact rfl; intro K hK) | (refine hK _ ?_; clear hK K) | ((with_reducible (first | apply oG | apply oH)); iterate 3 exact rfl) | ((with_reducible apply oI); (iterate 2 exact rfl); intro K hK) | (with_reducible (first | apply wI | apply wJ | apply wK))); try simp only [go_sem, simprocAttr, hb3]) | fail | (with_reducible (first | apply oC | apply oJ | exact oK | apply wA | apply wB | apply wC hX hC | apply wD hX hC | apply wE hX hC hmix | apply wF hX hC hmix | apply wG | apply wH | apply And.intro)) | ((with_reducible refine oD ?_ ?_); first | fail | kernel_rfl) | ((with_reducible (first | apply oE | apply oF)); (iterate 3 exact rfl); all_goals (intro h; first | (exact absurd h (by decide)) | ((try simp only [go_sem, simprocAttr, hb3] at h); (try with_reducible intro K hK); simp only [go_sem, simprocAttr, hb3]))) | ((first | ((with_reducible apply wL); exact rfl) | ((with_reducible apply wM); exact rfl)); all_goals (try ((with_reducible intro h); first | (exact absurd h (by decide)) | (try simp only [go_sem, simprocAttr, hb3] at h)))) | omega | ((first | first | refine acall_simple hX hC hP (refMay_spec g hl) rfl rfl rfl (by simp only [go_sem, simprocAttr, hb3]) rfl ?_ | refine acall_simple hX hC hP (rcycle_spec g hm) rfl rfl rfl (by simp only [go_sem, simprocAttr, hb3]) rfl ?_ | refine acall_simple hX hC hP (refBare_spec g true hl0 hn0) rfl rfl rfl (by simp only [go_sem, simprocAttr, hb3]) rfl ?_); try simp only [go_sem, simprocAttr, hb3]) | (intro h))
        refine ⟨k + 1, ⟨by omega, fun j hj => ?_⟩, ?_, by omega⟩
        · by_cases hjk : j = k
          · subst hjk
            refine decide_eq_false fun h => ?_
            obtain ⟨i, h1, _, h3⟩ := take_mem.1 h
            exact hne i (by omega) h3
          · exact htw j (by omega)
        · (refine Le.of ?_ ?_ <;> simp [go_sem, simprocAttr, hb3])
    · have hb2 : decide ((k : Int) < (g.es.length : Int)) = false := decide_eq_false (by omega)
      have htw' : ¬ 0 ≤ twiceI g := by
        have : twiceI g = -1 := findI_none 0 fun j hj => by
          rw [List.length_range] at hj
          rw [range_getD hj]; exact htw j (by omega)
        omega
      repeat' (first | ((first | ((with_reducible (first | apply oA | apply oB)); exact rfl; intro K hK) | (refine hK _ ?_; clear hK K) | ((with_reducible (first | apply oG | apply oH)); iterate 3 exact rfl) | ((with_reducible apply oI); (iterate 2 exact rfl); intro K hK) | (with_reducible (first | apply wI | apply wJ | apply wK))); try simp only [go_sem, simprocAttr, hm, hb2]) | fail | (with_reducible (first | apply oC | apply oJ | exact oK | apply wA | apply wB | apply wC hX hC | apply wD hX hC | apply wE hX hC hmix | apply wF hX hC hmix | apply wG | apply wH | apply And.intro)) | ((with_reducible refine oD ?_ ?_); first | fail | kernel_rfl) | ((with_reducible (first | apply oE | apply oF)); (iterate 3 exact rfl); all_goals (intro h; first | (exact absurd h (by decide)) | ((try simp only [go_sem, simprocAttr, hm, hb2] at h); (try with_reducible intro K hK); simp only [go_sem, simprocAttr, hm, hb2]))) | ((first | ((with_reducible apply wL); exact rfl) | ((with_reducible apply wM); exact rfl)); all_goals (try ((with_reducible intro h); first | (exact absurd h (by decide)) | (try simp only [go_sem, simprocAttr, hm, hb2] at h)))) | omega | ((first | first | refine acall_simple hX hC hP (refMay_spec g hl) rfl rfl rfl (by simp only [go_sem, simprocAttr, hm, hb2]) rfl ?_ | refine acall_simple hX hC hP (rcycle_spec g hm) rfl rfl rfl (by simp only [go_sem, simprocAttr, hm, hb2]) rfl ?_ | refine acall_simple hX hC hP (refBare_spec g true hl0 hn0) rfl rfl rfl (by simp only [go_sem, simprocAttr, hm, hb2]) rfl ?_); try simp only [go_sem, simprocAttr, hm, hb2]) | (intro h))
      all_goals (
        have hc : rchkG g = if 0 < (rcycG g).length then (15, 0, rcycG g) else if 1 < (bareG (endF false) g).length then (16, 0, (bareG (endF false) g).take 2) else (0, 0, []) := by
          show chkOf g (rcycG g) (bareG (endF false) g) = _
          simp only [chkOf]; rw [if_neg (by simp [hm]), if_neg hlo, if_neg htw']
        first | rw [if_pos (by omega)] at hc | (rw [if_neg (by omega)] at hc; first | rw [if_pos (by omega)] at hc | rw [if_neg (by omega)] at hc)
        rw [hc] <;> first | rfl | simp only [List.map_take])
end Go.Ab
end
section
namespace Go.Ab

/-- What is placed comes behind its tails. -/
def Ord (g : Gr) (out : List Int) : Prop := ∀ p, p < out.length → ∀ i, i < g.es.length → hd g i = out.getD p 0 → tl g i ∈ out.take p
theorem getD_app {l r : List Int} {p : Nat} (h : p < l.length) : (l ++ r).getD p 0 = l.getD p 0 := by
  rw [List.getD_eq_getElem?_getD, List.getD_eq_getElem?_getD, List.getElem?_append_left h]
theorem Ord.next {g : Gr} {out : List Int} (h : Ord g out) {x : Nat} (hb : ∀ i, i < g.es.length → hd g i = x → tl g i ∈ out) : Ord g (out ++ [(x : Int)]) := by
  intro p hp i hi hh
  rw [List.length_append, List.length_singleton] at hp
  by_cases hpl : p < out.length
  · rw [getD_app hpl] at hh
    have := h p hpl i hi hh
    rw [List.take_append_of_le_length (by omega)]
    exact this
  · have hpe : p = out.length := by omega
    subst hpe
    rw [List.getD_eq_getElem?_getD, List.getElem?_append_right (by omega)] at hh
    simp at hh
    rw [List.take_append_of_le_length (by omega), List.take_of_length_le (by omega)]
    exact hb i hi hh
theorem runF_props {g : Gr} (hm : mayB g = true) : ∀ f out, Placed g out → Ord g out → left g out ≤ f → Placed g (runF g f out) ∧ Ord g (runF g f out) ∧ idxI (wts g (runF g f out)) 0 < 0
  | f, out, hP, hO, hl => by
    rcases idxW (g := g) out with hx | ⟨x, hx, hxn, hw⟩
    · rw [runF_end (by omega)]; exact ⟨hP, hO, by omega⟩
    · obtain ⟨hP', _, hb⟩ := hP.next hm hxn hw
      have hn := left_next hP hP'
      cases f with
      | zero => omega
      | succ f =>
        have := runF_props hm f (out ++ [(x : Int)]) hP' (hO.next hb) (by omega)
        simp only [runF, hx]
        rw [if_neg (by omega)]
        exact this
theorem runG_props {g : Gr} (hm : mayB g = true) : Placed g (runG g) ∧ Ord g (runG g) ∧ idxI (wts g (runG g)) 0 < 0 :=
  runF_props hm _ _ (Placed.nil g) (fun p hp => by simp at hp) (by rw [left_nil]; exact Nat.le_refl _)
/-- A vertex waits just if it isn't placed. -/
theorem wt_pos {g : Gr} (hm : mayB g = true) {y : Nat} (hy : y < g.n.toNat) : 0 < wt g (runG g) y ↔ (y : Int) ∉ runG g := by
  obtain ⟨_, _, hi⟩ := runG_props hm
  constructor
  · intro h hin; simp [wt, hin] at h
  · intro h
    have h0 : wt g (runG g) y ≠ 0 := by
      intro e
      rcases findI_spec (f := fun y : Int => decide (0 = y)) (l := wts g (runG g)) 0 with ⟨_, h2⟩ | ⟨k, h1, _⟩
      · have := h2 _ (List.mem_of_getElem? (wts_get hy))
        rw [e] at this; simp at this
      · have : idxI (wts g (runG g)) 0 = k := h1
        omega
    have : 0 ≤ wt g (runG g) y := by simp only [wt, h, if_false]; omega
    omega
theorem nextK_getD {g : Gr} {l : List Bool} {j y : Nat} (h : y < g.n.toNat) : (nextK g l j).getD y false = (List.range j).any fun i => decide (hd g i = (y : Int)) && (l.getD (tl g i).toNat false && l.getD (hd g i).toNat false) := by
  simp [nextK, List.getD_eq_getElem?_getD, List.getElem?_range h]
theorem left_yes {g : Gr} (hm : mayB g = true) : ∀ k y, y < g.n.toNat → (y : Int) ∉ runG g → (leftK g k).getD y false = true
  | 0, y, hy, _ => by simp [leftK, trueK, List.getD_eq_getElem?_getD, List.getElem?_range hy]; omega
  | k + 1, y, hy, h => by
    have hw := (wt_pos hm hy).2 h
    simp only [wt, h, if_false] at hw
    obtain ⟨i, hi, hp⟩ := List.countP_pos_iff.1 (Int.natCast_pos.1 hw)
    simp only [Bool.and_eq_true, decide_eq_true_eq, Bool.not_eq_true', decide_eq_false_iff_not] at hp
    have hil := List.mem_range.1 hi
    obtain ⟨⟨h1, h2⟩, _⟩ := mayB_e hm hil
    have ht : (g.es.getD i (0, 0)).1 = tl g i := rfl
    rw [ht] at h1 h2
    have e : ((tl g i).toNat : Int) = tl g i := by omega
    have g1 := left_yes hm k (tl g i).toNat (by omega) (by rw [e]; exact hp.2)
    have g2 := left_yes hm k y hy h
    show (nextK g (leftK g k) g.es.length).getD y false = true
    rw [nextK_getD hy, List.any_eq_true]
    refine ⟨i, hi, ?_⟩
    rw [hp.1, Int.toNat_natCast, g1, g2]; simp
theorem left_no {g : Gr} (hm : mayB g = true) : ∀ k p, p < k → p < (runG g).length → (leftK g k).getD ((runG g).getD p 0).toNat false = false
  | 0, p, h, _ => by omega
  | k + 1, p, h, hp => by
    obtain ⟨hP, hO, _⟩ := runG_props hm
    have hr := hP.lo _ (getD_mem hp)
    obtain ⟨y, hy⟩ : ∃ y : Nat, (runG g).getD p 0 = y := ⟨((runG g).getD p 0).toNat, by omega⟩
    have hyn : y < g.n.toNat := by omega
    rw [hy, Int.toNat_natCast]
    show (nextK g (leftK g k) g.es.length).getD y false = false
    rw [nextK_getD hyn, List.any_eq_false]
    intro i hi
    have hil := List.mem_range.1 hi
    simp only [Bool.and_eq_true, decide_eq_true_eq]
    rintro ⟨h1, h2, _⟩
    have ht := hO p hp i hil (by rw [h1, hy])
    rw [List.mem_iff_getElem?] at ht
    obtain ⟨q, hq⟩ := ht
    rw [List.getElem?_take] at hq
    split at hq
    · rename_i hqp
      have := left_no hm k q (by omega) (by omega)
      rw [List.getD_eq_getElem?_getD (l := runG g), hq] at this
      rw [Option.getD_some, h2] at this
      cases this
    · cases hq
theorem lf_iff {g : Gr} (hm : mayB g = true) {y : Nat} (hy : y < g.n.toNat) : (lfG g).getD y false = true ↔ (y : Int) ∉ runG g := by
  constructor
  · intro h hin
    obtain ⟨hP, _, _⟩ := runG_props hm
    obtain ⟨p, hp, e⟩ := List.getElem_of_mem hin
    have hl := hP.fuel
    have := left_no hm g.n.toNat p (by omega) hp
    rw [List.getD_eq_getElem?_getD (l := runG g), List.getElem?_eq_getElem hp, Option.getD_some, e, Int.toNat_natCast] at this
    have h2 : (leftK g g.n.toNat).getD y false = true := h
    rw [this] at h2; cases h2
  · intro h; exact left_yes hm _ y hy h

theorem lf_eq {g : Gr} (hm : mayB g = true) {y : Nat} (hy : y < g.n.toNat) : (lfG g).getD y false = decide (0 < (wts g (runG g)).getD y 0) := by
  rw [wts_getD hy, Bool.eq_iff_iff, lf_iff hm hy, decide_eq_true_eq, wt_pos hm hy]
/-- Where the ways begin. -/
theorem start_eq {g : Gr} (hm : mayB g = true) : (findI (fun n => decide (0 < n)) (wts g (runG g)) = -1 ∧ stR g = g.n) ∨ ∃ a : Nat, a < g.n.toNat ∧ findI (fun n => decide (0 < n)) (wts g (runG g)) = a ∧ stR g = a ∧ (a : Int) ∉ runG g := by
  have hlf : (lfG g).length = g.n.toNat := leftK_length
  rcases findI_spec (f := fun n : Int => decide (0 < n)) (l := wts g (runG g)) 0 with ⟨h1, h2⟩ | ⟨k, h1, h2, h3, h4⟩
  · refine .inl ⟨h1, ?_⟩
    have : findI (fun b : Bool => b) (lfG g) = -1 := findI_none false fun j hj => by
      rw [hlf] at hj
      rw [lf_eq hm hj]
      exact h2 _ (by rw [List.getD_eq_getElem?_getD, wts_get hj]; exact List.mem_of_getElem? (wts_get hj))
    unfold stR; rw [this, if_pos (by omega)]
  · rw [wts_length] at h2
    refine .inr ⟨k, h2, h1, ?_, ?_⟩
    · have : findI (fun b : Bool => b) (lfG g) = k := findI_at (d := false) (by omega) (fun j hj => by
        rw [lf_eq hm (by omega)]; exact h4 j hj) (by rw [lf_eq hm h2]; exact h3)
      unfold stR; rw [this, if_neg (by omega)]
    · rw [← wt_pos hm h2]
      rw [wts_getD h2] at h3
      exact of_decide_eq_true h3
/-- A tail that waits. -/
def Q (g : Gr) (a : Nat) (t : Int) : Prop := ∃ i, i < g.es.length ∧ hd g i = (a : Int) ∧ tl g i = t ∧ t ∉ runG g
theorem tl_range {g : Gr} (hm : mayB g = true) {i : Nat} (hi : i < g.es.length) : 0 ≤ tl g i ∧ tl g i < g.n := (mayB_e hm hi).1
theorem hd_range {g : Gr} (hm : mayB g = true) {i : Nat} (hi : i < g.es.length) : 0 ≤ hd g i ∧ hd g i < g.n := (mayB_e hm hi).2
theorem waits_iff {g : Gr} (hm : mayB g = true) {i : Nat} (hi : i < g.es.length) : 0 < (wts g (runG g)).getD (tl g i).toNat 0 ↔ tl g i ∉ runG g := by
  have h := tl_range hm hi
  have e : ((tl g i).toNat : Int) = tl g i := by omega
  rw [wts_getD (by omega), wt_pos hm (by omega), e]
theorem backF_least {g : Gr} (hm : mayB g = true) : ∀ (l : List Int) (b : Int), (∀ e ∈ l, ∃ i : Nat, e = i ∧ i < g.es.length) →
    (b = -1 ∨ 0 ≤ b) → (l.foldl (backS g (wts g (runG g))) b = b ∨ ∃ i : Nat, (i : Int) ∈ l ∧ tl g i ∉ runG g ∧ l.foldl (backS g (wts g (runG g))) b = tl g i) ∧ (0 ≤ b → l.foldl (backS g (wts g (runG g))) b ≤ b) ∧
      (∀ i : Nat, (i : Int) ∈ l → tl g i ∉ runG g → 0 ≤ l.foldl (backS g (wts g (runG g))) b ∧ l.foldl (backS g (wts g (runG g))) b ≤ tl g i)
  | [], b, _, _ => ⟨.inl rfl, fun _ => Int.le_refl _, by simp⟩
  | e :: l, b, he, hb => by
    obtain ⟨i, rfl, hi⟩ := he e List.mem_cons_self
    have htr := tl_range hm hi
    have hw := waits_iff hm hi
    have hstep : backS g (wts g (runG g)) b (i : Int) = if tl g i ∉ runG g ∧ (b < 0 ∨ tl g i < b) then tl g i else b := by
      simp only [backS, Int.toNat_natCast, hw]
    have hb' : backS g (wts g (runG g)) b (i : Int) = -1 ∨ 0 ≤ backS g (wts g (runG g)) b (i : Int) := by
      rw [hstep]; split
      · exact .inr htr.1
      · exact hb
    obtain ⟨h1, h2, h3⟩ := backF_least hm l (backS g (wts g (runG g)) b (i : Int)) (fun e h => he e (List.mem_cons_of_mem _ h)) hb'
    simp only [List.foldl_cons]
    generalize hr : l.foldl (backS g (wts g (runG g))) (backS g (wts g (runG g)) b (i : Int)) = r at h1 h2 h3 ⊢
    refine ⟨?_, ?_, ?_⟩
    · rcases h1 with h1 | ⟨j, hj, h4, h5⟩
      · rw [hstep] at h1
        split at h1
        · rename_i hc
          exact .inr ⟨i, by simp, hc.1, h1⟩
        · exact .inl h1
      · exact .inr ⟨j, by simp [hj], h4, h5⟩
    · intro h0
      rw [hstep] at h2
      split at h2
      · rename_i hc; have := h2 htr.1; omega
      · exact h2 h0
    · intro j hj hjn
      rcases List.mem_cons.1 hj with hj | hj
      · have : j = i := Int.ofNat.inj hj
        subst this
        rw [hstep] at h1 h2
        split at h1
        · rename_i hc
          rw [if_pos hc] at h2
          have := h2 htr.1
          rcases h1 with h1 | ⟨q, hq, h4, h5⟩
          · omega
          · obtain ⟨i', e', hi'⟩ := he q (List.mem_cons_of_mem _ hq)
            have : q = i' := Int.ofNat.inj e'
            subst this
            have := tl_range hm hi'; omega
        · rename_i hc
          rw [if_neg hc] at h2
          have hbn : ¬ (b < 0 ∨ tl g j < b) := fun h => hc ⟨hjn, h⟩
          have := h2 (by omega)
          rcases h1 with h1 | ⟨q, hq, h4, h5⟩
          · omega
          · obtain ⟨i', e', hi'⟩ := he q (List.mem_cons_of_mem _ hq)
            have : q = i' := Int.ofNat.inj e'
            subst this
            have := tl_range hm hi'; omega
      · exact h3 j hj hjn
theorem backG_spec {g : Gr} (hm : mayB g = true) {a : Nat} (h : ∃ t, Q g a t) : Q g a (backG g (wts g (runG g)) a) ∧ ∀ t, Q g a t → backG g (wts g (runG g)) a ≤ t := by
  have hin : ∀ i, i < g.es.length → hd g i = (a : Int) → (i : Int) ∈ inL g a := by
    intro i hi hh
    simp only [inL, endsK, List.mem_map, List.mem_filter, List.mem_range, decide_eq_true_eq]
    exact ⟨i, ⟨hi, hh⟩, rfl⟩
  obtain ⟨h1, _, h3⟩ := backF_least hm (inL g a) (-1) inL_ok (.inl rfl)
  have hG : backG g (wts g (runG g)) a = (inL g a).foldl (backS g (wts g (runG g))) (-1) := by simp [backG, backF]
  rw [← hG] at h1 h3
  have hle : ∀ t, Q g a t → 0 ≤ backG g (wts g (runG g)) a ∧ backG g (wts g (runG g)) a ≤ t := by
    rintro t ⟨i, h4, h5, rfl, h6⟩
    exact h3 i (hin i h4 h5) h6
  obtain ⟨t, ht⟩ := h
  have h0 := (hle t ht).1
  refine ⟨?_, fun t ht => (hle t ht).2⟩
  rcases h1 with h1 | ⟨i, hi, h4, h5⟩
  · omega
  · obtain ⟨i', e', hi', hh⟩ := inL_mem hi
    have : i = i' := Int.ofNat.inj e'
    subst this
    exact ⟨i, hi', hh, h5.symm, by rw [h5]; exact h4⟩
theorem backR_spec {g : Gr} (hm : mayB g = true) {a : Nat} : ∀ k, k ≤ g.es.length → (backR g a k = g.n ∨ Q g a (backR g a k)) ∧ backR g a k ≤ g.n ∧ ∀ i, i < k → hd g i = (a : Int) → tl g i ∉ runG g → backR g a k ≤ tl g i
  | 0, _ => ⟨.inl rfl, Int.le_refl _, by simp⟩
  | k + 1, hk => by
    obtain ⟨h1, h2, h3⟩ := backR_spec hm (a := a) k (by omega)
    have htr := tl_range hm (i := k) (by omega)
    have e : ((tl g k).toNat : Int) = tl g k := by omega
    have hlf := lf_iff hm (y := (tl g k).toNat) (by omega)
    rw [e] at hlf
    rw [backR_next]
    unfold backRS
    split
    · rename_i hc0
      have hc : hd g k = (a : Int) ∧ tl g k ∉ runG g := ⟨hc0.1, hlf.1 hc0.2⟩
      refine ⟨?_, by omega, ?_⟩
      · by_cases hle : backR g a k ≤ tl g k
        · rw [Int.min_eq_left hle]; exact h1
        · rw [Int.min_eq_right (by omega)]; exact .inr ⟨k, by omega, hc.1, rfl, hc.2⟩
      · intro i hi hh hn
        by_cases hik : i = k
        · subst hik; omega
        · have := h3 i (by omega) hh hn; omega
    · rename_i hc
      refine ⟨h1, h2, ?_⟩
      intro i hi hh hn
      by_cases hik : i = k
      · subst hik; exact absurd ⟨hh, hlf.2 hn⟩ hc
      · exact h3 i (by omega) hh hn
theorem back_eq {g : Gr} (hm : mayB g = true) {a : Nat} (h : ∃ t, Q g a t) : backG g (wts g (runG g)) a = backR g a g.es.length ∧ Q g a (backR g a g.es.length) := by
  obtain ⟨h1, h2⟩ := backG_spec hm h
  obtain ⟨h3, h4, h5⟩ := backR_spec hm (a := a) g.es.length (Nat.le_refl _)
  have hb : backR g a g.es.length ≤ backG g (wts g (runG g)) a := by
    obtain ⟨i, h6, h7, h8, h9⟩ := h1
    rw [← h8] at h9 ⊢
    exact h5 i h6 h7 h9
  have hlt : backG g (wts g (runG g)) a < g.n := by
    obtain ⟨i, h6, h7, h8, h9⟩ := h1
    rw [← h8]; exact (tl_range hm h6).2
  rcases h3 with h3 | h3
  · omega
  · exact ⟨by have := h2 _ h3; omega, h3⟩

theorem Q_of {g : Gr} (hm : mayB g = true) {a : Nat} (ha : a < g.n.toNat) (h : (a : Int) ∉ runG g) : ∃ t, Q g a t := by
  have hw := (wt_pos hm ha).2 h
  simp only [wt, h, if_false] at hw
  obtain ⟨i, hi, hp⟩ := List.countP_pos_iff.1 (Int.natCast_pos.1 hw)
  simp only [Bool.and_eq_true, decide_eq_true_eq, Bool.not_eq_true', decide_eq_false_iff_not] at hp
  exact ⟨tl g i, i, List.mem_range.1 hi, hp.1, rfl, hp.2⟩
/-- Both ways are one. -/
theorem way_eq {g : Gr} (hm : mayB g = true) : ∀ (f f' : Nat) (way : List Int) (a : Nat), way.Nodup → a < g.n.toNat → (a : Int) ∉ runG g → left g way ≤ f → left g way ≤ f' →
    wayF g (wts g (runG g)) f way a = wayR g f' way a ∧ (0 ≤ (wayR g f' way a).2 ∧ (wayR g f' way a).2 ∈ (wayR g f' way a).1 ∧ (wayR g f' way a).1.Nodup)
  | f, f', way, a, hd, ha, hn, h1, h2 => by
    by_cases hmem : (a : Int) ∈ way
    · rw [wayF_end (.inr hmem), wayR_end hmem]
      exact ⟨rfl, by simp only; omega, hmem, hd⟩
    · have hla := left_app ha hmem
      cases f with
      | zero => omega
      | succ f =>
        cases f' with
        | zero => omega
        | succ f' =>
          obtain ⟨hb, hq⟩ := back_eq hm (Q_of hm ha hn)
          obtain ⟨i, hi, _, ht, hnr⟩ := hq
          have htr := tl_range hm hi
          rw [ht] at htr
          obtain ⟨b, hbe⟩ : ∃ b : Nat, backR g a g.es.length = b := ⟨(backR g a g.es.length).toNat, by omega⟩
          rw [hbe] at hb hnr htr
          have hd' : (way ++ [(a : Int)]).Nodup := by
            rw [List.nodup_append]
            refine ⟨hd, by simp, ?_⟩
            intro x hx y hy e
            simp at hy
            rw [← hy, ← e] at hmem; exact hmem hx
          have ih := way_eq hm f f' (way ++ [(a : Int)]) b hd' (by omega) hnr (by omega) (by omega)
          have e1 : wayF g (wts g (runG g)) (f + 1) way a = wayF g (wts g (runG g)) f (way ++ [(a : Int)]) b := by
            simp only [wayF]; rw [if_neg (by intro h; rcases h with h | h; omega; exact hmem h), hb]
          have e2 : wayR g (f' + 1) way a = wayR g f' (way ++ [(a : Int)]) b := by
            simp only [wayR]; rw [if_neg hmem, hbe]
          rw [e1, e2]; exact ih
theorem left_gx {g : Gr} {way : List Int} : left g way ≤ g.n.toNat := by
  unfold left
  have := List.countP_le_length (p := fun y : Nat => !decide ((y : Int) ∈ way)) (l := List.range g.n.toNat)
  simpa using this
theorem nodup_getD {l : List Int} (h : l.Nodup) {i j : Nat} (hi : i < l.length) (hj : j < l.length) (e : l.getD i 0 = l.getD j 0) : i = j := by
  rw [List.getD_eq_getElem?_getD, List.getD_eq_getElem?_getD, List.getElem?_eq_getElem hi, List.getElem?_eq_getElem hj] at e
  exact (List.getElem_inj h).1 e
theorem getD_rev {l : List Int} {i : Nat} (hi : i < l.length) : l.reverse.getD i 0 = l.getD (l.length - 1 - i) 0 := by
  rw [List.getD_eq_getElem?_getD, List.getD_eq_getElem?_getD, List.getElem?_reverse hi]
/-- A cycle turned: backwards from the least, and forwards from the least of it the other way round. -/
theorem turn_eq {l : List Int} (hd : l.Nodup) (h0 : 0 < l.length) : turnL l.reverse = turnR l := by
  obtain ⟨m, hm1, hm2, hm3⟩ := idxI_mem (minL_mem h0)
  have h0r : 0 < l.reverse.length := by simpa using h0
  obtain ⟨k, hk1, hk2, hk3⟩ := idxI_mem (minL_mem h0r)
  have hmin : minL l.reverse = minL l := by
    have h1 := minL_le (List.mem_reverse.2 (minL_mem h0))
    have h2 := minL_le (List.mem_reverse.1 (minL_mem h0r))
    omega
  rw [List.length_reverse] at hk2
  have hk : l.length - 1 - k = m := nodup_getD hd (by omega) hm2 (by rw [← getD_rev hk2, hk3, hm3, hmin])
  have e1 : turnL l.reverse = l.reverse.drop k ++ l.reverse.take k := by
    simp only [turnL, hk1, Int.toNat_natCast]
  have e2 : turnR l = rotR l m l.length := by simp only [turnR, hm1, Int.toNat_natCast]
  rw [e1, e2]
  refine List.ext_getElem? fun i => ?_
  by_cases hi : i < l.length
  · have hr : (rotR l m l.length)[i]? = some (l.getD ((m + l.length - i) % l.length) 0) := by
      simp [rotR, List.getElem?_range hi]
    rw [hr]
    by_cases hik : i < l.length - k
    · rw [List.getElem?_append_left (by simp; omega), List.getElem?_drop, List.getElem?_reverse (by omega)]
      have : (m + l.length - i) % l.length = m - i := by
        rw [show m + l.length - i = (m - i) + l.length from by omega, Nat.add_mod_right, Nat.mod_eq_of_lt (by omega)]
      rw [this, show l.length - 1 - (k + i) = m - i from by omega, List.getD_eq_getElem?_getD, List.getElem?_eq_getElem (by omega)]; rfl
    · rw [List.getElem?_append_right (by simp; omega), List.length_drop, List.length_reverse, List.getElem?_take, if_pos (by omega), List.getElem?_reverse (by omega)]
      have : (m + l.length - i) % l.length = m + l.length - i := Nat.mod_eq_of_lt (by omega)
      rw [this, show l.length - 1 - (i - (l.length - k)) = m + l.length - i from by omega, List.getD_eq_getElem?_getD, List.getElem?_eq_getElem (by omega)]; rfl
  · rw [List.getElem?_eq_none (by simp; omega), List.getElem?_eq_none (by simp [rotR]; omega)]
theorem cyc_eq {g : Gr} (hm : mayB g = true) : cycG g = rcycG g := by
  have hn := mayB_n hm
  rcases start_eq hm with ⟨h1, h2⟩ | ⟨a, ha, h1, h2, h3⟩
  · have : wayG g = ([], -1) := by
      unfold wayG; rw [h1]; exact wayF_end (.inl (by omega)) _
    simp only [cycG, rcycG, this]
    rw [if_pos (by omega), if_pos h2]
  · obtain ⟨he, h4, h5, h6⟩ := way_eq hm g.n.toNat (g.n.toNat + 1) [] a (by simp) ha h3 left_gx (Nat.le_succ_of_le left_gx)
    have hw : wayG g = wayRG g := by
      unfold wayG wayRG; rw [h1, h2]; exact he
    have hr : wayR g (g.n.toNat + 1) [] a = wayRG g := by unfold wayRG; rw [h2]
    rw [hr] at h4 h5 h6
    simp only [cycG, rcycG, hw]
    rw [if_neg (by omega), if_neg (by omega)]
    obtain ⟨k, hk1, hk2, _⟩ := idxI_mem h5
    rw [hk1, Int.toNat_natCast]
    exact turn_eq (List.Pairwise.drop h6) (by simp; omega)
theorem chk_eq (g : Gr) : chkG g = rchkG g := by
  unfold chkG rchkG
  cases hm : mayB g with
  | false => simp [chkOf, hm]
  | true => rw [cyc_eq hm]
end Go.Ab
end
section
namespace Go.Ab

theorem chk_len (g : Gr) (hl : g.es.length ≤ 1000) : (chkG g).2.2.length ≤ 9223372036854775807 := by
  unfold chkG chkOf
  split
  · simp
  split
  · simp
  split
  · simp
  split
  · have hm : mayB g = true := by
      cases h : mayB g with
      | true => rfl
      | false => rename_i h1 _ _ _; exact absurd h h1
    have hn := mayB_n hm
    simp only [cycG]
    split
    · simp
    · have hw : ∀ f way a, (wayF g (wts g (runG g)) f way a).1.length ≤ way.length + f := by
        intro f
        induction f with
        | zero => intro way a; exact Nat.le_refl _
        | succ f ih =>
          intro way a
          simp only [wayF]
          split
          · simp only; omega
          · have := ih (way ++ [a]) (backG g (wts g (runG g)) a)
            rw [List.length_append, List.length_singleton] at this
            omega
      have := hw g.n.toNat [] (findI (fun n => decide (0 < n)) (wts g (runG g)))
      simp only [turnL, List.length_append, List.length_drop, List.length_take, List.length_reverse]
      have hw2 : (wayG g).1.length ≤ ([] : List Int).length + g.n.toNat := this
      simp only [List.length_nil] at hw2
      omega
  split
  · simp; omega
  · simp
end Go.Ab
end
section
namespace Go.Ab
open Go.Proofs
attribute [local congr] ACall.congr
set_option maxRecDepth 10000

abbrev Pt := Int × Int
def eP (p : Pt) : AV := .agg [.d (.sc (.int .i64 p.1)), .d (.sc (.int .i64 p.2))]
def rP (p : Pt) : List D := [.sc (.int .i64 p.1), .sc (.int .i64 p.2)]
attribute [go_sem] eP

def InB (p : Pt) : Prop := (-262144 ≤ p.1 ∧ p.1 ≤ 262144) ∧ (-262144 ≤ p.2 ∧ p.2 ≤ 262144)

theorem mulB {x y m n : Int} (hx : -m ≤ x ∧ x ≤ m) (hy : -n ≤ y ∧ y ≤ n) : -(m * n) ≤ x * y ∧ x * y ≤ m * n := by
  have hm : 0 ≤ m := by omega
  have hn : 0 ≤ n := by omega
  have h1 : x.natAbs ≤ m.natAbs := by omega
  have h2 : y.natAbs ≤ n.natAbs := by omega
  have h3 : (x * y).natAbs ≤ (m * n).natAbs := by rw [Int.natAbs_mul, Int.natAbs_mul]; exact Nat.mul_le_mul h1 h2
  have h4 : 0 ≤ m * n := Int.mul_nonneg hm hn
  omega

theorem isNaN_spec (n : Int) : Spec Try.prog 160 (Args [eN n]) [] (eB false) [] := by
  (refine Spec.intro (C := T.cfg [] []) (rs := [.t 2]) (T.cfg_ok _ _) Try.func160 rfl rfl Try.ntmps160 Try.results160 (by simp [AObj.isNest]) (by simp [AObj.isNest]) (by kernel_rfl) ?_; intro X hX hP hC hXn hXm vals hA; refine ⟨_, by simp, hA, ?_⟩; have hmix : X.P.follows .mixedOrders = true := (by rw [hP]; exact T.mixed); clear hXn hXm)
  repeat' (first | ((first | ((with_reducible (first | apply oA | apply oB)); exact rfl; intro K hK) | (refine hK _ ?_; clear hK K) | ((with_reducible (first | apply oG | apply oH)); iterate 3 exact rfl) | ((with_reducible apply oI); (iterate 2 exact rfl); intro K hK) | (with_reducible (first | apply wI | apply wJ | apply wK))); try simp only [go_sem, simprocAttr]) | fail | (with_reducible (first | apply oC | apply oJ | exact oK | apply wA | apply wB | apply wC hX hC | apply wD hX hC | apply wE hX hC hmix | apply wF hX hC hmix | apply wG | apply wH | apply And.intro)) | ((with_reducible refine oD ?_ ?_); first | fail | kernel_rfl) | ((with_reducible (first | apply oE | apply oF)); (iterate 3 exact rfl); all_goals (intro h; first | (exact absurd h (by decide)) | ((try simp only [go_sem, simprocAttr] at h); (try with_reducible intro K hK); simp only [go_sem, simprocAttr]))) | ((first | ((with_reducible apply wL); exact rfl) | ((with_reducible apply wM); exact rfl)); all_goals (try ((with_reducible intro h); first | (exact absurd h (by decide)) | (try simp only [go_sem, simprocAttr] at h)))) | omega | ((first | first | refine acall_simple hX hC hP (hf _) rfl rfl rfl (by simp only [go_sem, simprocAttr]) rfl ?_ | refine acall_simple hX hC hP (isNaN_spec _) rfl rfl rfl (by simp only [go_sem, simprocAttr]) rfl ?_ | refine acall_simple hX hC hP (compare_spec _ _) rfl rfl rfl (by simp only [go_sem, simprocAttr]) rfl ?_ | refine acall_simple hX hC hP (within_spec _ _ _) rfl rfl rfl (by simp only [go_sem, simprocAttr]) rfl ?_ | refine acall_simple hX hC hP (times_spec _ _ _ _ (by assumption) (by assumption) (by assumption) (by assumption)) rfl rfl rfl (by simp only [go_sem, simprocAttr]) rfl ?_ | refine acall_simple hX hC hP (side_spec _ _ _ (by assumption) (by assumption) (by assumption)) rfl rfl rfl (by simp only [go_sem, simprocAttr]) rfl ?_ | refine acall_simple hX hC hP (on_spec _ _ _ (by assumption) (by assumption) (by assumption)) rfl rfl rfl (by simp only [go_sem, simprocAttr]) rfl ?_); try simp only [go_sem, simprocAttr]) | (intro h))

def cmpI (a b : Int) : Int := if a < b then -1 else if b < a then 1 else 0

theorem compare_spec (a b : Int) : Spec Try.prog 146 (Args [eN a, eN b]) [] (eN (cmpI a b)) [] := by
  (refine Spec.intro (C := T.cfg [] []) (rs := [.t 4]) (T.cfg_ok _ _) Try.func146 rfl rfl Try.ntmps146 Try.results146 (by simp [AObj.isNest]) (by simp [AObj.isNest]) (by kernel_rfl) ?_; intro X hX hP hC hXn hXm vals hA; refine ⟨_, by simp, hA, ?_⟩; have hmix : X.P.follows .mixedOrders = true := (by rw [hP]; exact T.mixed); clear hXn hXm)
  repeat' (first | ((first | ((with_reducible (first | apply oA | apply oB)); exact rfl; intro K hK) | (refine hK _ ?_; clear hK K) | ((with_reducible (first | apply oG | apply oH)); iterate 3 exact rfl) | ((with_reducible apply oI); (iterate 2 exact rfl); intro K hK) | (with_reducible (first | apply wI | apply wJ | apply wK))); try simp only [go_sem, simprocAttr]) | fail | (with_reducible (first | apply oC | apply oJ | exact oK | apply wA | apply wB | apply wC hX hC | apply wD hX hC | apply wE hX hC hmix | apply wF hX hC hmix | apply wG | apply wH | apply And.intro)) | ((with_reducible refine oD ?_ ?_); first | fail | kernel_rfl) | ((with_reducible (first | apply oE | apply oF)); (iterate 3 exact rfl); all_goals (intro h; first | (exact absurd h (by decide)) | ((try simp only [go_sem, simprocAttr] at h); (try with_reducible intro K hK); simp only [go_sem, simprocAttr]))) | ((first | ((with_reducible apply wL); exact rfl) | ((with_reducible apply wM); exact rfl)); all_goals (try ((with_reducible intro h); first | (exact absurd h (by decide)) | (try simp only [go_sem, simprocAttr] at h)))) | omega | ((first | first | refine acall_simple hX hC hP (hf _) rfl rfl rfl (by simp only [go_sem, simprocAttr]) rfl ?_ | refine acall_simple hX hC hP (isNaN_spec _) rfl rfl rfl (by simp only [go_sem, simprocAttr]) rfl ?_ | refine acall_simple hX hC hP (compare_spec _ _) rfl rfl rfl (by simp only [go_sem, simprocAttr]) rfl ?_ | refine acall_simple hX hC hP (within_spec _ _ _) rfl rfl rfl (by simp only [go_sem, simprocAttr]) rfl ?_ | refine acall_simple hX hC hP (times_spec _ _ _ _ (by assumption) (by assumption) (by assumption) (by assumption)) rfl rfl rfl (by simp only [go_sem, simprocAttr]) rfl ?_ | refine acall_simple hX hC hP (side_spec _ _ _ (by assumption) (by assumption) (by assumption)) rfl rfl rfl (by simp only [go_sem, simprocAttr]) rfl ?_ | refine acall_simple hX hC hP (on_spec _ _ _ (by assumption) (by assumption) (by assumption)) rfl rfl rfl (by simp only [go_sem, simprocAttr]) rfl ?_); try simp only [go_sem, simprocAttr]) | (intro h))
  all_goals (unfold cmpI; repeat' split) <;> omega

def withinI (a b n : Int) : Bool := decide (min a b ≤ n) && decide (n ≤ max a b)

theorem within_spec (a b n : Int) : Spec Try.prog 145 (Args [eN a, eN b, eN n]) [] (eB (withinI a b n)) [] := by
  (refine Spec.intro (C := T.cfg [] []) (rs := [.t 6]) (T.cfg_ok _ _) Try.func145 rfl rfl Try.ntmps145 Try.results145 (by simp [AObj.isNest]) (by simp [AObj.isNest]) (by kernel_rfl) ?_; intro X hX hP hC hXn hXm vals hA; refine ⟨_, by simp, hA, ?_⟩; have hmix : X.P.follows .mixedOrders = true := (by rw [hP]; exact T.mixed); clear hXn hXm)
  repeat' (first | ((first | ((with_reducible (first | apply oA | apply oB)); exact rfl; intro K hK) | (refine hK _ ?_; clear hK K) | ((with_reducible (first | apply oG | apply oH)); iterate 3 exact rfl) | ((with_reducible apply oI); (iterate 2 exact rfl); intro K hK) | (with_reducible (first | apply wI | apply wJ | apply wK))); try simp only [go_sem, simprocAttr]) | fail | (with_reducible (first | apply oC | apply oJ | exact oK | apply wA | apply wB | apply wC hX hC | apply wD hX hC | apply wE hX hC hmix | apply wF hX hC hmix | apply wG | apply wH | apply And.intro)) | ((with_reducible refine oD ?_ ?_); first | fail | kernel_rfl) | ((with_reducible (first | apply oE | apply oF)); (iterate 3 exact rfl); all_goals (intro h; first | (exact absurd h (by decide)) | ((try simp only [go_sem, simprocAttr] at h); (try with_reducible intro K hK); simp only [go_sem, simprocAttr]))) | ((first | ((with_reducible apply wL); exact rfl) | ((with_reducible apply wM); exact rfl)); all_goals (try ((with_reducible intro h); first | (exact absurd h (by decide)) | (try simp only [go_sem, simprocAttr] at h)))) | omega | ((first | first | refine acall_simple hX hC hP (hf _) rfl rfl rfl (by simp only [go_sem, simprocAttr]) rfl ?_ | refine acall_simple hX hC hP (isNaN_spec _) rfl rfl rfl (by simp only [go_sem, simprocAttr]) rfl ?_ | refine acall_simple hX hC hP (compare_spec _ _) rfl rfl rfl (by simp only [go_sem, simprocAttr]) rfl ?_ | refine acall_simple hX hC hP (within_spec _ _ _) rfl rfl rfl (by simp only [go_sem, simprocAttr]) rfl ?_ | refine acall_simple hX hC hP (times_spec _ _ _ _ (by assumption) (by assumption) (by assumption) (by assumption)) rfl rfl rfl (by simp only [go_sem, simprocAttr]) rfl ?_ | refine acall_simple hX hC hP (side_spec _ _ _ (by assumption) (by assumption) (by assumption)) rfl rfl rfl (by simp only [go_sem, simprocAttr]) rfl ?_ | refine acall_simple hX hC hP (on_spec _ _ _ (by assumption) (by assumption) (by assumption)) rfl rfl rfl (by simp only [go_sem, simprocAttr]) rfl ?_); try simp only [go_sem, simprocAttr]) | (intro h))
  all_goals (unfold withinI; rw [Bool.eq_iff_iff]; simp; omega)

def tm (a b c d : Pt) : Int := (b.1 - a.1) * (d.2 - c.2) - (b.2 - a.2) * (d.1 - c.1)

theorem times_spec (a b c d : Pt) (ha : InB a) (hb : InB b) (hc : InB c) (hd : InB d) : Spec Try.prog 147 (Args [eP a, eP b, eP c, eP d]) [] (eN (tm a b c d)) [] := by
  (refine Spec.intro (C := T.cfg [] []) (rs := [.t 8]) (T.cfg_ok _ _) Try.func147 rfl rfl Try.ntmps147 Try.results147 (by simp [AObj.isNest]) (by simp [AObj.isNest]) (by kernel_rfl) ?_; intro X hX hP hC hXn hXm vals hA; refine ⟨_, by simp, hA, ?_⟩; have hmix : X.P.follows .mixedOrders = true := (by rw [hP]; exact T.mixed); clear hXn hXm)
  obtain ⟨a1, a2⟩ := a
  obtain ⟨b1, b2⟩ := b
  obtain ⟨c1, c2⟩ := c
  obtain ⟨d1, d2⟩ := d
  simp only [InB] at ha hb hc hd
  have m1 := mulB (x := b1 - a1) (y := d2 - c2) (m := 524288) (n := 524288) (by omega) (by omega)
  have m2 := mulB (x := b2 - a2) (y := d1 - c1) (m := 524288) (n := 524288) (by omega) (by omega)
  repeat' (first | ((first | ((with_reducible (first | apply oA | apply oB)); exact rfl; intro K hK) | (refine hK _ ?_; clear hK K) | ((with_reducible (first | apply oG | apply oH)); iterate 3 exact rfl) | ((with_reducible apply oI); (iterate 2 exact rfl); intro K hK) | (with_reducible (first | apply wI | apply wJ | apply wK))); try simp only [go_sem, simprocAttr]) | fail | (with_reducible (first | apply oC | apply oJ | exact oK | apply wA | apply wB | apply wC hX hC | apply wD hX hC | apply wE hX hC hmix | apply wF hX hC hmix | apply wG | apply wH | apply And.intro)) | ((with_reducible refine oD ?_ ?_); first | fail | kernel_rfl) | ((with_reducible (first | apply oE | apply oF)); (iterate 3 exact rfl); all_goals (intro h; first | (exact absurd h (by decide)) | ((try simp only [go_sem, simprocAttr] at h); (try with_reducible intro K hK); simp only [go_sem, simprocAttr]))) | ((first | ((with_reducible apply wL); exact rfl) | ((with_reducible apply wM); exact rfl)); all_goals (try ((with_reducible intro h); first | (exact absurd h (by decide)) | (try simp only [go_sem, simprocAttr] at h)))) | omega | ((first | first | refine acall_simple hX hC hP (hf _) rfl rfl rfl (by simp only [go_sem, simprocAttr]) rfl ?_ | refine acall_simple hX hC hP (isNaN_spec _) rfl rfl rfl (by simp only [go_sem, simprocAttr]) rfl ?_ | refine acall_simple hX hC hP (compare_spec _ _) rfl rfl rfl (by simp only [go_sem, simprocAttr]) rfl ?_ | refine acall_simple hX hC hP (within_spec _ _ _) rfl rfl rfl (by simp only [go_sem, simprocAttr]) rfl ?_ | refine acall_simple hX hC hP (times_spec _ _ _ _ (by assumption) (by assumption) (by assumption) (by assumption)) rfl rfl rfl (by simp only [go_sem, simprocAttr]) rfl ?_ | refine acall_simple hX hC hP (side_spec _ _ _ (by assumption) (by assumption) (by assumption)) rfl rfl rfl (by simp only [go_sem, simprocAttr]) rfl ?_ | refine acall_simple hX hC hP (on_spec _ _ _ (by assumption) (by assumption) (by assumption)) rfl rfl rfl (by simp only [go_sem, simprocAttr]) rfl ?_); try simp only [go_sem, simprocAttr]) | (intro h))
  all_goals simp [tm]

def sd (a b c : Pt) : Int := cmpI (tm a b a c) 0

theorem side_spec (a b c : Pt) (ha : InB a) (hb : InB b) (hc : InB c) : Spec Try.prog 126 (Args [eP a, eP b, eP c]) [] (eN (sd a b c)) [] := by
  (refine Spec.intro (C := T.cfg [] []) (rs := [.t 6]) (T.cfg_ok _ _) Try.func126 rfl rfl Try.ntmps126 Try.results126 (by simp [AObj.isNest]) (by simp [AObj.isNest]) (by kernel_rfl) ?_; intro X hX hP hC hXn hXm vals hA; refine ⟨_, by simp, hA, ?_⟩; have hmix : X.P.follows .mixedOrders = true := (by rw [hP]; exact T.mixed); clear hXn hXm)
  repeat' (first | ((first | ((with_reducible (first | apply oA | apply oB)); exact rfl; intro K hK) | (refine hK _ ?_; clear hK K) | ((with_reducible (first | apply oG | apply oH)); iterate 3 exact rfl) | ((with_reducible apply oI); (iterate 2 exact rfl); intro K hK) | (with_reducible (first | apply wI | apply wJ | apply wK))); try simp only [go_sem, simprocAttr]) | fail | (with_reducible (first | apply oC | apply oJ | exact oK | apply wA | apply wB | apply wC hX hC | apply wD hX hC | apply wE hX hC hmix | apply wF hX hC hmix | apply wG | apply wH | apply And.intro)) | ((with_reducible refine oD ?_ ?_); first | fail | kernel_rfl) | ((with_reducible (first | apply oE | apply oF)); (iterate 3 exact rfl); all_goals (intro h; first | (exact absurd h (by decide)) | ((try simp only [go_sem, simprocAttr] at h); (try with_reducible intro K hK); simp only [go_sem, simprocAttr]))) | ((first | ((with_reducible apply wL); exact rfl) | ((with_reducible apply wM); exact rfl)); all_goals (try ((with_reducible intro h); first | (exact absurd h (by decide)) | (try simp only [go_sem, simprocAttr] at h)))) | omega | ((first | first | refine acall_simple hX hC hP (hf _) rfl rfl rfl (by simp only [go_sem, simprocAttr]) rfl ?_ | refine acall_simple hX hC hP (isNaN_spec _) rfl rfl rfl (by simp only [go_sem, simprocAttr]) rfl ?_ | refine acall_simple hX hC hP (compare_spec _ _) rfl rfl rfl (by simp only [go_sem, simprocAttr]) rfl ?_ | refine acall_simple hX hC hP (within_spec _ _ _) rfl rfl rfl (by simp only [go_sem, simprocAttr]) rfl ?_ | refine acall_simple hX hC hP (times_spec _ _ _ _ (by assumption) (by assumption) (by assumption) (by assumption)) rfl rfl rfl (by simp only [go_sem, simprocAttr]) rfl ?_ | refine acall_simple hX hC hP (side_spec _ _ _ (by assumption) (by assumption) (by assumption)) rfl rfl rfl (by simp only [go_sem, simprocAttr]) rfl ?_ | refine acall_simple hX hC hP (on_spec _ _ _ (by assumption) (by assumption) (by assumption)) rfl rfl rfl (by simp only [go_sem, simprocAttr]) rfl ?_); try simp only [go_sem, simprocAttr]) | (intro h))
  all_goals rfl

def onP (a b c : Pt) : Bool := decide (sd a b c = 0) && withinI a.1 b.1 c.1 && withinI a.2 b.2 c.2

theorem on_spec (a b c : Pt) (ha : InB a) (hb : InB b) (hc : InB c) : Spec Try.prog 125 (Args [eP a, eP b, eP c]) [] (eB (onP a b c)) [] := by
  (refine Spec.intro (C := T.cfg [] []) (rs := [.t 6]) (T.cfg_ok _ _) Try.func125 rfl rfl Try.ntmps125 Try.results125 (by simp [AObj.isNest]) (by simp [AObj.isNest]) (by kernel_rfl) ?_; intro X hX hP hC hXn hXm vals hA; refine ⟨_, by simp, hA, ?_⟩; have hmix : X.P.follows .mixedOrders = true := (by rw [hP]; exact T.mixed); clear hXn hXm)
  repeat' (first | ((first | ((with_reducible (first | apply oA | apply oB)); exact rfl; intro K hK) | (refine hK _ ?_; clear hK K) | ((with_reducible (first | apply oG | apply oH)); iterate 3 exact rfl) | ((with_reducible apply oI); (iterate 2 exact rfl); intro K hK) | (with_reducible (first | apply wI | apply wJ | apply wK))); try simp only [go_sem, simprocAttr]) | fail | (with_reducible (first | apply oC | apply oJ | exact oK | apply wA | apply wB | apply wC hX hC | apply wD hX hC | apply wE hX hC hmix | apply wF hX hC hmix | apply wG | apply wH | apply And.intro)) | ((with_reducible refine oD ?_ ?_); first | fail | kernel_rfl) | ((with_reducible (first | apply oE | apply oF)); (iterate 3 exact rfl); all_goals (intro h; first | (exact absurd h (by decide)) | ((try simp only [go_sem, simprocAttr] at h); (try with_reducible intro K hK); simp only [go_sem, simprocAttr]))) | ((first | ((with_reducible apply wL); exact rfl) | ((with_reducible apply wM); exact rfl)); all_goals (try ((with_reducible intro h); first | (exact absurd h (by decide)) | (try simp only [go_sem, simprocAttr] at h)))) | omega | ((first | first | refine acall_simple hX hC hP (hf _) rfl rfl rfl (by simp only [go_sem, simprocAttr]) rfl ?_ | refine acall_simple hX hC hP (isNaN_spec _) rfl rfl rfl (by simp only [go_sem, simprocAttr]) rfl ?_ | refine acall_simple hX hC hP (compare_spec _ _) rfl rfl rfl (by simp only [go_sem, simprocAttr]) rfl ?_ | refine acall_simple hX hC hP (within_spec _ _ _) rfl rfl rfl (by simp only [go_sem, simprocAttr]) rfl ?_ | refine acall_simple hX hC hP (times_spec _ _ _ _ (by assumption) (by assumption) (by assumption) (by assumption)) rfl rfl rfl (by simp only [go_sem, simprocAttr]) rfl ?_ | refine acall_simple hX hC hP (side_spec _ _ _ (by assumption) (by assumption) (by assumption)) rfl rfl rfl (by simp only [go_sem, simprocAttr]) rfl ?_ | refine acall_simple hX hC hP (on_spec _ _ _ (by assumption) (by assumption) (by assumption)) rfl rfl rfl (by simp only [go_sem, simprocAttr]) rfl ?_); try simp only [go_sem, simprocAttr]) | (intro h))
  all_goals simp_all [onP]

end Go.Ab
end
section
namespace Go.Ab
open Go.Proofs
attribute [local congr] ACall.congr
set_option maxRecDepth 10000

def outP (p : Pt) : Bool := decide (262144 < max p.1 p.2) || decide (min p.1 p.2 < -262144)

theorem mayF_spec (p : Pt) : Spec Try.prog 120 (Args [eP p]) [] (eB (outP p)) [] := by
  (refine Spec.intro (C := T.cfg [] []) (rs := [.t 2]) (T.cfg_ok _ _) Try.func120 rfl rfl Try.ntmps120 Try.results120 (by simp [AObj.isNest]) (by simp [AObj.isNest]) (by kernel_rfl) ?_; intro X hX hP hC hXn hXm vals hA; refine ⟨_, by simp, hA, ?_⟩; have hmix : X.P.follows .mixedOrders = true := (by rw [hP]; exact T.mixed); clear hXn hXm)
  repeat' (first | ((first | ((with_reducible (first | apply oA | apply oB)); exact rfl; intro K hK) | (refine hK _ ?_; clear hK K) | ((with_reducible (first | apply oG | apply oH)); iterate 3 exact rfl) | ((with_reducible apply oI); (iterate 2 exact rfl); intro K hK) | (with_reducible (first | apply wI | apply wJ | apply wK))); try simp only [go_sem, simprocAttr]) | fail | (with_reducible (first | apply oC | apply oJ | exact oK | apply wA | apply wB | apply wC hX hC | apply wD hX hC | apply wE hX hC hmix | apply wF hX hC hmix | apply wG | apply wH | apply And.intro)) | ((with_reducible refine oD ?_ ?_); first | fail | kernel_rfl) | ((with_reducible (first | apply oE | apply oF)); (iterate 3 exact rfl); all_goals (intro h; first | (exact absurd h (by decide)) | ((try simp only [go_sem, simprocAttr] at h); (try with_reducible intro K hK); simp only [go_sem, simprocAttr]))) | ((first | ((with_reducible apply wL); exact rfl) | ((with_reducible apply wM); exact rfl)); all_goals (try ((with_reducible intro h); first | (exact absurd h (by decide)) | (try simp only [go_sem, simprocAttr] at h)))) | omega | ((first | first | refine acall_simple hX hC hP (hf _) rfl rfl rfl (by simp only [go_sem, simprocAttr]) rfl ?_ | refine acall_simple hX hC hP (indexFuncP_spec _ _ hf _ hl) rfl rfl rfl (by simp only [go_sem, simprocAttr]) rfl ?_ | refine acall_simple hX hC hP (containsFuncP_spec _ _ mayF_spec _ hl) rfl rfl rfl (by simp only [go_sem, simprocAttr]) rfl ?_ | refine acall_simple hX hC hP (isNaN_spec _) rfl rfl rfl (by simp only [go_sem, simprocAttr]) rfl ?_ | refine acall_simple hX hC hP (compare_spec _ _) rfl rfl rfl (by simp only [go_sem, simprocAttr]) rfl ?_ | refine acall_simple hX hC hP (within_spec _ _ _) rfl rfl rfl (by simp only [go_sem, simprocAttr]) rfl ?_ | refine acall_simple hX hC hP (times_spec _ _ _ _ (by assumption) (by assumption) (by assumption) (by assumption)) rfl rfl rfl (by simp only [go_sem, simprocAttr]) rfl ?_ | refine acall_simple hX hC hP (side_spec _ _ _ (by assumption) (by assumption) (by assumption)) rfl rfl rfl (by simp only [go_sem, simprocAttr]) rfl ?_ | refine acall_simple hX hC hP (on_spec _ _ _ (by assumption) (by assumption) (by assumption)) rfl rfl rfl (by simp only [go_sem, simprocAttr]) rfl ?_); try simp only [go_sem, simprocAttr]) | (intro h))
  all_goals simp_all [outP]
  all_goals omega

theorem getD_rP (ps : List Pt) (i : Nat) : (ps.map rP).getD i [.sc (.int .i64 0), .sc (.int .i64 0)] = rP (ps.getD i (0, 0)) := by
  simp only [List.getD_eq_getElem?_getD, List.getElem?_map]
  cases ps[i]? <;> rfl
theorem rP_eq (p : Pt) : rP p = [.sc (.int .i64 p.1), .sc (.int .i64 p.2)] := rfl
attribute [go_sem] getD_rP rP_eq Int.toNat_natCast

theorem indexFuncP_spec (f : Nat) (g : Pt → Bool) (hf : ∀ p, Spec Try.prog f (Args [eP p]) [] (eB (g p)) []) (ps : List Pt) (hl : ps.length ≤ 9223372036854775806) :
    Spec Try.prog 127 (Args [.d (.sl 2 (ps.map rP)), .fn f [] []]) [] (eN (findI g ps)) [] := by
  (refine Spec.intro (C := T.cfg [] []) (rs := [.t 4]) (T.cfg_ok _ _) Try.func127 rfl rfl Try.ntmps127 Try.results127 (by simp [AObj.isNest]) (by simp [AObj.isNest]) (by kernel_rfl) ?_; intro X hX hP hC hXn hXm vals hA; refine ⟨_, by simp, hA, ?_⟩; have hmix : X.P.follows .mixedOrders = true := (by rw [hP]; exact T.mixed); clear hXn hXm)
  repeat' (first | ((first | ((with_reducible (first | apply oA | apply oB)); exact rfl; intro K hK) | (refine hK _ ?_; clear hK K) | ((with_reducible (first | apply oG | apply oH)); iterate 3 exact rfl) | ((with_reducible apply oI); (iterate 2 exact rfl); intro K hK) | (with_reducible (first | apply wI | apply wJ | apply wK))); try simp only [go_sem, simprocAttr]) | fail | (with_reducible (first | apply oC | apply oJ | exact oK | apply wA | apply wB | apply wC hX hC | apply wD hX hC | apply wE hX hC hmix | apply wF hX hC hmix | apply wG | apply wH | apply And.intro)) | ((with_reducible refine oD ?_ ?_); first | fail | kernel_rfl) | ((with_reducible (first | apply oE | apply oF)); (iterate 3 exact rfl); all_goals (intro h; first | (exact absurd h (by decide)) | ((try simp only [go_sem, simprocAttr] at h); (try with_reducible intro K hK); simp only [go_sem, simprocAttr]))) | ((first | ((with_reducible apply wL); exact rfl) | ((with_reducible apply wM); exact rfl)); all_goals (try ((with_reducible intro h); first | (exact absurd h (by decide)) | (try simp only [go_sem, simprocAttr] at h)))) | omega | ((first | first | refine acall_simple hX hC hP (hf _) rfl rfl rfl (by simp only [go_sem, simprocAttr]) rfl ?_ | refine acall_simple hX hC hP (indexFuncP_spec _ _ hf _ hl) rfl rfl rfl (by simp only [go_sem, simprocAttr]) rfl ?_ | refine acall_simple hX hC hP (containsFuncP_spec _ _ mayF_spec _ hl) rfl rfl rfl (by simp only [go_sem, simprocAttr]) rfl ?_ | refine acall_simple hX hC hP (isNaN_spec _) rfl rfl rfl (by simp only [go_sem, simprocAttr]) rfl ?_ | refine acall_simple hX hC hP (compare_spec _ _) rfl rfl rfl (by simp only [go_sem, simprocAttr]) rfl ?_ | refine acall_simple hX hC hP (within_spec _ _ _) rfl rfl rfl (by simp only [go_sem, simprocAttr]) rfl ?_ | refine acall_simple hX hC hP (times_spec _ _ _ _ (by assumption) (by assumption) (by assumption) (by assumption)) rfl rfl rfl (by simp only [go_sem, simprocAttr]) rfl ?_ | refine acall_simple hX hC hP (side_spec _ _ _ (by assumption) (by assumption) (by assumption)) rfl rfl rfl (by simp only [go_sem, simprocAttr]) rfl ?_ | refine acall_simple hX hC hP (on_spec _ _ _ (by assumption) (by assumption) (by assumption)) rfl rfl rfl (by simp only [go_sem, simprocAttr]) rfl ?_); try simp only [go_sem, simprocAttr]) | (intro h))
  refine awp_loopP (fun k : Nat => k ≤ ps.length ∧ ∀ j, j < k → g (ps.getD j (0, 0)) = false) (fun k => ⟨[(0, .d (.sl 2 (ps.map rP))), (1, .fn f [] []), (7, .d (.sc (.int .i64 (ps.length : Int)))), (8, .d (.sc (.int .i64 (k : Int))))], []⟩) (fun k => ps.length - k) 0 (by simp) ?_ ?_
  · refine Le.of ?_ ?_ <;> simp [go_sem, simprocAttr]
  rintro k ⟨hk, hg⟩
  repeat' (first | ((first | ((with_reducible (first | apply oA | apply oB)); exact rfl; intro K hK) | (refine hK _ ?_; clear hK K) | ((with_reducible (first | apply oG | apply oH)); iterate 3 exact rfl) | ((with_reducible apply oI); (iterate 2 exact rfl); intro K hK) | (with_reducible (first | apply wI | apply wJ | apply wK))); try simp only [go_sem, simprocAttr]) | fail | (with_reducible (first | apply oC | apply oJ | exact oK | apply wA | apply wB | apply wC hX hC | apply wD hX hC | apply wE hX hC hmix | apply wF hX hC hmix | apply wG | apply wH | apply And.intro)) | ((with_reducible refine oD ?_ ?_); first | fail | kernel_rfl) | ((with_reducible (first | apply oE | apply oF)); (iterate 3 exact rfl); all_goals (intro h; first | (exact absurd h (by decide)) | ((try simp only [go_sem, simprocAttr] at h); (try with_reducible intro K hK); simp only [go_sem, simprocAttr]))) | ((first | ((with_reducible apply wL); exact rfl) | ((with_reducible apply wM); exact rfl)); all_goals (try ((with_reducible intro h); first | (exact absurd h (by decide)) | (try simp only [go_sem, simprocAttr] at h)))) | omega | ((first | first | refine acall_simple hX hC hP (hf _) rfl rfl rfl (by simp only [go_sem, simprocAttr]) rfl ?_ | refine acall_simple hX hC hP (indexFuncP_spec _ _ hf _ hl) rfl rfl rfl (by simp only [go_sem, simprocAttr]) rfl ?_ | refine acall_simple hX hC hP (containsFuncP_spec _ _ mayF_spec _ hl) rfl rfl rfl (by simp only [go_sem, simprocAttr]) rfl ?_ | refine acall_simple hX hC hP (isNaN_spec _) rfl rfl rfl (by simp only [go_sem, simprocAttr]) rfl ?_ | refine acall_simple hX hC hP (compare_spec _ _) rfl rfl rfl (by simp only [go_sem, simprocAttr]) rfl ?_ | refine acall_simple hX hC hP (within_spec _ _ _) rfl rfl rfl (by simp only [go_sem, simprocAttr]) rfl ?_ | refine acall_simple hX hC hP (times_spec _ _ _ _ (by assumption) (by assumption) (by assumption) (by assumption)) rfl rfl rfl (by simp only [go_sem, simprocAttr]) rfl ?_ | refine acall_simple hX hC hP (side_spec _ _ _ (by assumption) (by assumption) (by assumption)) rfl rfl rfl (by simp only [go_sem, simprocAttr]) rfl ?_ | refine acall_simple hX hC hP (on_spec _ _ _ (by assumption) (by assumption) (by assumption)) rfl rfl rfl (by simp only [go_sem, simprocAttr]) rfl ?_); try simp only [go_sem, simprocAttr]) | (intro h))
  · exact (findI_at (d := (0, 0)) (by omega) hg h).symm
  · refine ⟨k + 1, ⟨by omega, fun j hj => ?_⟩, Le.of ?_ ?_, by omega⟩
    · by_cases hjk : j = k
      · subst hjk; exact h
      · exact hg j (by omega)
    · simp [go_sem, simprocAttr]
    · simp [go_sem, simprocAttr]
  · exact (findI_none (0, 0) fun j hj => hg j (by omega)).symm

theorem containsFuncP_spec (f : Nat) (g : Pt → Bool) (hf : ∀ p, Spec Try.prog f (Args [eP p]) [] (eB (g p)) []) (ps : List Pt) (hl : ps.length ≤ 9223372036854775806) :
    Spec Try.prog 88 (Args [.d (.sl 2 (ps.map rP)), .fn f [] []]) [] (eB (ps.any g)) [] := by
  (refine Spec.intro (C := T.cfg [] []) (rs := [.t 4]) (T.cfg_ok _ _) Try.func88 rfl rfl Try.ntmps88 Try.results88 (by simp [AObj.isNest]) (by simp [AObj.isNest]) (by kernel_rfl) ?_; intro X hX hP hC hXn hXm vals hA; refine ⟨_, by simp, hA, ?_⟩; have hmix : X.P.follows .mixedOrders = true := (by rw [hP]; exact T.mixed); clear hXn hXm)
  repeat' (first | ((first | ((with_reducible (first | apply oA | apply oB)); exact rfl; intro K hK) | (refine hK _ ?_; clear hK K) | ((with_reducible (first | apply oG | apply oH)); iterate 3 exact rfl) | ((with_reducible apply oI); (iterate 2 exact rfl); intro K hK) | (with_reducible (first | apply wI | apply wJ | apply wK))); try simp only [go_sem, simprocAttr]) | fail | (with_reducible (first | apply oC | apply oJ | exact oK | apply wA | apply wB | apply wC hX hC | apply wD hX hC | apply wE hX hC hmix | apply wF hX hC hmix | apply wG | apply wH | apply And.intro)) | ((with_reducible refine oD ?_ ?_); first | fail | kernel_rfl) | ((with_reducible (first | apply oE | apply oF)); (iterate 3 exact rfl); all_goals (intro h; first | (exact absurd h (by decide)) | ((try simp only [go_sem, simprocAttr] at h); (try with_reducible intro K hK); simp only [go_sem, simprocAttr]))) | ((first | ((with_reducible apply wL); exact rfl) | ((with_reducible apply wM); exact rfl)); all_goals (try ((with_reducible intro h); first | (exact absurd h (by decide)) | (try simp only [go_sem, simprocAttr] at h)))) | omega | ((first | first | refine acall_simple hX hC hP (hf _) rfl rfl rfl (by simp only [go_sem, simprocAttr]) rfl ?_ | refine acall_simple hX hC hP (indexFuncP_spec _ _ hf _ hl) rfl rfl rfl (by simp only [go_sem, simprocAttr]) rfl ?_ | refine acall_simple hX hC hP (containsFuncP_spec _ _ mayF_spec _ hl) rfl rfl rfl (by simp only [go_sem, simprocAttr]) rfl ?_ | refine acall_simple hX hC hP (isNaN_spec _) rfl rfl rfl (by simp only [go_sem, simprocAttr]) rfl ?_ | refine acall_simple hX hC hP (compare_spec _ _) rfl rfl rfl (by simp only [go_sem, simprocAttr]) rfl ?_ | refine acall_simple hX hC hP (within_spec _ _ _) rfl rfl rfl (by simp only [go_sem, simprocAttr]) rfl ?_ | refine acall_simple hX hC hP (times_spec _ _ _ _ (by assumption) (by assumption) (by assumption) (by assumption)) rfl rfl rfl (by simp only [go_sem, simprocAttr]) rfl ?_ | refine acall_simple hX hC hP (side_spec _ _ _ (by assumption) (by assumption) (by assumption)) rfl rfl rfl (by simp only [go_sem, simprocAttr]) rfl ?_ | refine acall_simple hX hC hP (on_spec _ _ _ (by assumption) (by assumption) (by assumption)) rfl rfl rfl (by simp only [go_sem, simprocAttr]) rfl ?_); try simp only [go_sem, simprocAttr]) | (intro h))
  rw [← findI_any]

theorem mayP_spec (ps : List Pt) (hl : ps.length ≤ 9223372036854775806) : Spec Try.prog 76 (Args [.d (.sl 2 (ps.map rP))]) [] (eB (!ps.any outP)) [] := by
  (refine Spec.intro (C := T.cfg [] []) (rs := [.t 2]) (T.cfg_ok _ _) Try.func76 rfl rfl Try.ntmps76 Try.results76 (by simp [AObj.isNest]) (by simp [AObj.isNest]) (by kernel_rfl) ?_; intro X hX hP hC hXn hXm vals hA; refine ⟨_, by simp, hA, ?_⟩; have hmix : X.P.follows .mixedOrders = true := (by rw [hP]; exact T.mixed); clear hXn hXm)
  repeat' (first | ((first | ((with_reducible (first | apply oA | apply oB)); exact rfl; intro K hK) | (refine hK _ ?_; clear hK K) | ((with_reducible (first | apply oG | apply oH)); iterate 3 exact rfl) | ((with_reducible apply oI); (iterate 2 exact rfl); intro K hK) | (with_reducible (first | apply wI | apply wJ | apply wK))); try simp only [go_sem, simprocAttr]) | fail | (with_reducible (first | apply oC | apply oJ | exact oK | apply wA | apply wB | apply wC hX hC | apply wD hX hC | apply wE hX hC hmix | apply wF hX hC hmix | apply wG | apply wH | apply And.intro)) | ((with_reducible refine oD ?_ ?_); first | fail | kernel_rfl) | ((with_reducible (first | apply oE | apply oF)); (iterate 3 exact rfl); all_goals (intro h; first | (exact absurd h (by decide)) | ((try simp only [go_sem, simprocAttr] at h); (try with_reducible intro K hK); simp only [go_sem, simprocAttr]))) | ((first | ((with_reducible apply wL); exact rfl) | ((with_reducible apply wM); exact rfl)); all_goals (try ((with_reducible intro h); first | (exact absurd h (by decide)) | (try simp only [go_sem, simprocAttr] at h)))) | omega | ((first | first | refine acall_simple hX hC hP (hf _) rfl rfl rfl (by simp only [go_sem, simprocAttr]) rfl ?_ | refine acall_simple hX hC hP (indexFuncP_spec _ _ hf _ hl) rfl rfl rfl (by simp only [go_sem, simprocAttr]) rfl ?_ | refine acall_simple hX hC hP (containsFuncP_spec _ _ mayF_spec _ hl) rfl rfl rfl (by simp only [go_sem, simprocAttr]) rfl ?_ | refine acall_simple hX hC hP (isNaN_spec _) rfl rfl rfl (by simp only [go_sem, simprocAttr]) rfl ?_ | refine acall_simple hX hC hP (compare_spec _ _) rfl rfl rfl (by simp only [go_sem, simprocAttr]) rfl ?_ | refine acall_simple hX hC hP (within_spec _ _ _) rfl rfl rfl (by simp only [go_sem, simprocAttr]) rfl ?_ | refine acall_simple hX hC hP (times_spec _ _ _ _ (by assumption) (by assumption) (by assumption) (by assumption)) rfl rfl rfl (by simp only [go_sem, simprocAttr]) rfl ?_ | refine acall_simple hX hC hP (side_spec _ _ _ (by assumption) (by assumption) (by assumption)) rfl rfl rfl (by simp only [go_sem, simprocAttr]) rfl ?_ | refine acall_simple hX hC hP (on_spec _ _ _ (by assumption) (by assumption) (by assumption)) rfl rfl rfl (by simp only [go_sem, simprocAttr]) rfl ?_); try simp only [go_sem, simprocAttr]) | (intro h))
end Go.Ab
end
section
namespace Go.Ab
open Go.Proofs
attribute [local congr] ACall.congr
set_option maxRecDepth 10000

instance (p : Pt) : Decidable (InB p) := by unfold InB; infer_instance
theorem outP_eq (p : Pt) : outP p = !decide (InB p) := by
  by_cases h : InB p
  · rw [decide_eq_true h]
    simp only [InB] at h
    simp only [outP, Int.max_def, Int.min_def, Bool.not_true, Bool.or_eq_false_iff, decide_eq_false_iff_not]
    split <;> omega
  · rw [decide_eq_false h]
    simp only [InB] at h
    simp only [outP, Int.max_def, Int.min_def, Bool.not_false, Bool.or_eq_true, decide_eq_true_eq]
    split <;> omega
theorem any_out (ps : List Pt) : (!ps.any outP) = decide (∀ p ∈ ps, InB p) := by
  rw [Bool.eq_iff_iff]; simp [outP_eq]
theorem may_in (ps : List Pt) (hl : ps.length ≤ 9223372036854775806) (h : ∀ p ∈ ps, InB p) : Spec Try.prog 76 (Args [.d (.sl 2 (ps.map rP))]) [] (eB true) [] := by
  have := mayP_spec ps hl
  rw [any_out, decide_eq_true h] at this
  exact this
theorem may_out (ps : List Pt) (hl : ps.length ≤ 9223372036854775806) (h : ¬ ∀ p ∈ ps, InB p) : Spec Try.prog 76 (Args [.d (.sl 2 (ps.map rP))]) [] (eB false) [] := by
  have := mayP_spec ps hl
  rw [any_out, decide_eq_false h] at this
  exact this

theorem may_in3 (a b c : Pt) (ha : InB a) (hb : InB b) (hc : InB c) : Spec Try.prog 76 (Args [.d (.sl 2 ([a, b, c].map rP))]) [] (eB true) [] := may_in _ (by simp) (by simp [ha, hb, hc])
theorem may_in4 (a b c d : Pt) (ha : InB a) (hb : InB b) (hc : InB c) (hd : InB d) : Spec Try.prog 76 (Args [.d (.sl 2 ([a, b, c, d].map rP))]) [] (eB true) [] := may_in _ (by simp) (by simp [ha, hb, hc, hd])
theorem may_out3 (a b c : Pt) (h : ¬ (InB a ∧ InB b ∧ InB c)) : Spec Try.prog 76 (Args [.d (.sl 2 ([a, b, c].map rP))]) [] (eB false) [] := may_out _ (by simp) (by simpa using h)
theorem may_out4 (a b c d : Pt) (h : ¬ (InB a ∧ InB b ∧ InB c ∧ InB d)) : Spec Try.prog 76 (Args [.d (.sl 2 ([a, b, c, d].map rP))]) [] (eB false) [] := may_out _ (by simp) (by simpa using h)


def OnV (a b c : Pt) : Bool := decide (InB a ∧ InB b ∧ InB c) && onP a b c
theorem On_spec (a b c : Pt) : Spec Try.prog 87 (Args [eP a, eP b, eP c]) [] (eB (OnV a b c)) [] := by
  by_cases hin : InB a ∧ InB b ∧ InB c
  · obtain ⟨ha, hb, hc⟩ := hin
    (refine Spec.intro (C := T.cfg [] []) (rs := [.t 6]) (T.cfg_ok _ _) Try.func87 rfl rfl Try.ntmps87 Try.results87 (by simp [AObj.isNest]) (by simp [AObj.isNest]) (by kernel_rfl) ?_; intro X hX hP hC hXn hXm vals hA; refine ⟨_, by simp, hA, ?_⟩; have hmix : X.P.follows .mixedOrders = true := (by rw [hP]; exact T.mixed); clear hXn hXm)
    repeat' (first | ((first | ((with_reducible (first | apply oA | apply oB)); exact rfl; intro K hK) | (refine hK _ ?_; clear hK K) | ((with_reducible (first | apply oG | apply oH)); iterate 3 exact rfl) | ((with_reducible apply oI); (iterate 2 exact rfl); intro K hK) | (with_reducible (first | apply wI | apply wJ | apply wK))); try simp only [go_sem, simprocAttr]) | fail | (with_reducible (first | apply oC | apply oJ | exact oK | apply wA | apply wB | apply wC hX hC | apply wD hX hC | apply wE hX hC hmix | apply wF hX hC hmix | apply wG | apply wH | apply And.intro)) | ((with_reducible refine oD ?_ ?_); first | fail | kernel_rfl) | ((with_reducible (first | apply oE | apply oF)); (iterate 3 exact rfl); all_goals (intro h; first | (exact absurd h (by decide)) | ((try simp only [go_sem, simprocAttr] at h); (try with_reducible intro K hK); simp only [go_sem, simprocAttr]))) | ((first | ((with_reducible apply wL); exact rfl) | ((with_reducible apply wM); exact rfl)); all_goals (try ((with_reducible intro h); first | (exact absurd h (by decide)) | (try simp only [go_sem, simprocAttr] at h)))) | omega | ((first | first | refine acall_simple hX hC hP (compare_spec _ _) rfl rfl rfl (by simp only [go_sem, simprocAttr]) rfl ?_ | refine acall_simple hX hC hP (within_spec _ _ _) rfl rfl rfl (by simp only [go_sem, simprocAttr]) rfl ?_ | refine acall_simple hX hC hP (times_spec _ _ _ _ (by assumption) (by assumption) (by assumption) (by assumption)) rfl rfl rfl (by simp only [go_sem, simprocAttr]) rfl ?_ | refine acall_simple hX hC hP (side_spec _ _ _ (by assumption) (by assumption) (by assumption)) rfl rfl rfl (by simp only [go_sem, simprocAttr]) rfl ?_ | refine acall_simple hX hC hP (on_spec _ _ _ (by assumption) (by assumption) (by assumption)) rfl rfl rfl (by simp only [go_sem, simprocAttr]) rfl ?_ | (refine acall_look hX hC hP (may_in3 a b c (by assumption) (by assumption) (by assumption)) rfl rfl rfl ?_ ?_ rfl ?_; iterate 2 (focus (simp only [go_sem, simprocAttr]; done))) | (refine acall_look hX hC hP (may_in4 a b c d (by assumption) (by assumption) (by assumption) (by assumption)) rfl rfl rfl ?_ ?_ rfl ?_; iterate 2 (focus (simp only [go_sem, simprocAttr]; done))) | (refine acall_look hX hC hP (may_out3 a b c (by assumption)) rfl rfl rfl ?_ ?_ rfl ?_; iterate 2 (focus (simp only [go_sem, simprocAttr]; done))) | (refine acall_look hX hC hP (may_out4 a b c d (by assumption)) rfl rfl rfl ?_ ?_ rfl ?_; iterate 2 (focus (simp only [go_sem, simprocAttr]; done)))); try simp only [go_sem, simprocAttr]) | (intro h))
    all_goals simp [OnV, ha, hb, hc]
  · (refine Spec.intro (C := T.cfg [] []) (rs := [.t 6]) (T.cfg_ok _ _) Try.func87 rfl rfl Try.ntmps87 Try.results87 (by simp [AObj.isNest]) (by simp [AObj.isNest]) (by kernel_rfl) ?_; intro X hX hP hC hXn hXm vals hA; refine ⟨_, by simp, hA, ?_⟩; have hmix : X.P.follows .mixedOrders = true := (by rw [hP]; exact T.mixed); clear hXn hXm)
    repeat' (first | ((first | ((with_reducible (first | apply oA | apply oB)); exact rfl; intro K hK) | (refine hK _ ?_; clear hK K) | ((with_reducible (first | apply oG | apply oH)); iterate 3 exact rfl) | ((with_reducible apply oI); (iterate 2 exact rfl); intro K hK) | (with_reducible (first | apply wI | apply wJ | apply wK))); try simp only [go_sem, simprocAttr]) | fail | (with_reducible (first | apply oC | apply oJ | exact oK | apply wA | apply wB | apply wC hX hC | apply wD hX hC | apply wE hX hC hmix | apply wF hX hC hmix | apply wG | apply wH | apply And.intro)) | ((with_reducible refine oD ?_ ?_); first | fail | kernel_rfl) | ((with_reducible (first | apply oE | apply oF)); (iterate 3 exact rfl); all_goals (intro h; first | (exact absurd h (by decide)) | ((try simp only [go_sem, simprocAttr] at h); (try with_reducible intro K hK); simp only [go_sem, simprocAttr]))) | ((first | ((with_reducible apply wL); exact rfl) | ((with_reducible apply wM); exact rfl)); all_goals (try ((with_reducible intro h); first | (exact absurd h (by decide)) | (try simp only [go_sem, simprocAttr] at h)))) | omega | ((first | first | refine acall_simple hX hC hP (compare_spec _ _) rfl rfl rfl (by simp only [go_sem, simprocAttr]) rfl ?_ | refine acall_simple hX hC hP (within_spec _ _ _) rfl rfl rfl (by simp only [go_sem, simprocAttr]) rfl ?_ | refine acall_simple hX hC hP (times_spec _ _ _ _ (by assumption) (by assumption) (by assumption) (by assumption)) rfl rfl rfl (by simp only [go_sem, simprocAttr]) rfl ?_ | refine acall_simple hX hC hP (side_spec _ _ _ (by assumption) (by assumption) (by assumption)) rfl rfl rfl (by simp only [go_sem, simprocAttr]) rfl ?_ | refine acall_simple hX hC hP (on_spec _ _ _ (by assumption) (by assumption) (by assumption)) rfl rfl rfl (by simp only [go_sem, simprocAttr]) rfl ?_ | (refine acall_look hX hC hP (may_in3 a b c (by assumption) (by assumption) (by assumption)) rfl rfl rfl ?_ ?_ rfl ?_; iterate 2 (focus (simp only [go_sem, simprocAttr]; done))) | (refine acall_look hX hC hP (may_in4 a b c d (by assumption) (by assumption) (by assumption) (by assumption)) rfl rfl rfl ?_ ?_ rfl ?_; iterate 2 (focus (simp only [go_sem, simprocAttr]; done))) | (refine acall_look hX hC hP (may_out3 a b c (by assumption)) rfl rfl rfl ?_ ?_ rfl ?_; iterate 2 (focus (simp only [go_sem, simprocAttr]; done))) | (refine acall_look hX hC hP (may_out4 a b c d (by assumption)) rfl rfl rfl ?_ ?_ rfl ?_; iterate 2 (focus (simp only [go_sem, simprocAttr]; done)))); try simp only [go_sem, simprocAttr]) | (intro h))
    all_goals rw [OnV, decide_eq_false hin]; rfl
end Go.Ab
end
