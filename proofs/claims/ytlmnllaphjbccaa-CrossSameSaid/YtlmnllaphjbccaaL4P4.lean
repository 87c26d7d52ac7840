/- A part of the proof. -/
import Derived.Great.BuildSlice
import Derived.Test.YtlmnllaphjbccaaL4P3
set_option linter.unusedSimpArgs false
set_option linter.unusedVariables false
section
namespace Go.Ab

theorem flat_len {sz : Nat} : ∀ {vss : List (List Value)}, (∀ l ∈ vss, l.length = sz) → vss.flatten.length = vss.length * sz
  | [], _ => by simp
  | l :: vss, h => by
    have := flat_len (sz := sz) (vss := vss) fun q hq => h q (by simp [hq])
    simp [this, h l (by simp), Nat.add_mul]; omega

theorem flat_get {sz : Nat} : ∀ {vss : List (List Value)}, (∀ l ∈ vss, l.length = sz) → ∀ (i j : Nat) (l : List Value) (v : Value), vss[i]? = some l → l[j]? = some v → vss.flatten[i * sz + j]? = some v
  | [], _, i, j, l, v, h, _ => by simp at h
  | q :: vss, h, i, j, l, v, hi, hj => by
    have hq := h q (by simp)
    cases i with
    | zero =>
      simp only [List.getElem?_cons_zero, Option.some.injEq] at hi
      subst hi
      have : j < q.length := (List.getElem?_eq_some_iff.1 hj).1
      simp only [List.flatten_cons, Nat.zero_mul, Nat.zero_add]
      rw [List.getElem?_append_left this]; exact hj
    | succ i =>
      simp only [List.getElem?_cons_succ] at hi
      have ih := flat_get (fun l hl => h l (by simp [hl])) i j l v hi hj
      simp only [List.flatten_cons]
      rw [List.getElem?_append_right (by rw [hq, Nat.add_mul]; omega), ← ih]
      congr 1
      rw [hq, Nat.add_mul]; omega

/-- Rows of values that read as rows of data. -/
def RowsR (w : World) (E : Env) (sz : Nat) (vss : List (List Value)) (rows : List (List D)) : Prop :=
  vss.length = rows.length ∧ ∀ (i : Nat) vs r, vss[i]? = some vs → rows[i]? = some r → vs.length = sz ∧ r.length = sz ∧ ∀ (j : Nat) x v, r[j]? = some x → vs[j]? = some v → Rd w E.z v x

theorem RowsR.nil (w : World) (E : Env) (sz : Nat) : RowsR w E sz [] [] := ⟨rfl, fun i vs r h => by simp at h⟩
theorem RowsR.cons {w : World} {E : Env} {sz : Nat} {vs : List Value} {r : List D} {vss : List (List Value)} {rows : List (List D)} (h1 : vs.length = sz) (h2 : r.length = sz)
    (h3 : ∀ (j : Nat) x v, r[j]? = some x → vs[j]? = some v → Rd w E.z v x) (h : RowsR w E sz vss rows) : RowsR w E sz (vs :: vss) (r :: rows) := by
  refine ⟨by simp [h.1], fun i ws q hi hr => ?_⟩
  cases i with
  | zero => simp at hi hr; subst hi; subst hr; exact ⟨h1, h2, h3⟩
  | succ i => simp at hi hr; exact h.2 i ws q hi hr
theorem RowsR.lens {w : World} {E : Env} {sz : Nat} {vss : List (List Value)} {rows : List (List D)} (h : RowsR w E sz vss rows) : (∀ l ∈ vss, l.length = sz) ∧ ∀ r ∈ rows, r.length = sz := by
  constructor
  · intro l hl
    obtain ⟨i, hi, rfl⟩ := List.mem_iff_getElem.1 hl
    exact (h.2 i _ _ (List.getElem?_eq_getElem hi) (List.getElem?_eq_getElem (by rw [← h.1]; exact hi))).1
  · intro l hl
    obtain ⟨i, hi, rfl⟩ := List.mem_iff_getElem.1 hl
    exact (h.2 i _ _ (List.getElem?_eq_getElem (by rw [h.1]; exact hi)) (List.getElem?_eq_getElem hi)).2.1
/-- One by one: the cell of row i at j. -/
theorem RowsR.cell {w : World} {E : Env} {sz : Nat} {vss : List (List Value)} {rows : List (List D)} (h : RowsR w E sz vss rows) {i j : Nat} {r : List D} {x : D} (hi : rows[i]? = some r) (hj : r[j]? = some x) :
    ∃ v, vss.flatten[i * sz + j]? = some v ∧ Rd w E.z v x := by
  have hil : i < vss.length := by rw [h.1]; exact (List.getElem?_eq_some_iff.1 hi).1
  obtain ⟨h1, h2, h3⟩ := h.2 i _ r (List.getElem?_eq_getElem hil) hi
  have hjl : j < vss[i].length := by rw [h1, ← h2]; exact (List.getElem?_eq_some_iff.1 hj).1
  exact ⟨vss[i][j], flat_get h.lens.1 i j _ _ (List.getElem?_eq_getElem hil) (List.getElem?_eq_getElem hjl), h3 j x _ hj (List.getElem?_eq_getElem hjl)⟩
theorem RowsR.one {w : World} {E : Env} {sz : Nat} {vss : List (List Value)} {rows : List (List D)} (h : RowsR w E sz vss rows) : ∀ v ∈ vss.flatten, v.oneCell' = true := by
  intro v hv
  obtain ⟨l, hl, hvl⟩ := List.mem_flatten.1 hv
  obtain ⟨i, hi, rfl⟩ := List.mem_iff_getElem.1 hl
  obtain ⟨j, hj, rfl⟩ := List.mem_iff_getElem.1 hvl
  have hir : i < rows.length := by rw [← h.1]; exact hi
  obtain ⟨h1, h2, h3⟩ := h.2 i _ _ (List.getElem?_eq_getElem hi) (List.getElem?_eq_getElem hir)
  exact (h3 j _ _ (List.getElem?_eq_getElem (by omega)) (List.getElem?_eq_getElem hj)).one

theorem fill_rows {C : Cfg} {e : Nat} {s : ASt} {w : World} {E : Env} {sz : Nat} (hsz : sz = C.sz e) : ∀ {ps : List (Nat × AV)} {k : Nat} {rows : List (List D)} {vs : List (Nat × Value)} {cs : List Value},
    partRows C e s k ps = some rows → vs.map (·.1) = ps.map (·.1) → AVrs w E (ps.map (·.2)) (vs.map (·.2)) → (∀ p ∈ msOf s (partAVs ps), Orel w E p.1 p.2) → (k + ps.length) * sz ≤ cs.length →
    ∃ vss : List (List Value), Instr.fill (fun i => some (i * sz, sz)) cs.toArray vs = some (cs.take (k * sz) ++ vss.flatten ++ cs.drop ((k + ps.length) * sz)).toArray ∧ RowsR w E sz vss rows
  | [], k, rows, vs, cs, h, hi, hv, hms, hl => by
    have : vs = [] := by simpa using hi
    subst this
    simp only [partRows, Option.some.injEq] at h
    subst h
    exact ⟨[], by simp [Instr.fill], RowsR.nil w E sz⟩
  | (i, a) :: ps, k, rows, vs, cs, h, hi, hv, hms, hl => by
    cases vs with
    | nil => simp at hi
    | cons p vs =>
      obtain ⟨i', v⟩ := p
      simp only [List.map_cons, List.cons.injEq] at hi
      obtain ⟨rfl, hi⟩ := hi
      obtain ⟨v', us', he, h1, h2⟩ := hv
      simp only [List.map_cons, List.cons.injEq] at he
      obtain ⟨rfl, rfl⟩ := he
      unfold partRows at h
      split at h
      · rename_i hik
        subst hik
        split at h
        · rename_i ds rs hds hrs
          split at h
          · rename_i hdl
            cases h
            have hc := h1.cells (toDs_fit hds)
            have mem1 : ∀ p ∈ msOf s (avCells a), Orel w E p.1 p.2 := by
              intro p hp
              refine hms p ?_
              simp only [partAVs]
              have : ∀ (l m : List AV), p ∈ msOf s l → p ∈ msOf s (l ++ m) := by
                intro l m
                induction l with
                | nil => intro h; cases h
                | cons q l ih =>
                  intro h
                  cases q <;> simp only [List.cons_append, msOf] at h ⊢ <;> first | exact ih h | skip
                  split at h
                  · rcases List.mem_cons.1 h with rfl | h
                    · exact List.mem_cons_self
                    · exact List.mem_cons_of_mem _ (ih h)
                  · exact ih h
              exact this _ _ hp
            have mem2 : ∀ p ∈ msOf s (partAVs ps), Orel w E p.1 p.2 := by
              intro p hp
              refine hms p ?_
              simp only [partAVs]
              have : ∀ (l m : List AV), p ∈ msOf s m → p ∈ msOf s (l ++ m) := by
                intro l m hm
                induction l with
                | nil => exact hm
                | cons q l ih =>
                  cases q <;> simp only [List.cons_append, msOf] <;> first | exact ih | skip
                  split
                  · exact List.mem_cons_of_mem _ ih
                  · exact ih
              exact this _ _ hp
            obtain ⟨c1, c2⟩ := toDs_rel hds hc mem1
            have hvs : v.cells.size = sz := by rw [← Array.length_toList, c1, hdl, hsz]
            simp only [List.length_cons] at hl
            have hkl : (i' + 1 + ps.length) * sz ≤ cs.length := by rw [show i' + 1 + ps.length = i' + (ps.length + 1) from by omega]; exact hl
            have hk1 : (i' + 1) * sz ≤ cs.length := Nat.le_trans (Nat.mul_le_mul_right _ (by omega)) hkl
            have hk2 : (i' + 1) * sz = i' * sz + sz := by rw [Nat.add_mul]; omega
            have hfold := foldl_set (i' * sz) v.cells.toList 0 cs.toArray (by simp; omega)
            obtain ⟨vss, f1, f2⟩ := fill_rows hsz (cs := cs.take (i' * sz) ++ v.cells.toList ++ cs.drop (i' * sz + v.cells.size)) hrs hi h2 mem2 (by simp; omega)
            refine ⟨v.cells.toList :: vss, ?_, RowsR.cons (by simp [hvs]) (by rw [hdl, hsz]) c2 f2⟩
            unfold Instr.fill
            simp only
            rw [if_neg (by simp [hvs]; omega)]
            have hnew : (v.cells.zipIdx.foldl (fun cs (x : Value × Nat) => cs.setIfInBounds (i' * sz + x.2) x.1) cs.toArray) = (cs.take (i' * sz) ++ v.cells.toList ++ cs.drop (i' * sz + v.cells.size)).toArray := by
              apply Array.toList_inj.1
              rw [← Array.foldl_toList, Array.toList_zipIdx]
              simpa using hfold
            rw [hnew, f1]
            congr 2
            have ht : (cs.take (i' * sz) ++ v.cells.toList ++ cs.drop (i' * sz + v.cells.size)).take ((i' + 1) * sz) = cs.take (i' * sz) ++ v.cells.toList := by
              rw [List.take_append_of_le_length (by simp; omega), List.take_of_length_le (by simp; omega)]
            have hd : (cs.take (i' * sz) ++ v.cells.toList ++ cs.drop (i' * sz + v.cells.size)).drop ((i' + 1 + ps.length) * sz) = cs.drop ((i' + (ps.length + 1)) * sz) := by
              have e1 : (i' + 1 + ps.length) * sz = i' * sz + sz + ps.length * sz := by rw [Nat.add_mul, hk2]
              have e2 : (i' + (ps.length + 1)) * sz = i' * sz + sz + ps.length * sz := by rw [← e1]; congr 1; omega
              rw [e1, e2, List.drop_append, List.drop_eq_nil_of_le (by simp; omega), List.nil_append, List.drop_drop]
              congr 1
              simp; omega
            rw [ht, hd]
            simp
          · cases h
        · cases h
      · cases h

/-- Rows in a block. -/
theorem own_or {w : World} {E : Env} {d b e sz cap : Nat} {cur : Array Value} {vss : List (List Value)} {rows : List (List D)} (hpos : 0 < sz) (hb : E.ρ d = some b) (hh : w.heap[b]? = some (.cells cur e (0, 0)))
    (hs : E.σ d = .slice (some ⟨b, 0, none⟩) rows.length cap) (hcap : rows.length ≤ cap) (hsize : cap * sz = cur.size) (hm : cap ≤ maxLen) (hr : RowsR w E sz vss rows)
    (hget : ∀ (k : Nat) (v : Value), vss.flatten[k]? = some v → cur[k]? = some v) : (E.z b = 0 → Orel w E d (.own e sz rows)) ∧ (E.z b = rows.length * sz → Orel w E d (.tip e sz rows)) := by
  have key : ∀ (i j : Nat) (r : List D) (x : D), rows[i]? = some r → r[j]? = some x → ∃ v, cur[i * sz + j]? = some v ∧ Rd w E.z v x := by
    intro i j r x hi hj
    obtain ⟨v, hv, hx⟩ := hr.cell hi hj
    exact ⟨v, hget _ _ hv, hx⟩
  exact ⟨fun hz => ⟨hr.lens.2, hpos, .inr ⟨b, cur, cap, hb, hh, hs, hcap, hsize, hm, hz, key⟩⟩, fun hz => ⟨hr.lens.2, hpos, .inr ⟨b, cur, cap, hb, hh, hs, hcap, hsize, hm, hz, key⟩⟩⟩

theorem RowsR.mono {w : World} {E : Env} {w' : World} {E' : Env} {sz : Nat} {vss : List (List Value)} {rows : List (List D)} (hs : Stable w E.z w' E'.z) (h : RowsR w E sz vss rows) : RowsR w' E' sz vss rows :=
  ⟨h.1, fun i vs r hi hr => ⟨(h.2 i vs r hi hr).1, (h.2 i vs r hi hr).2.1, fun j x v hj hv => ((h.2 i vs r hi hr).2.2 j x v hj hv).mono hs⟩⟩

section
variable {X : Ctx} {o : Oper} {s : ASt} {K : LA → Prop}

theorem szPos {C : Cfg} {P : Program} (hC : C.Ok P) {e : Nat} (h : 0 < C.sz e) : ∃ te, C.T e = some te ∧ TIok P e te ∧ te.sz = C.sz e := by
  unfold Cfg.sz at h ⊢
  split at h
  · rename_i te hte; exact ⟨te, hte, hC.T _ _ hte, rfl⟩
  · omega

theorem vc_buildSlice (hX : X.Ok) {t n : Nat} {parts : Array (Nat × Operand)} (ho : o.op = .buildSlice t n parts) (h : vcOp X X.C o s K) : ∃ la, LAok X o la ∧ Sat la s ∧ K la := by
  simp only [vcOp, ho] at h
  split at h
  · rename_i d e sz0 by' zc hdst hT
    obtain ⟨hd, h⟩ := h
    split at h
    · rename_i rows hr
      obtain ⟨⟨h1, h2, h3, h4⟩, hK⟩ := h
      have hu := (hX.C.T _ _ hT).2
      simp only at hu
      obtain ⟨te, hte, hteok, htesz⟩ := szPos hX.C h4
      refine ⟨_, LAok.mk hdst.symm fun s' E a w hdn hs hE => ?_, ⟨sat_rs s _, msOf_look s _⟩, hK⟩
      obtain ⟨i, z, e1, e2, e3, e4, e5⟩ := zero_cells hteok w E
      have hi2 : i.size = X.C.sz e := by
        obtain ⟨⟨i', z', f1, f2, _⟩, _⟩ := hteok
        rw [e1] at f1; cases f1; rw [f2, htesz]
      have hp := evParts_rel (s := s) hE ⟨.sl e, sz0, by', zc⟩ parts.toList hs.1
      have hlen : (evParts X.C ⟨.sl e, sz0, by', zc⟩ s parts.toList).length = rows.length := by
        have : ∀ (ps : List (Nat × AV)) (k : Nat) (rows : List (List D)), partRows X.C e s k ps = some rows → ps.length = rows.length := by
          intro ps
          induction ps with
          | nil => intro k rows h; simp [partRows] at h; subst h; rfl
          | cons p ps ih =>
            intro k rows h
            obtain ⟨i, v⟩ := p
            unfold partRows at h
            split at h
            · split at h
              · split at h
                · cases h
                  rename_i hrs _
                  simp [ih _ _ hrs]
                · cases h
              · cases h
            · cases h
        exact this _ _ _ hr
      generalize hcs : ((Array.range (n * i.size)).map (fun k => (if n * i.size = 0 then (#[] : Array Value) else z.cells)[k % (if n * i.size = 0 then (#[] : Array Value) else z.cells).size]!)) = cs0
      have hcsl : cs0.toList.length = n * i.size := by rw [← hcs]; simp
      obtain ⟨vss, f1, f2⟩ := fill_rows (w := w) (E := E) (sz := X.C.sz e) rfl (cs := cs0.toList) (vs := parts.toList.map fun p => (p.1, a.eval p.2)) hr (by rw [evParts_map]; simp [Function.comp_def]) hp (fun p hp => hE.good.obj _ _ (hs.2 p hp)) (by rw [hcsl, hi2, hlen, h1]; simp)
      simp only [Nat.zero_mul, List.take_zero, List.nil_append, Nat.zero_add, Array.toArray_toList] at f1
      rw [hlen, h1, ← hi2, List.drop_eq_nil_of_le (by omega), List.append_nil] at f1
      have hrun : (execOp a.eval o).run X.P w = .ok (.value (.slice (some ⟨w.heap.size, 0, none⟩) n n)) (w.alloc (.cells vss.flatten.toArray e)) := by
        have hsmall : ¬ (2 ^ 24 < n * i.size) := by
          have : n * i.size ≤ 1024 * 64 := Nat.mul_le_mul h2 (by omega)
          omega
        have : (Instr.buildSlice t n (parts.map fun (i, x) => (i, a.eval x))).run X.P w = .ok (.slice (some ⟨w.heap.size, 0, none⟩) n n) (w.alloc (.cells vss.flatten.toArray e)) := by
          have hparts : (parts.map fun (i, x) => (i, a.eval x)).toList = parts.toList.map fun p => (p.1, a.eval p.2) := by simp
          by_cases hz : n * i.size = 0
          · simp only [hz, if_true] at hcs
            have hn0 : n = 0 := by
              rcases Nat.mul_eq_zero.1 hz with h | h
              · exact h
              · omega
            subst hn0
            have hp0 : parts.toList = [] := by
              have : (parts.toList).length = 0 := by
                have := congrArg List.length (evParts_map X.C ⟨.sl e, sz0, by', zc⟩ s parts.toList)
                simp only [List.length_map] at this
                omega
              exact List.eq_nil_of_length_eq_zero this
            have hr0 : rows = [] := List.eq_nil_of_length_eq_zero h1
            have hv0 : vss = [] := List.eq_nil_of_length_eq_zero (by rw [f2.1, hr0]; rfl)
            have hpp : parts = #[] := by apply Array.toList_inj.1; simpa using hp0
            subst hpp
            subst hv0
            simp [Instr.buildSlice, run_underlying hu, sizeOf, typeInfo, e1, newRow, Instr.fill, Array.range_zero']
          · simp only [hz, if_false] at hcs
            refine run_buildSlice w t e n _ _ i z hu e1 e2 hsmall hz ?_
            rw [hparts, hcs]
            exact f1
        simp only [execOp, ho, Sem.run_bind, this, Result.andThen_ok, Sem.run_pure]
      have hmk : ∀ (zb : Nat) (ob : AObj), Orel (w.alloc (.cells vss.flatten.toArray e)) (mkE E d w.heap.size (.slice (some ⟨w.heap.size, 0, none⟩) n n) zb) d ob →
          RelE X (mkE E d w.heap.size (.slice (some ⟨w.heap.size, 0, none⟩) n n) zb) ((⟨rsOf s (partOps parts.toList), msOf s (partAVs (evParts X.C ⟨.sl e, sz0, by', zc⟩ s parts.toList)), [(d, none)], [(d, ob)], some d, .ref d⟩ : LA).app s') (a.put (some d) (.slice (some ⟨w.heap.size, 0, none⟩) n n)) (w.alloc (.cells vss.flatten.toArray e)) := by
        intro zb ob hor
        exact hE.create hX hd (kill := [(d, none)]) (by simp [kl]) (fun l hl => by have := kl_one d l hl; unfold dlow at hd; omega) (by simp) (fun b hb => heap_alloc_old w _ hb) rfl rfl rfl
          (fun l x hl => absurd hl (kl_one_some d l x)) hor ⟨by simp [mkE], trivial⟩ (fun k hk => hdn k (by rw [hdst]; exact hk))
      have hst : ∀ zb, Stable w E.z (w.alloc (.cells vss.flatten.toArray e)) (mkE E d w.heap.size (.slice (some ⟨w.heap.size, 0, none⟩) n n) zb).z := fun zb => stable_new hE.good.fresh (fun b hb => heap_alloc_old w _ hb)
      have hflen : vss.flatten.length = n * X.C.sz e := by rw [flat_len f2.lens.1, f2.1, h1]
      have hor : ∀ zb, _ := fun zb => own_or (w := w.alloc (.cells vss.flatten.toArray e)) (E := mkE E d w.heap.size (.slice (some ⟨w.heap.size, 0, none⟩) n n) zb) (d := d) (b := w.heap.size) (e := e) (cap := n) (cur := vss.flatten.toArray) h4
        (by simp [mkE]) (heap_alloc_new w _) (by simp [mkE, h1]) (by omega) (by simp [hflen]) (by simp only [maxLen]; omega) (f2.mono (hst zb)) (fun k v hv => by simpa using hv)
      refine ⟨_, _, mkE E d w.heap.size (.slice (some ⟨w.heap.size, 0, none⟩) n n) (if d ∈ X.C.own then 0 else rows.length * X.C.sz e), hrun, ?_⟩
      rw [hdst]
      refine hmk _ _ ?_
      by_cases hown : d ∈ X.C.own
      · simp only [hown, if_true]
        exact (hor 0).1 (by simp [mkE])
      · simp only [hown, if_false]
        exact (hor _).2 (by simp [mkE])
    · exact h.elim
  · exact h.elim


theorem zrow_rd {C : Cfg} {w : World} {E : Env} : ∀ {zc : List AV} {us : List Value}, (∀ a ∈ zc, a.cv.oneCell' = true) → AVrs w E zc us → (zrowOf C zc).length = zc.length ∧ ∀ (w' : World) (z' : Nat → Nat) (j : Nat) x v, (zrowOf C zc)[j]? = some x → us[j]? = some v → Rd w' z' v x
  | [], us, _, _ => ⟨rfl, fun w' z' j x v h => by simp [zrowOf] at h⟩
  | a :: zc, us, h1, h2 => by
    obtain ⟨u, us', rfl, h3, h4⟩ := h2
    obtain ⟨i1, i2⟩ := zrow_rd (C := C) (fun b hb => h1 b (by simp [hb])) h4
    have ha := h1 a (by simp)
    unfold AV.cv at ha
    split at ha
    · refine ⟨by simp [zrowOf, i1], fun w' z' j x v hj hv => ?_⟩
      cases j with
      | zero =>
        simp [zrowOf] at hj hv
        subst hj; subst hv
        simp only [AVr] at h3
        subst h3
        exact .nil _
      | succ j => exact i2 w' z' j x v (by simpa [zrowOf] using hj) (by simpa using hv)
    · refine ⟨by simp [zrowOf, i1], fun w' z' j x v hj hv => ?_⟩
      cases j with
      | zero =>
        simp [zrowOf] at hj hv
        subst hj; subst hv
        simp only [AVr] at h3
        cases h3 with
        | sc _ h => exact .sc _ h
      | succ j => exact i2 w' z' j x v (by simpa [zrowOf] using hj) (by simpa using hv)
    · simp [Value.oneCell'] at ha

theorem vc_makeSlice (hX : X.Ok) {t : Nat} {x y : Operand} (ho : o.op = .makeSlice t x y) (h : vcOp X X.C o s K) : ∃ la, LAok X o la ∧ Sat la s ∧ K la := by
  simp only [vcOp, ho] at h
  split at h
  · rename_i d e sz0 by' zc n k hdst hT hx hy
    obtain ⟨hd, ⟨rfl, h1, h2, h3, h4⟩, hK⟩ := h
    have hu := (hX.C.T _ _ hT).2
    simp only at hu
    obtain ⟨te, hte, hteok, htesz⟩ := szPos hX.C h4
    refine ⟨_, LAok.mk hdst.symm fun s' E a w hdn hs hE => ?_, ⟨sat_rs s _, by simp⟩, hK⟩
    have ex := hE.evs hs.1 X.C 3 (x := x) (by simp)
    have ey := hE.evs hs.1 X.C 3 (x := y) (by simp)
    rw [hx] at ex; rw [hy] at ey
    obtain ⟨i, z, e1, e2, e3, e4, e5⟩ := zero_cells hteok w E
    have hib : i.size = X.C.sz e ∧ i.bytes = X.C.by' e := by
      obtain ⟨⟨i', z', f1, f2, f3, _⟩, _⟩ := hteok
      rw [e1] at f1; cases f1
      exact ⟨by rw [f2, htesz], by rw [f3]; simp [Cfg.by', hte]⟩
    have hzc : ∀ a ∈ te.zc, a.cv.oneCell' = true := by
      obtain ⟨⟨i', z', f1, f2, f3, f4, f5, f6, _⟩, _⟩ := hteok; exact f6
    have hzr : X.C.zrow e = zrowOf X.C te.zc := by simp [Cfg.zrow, hte]
    obtain ⟨zl, zr⟩ := zrow_rd (C := X.C) hzc e4
    have hzlen : z.cells.size = X.C.sz e := by rw [e3, htesz]
    have hrow : (X.C.zrow e).length = X.C.sz e := by rw [hzr, zl, ← hzlen, ← e4.length]; simp
    have hrun0 := run_make (P := X.P) w t e i z hu e1 e2 .i64 .i64 n n h1 (Int.le_refl _) (by rw [hib.2]; omega) h2
    have hrun : (execOp a.eval o).run X.P w = .ok (.value (.slice (some ⟨w.heap.size, 0, none⟩) n.toNat n.toNat)) (w.alloc (.cells (madeCells z.cells (n.toNat * i.size)) e)) := by
      simp only [execOp, ho, AVr_int ex, AVr_int ey, Sem.run_bind, hrun0, Result.andThen_ok, Sem.run_pure]
    refine ⟨_, _, mkE E d w.heap.size (.slice (some ⟨w.heap.size, 0, none⟩) n.toNat n.toNat) 0, hrun, ?_⟩
    rw [hdst]
    refine hE.create hX hd (kill := [(d, none)]) (by simp [kl]) (fun l hl => by have := kl_one d l hl; unfold dlow at hd; omega) (by simp) (fun b hb => heap_alloc_old w _ hb) rfl rfl rfl
      (fun l x hl => absurd hl (kl_one_some d l x)) ?_ ⟨by simp [mkE], trivial⟩ (fun k hk => hdn k (by rw [hdst]; exact hk))
    have hmax : n.toNat ≤ maxLen := by simp only [maxLen]; omega
    refine ⟨fun r hr => by rw [(List.mem_replicate.1 hr).2, hrow], h4, .inr ⟨w.heap.size, madeCells z.cells (n.toNat * i.size), n.toNat, by simp [mkE], heap_alloc_new w _, by simp [mkE], by simp, by rw [size_madeCells, hib.1], hmax, by simp [mkE], fun q j r x hq hj => ?_⟩⟩
    have hqn : q < n.toNat := by have := (List.getElem?_eq_some_iff.1 hq).1; simpa using this
    rw [List.getElem?_replicate, if_pos hqn] at hq
    cases hq
    have hjl : j < X.C.sz e := by rw [← hrow]; exact (List.getElem?_eq_some_iff.1 hj).1
    have hjz : j < z.cells.size := by rw [hzlen]; exact hjl
    have hidx : q * X.C.sz e + j < n.toNat * i.size := by
      rw [hib.1]
      have : (q + 1) * X.C.sz e ≤ n.toNat * X.C.sz e := Nat.mul_le_mul_right _ hqn
      rw [Nat.add_mul] at this; omega
    refine ⟨z.cells[j], ?_, zr _ _ j x _ (by rw [← hzr]; exact hj) (by simp [hjz])⟩
    have hmod : (q * X.C.sz e + j) % z.cells.size = j := by rw [hzlen, Nat.mul_comm, Nat.mul_add_mod, Nat.mod_eq_of_lt hjl]
    unfold madeCells
    rw [Array.getElem?_map, Array.getElem?_range, if_pos hidx]
    simp [hmod, hjz]
  · exact h.elim

end
end Go.Ab
end
section
namespace Go.Ab

/-- What is appended: its cells, and the rows that they read as. -/
structure Src (w : World) (E : Env) (sz : Nat) (v : Value) (vss : List (List Value)) (rows : List (List D)) : Prop where
  rr : RowsR w E sz vss rows
  val : (v = .slice none 0 0 ∧ vss = []) ∨ ∃ b off c, v = .slice (some ⟨b, off, none⟩) rows.length c ∧ ∀ j u, vss.flatten[j]? = some u → w.cell? ⟨b, off + j, none⟩ = some u

/-- A list in pieces of one length. -/
def cut (sz : Nat) : Nat → List Value → List (List Value)
  | 0, _ => []
  | n + 1, l => l.take sz :: cut sz n (l.drop sz)
theorem cut_len (sz : Nat) : ∀ (n : Nat) (l : List Value), (cut sz n l).length = n
  | 0, _ => rfl
  | n + 1, l => by simp [cut, cut_len sz n]
theorem cut_get (sz : Nat) : ∀ (n : Nat) (l : List Value) (i : Nat), i < n → (cut sz n l)[i]? = some ((l.drop (i * sz)).take sz)
  | 0, _, i, h => by omega
  | n + 1, l, 0, _ => by simp [cut]
  | n + 1, l, i + 1, h => by
    simp only [cut, List.getElem?_cons_succ]
    rw [cut_get sz n _ i (by omega), List.drop_drop]
    congr 3
    rw [Nat.add_mul]; omega
theorem cut_flat (sz : Nat) : ∀ (n : Nat) (l : List Value), l.length = n * sz → (cut sz n l).flatten = l
  | 0, l, h => by simp at h; simp [cut, h]
  | n + 1, l, h => by
    simp only [cut, List.flatten_cons]
    rw [cut_flat sz n (l.drop sz) (by rw [List.length_drop, h, Nat.add_mul]; omega), List.take_append_drop]

/-- A run of cells that reads as rows. -/
theorem rowsR_cut {w : World} {E : Env} {sz : Nat} {l : List Value} {rows : List (List D)} (hl : l.length = rows.length * sz) (hsz : ∀ r ∈ rows, r.length = sz)
    (h : ∀ (i j : Nat) (r : List D) (x : D), rows[i]? = some r → r[j]? = some x → ∃ v, l[i * sz + j]? = some v ∧ Rd w E.z v x) : RowsR w E sz (cut sz rows.length l) rows := by
  refine ⟨cut_len _ _ _, fun i vs r hi hr => ?_⟩
  have hil : i < rows.length := (List.getElem?_eq_some_iff.1 hr).1
  rw [cut_get sz _ _ i hil] at hi
  cases hi
  have hle : (i + 1) * sz ≤ rows.length * sz := Nat.mul_le_mul_right _ hil
  rw [Nat.add_mul] at hle
  refine ⟨by simp; omega, hsz r (List.mem_of_getElem? hr), fun j x v hj hv => ?_⟩
  obtain ⟨v', hv', hx⟩ := h i j r x hr hj
  rw [List.getElem?_take] at hv
  split at hv
  · rw [List.getElem?_drop, hv'] at hv; cases hv; exact hx
  · cases hv

theorem src_rd {w : World} {E : Env} {sz : Nat} {rows : List (List D)} {v : Value} (h : Rd w E.z v (.sl sz rows)) : ∃ vss, Src w E sz v vss rows := by
  cases h with
  | nil => exact ⟨[], RowsR.nil w E sz, .inl ⟨rfl, rfl⟩⟩
  | sl b off n cap _ _ vs hn hsz hz hcap hc hr =>
    subst hn
    have hlen : ((List.range (rows.length * sz)).map vs).length = rows.length * sz := by simp
    refine ⟨cut sz rows.length ((List.range (rows.length * sz)).map vs), rowsR_cut hlen hsz (fun i j r x hi hj => ?_), .inr ⟨b, off, cap, rfl, fun j u hu => ?_⟩⟩
    · have hil : i < rows.length := (List.getElem?_eq_some_iff.1 hi).1
      have hjl : j < sz := by rw [← hsz r (List.mem_of_getElem? hi)]; exact (List.getElem?_eq_some_iff.1 hj).1
      have hle : (i + 1) * sz ≤ rows.length * sz := Nat.mul_le_mul_right _ hil
      rw [Nat.add_mul] at hle
      exact ⟨vs (i * sz + j), by rw [List.getElem?_map, List.getElem?_range (by omega)]; rfl, hr i j r x hi hj⟩
    · rw [cut_flat sz _ _ hlen, List.getElem?_map] at hu
      obtain ⟨q, hq, rfl⟩ := Option.map_eq_some_iff.1 hu
      have hj : j < rows.length * sz := by have := (List.getElem?_eq_some_iff.1 hq).1; simpa using this
      rw [List.getElem?_range hj] at hq
      cases hq
      exact hc _ hj

theorem src_own {w : World} {E : Env} {l e sz : Nat} {rows : List (List D)} (h : Orel w E l (.own e sz rows)) : ∃ vss, Src w E sz (E.σ l) vss rows := by
  obtain ⟨g1, g2, ⟨h1, h2, h3⟩ | ⟨b, cur, cap, h1, h2, h3, h4, h5, h6, h7, h8⟩⟩ := h
  · subst h2; exact ⟨[], RowsR.nil w E sz, .inl ⟨h3, rfl⟩⟩
  · have hle : rows.length * sz ≤ cap * sz := Nat.mul_le_mul_right _ h4
    have hlen : (cur.toList.take (rows.length * sz)).length = rows.length * sz := by simp; omega
    refine ⟨cut sz rows.length (cur.toList.take (rows.length * sz)), rowsR_cut hlen g1 (fun i j r x hi hj => ?_), .inr ⟨b, 0, cap, h3, fun j u hu => ?_⟩⟩
    · obtain ⟨v, hv, hx⟩ := h8 i j r x hi hj
      have hil : i < rows.length := (List.getElem?_eq_some_iff.1 hi).1
      have hjl : j < sz := by rw [← g1 r (List.mem_of_getElem? hi)]; exact (List.getElem?_eq_some_iff.1 hj).1
      have hle : (i + 1) * sz ≤ rows.length * sz := Nat.mul_le_mul_right _ hil
      rw [Nat.add_mul] at hle
      exact ⟨v, by rw [List.getElem?_take, if_pos (by omega)]; simpa using hv, hx⟩
    · rw [cut_flat sz _ _ hlen, List.getElem?_take] at hu
      split at hu
      · simp only [Nat.zero_add]
        simp only [World.cell?, h2]
        simpa using hu
      · cases hu

theorem src_of {C : Cfg} {e : Nat} {s : ASt} {av : AV} {rows : List (List D)} (h : rowsOf C e s av = some rows) (hpos : 0 < C.sz e) {w : World} {E : Env} (hms : ∀ p ∈ msOf s [av], Orel w E p.1 p.2)
    {v : Value} (hv : AVr w E av v) : ∃ vss, Src w E (C.sz e) v vss rows := by
  unfold rowsOf at h
  split at h
  · cases h; simp only [AVr] at hv; exact ⟨[], RowsR.nil w E _, .inl ⟨hv, rfl⟩⟩
  · split at h
    · rename_i hsz; cases h; subst hsz; exact src_rd hv
    · cases h
  · rename_i l
    split at h
    · rename_i e' sz r hl
      split at h
      · rename_i he
        cases h
        have h1 := hms (l, .tip e' sz rows) (by simp [msOf, hl])
        obtain ⟨-, rfl⟩ := he
        rw [hv.1]; exact src_rd (tipRd h1)
      · cases h
    · rename_i e' sz r hl
      split at h
      · rename_i he
        cases h
        have h1 := hms (l, .own e' sz rows) (by simp [msOf, hl])
        obtain ⟨-, rfl⟩ := he
        rw [hv.1]; exact src_own h1
      · cases h
    · cases h
  · cases h

/-- Where the grown slice lies. -/
structure Grown' (w w' : World) (e sz : Nat) (g : Nat) (v' : Value) (n : Nat) (cells : List Value) (stay : Bool) : Prop where
  os : w'.os = w.os
  tape : w'.tape = w.tape
  output : w'.output = w.output
  size : w'.heap.size = if stay then w.heap.size else w.heap.size + 1
  at_ : stay = false → g = w.heap.size
  other : ∀ k, k < w.heap.size → k ≠ g → w'.heap[k]? = w.heap[k]?
  blk : ∃ cur cap, w'.heap[g]? = some (.cells cur e (0, 0)) ∧ v' = .slice (some ⟨g, 0, none⟩) n cap ∧ n ≤ cap ∧ cap * sz = cur.size ∧ cap ≤ maxLen ∧ cur.toList.take (n * sz) = cells

section
variable {P : Program}

theorem run_append_src_nil (w : World) {t ty e : Nat} {te : TI} (hu : P.underlying t = some (.slice e)) (he : TIok P e te) {E : Env} {y : Value} {vss : List (List Value)} {ys : List (List D)} (hs : Src w E te.sz y vss ys)
    (hb : ys.length * te.by' ≤ 140737488355328) (hm : ys.length ≤ maxLen) (hpos : 0 < te.sz) :
    ∃ v' w', (Builtin.append_ #[t, t] ty #[.slice none 0 0, y]).run P w = .ok v' w' ∧ ((v' = .slice none 0 0 ∧ w' = w ∧ ys = []) ∨ Grown' w w' e te.sz w.heap.size v' ys.length vss.flatten false) := by
  obtain ⟨⟨i, z, e1, e2, e3, e4, e5, e6, e7⟩, _⟩ := he
  have hl : vss.flatten.length = ys.length * te.sz := by rw [flat_len hs.rr.lens.1, hs.rr.1]
  rcases hs.val with ⟨rfl, rfl⟩ | ⟨b, off, c, rfl, hc⟩
  · have hy : ys = [] := List.eq_nil_of_length_eq_zero (by rw [← hs.rr.1]; rfl)
    refine ⟨.slice none 0 0, w, ?_, .inl ⟨rfl, rfl, hy⟩⟩
    simp [Builtin.append_, run_underlying hu, sizeOf, typeInfo, e1, Builtin.lenOf, Builtin.firstCells]
  · by_cases hn : ys.length = 0
    · have hy : ys = [] := List.eq_nil_of_length_eq_zero hn
      subst hy
      refine ⟨.slice none 0 0, w, ?_, .inl ⟨rfl, rfl, rfl⟩⟩
      simp [Builtin.append_, run_underlying hu, sizeOf, typeInfo, e1, Builtin.lenOf, Builtin.firstCells, loadCells, loadCellsFrom]
    · have hm' : ys.length ≤ 9223372036854775807 := by simpa only [maxLen] using hm
      have hr := run_append_nil (P := P) w t ty e i z hu e1 e4 ⟨b, off, none⟩ ys.length c vss.flatten (by rw [hl, e2]) (fun j v hj => by rw [Addr.add_mid]; exact hc j v hj) (by omega) (by omega) (by rw [e3]; omega)
      refine ⟨_, _, hr, .inr ⟨rfl, rfl, rfl, by simp, fun _ => rfl, fun k hk _ => heap_alloc_old w.drew _ hk, ?_⟩⟩
      have hzs : z.cells.size = te.sz := by rw [← Array.length_toList, e5]; simpa using e7
      have hge := grownCap_ge w ys.length 0 e
      refine ⟨_, grownCap w ys.length 0 e, heap_alloc_new w.drew _, rfl, hge, ?_, grownCap_le_maxLen w ys.length 0 e hm, ?_⟩
      · simp only [Array.size_append, List.size_toArray, size_zeroCells, hzs, hl, ← Nat.add_mul]
        congr 1; omega
      · simp only [Array.toList_append]
        rw [← hl]; exact List.take_left

theorem run_append_src (w : World) {t ty e : Nat} {te : TI} (hu : P.underlying t = some (.slice e)) (he : TIok P e te) {E : Env} {y : Value} {vss : List (List Value)} {ys : List (List D)} (hs : Src w E te.sz y vss ys)
    {g n cap : Nat} {cur : Array Value} (hg : w.heap[g]? = some (.cells cur e (0, 0))) (hnc : n ≤ cap) (hcs : cap * te.sz = cur.size) (hcm : cap ≤ maxLen)
    (hb : (n + ys.length) * te.by' ≤ 140737488355328) (hm : n + ys.length ≤ maxLen) (hpos : 0 < te.sz) :
    ∃ v' w' g' stay, (Builtin.append_ #[t, t] ty #[.slice (some ⟨g, 0, none⟩) n cap, y]).run P w = .ok v' w' ∧ Grown' w w' e te.sz g' v' (n + ys.length) (cur.toList.take (n * te.sz) ++ vss.flatten) stay ∧ (stay = true → g' = g) := by
  obtain ⟨⟨i, z, e1, e2, e3, e4, e5, e6, e7⟩, _⟩ := he
  have hgl : g < w.heap.size := (Array.getElem?_eq_some_iff.1 hg).1
  have hl : vss.flatten.length = ys.length * te.sz := by rw [flat_len hs.rr.lens.1, hs.rr.1]
  have hcn : n * te.sz ≤ cap * te.sz := Nat.mul_le_mul_right _ hnc
  have htl : (cur.toList.take (n * te.sz)).length = n * te.sz := by simp; omega
  rcases hs.val with ⟨rfl, rfl⟩ | ⟨b, off, c, rfl, hc⟩
  · have hy : ys.length = 0 := by rw [← hs.rr.1]; rfl
    refine ⟨.slice (some ⟨g, 0, none⟩) n cap, w, g, true, ?_, ⟨rfl, rfl, rfl, rfl, fun h => by simp at h, fun k _ _ => rfl, cur, cap, hg, by rw [hy]; rfl, by omega, hcs, hcm, by simp [hy]⟩, fun _ => rfl⟩
    simp [Builtin.append_, run_underlying hu, sizeOf, typeInfo, e1, Builtin.lenOf, Builtin.firstCells, hnc, storeCells]
  · have hcells : ∀ j v, vss.flatten[j]? = some v → w.cell? ((⟨b, off, none⟩ : Addr).add j) = some v := fun j v hj => by rw [Addr.add_mid]; exact hc j v hj
    have hm' : n + ys.length ≤ 9223372036854775807 := by simpa only [maxLen] using hm
    by_cases hroom : n + ys.length ≤ cap
    · have hle : (n + ys.length) * te.sz ≤ cap * te.sz := Nat.mul_le_mul_right _ hroom
      rw [Nat.add_mul] at hle
      have hr := run_append_room (P := P) w t ty e i hu e1 g n cap cur hg ⟨b, off, none⟩ ys.length c vss.flatten (by rw [hl, e2]) hcells hs.rr.one hroom (by rw [hl, e2]; omega)
      refine ⟨_, _, g, true, hr, ⟨rfl, rfl, rfl, by simp [size_setRow], fun h => by simp at h, fun k _ hk => setRow_other w g k _ hk, _, cap, get_setRow hg, rfl, hroom, ?_, hcm, ?_⟩, fun _ => rfl⟩
      · simp only [List.size_toArray, List.length_append, List.length_take, List.length_drop, Array.length_toList, e2, hl]
        omega
      · simp only [e2]
        rw [Nat.add_mul, ← hl]
        rw [List.take_append_of_le_length (by simp only [List.length_append, htl]; omega), List.take_of_length_le (by simp only [List.length_append, htl]; omega)]
    · have hge := grownCap_ge w (n + ys.length) cap e
      have hr := run_append_grow (P := P) w t ty e i z hu e1 e4 ⟨g, 0, none⟩ n cap (cur.toList.take (n * te.sz)) (by rw [htl, e2]) (fun j v hj => by
          rw [Addr.add_mid, Nat.zero_add]
          rw [List.getElem?_take] at hj
          split at hj
          · simp only [World.cell?, hg]; simpa using hj
          · cases hj) ⟨b, off, none⟩ ys.length c vss.flatten (by rw [hl, e2]) hcells (by omega) (by omega) (growslice_fits (by omega) (by rw [e3]; exact hb))
      have hzs : z.cells.size = te.sz := by rw [← Array.length_toList, e5]; simpa using e7
      refine ⟨_, _, w.heap.size, false, hr, ⟨rfl, rfl, rfl, by simp, fun _ => rfl, fun k hk _ => heap_alloc_old w.drew _ hk, _, grownCap w (n + ys.length) cap e, heap_alloc_new w.drew _, rfl, hge, ?_, grownCap_le_maxLen w _ cap e hm, ?_⟩, fun h => by simp at h⟩
      · simp only [Array.size_append, List.size_toArray, size_zeroCells, hzs, htl, hl, ← Nat.add_mul]
        congr 1; omega
      · simp only [Array.toList_append]
        rw [List.take_append_of_le_length (by simp only [List.length_append, htl, hl, Nat.add_mul]; omega), List.take_of_length_le (by simp only [List.length_append, htl, hl, Nat.add_mul]; omega)]
end

end Go.Ab
end
section
namespace Go.Ab

/-- An object's block goes over to another name, with more in it. -/
theorem RelE.move {X : Ctx} (hX : X.Ok) {E : Env} {s : ASt} {a : Act} {w : World} (h : RelE X E s a w) {d l g : Nat} {old : AObj} (hl : look s.m l = some old) (hro : old.ro = false) (hg : E.ρ l = some g)
    {kill : List (Nat × Option D)} (hkd : kl kill d ≠ none) (hkl : kl kill l ≠ none) (hklow : ∀ l, kl kill l ≠ none → l < 10000) {rs : List (Nat × AV)} {ms : List (Nat × AObj)} {ob : AObj} {v : Value} {zb : Nat}
    {w' : World} {lav : AV} {dst : Option Nat} {v' : Value}
    (hsize : w'.heap.size = w.heap.size) (hh : ∀ b, b < w.heap.size → b ≠ g → w'.heap[b]? = w.heap[b]?) (hos : w'.os = w.os) (htape : w'.tape = w.tape) (hout : w'.output = w.output)
    (hzb : E.z g ≤ zb) (hcells : ∀ o, o < E.z g → w'.cell? ⟨g, o, none⟩ = w.cell? ⟨g, o, none⟩)
    (hkx : ∀ l x, kl kill l = some (some x) → IsSl (E.σ l) → Rd w' (mkE E d g v zb).z (E.σ l) x)
    (hor : Orel w' (mkE E d g v zb) d ob) (hv : AVr w' (mkE E d g v zb) lav v') (hdst : ∀ k, dst = some k → k < X.n) :
    RelE X (mkE E d g v zb) ((⟨rs, ms, kill, [(d, ob)], dst, lav⟩ : LA).app s) (a.put dst v') w' := by
  have hlook : ∀ l, look [(d, ob)] l = if d = l then some ob else none := fun l => by simp [look]
  have hgl : g < w.heap.size := (h.good.obj l old hl).lt hg
  refine h.app ⟨rs, ms, kill, [(d, ob)], dst, lav⟩ _ w' v' (fun b => ?_) hos htape hout (by omega) (fun k hk => ?_) hkx (fun k hk => ?_) (fun b hb => ?_) (fun k o hk => ?_) (fun k k' hk hk' => ?_) (fun k b hk hb => ?_) (fun b hb => ?_) hv hdst
  · simp only [mkE]
    by_cases hbg : b = g
    · subst hbg; simp only [if_true]; exact ⟨hzb, hcells⟩
    · simp only [hbg, if_false]
      refine ⟨Nat.le_refl _, fun o ho => ?_⟩
      by_cases hlt : b < w.heap.size
      · exact cell?_of_heap (hh b hlt hbg) o
      · rw [h.good.fresh b (by omega)] at ho; omega
  · have : k ≠ d := fun e => hkd (e ▸ hk)
    simp [mkE, this]
  · cases hm : look X.m0 k with
    | none => rfl
    | some o =>
      have h1 := hX.low k (by simp [hm])
      have h2 := hklow k hk
      omega
  · by_cases hbg : b = g
    · subst hbg; exact .inr ⟨l, old, hl, hro, hg, .inl hkl⟩
    · left; exact ⟨hh b hb hbg, by simp [mkE, hbg]⟩
  · simp only [hlook] at hk
    split at hk
    · rename_i hdl; subst hdl; cases hk; exact hor
    · cases hk
  · simp only [hlook] at hk hk'
    split at hk
    · split at hk'
      · omega
      · simp at hk'
    · simp at hk
  · simp only [hlook] at hk
    split at hk
    · rename_i hdl
      subst hdl
      simp only [mkE, if_true, Option.some.injEq] at hb
      subst hb
      exact .inr ⟨l, old, hl, hro, hg, .inl hkl⟩
    · simp at hk
  · have h1 : b ≠ g := by omega
    simp only [mkE, h1, if_false]
    exact h.good.fresh b (by omega)

def nilE (E : Env) (d : Nat) : Env := ⟨fun l => if l = d then none else E.ρ l, fun l => if l = d then .slice none 0 0 else E.σ l, E.z⟩

/-- A name for a nil slice. -/
theorem RelE.nilObj {X : Ctx} (hX : X.Ok) {E : Env} {s : ASt} {a : Act} {w : World} (h : RelE X E s a w) {d : Nat} {kill : List (Nat × Option D)} (hkd : kl kill d ≠ none) (hklow : ∀ l, kl kill l ≠ none → l < 10000)
    {rs : List (Nat × AV)} {ms : List (Nat × AObj)} {ob : AObj} {lav : AV} {dst : Option Nat} {v' : Value}
    (hkx : ∀ l x, kl kill l = some (some x) → IsSl (E.σ l) → Rd w E.z (E.σ l) x)
    (hor : Orel w (nilE E d) d ob) (hv : AVr w (nilE E d) lav v') (hdst : ∀ k, dst = some k → k < X.n) :
    RelE X (nilE E d) ((⟨rs, ms, kill, [(d, ob)], dst, lav⟩ : LA).app s) (a.put dst v') w := by
  have hlook : ∀ l, look [(d, ob)] l = if d = l then some ob else none := fun l => by simp [look]
  refine h.app ⟨rs, ms, kill, [(d, ob)], dst, lav⟩ _ w v' (Stable.refl _ _) rfl rfl rfl (Nat.le_refl _) (fun k hk => ?_) hkx (fun k hk => ?_) (fun b hb => .inl ⟨rfl, rfl⟩) (fun k o hk => ?_) (fun k k' hk hk' => ?_) (fun k b hk hb => ?_) h.good.fresh hv hdst
  · have : k ≠ d := fun e => hkd (e ▸ hk)
    simp [nilE, this]
  · cases hm : look X.m0 k with
    | none => rfl
    | some o =>
      have h1 := hX.low k (by simp [hm])
      have h2 := hklow k hk
      omega
  · simp only [hlook] at hk
    split at hk
    · rename_i hdl; subst hdl; cases hk; exact hor
    · cases hk
  · simp only [hlook] at hk hk'
    split at hk
    · split at hk'
      · omega
      · simp at hk'
    · simp at hk
  · simp only [hlook] at hk
    split at hk
    · rename_i hdl
      subst hdl
      simp [nilE] at hb
    · simp at hk

theorem cut_or {w' : World} {E' : Env} {w : World} {E : Env} {d g e sz n : Nat} {v' : Value} {rows ys : List (List D)} {olds : List Value} {vss : List (List Value)} {stay : Bool}
    (hg : Grown' w w' e sz g v' n (olds ++ vss.flatten) stay) (hpos : 0 < sz) (hn : n = rows.length + ys.length) (ho : olds.length = rows.length * sz) (hrows : ∀ r ∈ rows, r.length = sz)
    (hold : ∀ (i j : Nat) (r : List D) (x : D), rows[i]? = some r → r[j]? = some x → ∃ v, olds[i * sz + j]? = some v ∧ Rd w' E'.z v x) (hnew : RowsR w' E' sz vss ys)
    (hb : E'.ρ d = some g) (hs : E'.σ d = v') : (E'.z g = 0 → Orel w' E' d (.own e sz (rows ++ ys))) ∧ (E'.z g = n * sz → Orel w' E' d (.tip e sz (rows ++ ys))) := by
  obtain ⟨cur, cap, b1, b2, b3, b4, b5, b6⟩ := hg.blk
  have hR : RowsR w' E' sz (cut sz rows.length olds ++ vss) (rows ++ ys) := by
    have h1 := rowsR_cut ho hrows hold
    refine ⟨by simp [h1.1, hnew.1], fun i vs r hi hr => ?_⟩
    by_cases hil : i < rows.length
    · rw [List.getElem?_append_left (by rw [h1.1]; exact hil)] at hi
      rw [List.getElem?_append_left hil] at hr
      exact h1.2 i vs r hi hr
    · rw [List.getElem?_append_right (by rw [h1.1]; omega), h1.1] at hi
      rw [List.getElem?_append_right (by omega)] at hr
      exact hnew.2 _ vs r hi hr
  have hflat : (cut sz rows.length olds ++ vss).flatten = olds ++ vss.flatten := by rw [List.flatten_append, cut_flat sz _ _ ho]
  have hnl : n = (rows ++ ys).length := by simp [hn]
  have := own_or (w := w') (E := E') (d := d) hpos hb b1 (by rw [hs, b2, hnl]) (by omega) b4 b5 hR (fun k v hv => by
    rw [hflat, ← b6, List.getElem?_take] at hv
    split at hv
    · simpa using hv
    · cases hv)
  exact ⟨this.1, fun hz => this.2 (by rw [hz, hnl])⟩

section
variable {X : Ctx} {o : Oper} {s : ASt} {K : LA → Prop}

theorem vc_append (hX : X.Ok) {x y : Operand} {t t' : Nat} {c : Call} (ho : o.op = .call c) (hc : c.callee = .builtin .append) (ha : c.args.toList = [x, y]) (ht : c.argTypes.toList = [t, t'])
    (h : vcBuiltin X.C s o .append [x, y] [t, t'] K) : ∃ la, LAok X o la ∧ Sat la s ∧ K la := by
  simp only [vcBuiltin] at h
  split at h
  · rename_i d e sz0 by0 zc htt hdst hT
    have htt : t = t' := by simpa using htt
    subst htt
    obtain ⟨⟨hd, hsz, hby⟩, h⟩ := h
    have hu := (hX.C.T _ _ hT).2
    simp only at hu
    obtain ⟨te, hte, hteok, htesz⟩ := szPos hX.C hsz
    have hteby : te.by' = X.C.by' e := by simp [Cfg.by', hte]
    split at h
    · exact h.elim
    · rename_i ys hys
      have hrun : ∀ {a : Act} {w : World} {v' : Value} {w' : World}, (Builtin.append_ #[t, t] o.type #[a.eval x, a.eval y]).run X.P w = .ok v' w' → (execOp a.eval o).run X.P w = .ok (.value v') w' := by
        intro a w v' w' hr
        have hargs : c.args.map a.eval = #[a.eval x, a.eval y] := by apply Array.toList_inj.1; simp [ha]
        have hty : c.argTypes = #[t, t] := by apply Array.toList_inj.1; simpa using ht
        simp only [execOp, ho, resolve, hc, Sem.run_bind, Sem.run_pure, Result.andThen_ok, invoke, builtin, hargs, hty, hr]
      have hmax : ∀ n : Nat, n * X.C.by' e ≤ 140737488355328 → n ≤ maxLen := by
        intro n hn
        have : n * 1 ≤ n * X.C.by' e := Nat.mul_le_mul_left _ hby
        simp only [maxLen]; omega
      have hsrc : ∀ {s' : ASt} {E : Env} {a : Act} {w : World} {rs : List (Nat × AV)} {ms : List (Nat × AObj)} {k : List (Nat × Option D)} {u : List (Nat × AObj)} {dst : Option Nat} {v : AV}, (∀ p ∈ rsOf s [x, y], get s'.t p.1 = p.2) → (∀ p ∈ msOf s [aev X.C t s y], look s'.m p.1 = some p.2) → RelE X E s' a w →
          ∃ vss, Src w E te.sz (a.eval y) vss ys := by
        intro s' E a w rs ms k u dst v h1 h2 hE
        have ey := hE.evs h1 X.C t (x := y) (by simp)
        obtain ⟨vss, hs⟩ := src_of hys hsz (fun p hp => hE.good.obj _ _ (h2 p hp)) ey
        rw [htesz]
        exact ⟨vss, hs⟩
      split at h
      · -- onto nil
        rename_i e' hx
        obtain ⟨hle, hK⟩ := h
        refine ⟨_, LAok.mk hdst.symm fun s' E a w hdn hs hE => ?_, ⟨sat_rs s _, msOf_look s _⟩, hK⟩
        have ex := hE.evs hs.1 X.C t (x := x) (by simp)
        rw [hx] at ex
        simp only [AVr] at ex
        obtain ⟨vss, hsrc⟩ := hsrc (rs := []) (ms := []) (k := []) (u := []) (dst := none) (v := .und) hs.1 hs.2 hE
        obtain ⟨v', w', hr, hcase⟩ := run_append_src_nil (ty := o.type) w hu hteok hsrc (by rw [hteby]; exact hle) (hmax _ hle) (by omega)
        rw [← ex] at hr
        rw [hdst]
        have klow : ∀ l, kl [(d, (none : Option D))] l ≠ none → l < 10000 := fun l hl => by have := kl_one d l hl; unfold dlow at hd; omega
        have hdn' : ∀ k, some d = some k → k < X.n := fun k hk => hdn k (by rw [hdst]; exact hk)
        rcases hcase with ⟨rfl, rfl, hy0⟩ | hgr
        · refine ⟨_, _, nilE E d, hrun hr, hE.nilObj hX (kill := [(d, none)]) (by simp [kl]) klow (fun l x hl => absurd hl (kl_one_some d l x)) ?_ ⟨by simp [nilE], trivial⟩ hdn'⟩
          subst hy0
          split
          · exact ⟨by simp, hsz, .inl ⟨by simp [nilE], rfl, by simp [nilE]⟩⟩
          · exact ⟨by simp, hsz, .inl ⟨by simp [nilE], rfl, by simp [nilE]⟩⟩
        · refine ⟨_, _, mkE E d w.heap.size v' (if d ∈ X.C.own then 0 else ys.length * te.sz), hrun hr, ?_⟩
          have hgr' := hgr
          obtain ⟨cur, cap, b1, b2, _⟩ := hgr'.blk
          refine hE.create hX hd (kill := [(d, none)]) (by simp [kl]) klow (by simpa using hgr.size) (fun b hb => hgr.other b hb (by omega)) hgr.os hgr.tape hgr.output
            (fun l x hl => absurd hl (kl_one_some d l x)) ?_ ⟨by simp [mkE], by rw [b2]; trivial⟩ hdn'
          have hst := stable_new (w' := w') (E := E) (d := d) (v := v') (zb := if d ∈ X.C.own then 0 else ys.length * te.sz) hE.good.fresh (fun b hb => hgr.other b hb (by omega))
          have := cut_or (E' := mkE E d w.heap.size v' (if d ∈ X.C.own then 0 else ys.length * te.sz)) (E := E) (d := d) (rows := []) (olds := []) (by simpa using hgr) (by omega) (by simp) (by simp) (by simp) (fun i j r x h => by simp at h) (hsrc.rr.mono hst) (by simp [mkE]) (by simp [mkE])
          simp only [List.nil_append, htesz] at this
          by_cases hown : d ∈ X.C.own
          · simp only [hown, if_true] at this ⊢
            exact this.1 (by simp [mkE])
          · simp only [hown, if_false] at this ⊢
            simp only [htesz]
            exact this.2 (by simp [mkE])
      · rename_i l hx
        -- what both kinds share
        have core : ∀ (old : AObj) (rows : List (List D)) (kill : List (Nat × Option D)) (mk : List (List D) → AObj) (zz : Nat → Nat), look s.m l = some old → old.ro = false →
            (old = .tip e (X.C.sz e) rows ∧ mk = .tip e (X.C.sz e) ∧ zz = (fun n => n * X.C.sz e) ∧ kill = [(l, some (.sl (X.C.sz e) rows)), (d, none)]) ∨ (old = .own e (X.C.sz e) rows ∧ mk = .own e (X.C.sz e) ∧ zz = (fun _ => 0) ∧ kill = [(l, none), (d, none)]) →
            dlow l → (rows.length + ys.length) * X.C.by' e ≤ 140737488355328 →
            K ⟨rsOf s [x, y], (l, old) :: msOf s [aev X.C t s y], kill, [(d, mk (rows ++ ys))], some d, .ref d⟩ → ∃ la, LAok X o la ∧ Sat la s ∧ K la := by
          intro old rows kill mk zz hl hro hkind hll hle hK
          refine ⟨_, LAok.mk hdst.symm fun s' E a w hdn hs hE => ?_, ⟨sat_rs s _, fun p hp => by
            rcases List.mem_cons.1 hp with rfl | hp
            · exact hl
            · exact msOf_look s _ p hp⟩, hK⟩
          have hl' := hs.2 (l, old) (by simp)
          have ex := hE.evs hs.1 X.C t (x := x) (by simp)
          rw [hx] at ex
          simp only [AVr] at ex
          obtain ⟨vss, hsrc⟩ := hsrc (rs := []) (ms := []) (k := []) (u := []) (dst := none) (v := .und) hs.1 (fun p hp => hs.2 p (by simp [hp])) hE
          have hor := hE.good.obj l old hl'
          -- where it lies
          have hplace : (∀ r ∈ rows, r.length = X.C.sz e) ∧ ((E.ρ l = none ∧ rows = [] ∧ E.σ l = .slice none 0 0) ∨
              ∃ b cur cap, E.ρ l = some b ∧ w.heap[b]? = some (.cells cur e (0, 0)) ∧ E.σ l = .slice (some ⟨b, 0, none⟩) rows.length cap ∧ rows.length ≤ cap ∧ cap * X.C.sz e = cur.size ∧ cap ≤ maxLen ∧
                E.z b = zz rows.length ∧ ∀ (i j : Nat) (r : List D) (x : D), rows[i]? = some r → r[j]? = some x → ∃ v, cur[i * X.C.sz e + j]? = some v ∧ Rd w E.z v x) := by
            rcases hkind with ⟨rfl, rfl, rfl, rfl⟩ | ⟨rfl, rfl, rfl, rfl⟩ <;> exact ⟨hor.1, hor.2.2⟩
          have hkd : kl kill d ≠ none := by
            rcases hkind with ⟨_, _, _, rfl⟩ | ⟨_, _, _, rfl⟩ <;> simp only [kl] <;> (split <;> simp)
          have hkl : kl kill l ≠ none := by
            rcases hkind with ⟨_, _, _, rfl⟩ | ⟨_, _, _, rfl⟩ <;> simp [kl]
          have hklow : ∀ q, kl kill q ≠ none → q < 10000 := by
            intro q hq
            unfold dlow at hd hll
            rcases hkind with ⟨_, _, _, rfl⟩ | ⟨_, _, _, rfl⟩ <;> simp only [kl] at hq <;> (split at hq; omega; split at hq; omega; exact absurd rfl hq)
          have hkx : ∀ (w' : World) (z' : Nat → Nat), Stable w E.z w' z' → ∀ q x, kl kill q = some (some x) → IsSl (E.σ q) → Rd w' z' (E.σ q) x := by
            intro w' z' hst q x hq _
            rcases hkind with ⟨rfl, _, _, rfl⟩ | ⟨rfl, _, _, rfl⟩
            · simp only [kl] at hq
              split at hq
              · rename_i hlq; subst hlq
                cases hq
                exact (tipRd hor).mono hst
              · split at hq <;> cases hq
            · simp only [kl] at hq
              split at hq
              · cases hq
              · split at hq <;> cases hq
          have hdn' : ∀ k, some d = some k → k < X.n := fun k hk => hdn k (by rw [hdst]; exact hk)
          rw [hdst]
          obtain ⟨hrl, hplace⟩ := hplace
          have hmk : ∀ (w' : World) (E' : Env) (R : List (List D)) (g n : Nat), ((E'.z g = 0 → Orel w' E' d (.own e (X.C.sz e) R)) ∧ (E'.z g = n * X.C.sz e → Orel w' E' d (.tip e (X.C.sz e) R))) → E'.z g = zz n → Orel w' E' d (mk R) := by
            intro w' E' R g n h hz
            rcases hkind with ⟨_, rfl, rfl, _⟩ | ⟨_, rfl, rfl, _⟩
            · exact h.2 hz
            · exact h.1 hz
          rcases hplace with ⟨g1, g2, g3⟩ | ⟨b, cur, cap, g1, g2, g3, g4, g5, g6, g7, g8⟩
          · -- nil so far
            subst g2
            simp only [List.length_nil, Nat.zero_add] at hle
            obtain ⟨v', w', hr, hcase⟩ := run_append_src_nil (ty := o.type) w hu hteok hsrc (by rw [hteby]; exact hle) (hmax _ hle) (by omega)
            rw [← g3, ← ex.1] at hr
            rcases hcase with ⟨rfl, rfl, hy0⟩ | hgr
            · refine ⟨_, _, nilE E d, hrun hr, hE.nilObj hX hkd hklow (hkx _ _ (Stable.refl _ _)) ?_ ⟨by simp [nilE], trivial⟩ hdn'⟩
              subst hy0
              rcases hkind with ⟨_, rfl, _, _⟩ | ⟨_, rfl, _, _⟩
              · exact ⟨by simp, hsz, .inl ⟨by simp [nilE], rfl, by simp [nilE]⟩⟩
              · exact ⟨by simp, hsz, .inl ⟨by simp [nilE], rfl, by simp [nilE]⟩⟩
            · refine ⟨_, _, mkE E d w.heap.size v' (zz ys.length), hrun hr, ?_⟩
              have hst := stable_new (w' := w') (E := E) (d := d) (v := v') (zb := zz ys.length) hE.good.fresh (fun b hb => hgr.other b hb (by omega))
              obtain ⟨cur, cap, b1, b2, _⟩ := hgr.blk
              refine hE.create hX hd hkd hklow (by simpa using hgr.size) (fun b hb => hgr.other b hb (by omega)) hgr.os hgr.tape hgr.output (hkx _ _ hst) ?_ ⟨by simp [mkE], by rw [b2]; trivial⟩ hdn'
              have := cut_or (E' := mkE E d w.heap.size v' (zz ys.length)) (E := E) (d := d) (rows := []) (olds := []) (by simpa using hgr) (by omega) (by simp) (by simp) (by simp) (fun i j r x h => by simp at h) (hsrc.rr.mono hst) (by simp [mkE]) (by simp [mkE])
              rw [htesz] at this
              exact hmk _ _ _ _ _ this (by simp [mkE])
          · obtain ⟨v', w', g', stay, hr, hgr, hstay⟩ := run_append_src (ty := o.type) w hu hteok hsrc g2 g4 (by rw [htesz]; exact g5) g6 (by rw [hteby]; exact hle) (hmax _ hle) (by omega)
            rw [← g3, ← ex.1] at hr
            have hble : rows.length * X.C.sz e ≤ cap * X.C.sz e := Nat.mul_le_mul_right _ g4
            have hol : (cur.toList.take (rows.length * te.sz)).length = rows.length * te.sz := by rw [htesz]; simp; omega
            have hbl : b < w.heap.size := (Array.getElem?_eq_some_iff.1 g2).1
            obtain ⟨cur', cap', c1, c2, c3, c4, c5, c6⟩ := hgr.blk
            have hfin : ∀ (E' : Env), Stable w E.z w' E'.z → E'.ρ d = some g' → E'.σ d = v' → E'.z g' = zz (rows.length + ys.length) → Orel w' E' d (mk (rows ++ ys)) := by
              intro E' hst h1 h2 h3
              have := cut_or (E' := E') (E := E) (d := d) (rows := rows) (ys := ys) hgr (by omega) rfl hol (by rw [htesz]; exact hrl) (fun i j r x hi hj => by
                obtain ⟨v, hv, hx⟩ := g8 i j r x hi hj
                refine ⟨v, ?_, hx.mono hst⟩
                have hil : i < rows.length := (List.getElem?_eq_some_iff.1 hi).1
                have hjl : j < X.C.sz e := by rw [← hrl r (List.mem_of_getElem? hi)]; exact (List.getElem?_eq_some_iff.1 hj).1
                have hle : (i + 1) * X.C.sz e ≤ rows.length * X.C.sz e := Nat.mul_le_mul_right _ hil
                rw [Nat.add_mul] at hle
                rw [htesz, List.getElem?_take, if_pos (by omega)]; simpa using hv) (hsrc.rr.mono hst) h1 h2
              rw [htesz] at this
              exact hmk _ _ _ _ _ this h3
            cases stay with
            | true =>
              have hgg := hstay rfl
              subst hgg
              refine ⟨_, _, mkE E d g' v' (zz (rows.length + ys.length)), hrun hr, ?_⟩
              have hzle : E.z g' ≤ zz (rows.length + ys.length) := by
                rw [g7]
                rcases hkind with ⟨_, _, rfl, _⟩ | ⟨_, _, rfl, _⟩
                · exact Nat.mul_le_mul_right _ (by omega)
                · exact Nat.le_refl _
              have hcell : ∀ o, o < E.z g' → w'.cell? ⟨g', o, none⟩ = w.cell? ⟨g', o, none⟩ := by
                intro o ho
                have ho' : o < rows.length * te.sz := by
                  rw [g7] at ho
                  rcases hkind with ⟨_, _, rfl, _⟩ | ⟨_, _, rfl, _⟩
                  · rw [htesz]; exact ho
                  · simp at ho
                have h1 : cur'.toList[o]? = cur.toList[o]? := by
                  have := congrArg (·[o]?) c6
                  simp only [List.getElem?_take] at this
                  rw [if_pos (by rw [Nat.add_mul]; omega), List.getElem?_append_left (by rw [hol]; exact ho'), List.getElem?_take, if_pos ho'] at this
                  exact this
                simp only [World.cell?, c1, g2]
                simpa using h1
              have hst : Stable w E.z w' (mkE E d g' v' (zz (rows.length + ys.length))).z := by
                intro q
                simp only [mkE]
                by_cases hq : q = g'
                · subst hq; simp only [if_true]; exact ⟨hzle, hcell⟩
                · simp only [hq, if_false]
                  refine ⟨Nat.le_refl _, fun o ho => ?_⟩
                  by_cases hlt : q < w.heap.size
                  · exact cell?_of_heap (hgr.other q hlt hq) o
                  · rw [hE.good.fresh q (by omega)] at ho; omega
              exact hE.move hX hl' hro g1 hkd hkl hklow (by simpa using hgr.size) (fun q hq hne => hgr.other q hq hne) hgr.os hgr.tape hgr.output hzle hcell (hkx _ _ hst) (hfin _ hst (by simp [mkE]) (by simp [mkE]) (by simp [mkE])) ⟨by simp [mkE], by rw [c2]; trivial⟩ hdn'
            | false =>
              have hgg := hgr.at_ rfl
              subst hgg
              refine ⟨_, _, mkE E d w.heap.size v' (zz (rows.length + ys.length)), hrun hr, ?_⟩
              have hst := stable_new (w' := w') (E := E) (d := d) (v := v') (zb := zz (rows.length + ys.length)) hE.good.fresh (fun q hq => hgr.other q hq (by omega))
              exact hE.create hX hd hkd hklow (by simpa using hgr.size) (fun q hq => hgr.other q hq (by omega)) hgr.os hgr.tape hgr.output (hkx _ _ hst) (hfin _ hst (by simp [mkE]) (by simp [mkE]) (by simp [mkE])) ⟨by simp [mkE], by rw [c2]; trivial⟩ hdn'
        split at h
        · rename_i e' sz rows hl
          obtain ⟨⟨rfl, rfl⟩, hll, hle, hK⟩ := h
          exact core _ rows _ (.tip e' (X.C.sz e')) _ hl rfl (.inl ⟨rfl, rfl, rfl, rfl⟩) hll hle hK
        · rename_i e' sz rows hl
          obtain ⟨⟨rfl, rfl⟩, hll, hle, hK⟩ := h
          exact core _ rows _ (.own e' (X.C.sz e')) _ hl rfl (.inr ⟨rfl, rfl, rfl, rfl⟩) hll hle hK
        · exact h.elim
      · exact h.elim
  · exact h.elim

end
end Go.Ab
end
