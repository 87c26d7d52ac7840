/- What each operation asks is enough: stores; slices that are made. -/
import Derived.Laws.OwnMore
import Derived.Test.YtlmnllaphjbccaaL4P2
set_option linter.unusedSimpArgs false
set_option linter.unusedVariables false
namespace Go.Ab

/-- An object is written in place. -/
theorem RelE.write {X : Ctx} {E : Env} {s : ASt} {a : Act} {w : World} (h : RelE X E s a w) {l b : Nat} {old ob : AObj} (hl : look s.m l = some old) (hro : old.ro = false) (hb : E.ρ l = some b) (hz : E.z b = 0)
    {rs : List (Nat × AV)} {ms : List (Nat × AObj)} {w' : World} {lav : AV} {dst : Option Nat} {v' : Value}
    (hsize : w'.heap.size = w.heap.size) (hh : ∀ k, k ≠ b → w'.heap[k]? = w.heap[k]?) (hos : w'.os = w.os) (htape : w'.tape = w.tape) (hout : w'.output = w.output)
    (hor : Orel w' E l ob) (hv : AVr w' E lav v') (hdst : ∀ k, dst = some k → k < X.n) :
    RelE X E ((⟨rs, ms, [], [(l, ob)], dst, lav⟩ : LA).app s) (a.put dst v') w' := by
  have hlook : ∀ k, look [(l, ob)] k = if l = k then some ob else none := fun k => by simp [look]
  refine h.app ⟨rs, ms, [], [(l, ob)], dst, lav⟩ E w' v' (fun k => ⟨Nat.le_refl _, fun o ho => ?_⟩) hos htape hout (by omega) (fun k _ => ⟨rfl, rfl⟩) (fun k x hk => by simp [kl] at hk) (fun k hk => absurd rfl hk) (fun k hk => ?_) (fun k o hk => ?_) (fun k k' hk hk' => ?_) (fun k b' hk hb' => ?_) (fun k hk => h.good.fresh k (by omega)) hv hdst
  · by_cases hkb : k = b
    · subst hkb; omega
    · exact cell?_of_heap (hh k hkb) o
  · by_cases hkb : k = b
    · subst hkb; exact .inr ⟨l, old, hl, hro, hb, .inr (by simp [look])⟩
    · exact .inl ⟨hh k hkb, rfl⟩
  · simp only [hlook] at hk
    split at hk
    · rename_i hlk; subst hlk; cases hk; exact hor
    · cases hk
  · simp only [hlook] at hk hk'
    split at hk
    · split at hk'
      · omega
      · simp at hk'
    · simp at hk
  · simp only [hlook] at hk
    split at hk
    · rename_i hlk; subst hlk
      exact .inr ⟨l, old, hl, hro, hb', .inr rfl⟩
    · simp at hk

theorem size_setRow (w : World) (g : Nat) (cs : Array Value) : (w.setRow g cs).heap.size = w.heap.size := by simp [World.setRow]

theorem over_len (cs : List AV) (o : Nat) (vs : List AV) (h : o + vs.length ≤ cs.length) : (over cs o vs).length = cs.length := by
  simp [over]; omega

/-- Values that read as the data of some cells. -/
theorem toDs_rel {C : Cfg} {s : ASt} {w : World} {E : Env} : ∀ {as : List AV} {ds : List D} {us : List Value}, toDs C s as = some ds → AVrs w E as us → (∀ p ∈ msOf s as, Orel w E p.1 p.2) →
    us.length = ds.length ∧ ∀ (j : Nat) x u, ds[j]? = some x → us[j]? = some u → Rd w E.z u x
  | [], ds, us, h, hr, _ => by
    simp only [toDs, Option.some.injEq] at h
    simp only [AVrs] at hr
    subst h; subst hr
    simp
  | a :: as, ds, us, h, hr, hms => by
    obtain ⟨u, us', rfl, h1, h2⟩ := hr
    unfold toDs at h
    cases hx : toD C s a with
    | none => simp [hx] at h
    | some x =>
      cases hxs : toDs C s as with
      | none => simp [hx, hxs] at h
      | some xs =>
        simp only [hx, hxs, Option.some.injEq] at h
        subst h
        obtain ⟨i1, i2⟩ := toDs_rel hxs h2 (fun p hp => hms p (by
          cases a <;> simp only [msOf] <;> first | exact hp | skip
          split
          · exact List.mem_cons_of_mem _ hp
          · exact hp))
        refine ⟨by simp [i1], fun j y v hj hv => ?_⟩
        cases j with
        | succ j => exact i2 j y v (by simpa using hj) (by simpa using hv)
        | zero =>
          simp only [List.getElem?_cons_zero, Option.some.injEq] at hj hv
          subst hj; subst hv
          unfold toD at hx
          split at hx
          · cases hx; exact h1
          · cases hx
            simp only [AVr] at h1
            subst h1
            exact .nil _
          · rename_i l
            split at hx
            · rename_i e sz rows hl
              cases hx
              rw [h1.1]
              exact tipRd (hms (l, .tip e sz rows) (by simp [msOf, hl]))
            · cases hx
          · cases hx

theorem toDs_fit {C : Cfg} {s : ASt} {a : AV} {ds : List D} (h : toDs C s (avCells a) = some ds) : a.fit = true := by
  cases a <;> first | rfl | (simp [avCells, toDs, toD] at h)

theorem get_setRow {w : World} {g : Nat} {cur cs : Array Value} {e : Nat} (h : w.heap[g]? = some (.cells cur e (0, 0))) : (w.setRow g cs).heap[g]? = some (.cells cs e (0, 0)) := setRow_heap w g cur cs e (0, 0) h

section
variable {X : Ctx} {o : Oper} {s : ASt} {K : LA → Prop}

/-- An operation that writes. -/
theorem LAok.skip {la : LA} (hd : la.dst = o.dst)
    (h : ∀ s E a w, (∀ d, o.dst = some d → d < X.n) → Sat la s → RelE X E s a w → ∃ w' E', (execOp a.eval o).run X.P w = .ok .skip w' ∧ RelE X E' (la.app s) (a.put o.dst undef) w') : LAok X o la := by
  refine ⟨hd, ?_⟩
  rintro s a w hdn hs ⟨E, hE⟩
  obtain ⟨w', E', hr, hr'⟩ := h s E a w hdn hs hE
  unfold Oper.wp
  rw [hr]
  exact ⟨E', hr'⟩

theorem vc_store (hX : X.Ok) {t : Nat} {x y : Operand} (ho : o.op = .store t x y) (h : vcOp X X.C o s K) : ∃ la, LAok X o la ∧ Sat la s ∧ K la := by
  simp only [vcOp, ho] at h
  have hsz : ∀ {n : Nat} (w : World), n = X.C.sz t → 0 < n → (sizeOf t).run X.P w = .ok n w := by
    intro n w h1 h2
    unfold Cfg.sz at h1
    split at h1
    · rename_i ti hT
      obtain ⟨⟨i, z, e1, e2, _⟩, _⟩ := hX.C.T _ _ hT
      simp [sizeOf, typeInfo, e1, e2, h1]
    · omega
  split at h
  · rename_i l q hx
    split at h
    · rename_i cells hl
      obtain ⟨⟨h1, h2, h3, hpos⟩, hK⟩ := h
      refine ⟨_, LAok.skip rfl fun s' E a w hdn hs hE => ?_, ⟨sat_rs s _, by simp [hl]⟩, hK⟩
      have hl' := hs.2 (l, .box cells) (by simp)
      obtain ⟨b, vs, e, g1, g2, g3, g4, g5⟩ := hE.good.obj l _ hl'
      have ex := hE.evs hs.1 X.C 0 (x := x) (by simp)
      have ey := hE.evs hs.1 X.C t (x := y) (by simp)
      rw [hx] at ex
      obtain ⟨b', hb', ex⟩ := ex
      rw [g1] at hb'; cases hb'
      have hfit : (aev X.C t s y).fit = true := by
        cases hq : aev X.C t s y <;> simp only [hq, avCells, allOne, Bool.and_true] at h1 <;> first | rfl | exact h1
      have hc := ey.cells hfit
      have hlen := hc.length
      have hvl := g4.length
      have hone := allOne_vals h1 hc
      have hst := run_storeCells_at X.P b q e (a.eval y).cells.toList 0 vs.toArray w g2 (by simp at hlen ⊢; omega) hone
      simp only [Nat.add_zero] at hst
      have hrun : (execOp a.eval o).run X.P w = .ok .skip (w.setRow b (vs.take q ++ (a.eval y).cells.toList ++ vs.drop (q + (a.eval y).cells.toList.length)).toArray) := by
        have hs' := hsz w (n := (a.eval y).cells.size) (by simp at hlen; omega) (by simp at hlen; omega)
        have : (storeVar t ⟨b, q, none⟩ (a.eval y)).run X.P w = .ok () (w.setRow b (vs.take q ++ (a.eval y).cells.toList ++ vs.drop (q + (a.eval y).cells.toList.length)).toArray) := by
          unfold storeVar
          rw [Sem.run_bind, hs']
          simp only [Result.andThen_ok, ne_eq, not_true, if_false, Sem.run_bind, Sem.run_pure]
          simpa using hst
        simp [execOp, ho, ex, Instr.storeAt, Instr.sureAddr, this]
      refine ⟨_, E, hrun, hE.write hl' rfl g1 g3 (size_setRow _ _ _) (fun k hk => setRow_other w b k _ hk) rfl rfl rfl ?_ trivial hdn⟩
      have hmono : ∀ {as : List AV} {us : List Value}, AVrs w E as us → AVrs (w.setRow b (vs.take q ++ (a.eval y).cells.toList ++ vs.drop (q + (a.eval y).cells.toList.length)).toArray) E as us := by
        intro as us hr
        refine AVrs.mono (live := fun _ => True) ⟨fun k => ⟨Nat.le_refl _, fun o ho => ?_⟩, fun _ _ => rfl, fun _ _ => rfl⟩ (fun _ _ => trivial) hr
        by_cases hkb : k = b
        · subst hkb; omega
        · exact cell?_of_heap (setRow_other w b k _ hkb) o
      refine ⟨b, vs.take q ++ (a.eval y).cells.toList ++ vs.drop (q + (a.eval y).cells.toList.length), e, g1, get_setRow g2, g3, ?_, ?_⟩
      · unfold over
        rw [← hlen]
        exact ((hmono g4).take q |>.append (hmono hc)).append ((hmono g4).drop _)
      · intro v hv
        simp only [List.mem_append] at hv
        rcases hv with (hv | hv) | hv
        · exact g5 v (List.mem_of_mem_take hv)
        · exact hone v hv
        · exact g5 v (List.mem_of_mem_drop hv)
    · exact h.elim
  · rename_i l sz i q hx
    split at h
    · rename_i e sz' rows ds hl hds
      obtain ⟨⟨rfl, h1, h2, h3, hpos⟩, hK⟩ := h
      refine ⟨_, LAok.skip rfl fun s' E a w hdn hs hE => ?_, ⟨sat_rs s _, ?_⟩, hK⟩
      · have hl' := hs.2 (l, .own e sz rows) (by simp)
        have ex := hE.evs hs.1 X.C 0 (x := x) (by simp)
        have ey := hE.evs hs.1 X.C t (x := y) (by simp)
        rw [hx] at ex
        obtain ⟨b', hb', ex⟩ := ex
        obtain ⟨k1, k2, ⟨g1, g2, g3⟩ | ⟨b, cur, cap, g1, g2, g3, g4, g5, g6, g7, g8⟩⟩ := hE.good.obj l _ hl'
        · subst g2; simp at h1
        · have hbb : b = b' := Option.some.inj (g1.symm.trans hb')
          subst hbb
          have hc := ey.cells (toDs_fit hds)
          obtain ⟨c1, c2⟩ := toDs_rel hds hc (fun p hp => hE.good.obj _ _ (hs.2 p (by simp [hp])))
          have hone : ∀ v ∈ (a.eval y).cells.toList, v.oneCell' = true := by
            intro v hv
            obtain ⟨j, hj, hjv⟩ := List.mem_iff_getElem.1 hv
            have hjd : j < ds.length := by omega
            exact (c2 j ds[j] v (List.getElem?_eq_getElem hjd) (by rw [← hjv]; exact List.getElem?_eq_getElem hj)).one
          have hin : (i + 1) * sz ≤ rows.length * sz := Nat.mul_le_mul_right _ (by omega)
          rw [Nat.add_mul] at hin
          have hcap : rows.length * sz ≤ cap * sz := Nat.mul_le_mul_right _ g4
          have hst := run_storeCells_at X.P b (i * sz + q) e (a.eval y).cells.toList 0 cur w g2 (by omega) hone
          simp only [Nat.add_zero] at hst
          generalize hnew : (cur.toList.take (i * sz + q) ++ (a.eval y).cells.toList ++ cur.toList.drop (i * sz + q + (a.eval y).cells.toList.length)) = new at hst
          have hrun : (execOp a.eval o).run X.P w = .ok .skip (w.setRow b new.toArray) := by
            have hs' := hsz w (n := (a.eval y).cells.size) (by simp at c1; omega) (by simp at c1; omega)
            have : (storeVar t ⟨b, i * sz + q, none⟩ (a.eval y)).run X.P w = .ok () (w.setRow b new.toArray) := by
              unfold storeVar
              rw [Sem.run_bind, hs']
              simp only [Result.andThen_ok, ne_eq, not_true, if_false, Sem.run_bind, Sem.run_pure]
              exact hst
            simp [execOp, ho, ex, Instr.storeAt, Instr.sureAddr, this]
          have hstab : Stable w E.z (w.setRow b new.toArray) E.z := fun k => ⟨Nat.le_refl _, fun o ho => by
            by_cases hkb : k = b
            · subst hkb; omega
            · exact cell?_of_heap (setRow_other w b k _ hkb) o⟩
          refine ⟨_, E, hrun, hE.write hl' rfl g1 g7 (size_setRow _ _ _) (fun k hk => setRow_other w b k _ hk) rfl rfl rfl ?_ trivial hdn⟩
          have hri : rows[i]? = some rows[i] := List.getElem?_eq_getElem h1
          have hrow : rows.getD i (X.C.zrow e) = rows[i] := by rw [List.getD_eq_getElem?_getD, hri]; rfl
          have hrl : rows[i].length = sz := k1 _ (List.getElem_mem h1)
          have hlen : new.length = cur.size := by
            rw [← hnew]; simp only [List.length_append, List.length_take, List.length_drop, Array.length_toList] at c1 ⊢
            omega
          rw [hrow]
          refine ⟨fun r hr => ?_, k2, .inr ⟨b, new.toArray, cap, g1, get_setRow g2, by rw [List.length_set]; exact g3, by rw [List.length_set]; exact g4, by simp [hlen, g5], g6, g7, fun i' j r x hi' hj => ?_⟩⟩
          · rcases List.mem_or_eq_of_mem_set hr with hr | rfl
            · exact k1 r hr
            · simp only [overD, List.length_append, List.length_take, List.length_drop]; omega
          · have hjl : j < sz := by
              have hr : r.length = sz := by
                have hm := List.mem_of_getElem? hi'
                rcases List.mem_or_eq_of_mem_set hm with hm | rfl
                · exact k1 r hm
                · simp only [overD, List.length_append, List.length_take, List.length_drop]; omega
              have := (List.getElem?_eq_some_iff.1 hj).1
              omega
            -- a cell that stays
            have stay : ∀ (i' : Nat) (r : List D), rows[i']? = some r → r[j]? = some x → (i' ≠ i ∨ j < q ∨ q + ds.length ≤ j) → ∃ v, new.toArray[i' * sz + j]? = some v ∧ Rd (w.setRow b new.toArray) E.z v x := by
              intro i' r hr hj hne
              obtain ⟨v, hv, hx⟩ := g8 i' j r x hr hj
              refine ⟨v, ?_, hx.mono hstab⟩
              have hout : i' * sz + j < i * sz + q ∨ i * sz + q + ds.length ≤ i' * sz + j := by
                rcases Nat.lt_trichotomy i' i with hlt | heq | hgt
                · left
                  have : (i' + 1) * sz ≤ i * sz := Nat.mul_le_mul_right _ hlt
                  rw [Nat.add_mul] at this; omega
                · subst heq
                  rcases hne with hne | hne | hne
                  · omega
                  · left; omega
                  · right; omega
                · right
                  have : (i + 1) * sz ≤ i' * sz := Nat.mul_le_mul_right _ hgt
                  rw [Nat.add_mul] at this; omega
              rw [List.getElem?_toArray, ← hnew]
              rcases hout with hout | hout
              · rw [List.append_assoc, List.getElem?_append_left (by simp; omega), List.getElem?_take, if_pos hout, Array.getElem?_toList]
                exact hv
              · rw [List.getElem?_append_right (by simp only [List.length_append, List.length_take, Array.length_toList] at c1 ⊢; omega), List.getElem?_drop, Array.getElem?_toList, ← hv]
                congr 1
                simp only [List.length_append, List.length_take, Array.length_toList] at c1 ⊢
                omega
            by_cases hii : i' = i
            · subst hii
              rw [List.getElem?_set_self (by omega)] at hi'
              cases hi'
              simp only [overD] at hj
              rcases Nat.lt_or_ge j q with hjq | hjq
              · rw [List.append_assoc, List.getElem?_append_left (by simp; omega), List.getElem?_take, if_pos hjq] at hj
                exact stay i' _ hri hj (.inr (.inl hjq))
              · rcases Nat.lt_or_ge j (q + ds.length) with hjd | hjd
                · rw [List.append_assoc, List.getElem?_append_right (by simp; omega), List.getElem?_append_left (by simp; omega)] at hj
                  have hq' : (rows[i'].take q).length = q := by simp; omega
                  rw [hq'] at hj
                  have hju : j - q < (a.eval y).cells.toList.length := by omega
                  refine ⟨(a.eval y).cells.toList[j - q], ?_, (c2 (j - q) x _ hj (List.getElem?_eq_getElem hju)).mono hstab⟩
                  rw [List.getElem?_toArray, ← hnew, List.append_assoc, List.getElem?_append_right (by simp; omega), List.getElem?_append_left (by simp only [List.length_take, Array.length_toList] at hju c1 hlen ⊢; omega)]
                  rw [← List.getElem?_eq_getElem]
                  congr 1
                  simp only [List.length_take, Array.length_toList]; omega
                · rw [List.getElem?_append_right (by simp only [List.length_append, List.length_take]; omega), List.getElem?_drop] at hj
                  have : q + ds.length + (j - (rows[i'].take q ++ ds).length) = j := by simp only [List.length_append, List.length_take]; omega
                  rw [this] at hj
                  exact stay i' _ hri hj (.inr (.inr hjd))
            · rw [List.getElem?_set_ne (by omega)] at hi'
              exact stay i' r hi' hj (.inl hii)
      · intro p hp
        rcases List.mem_cons.1 hp with rfl | hp
        · exact hl
        · exact msOf_look s _ p hp
    · exact h.elim
  · exact h.elim

end
end Go.Ab
