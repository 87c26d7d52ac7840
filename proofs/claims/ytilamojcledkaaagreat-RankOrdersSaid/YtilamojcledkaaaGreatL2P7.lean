/- Rows of operations whose order is open: the rule. -/
import Derived.Orders
import Derived.Test.YtilamojcledkaaaGreatL2P6
set_option linter.unusedSimpArgs false
set_option linter.unusedVariables false
namespace Go.Ab
def hitsT (k : List Nat) (t0 : List (Nat × AV)) : List (Nat × AV) → List (Nat × AV)
 | [] => []
 | (i, _) :: r => if meets k (get t0 i).ids then (i, get t0 i) :: hitsT k t0 r else hitsT k t0 r
def hitsM (k : List Nat) (m0 : List (Nat × AObj)) : List (Nat × AObj) → List (Nat × AObj)
 | [] => []
 | (i, _) :: r => match look m0 i with
  | some o => if meets k o.ids then (i, o) :: hitsM k m0 r else hitsM k m0 r
  | none => hitsM k m0 r
def mkRec (la : LA) (s : ASt) : Rec := ⟨la, hitsT (la.kill.map (·.1)) s.t s.t, hitsM (la.kill.map (·.1)) s.m s.m⟩
theorem hitsT_mem {k : List Nat} {t0 : List (Nat × AV)} : ∀ {t : List (Nat × AV)} {p : Nat × AV}, p ∈ hitsT k t0 t → p.2 = get t0 p.1
 | [], p, h => by cases h
 | (i, _) :: r, p, h => by
  simp only [hitsT] at h
  split at h
  ·rcases List.mem_cons.1 h with rfl | h
   ·rfl
   ·exact hitsT_mem h
  ·exact hitsT_mem h
theorem mem_hitsT {k : List Nat} {t0 : List (Nat × AV)} {i x : Nat} (hx : x ∈ (get t0 i).ids) (hk : x ∈ k) : ∀ {t : List (Nat × AV)}, get t i ≠ .und → (i, get t0 i) ∈ hitsT k t0 t
 | [], h => absurd rfl h
 | (j, a) :: r, h => by
  simp only [get] at h
  simp only [hitsT]
  by_cases hji : j = i
  ·subst hji
   rw [if_pos (meets_spec hk hx)]; exact List.mem_cons_self
  ·simp only [hji, if_false] at h
   have ih := mem_hitsT (t0 := t0) hx hk h
   split
   ·exact List.mem_cons_of_mem _ ih
   ·exact ih
theorem hitsM_mem {k : List Nat} {m0 : List (Nat × AObj)} : ∀ {m : List (Nat × AObj)} {p : Nat × AObj}, p ∈ hitsM k m0 m → look m0 p.1 = some p.2
 | [], p, h => by cases h
 | (i, _) :: r, p, h => by
  simp only [hitsM] at h
  split at h
  ·rename_i o ho
   split at h
   ·rcases List.mem_cons.1 h with rfl | h
    ·exact ho
    ·exact hitsM_mem h
   ·exact hitsM_mem h
  ·exact hitsM_mem h
theorem mem_hitsM {k : List Nat} {m0 : List (Nat × AObj)} {i x : Nat} {o : AObj} (ho : look m0 i = some o) (hx : x ∈ o.ids) (hk : x ∈ k) : ∀ {m : List (Nat × AObj)}, look m i ≠ none → (i, o) ∈ hitsM k m0 m
 | [], h => absurd rfl h
 | (j, a) :: r, h => by
  simp only [look] at h
  simp only [hitsM]
  by_cases hji : j = i
  ·subst hji
   simp only [ho]
   rw [if_pos (meets_spec hk hx)]; exact List.mem_cons_self
  ·simp only [hji, if_false] at h
   have ih := mem_hitsM (m0 := m0) ho hx hk h
   split
   ·split
    ·exact List.mem_cons_of_mem _ ih
    ·exact ih
   ·exact ih
theorem und_ids {t : List (Nat × AV)} {i x : Nat} (h : x ∈ (get t i).ids) : get t i ≠ .und := fun e => by rw [e] at h; simp [AV.ids] at h
theorem mkRec_rs {la : LA} {s : ASt} (hs : Sat la s) : ∀ p ∈ (mkRec la s).rs, kget s p.1 = p.2 := by
 intro p hp
 simp only [Rec.rs, mkRec, List.mem_append, List.mem_map] at hp
 rcases hp with ⟨q, hq, rfl⟩ | ⟨q, hq, rfl⟩
 ·rcases hq with hq | hq
  ·simp only [kget, hs.1 q hq]
  ·simp only [kget, hitsT_mem hq]
 ·rcases hq with hq | hq
  ·simp only [kget, hs.2 q hq]
  ·simp only [kget, hitsM_mem hq]
theorem mkRec_wr {la : LA} {s : ASt} {k : Key} (hk : k ∉ (mkRec la s).wr) : kget (la.app s) k = kget s k ∧ ∀ x ∈ (kget s k).ids, x ∉ (mkRec la s).killed := by
 have h2 : ∀ x ∈ (kget s k).ids, x ∉ (mkRec la s).killed := by
  intro x hx hkx
  apply hk
  simp only [Rec.killed, mkRec] at hkx
  simp only [Rec.wr, List.mem_append, List.mem_map]
  cases k with
  | slot t =>
   exact .inl (.inl (.inl (.inr ⟨(t, get s.t t), mem_hitsT hx hkx (und_ids hx), rfl⟩)))
  | obj l =>
   simp only [kget] at hx
   cases ho : look s.m l with
   | none => rw [ho] at hx; simp [KV.ids] at hx
   | some o =>
    rw [ho] at hx
    exact .inr ⟨(l, o), mem_hitsM ho hx hkx (by simp [ho]), rfl⟩
 refine ⟨?_, h2⟩
 show kget ((mkRec la s).la.app s) k = _
 rw [kget_app hk]
 exact KV.sub_ids h2
def Eqv (s s' : ASt) : Prop := ∀ k, kget s k = kget s' k
theorem Eqv.get {s s' : ASt} (h : Eqv s s') (t : Nat) : get s.t t = get s'.t t := by have := h (.slot t); simpa [kget] using this
theorem Eqv.look {s s' : ASt} (h : Eqv s s') (l : Nat) : look s.m l = look s'.m l := by have := h (.obj l); simpa [kget] using this
theorem Eqv.le {s s' : ASt} (h : Eqv s s') : Le s s' := ⟨fun k => .inr (h.get k), fun l o ho => by rw [h.look]; exact ho⟩
theorem Eqv.app {s s' : ASt} (h : Eqv s s') (la : LA) : Eqv (la.app s) (la.app s') := by
 intro k
 cases k with
 | slot t =>
  simp only [kget]
  congr 1
  unfold LA.app ASt.put
  split
  ·simp only [Ab.get]; split
   ·rfl
   ·rw [get_kill, get_kill, h.get]
  ·simp only [get_kill]; rw [h.get]
 | obj l =>
  simp only [kget]
  congr 1
  have hm : ∀ s : ASt, (la.app s).m = putM la.upd (s.kill la.kill).m := fun s => by unfold LA.app ASt.put; split <;> rfl
  rw [hm, hm, look_putM, look_putM, look_kill, look_kill, h.look]
def LA.gd (la : LA) (g : Nat) (want : Bool) : LA := { la with rs := (g, .d (.sc (.bool want))) :: la.rs }
def skipLA (g : Nat) (b : Bool) (dst : Option Nat) : LA := ⟨[(g, .d (.sc (.bool b)))], [], [], [], dst, .tup []⟩
def skipT (g : Nat) (dst : Option Nat) : LA := ⟨[(g, .tup [])], [], [], [], dst, .tup []⟩
def vcOpsD (X : Ctx) (C : Cfg) (l : List Oper) : List Oper → ASt → List Rec → (ASt → List Rec → Prop) → Prop
 | [], s, log, K => K s log
 | o :: rest, s, log, K => match o.guard with
  | none => vcOp X C o s fun la => vcOpsD X C l rest (la.app s) (mkRec la s :: log) K
  | some (j, want) => match gslot l j with
   | none => False
   | some g => match get s.t g with
    | .d (.sc (.bool b)) =>
     (b = want → vcOp X C o (s.put (some g) (.d (.sc (.bool want)))) fun la => vcOpsD X C l rest (la.app (s.put (some g) (.d (.sc (.bool want))))) (mkRec (la.gd g want) (s.put (some g) (.d (.sc (.bool want)))) :: log) K) ∧
     (b = (!want) → vcOpsD X C l rest ((s.put (some g) (.d (.sc (.bool (!want))))).put o.dst (.tup [])) (mkRec (skipLA g (!want) o.dst) (s.put (some g) (.d (.sc (.bool (!want))))) :: log) K)
    | .tup [] => vcOpsD X C l rest (s.put o.dst (.tup [])) (mkRec (skipT g o.dst) s :: log) K
    | _ => False
def OpOk (X : Ctx) (l : List Oper) (i : Nat) (r : Rec) : Prop := ∀ s a w, (∀ p ∈ r.rs, kget s p.1 = p.2) → Rel X s a w → ∀ (Q : Exit → Act → World → Prop) (K : Act → World → Prop), (∀ a' w', Rel X (r.la.app s) a' w' → K a' w') → wpOp X.P l.toArray Q i K a w
theorem rs_sat {r : Rec} {s : ASt} (h : ∀ p ∈ r.rs, kget s p.1 = p.2) : Sat r.la s := by
 constructor
 ·intro p hp
  have := h (.slot p.1, .av p.2) (by simp only [Rec.rs, List.mem_append, List.mem_map]; exact .inl ⟨p, .inl hp, rfl⟩)
  simpa [kget] using this
 ·intro p hp
  have := h (.obj p.1, .ob (some p.2)) (by simp only [Rec.rs, List.mem_append, List.mem_map]; exact .inr ⟨p, .inl hp, rfl⟩)
  simpa [kget] using this
theorem vcOpsD_sound {X : Ctx} (hX : X.Ok) {l : List Oper} {K : ASt → List Rec → Prop} : ∀ (r : List Oper) (i : Nat) (s s0 : ASt) (log : List Rec), (∀ j, r[j]? = l[i + j]?) → (∀ o ∈ r, ∀ d, o.dst = some d → d < X.n) → Eqv s0 s → vcOpsD X X.C l r s log K →
  ∃ (new : List Rec) (e e' : ASt), new.length = r.length ∧ K e (new.reverse ++ log) ∧ Eqv e' e ∧ Chain new s0 e' ∧ ∀ j q, new[j]? = some q → OpOk X l (i + j) q
 | [], i, s, s0, log, _, _, he, h => ⟨[], s, s0, rfl, h, he, .nil _, fun j q hq => by simp at hq⟩
 | o :: r, i, s, s0, log, hl, hd, he, h => by
  have ho : l[i]? = some o := by have := hl 0; simpa using this.symm
  have hl' : ∀ j, r[j]? = l[i + 1 + j]? := fun j => by have := hl (j + 1); simp only [List.getElem?_cons_succ] at this; rw [this]; congr 1; omega
  have hd' : ∀ o ∈ r, ∀ d, o.dst = some d → d < X.n := fun o ho => hd o (by simp [ho])
  have go : ∀ (la : LA) (s1 s2 : ASt), Eqv s0 s1 → Eqv (la.app s1) s2 → Sat la s1 → OpOk X l i (mkRec la s1) → vcOpsD X X.C l r s2 (mkRec la s1 :: log) K →
    ∃ (new : List Rec) (e e' : ASt), new.length = (o :: r).length ∧ K e (new.reverse ++ log) ∧ Eqv e' e ∧ Chain new s0 e' ∧ ∀ j q, new[j]? = some q → OpOk X l (i + j) q := by
   intro la s1 s2 h1 h2 h3 h4 h5
   obtain ⟨new, e, e', g1, g2, g3, g4, g5⟩ := vcOpsD_sound hX r (i + 1) s2 (la.app s1) (mkRec la s1 :: log) hl' hd' h2 h5
   refine ⟨mkRec la s1 :: new, e, e', by simp [g1], by simpa using g2, g3, .cons (fun p hp => (h1 p.1).trans (mkRec_rs h3 p hp)) (fun k => ?_) (fun k hk => ?_) g4, fun j q hq => ?_⟩
   ·exact ((h1.app la) k).symm
   ·obtain ⟨q1, q2⟩ := mkRec_wr hk
    rw [h1 k]; exact ⟨q1, q2⟩
   ·cases j with
    | zero => simp at hq; subst hq; exact h4
    | succ j => have := g5 j q (by simpa using hq); rw [show i + (j + 1) = i + 1 + j from by omega]; exact this
  unfold vcOpsD at h
  cases hgd : o.guard with
  | none =>
   simp only [hgd] at h
   obtain ⟨la, h1, h2, h3⟩ := vcOp_sound hX h
   refine go la s _ he (fun _ => rfl) h2 (fun s' a w hs hr Q K hK => ?_) h3
   unfold wpOp
   rw [show l.toArray[i]? = some o from by simpa using ho]
   simp only
   rw [if_pos (by simp [Region.wanted, hgd])]
   exact .inl (Oper.wp_out hK (h1.2 s' a w (hd o (by simp)) (rs_sat hs) hr))
  | some p =>
   obtain ⟨j, want⟩ := p
   simp only [hgd] at h
   split at h
   ·exact h.elim
   ·rename_i g hg
    split at h
    ·rename_i b hb
     have hput : ∀ v, b = v → Eqv s0 (s.put (some g) (.d (.sc (.bool v)))) := by
      intro v hv k
      rw [he k]
      cases k with
      | slot t =>
       simp only [kget, ASt.put, get]
       split
       ·rename_i ht; subst ht; rw [hb, hv]
       ·rfl
      | obj t => rfl
     have hwant : ∀ {s' : ASt} {a : Act} {w : World} {v : Bool}, get s'.t g = .d (.sc (.bool v)) → Rel X s' a w → yielded l.toArray a.tmps j = some v := by
      rintro s' a w v hv ⟨E, hE⟩
      exact (yielded_of hE hg hv).1
     by_cases hbw : b = want
     ·obtain ⟨la, h1, h2, h3⟩ := vcOp_sound hX (h.1 hbw)
      have hsat : Sat (la.gd g want) (s.put (some g) (.d (.sc (.bool want)))) := ⟨fun p hp => by
       simp only [LA.gd] at hp
       rcases List.mem_cons.1 hp with rfl | hp
       ·simp [ASt.put, get]
       ·exact h2.1 p hp, h2.2⟩
      refine go (la.gd g want) _ _ (hput want hbw) (fun _ => rfl) hsat (fun s' a w hs hr Q K hK => ?_) h3
      have hs' := rs_sat hs
      have hg' : get s'.t g = .d (.sc (.bool want)) := hs'.1 (g, .d (.sc (.bool want))) (by simp [mkRec, LA.gd])
      unfold wpOp
      rw [show l.toArray[i]? = some o from by simpa using ho]
      simp only
      rw [if_pos (by simp [Region.wanted, hgd, hwant hg' hr])]
      exact .inl (Oper.wp_out hK (h1.2 s' a w (hd o (by simp)) ⟨fun p hp => hs'.1 p (by simp only [mkRec, LA.gd]; exact List.mem_cons_of_mem _ hp), hs'.2⟩ hr))
     ·have hbn : b = !want := by cases b <;> cases want <;> simp_all
      refine go (skipLA g (!want) o.dst) _ _ (hput _ hbn) (fun k => ?_) ⟨fun p hp => by
       simp only [skipLA, List.mem_singleton] at hp
       subst hp; simp [ASt.put, get], fun p hp => by simp [skipLA] at hp⟩ (fun s' a w hs hr Q K hK => ?_) (h.2 hbn)
      ·rfl
      ·have hs' := rs_sat hs
       have hg' : get s'.t g = .d (.sc (.bool (!want))) := hs'.1 (g, .d (.sc (.bool (!want)))) (by simp [mkRec, skipLA])
       unfold wpOp
       rw [show l.toArray[i]? = some o from by simpa using ho]
       simp only
       rw [if_neg (by simp [Region.wanted, hgd, hwant hg' hr])]
       obtain ⟨E, hE⟩ := hr
       exact hK _ _ ⟨E, hE.skp o.dst⟩
    ·rename_i hb
     refine go (skipT g o.dst) s _ he (fun k => rfl) ⟨fun p hp => by
       simp only [skipT, List.mem_singleton] at hp
       subst hp; exact hb, fun p hp => by simp [skipT] at hp⟩ (fun s' a w hs hr Q K hK => ?_) h
     have hs' := rs_sat hs
     have hg' : get s'.t g = .tup [] := hs'.1 (g, .tup []) (by simp [mkRec, skipT])
     obtain ⟨E, hE⟩ := hr
     have hy := yielded_skp hE hg hg'
     unfold wpOp
     rw [show l.toArray[i]? = some o from by simpa using ho]
     simp only
     rw [if_neg (by simp [Region.wanted, hgd, hy])]
     exact hK _ _ ⟨E, hE.skp o.dst⟩
    ·exact h.elim
theorem all_listed {l : List Oper} {listed : Array Bool} (hsz : listed.size = l.length) (hback : ∀ (j : Nat) o, l[j]? = some o → ∀ e ∈ o.after.toList, Region.binds .any e = true → e.on < j)
  (h : Region.ready .any l.toArray listed = []) : ∀ i, i < l.length → listed.getD i false = true := by
 intro i
 induction i using Nat.strongRecOn with
 | _ i ih =>
  intro hi
  cases hq : listed.getD i false with
  | true => rfl
  | false =>
   exfalso
   have hi' : i < listed.size := by omega
   have hmem : i ∈ Region.ready .any l.toArray listed := by
    unfold Region.ready
    rw [List.mem_filter]
    refine ⟨by simpa using hi, ?_⟩
    have h1 : listed.getD i true = false := by
     simp only [Array.getD_eq_getD_getElem?, Array.getElem?_eq_getElem hi'] at hq ⊢
     simpa using hq
    have h2 : l.toArray[i]? = some l[i] := by simp [hi]
    rw [h1, h2]
    simp only [Bool.not_false, Option.map_some, Option.getD_some, Bool.true_and]
    rw [← Array.all_toList, List.all_eq_true]
    intro e he
    cases hb : Region.binds .any e with
    | false => rfl
    | true =>
     have hlt := hback i l[i] (List.getElem?_eq_getElem hi) e he hb
     simp only [Bool.not_true, Bool.false_or]
     exact ih e.on hlt (by omega)
   rw [h] at hmem; cases hmem
theorem any_order {X : Ctx} {l : List Oper} {log : List Rec} {s0 e : ASt} {Q : Exit → Act → World → Prop} (hchk : chk l log = true) (hch : Chain log s0 e) (hop : ∀ j q, log[j]? = some q → OpOk X l j q)
  (hQ : ∀ a w, Rel X e a w → Q .normal a w) {a : Act} {w : World} (hr : Rel X s0 a w) : wpAny X.P .any l.toArray Q l.toArray.size (Array.replicate l.toArray.size false) a w := by
 obtain ⟨st, h0, hend, hst⟩ := hch.states
 obtain ⟨hlen, hcl, hback⟩ := chk_spec hchk
 have main : ∀ (fuel : Nat) (listed : Array Bool) (s : ASt) (a : Act) (w : World), listed.size = l.length → ((List.range l.length).countP fun i => !listed.getD i false) ≤ fuel →
   Inv log st (fun k => k < l.length ∧ listed.getD k false = true) s → (∀ i j o, (j < l.length ∧ listed.getD j false = true) → l[j]? = some o → edge o i = true → (i < l.length ∧ listed.getD i false = true)) → Rel X s a w →
   wpAny X.P .any l.toArray Q fuel listed a w := by
  have fin : ∀ (listed : Array Bool) (s : ASt) (a : Act) (w : World), listed.size = l.length → Region.ready .any l.toArray listed = [] → Inv log st (fun k => k < l.length ∧ listed.getD k false = true) s → Rel X s a w → Q .normal a w := by
   intro listed s a w hsz hnil hinv hr
   have hall := all_listed hsz hback hnil
   refine hQ a w (hr.le (Eqv.le fun k => ?_))
   have := hinv log.length (Nat.le_refl _) (fun h => by omega) k (kget (st log.length) k) (.inr ⟨rfl, rfl⟩) (fun j hj hn => absurd ⟨by omega, hall j (by omega)⟩ hn)
   rw [this, hend]
  intro fuel
  induction fuel with
  | zero =>
   intro listed s a w hsz hcount hinv hD hr
   have hnil : Region.ready .any l.toArray listed = [] := by
    rw [List.eq_nil_iff_forall_not_mem]
    intro i hi
    unfold Region.ready at hi
    rw [List.mem_filter] at hi
    obtain ⟨h1, h2⟩ := hi
    simp only [Bool.and_eq_true] at h2
    have hil : i < l.length := by simpa using h1
    have h3 : listed.getD i false = false := by
     have h2' := h2.1
     simp only [Array.getD_eq_getD_getElem?, Array.getElem?_eq_getElem (show i < listed.size by omega)] at h2' ⊢
     simpa using h2'
    have hpos : 0 < (List.range l.length).countP fun i => !listed.getD i false := by
     rw [List.countP_pos_iff]
     exact ⟨i, by simpa using hil, by rw [h3]; rfl⟩
    omega
   exact ⟨hnil, fin listed s a w hsz hnil hinv hr⟩
  | succ fuel ih =>
   intro listed s a w hsz hcount hinv hD hr
   refine ⟨fun hnil => fin listed s a w hsz hnil hinv hr, fun i hi => ?_⟩
   unfold Region.ready at hi
   rw [List.mem_filter] at hi
   obtain ⟨h1, h2⟩ := hi
   have hil : i < l.length := by simpa using h1
   simp only [Bool.and_eq_true] at h2
   obtain ⟨h2, h3⟩ := h2
   have hnl : listed.getD i false = false := by
    simp only [Array.getD_eq_getD_getElem?, Array.getElem?_eq_getElem (show i < listed.size by omega)] at h2 ⊢
    simpa using h2
   have hoi : l[i]? = some l[i] := List.getElem?_eq_getElem hil
   have hoi' : l.toArray[i]? = some l[i] := by simp [hil]
   rw [hoi'] at h3
   simp only [Option.map_some, Option.getD_some] at h3
   rw [← Array.all_toList, List.all_eq_true] at h3
   have hready : ∀ j, edge l[i] j = true → (j < l.length ∧ listed.getD j false = true) := by
    intro j hj
    unfold edge at hj
    rw [List.any_eq_true] at hj
    obtain ⟨e, he, hb⟩ := hj
    simp only [Bool.and_eq_true, beq_iff_eq] at hb
    obtain ⟨hb, rfl⟩ := hb
    have := h3 e he
    simp only [hb, Bool.not_true, Bool.false_or] at this
    exact ⟨by have := hback i _ hoi e he hb; omega, this⟩
   have hri : log[i]? = some log[i] := List.getElem?_eq_getElem (by omega)
   obtain ⟨hsat, hinv'⟩ := inv_step hchk hst hinv hD hri hoi (fun h => by rw [hnl] at h; exact absurd h.2 (by simp)) hready
   refine hop i _ hri s a w hsat hr Q _ fun a' w' hr' => ?_
   have hset : ∀ k, (listed.setIfInBounds i true).getD k false = true ↔ (listed.getD k false = true ∨ k = i) := by
    intro k
    by_cases hki : i = k
    ·subst hki
     simp [Array.getD_eq_getD_getElem?, show i < listed.size by omega]
    ·simp only [Array.getD_eq_getD_getElem?, Array.getElem?_setIfInBounds_ne hki]
     constructor
     ·exact .inl
     ·rintro (h | h)
      ·exact h
      ·exact absurd h.symm hki
   refine ih _ _ a' w' (by simp [hsz]) ?_ ?_ ?_ hr'
   ·
    have hcnt : ((List.range l.length).countP fun k => !(listed.setIfInBounds i true).getD k false) < ((List.range l.length).countP fun k => !listed.getD k false) := by
     have : ∀ (L : List Nat), i ∈ L → (L.countP fun k => !(listed.setIfInBounds i true).getD k false) < (L.countP fun k => !listed.getD k false) := by
      intro L
      have hle : ∀ (L : List Nat), (L.countP fun k => !(listed.setIfInBounds i true).getD k false) ≤ (L.countP fun k => !listed.getD k false) := by
       intro L
       apply List.countP_mono_left
       intro k _ hk
       cases hq : listed.getD k false with
       | false => rfl
       | true => have := (hset k).2 (.inl hq); rw [this] at hk; simp at hk
      induction L with
      | nil => intro h; cases h
      | cons k L ihL =>
       intro hm
       simp only [List.countP_cons]
       have hle' := hle L
       by_cases hki : k = i
       ·subst hki
        have h4 : (listed.setIfInBounds k true).getD k false = true := (hset k).2 (.inr rfl)
        rw [h4, hnl]
        simp only [Bool.not_true, Bool.not_false, if_true, Bool.false_eq_true, if_false]
        omega
       ·have hm' : i ∈ L := by rcases List.mem_cons.1 hm with h | h; exact absurd h.symm hki; exact h
        have := ihL hm'
        have h5 : (listed.setIfInBounds i true).getD k false = listed.getD k false := by
         cases hq : listed.getD k false with
         | true => exact (hset k).2 (.inl hq)
         | false =>
          cases hq2 : (listed.setIfInBounds i true).getD k false with
          | false => rfl
          | true => rcases (hset k).1 hq2 with h | h; rw [hq] at h; cases h; exact absurd h hki
        rw [h5]; omega
     exact this _ (by simpa using hil)
    omega
   ·intro k hk hnd key v hread hC
    refine hinv' k hk (fun h => hnd ?_) key v hread (fun j hj hnj r hr => hC j hj (fun h => hnj ?_) r hr)
    ·rcases h with h | h
     ·exact ⟨h.1, (hset k).2 (.inl h.2)⟩
     ·exact ⟨by omega, (hset k).2 (.inr h)⟩
    ·rcases (hset j).1 h.2 with h' | h'
     ·exact .inl ⟨h.1, h'⟩
     ·exact .inr h'
   ·intro q j o hj ho he
    rcases (hset j).1 hj.2 with h | h
    ·obtain ⟨g1, g2⟩ := hD q j o ⟨hj.1, h⟩ ho he
     exact ⟨g1, (hset q).2 (.inl g2)⟩
    ·subst h
     rw [hoi] at ho; cases ho
     obtain ⟨g1, g2⟩ := hready q he
     exact ⟨g1, (hset q).2 (.inl g2)⟩
 refine main _ _ s0 a w (by simp) ?_ ?_ ?_ hr
 ·simp only [List.size_toArray]
  exact Nat.le_trans List.countP_le_length (by simp)
 ·intro k hk hnd key v hread hC
  have hnot : ∀ j, ¬ (j < l.length ∧ (Array.replicate l.toArray.size false).getD j false = true) := by
   rintro j ⟨h1, h2⟩
   simp [Array.getD_eq_getD_getElem?, h1] at h2
  have : ∀ d, d ≤ k → kget (st d) key = kget (st 0) key := by
   intro d
   induction d with
   | zero => intro _; rfl
   | succ d ih =>
    intro hd
    rw [← ih (by omega)]
    have hdl : d < log.length := by omega
    exact ((hst d _ (List.getElem?_eq_getElem hdl)).2.2 key (hC d (by omega) (hnot d) _ (List.getElem?_eq_getElem hdl))).1
  rw [← h0, ← this k (Nat.le_refl _)]
  rcases hread with ⟨r, hr, hin⟩ | ⟨_, hv⟩
  ·exact (hst k r hr).1 _ hin
  ·exact hv.symm
 ·rintro i j o ⟨h1, h2⟩
  simp [Array.getD_eq_getD_getElem?, h1] at h2
theorem RelE.drawn {X : Ctx} {E : Env} {s : ASt} {a : Act} {w : World} (h : RelE X E s a w) {n : Nat} : RelE X E s a { w with drawn := n } := by
 have hst : Stable w E.z { w with drawn := n } E.z := fun b => ⟨Nat.le_refl _, fun o _ => rfl⟩
 refine ⟨h.defers, h.size, ⟨h.good.low, h.good.inj, fun l o hl => ?_, h.good.fresh⟩, ⟨h.stp.os, h.stp.tape, h.stp.output, h.stp.size, h.stp.st.trans hst, h.stp.frame, h.stp.pin⟩, h.mine, fun k => ?_⟩
 ·have := Orel.keep (k := []) hst (fun _ _ => ⟨rfl, rfl⟩) (fun l x hl => by simp [kl] at hl) rfl (fun _ _ => rfl) (fun b _ => ⟨rfl, rfl⟩) (h.good.sobj l o hl)
  rwa [AObj.sub_nil] at this
 ·exact AVr.mono (live := fun _ => True) ⟨hst, fun _ _ => rfl, fun _ _ => rfl⟩ (fun _ _ => trivial) (h.slot k)
section
variable {X : Ctx} {Q : Exit → ASt → Prop} {s : ASt}
theorem awp_draw (hX : X.Ok) (hm : X.P.follows .mixedOrders = true) {id : Nat} {l : List Oper} (h : vcOpsD X X.C l l s [] (fun s' log => chk l log.reverse = true ∧ Q .normal s')) : awp X (.region id l.toArray true) Q s := by
 refine ⟨fun hc a w hr => ?_⟩
 obtain ⟨new, e, e', h1, ⟨h2, h3⟩, h4, h5, h6⟩ := vcOpsD_sound hX l 0 s s [] (fun j => by rw [Nat.zero_add]) (dok_spec (by simpa [cok] using hc)) (fun _ => rfl) h
 simp only [List.append_nil, List.reverse_reverse] at h2
 refine wp_region_any hm (any_order (X := X) h2 h5 (fun j q hq => by have := h6 j q hq; rwa [Nat.zero_add] at this) (fun a w hr => ⟨e, h3, hr.le h4.le⟩) ?_)
 obtain ⟨E, hE⟩ := hr
 exact ⟨E, hE.drawn⟩
end
end Go.Ab
