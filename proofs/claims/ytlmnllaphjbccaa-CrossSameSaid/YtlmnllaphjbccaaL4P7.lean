/- A part of the proof. -/
import Derived.KernelRfl
import Derived.Test.YtlmnllaphjbccaaL4P6
set_option linter.unusedSimpArgs false
set_option linter.unusedVariables false
section
namespace Go.Ab

theorem TIok.mk' {P : Program} {t sz by' : Nat} {k : TK} {zc : List AV} (h : (P.info? t).map (fun i => (i.size, i.bytes, i.zero.map fun z => z.cells.toList)) = some (sz, by', some (zc.map AV.cv)))
    (ho : (zc.all fun a => a.cv.oneCell') = true) (hl : zc.length = sz)
    (hk : match k with
      | .sc => ∃ d, P.underlying t = some d ∧ (match d with | .struct _ | .array _ _ => False | _ => True)
      | .bool => P.underlying t = some .bool
      | .int k => P.underlying t = some (.int k)
      | .sl e => P.underlying t = some (.slice e)
      | .pt e => P.underlying t = some (.pointer e)
      | .st fs => ∃ fields : Array Field, P.underlying t = some (.struct fields) ∧ fields.toList.map (fun f => (f.offset, f.type)) = fs
      | .ar n e => P.underlying t = some (.array n e)
      | .mp k e => P.underlying t = some (.map k e) ∧ (∃ fs, P.underlying k = some (.struct fs)) ∧ ∀ w, (zeroValue e).run P w = .ok (.int .i64 0) w) : TIok P t ⟨k, sz, by', zc⟩ := by
  refine ⟨?_, ?_⟩
  · cases hi : P.info? t with
    | none => simp [hi] at h
    | some i =>
      cases hz : i.zero with
      | none => simp [hi, hz] at h
      | some z =>
        simp [hi, hz] at h
        obtain ⟨h1, h2, h3⟩ := h
        exact ⟨i, z, rfl, h1, h2, hz, h3, fun a ha => by rw [List.all_eq_true] at ho; exact ho a ha, hl⟩
  · cases k <;> exact hk

theorem run_checkKey_int {P : Program} (w : World) {t : Nat} (hu : P.underlying t = some (.int .i64)) (em : Bool) (a : Int) : (Instr.checkKey em 9999 t (.int .i64 a)).run P w = .ok () w := by
  unfold Instr.checkKey
  simp [run_underlying hu]

theorem EqOk.two {P : Program} {t : Nat} {f g : Field} (hg : P.eqGuardType P.depth t = false) (hs : P.stoodInHeld t = false) (hu : P.underlying t = some (.struct #[f, g]))
    (hf : f.name ≠ "_") (hf0 : f.offset = 0) (hft : P.underlying f.type = some (.int .i64)) (hgn : g.name ≠ "_") (hg0 : g.offset = 1) (hgt : P.underlying g.type = some (.int .i64)) : EqOk P t 2 := by
  refine ⟨hg, fun w xs ys hx hy => ?_⟩
  obtain ⟨a, b, rfl⟩ : ∃ a b, xs = [a, b] := by match xs, hx with | [a, b], _ => exact ⟨a, b, rfl⟩
  obtain ⟨c, d, rfl⟩ : ∃ a b, ys = [a, b] := by match ys, hy with | [a, b], _ => exact ⟨a, b, rfl⟩
  have hfs : P.fieldsOf t = #[f, g] := by simp [Program.fieldsOf, hu]
  have he := run_equalIn_struct (P := P) w 9999 t #[.int .i64 a, .int .i64 b] #[.int .i64 c, .int .i64 d] (by rw [hfs]; exact hu) hs
  rw [hfs] at he
  have hpart : ∀ (ty : Nat) (cs : Array Value) (o : Nat) (v : Value), P.underlying ty = some (.int .i64) → cs[o]? = some v → (part ty cs o).run P w = .ok v w := by
    intro ty cs o v h1 h2
    simp [part, isAgg, run_underlying h1, h2]
  refine ⟨he.trans ?_, fun em => ?_⟩
  rotate_left
  · have hu' := hu
    unfold Instr.checkKey
    simp only [Sem.run_bind, run_underlying hu', Result.andThen_ok, List.map_cons, List.map_nil]
    simp [hf, hgn, hf0, hg0, hpart f.type #[.int .i64 a, .int .i64 b] 0 _ hft rfl, hpart g.type #[.int .i64 a, .int .i64 b] 1 _ hgt rfl, run_checkKey_int w hft em, run_checkKey_int w hgt em]
  simp only [Op.eqFields, hf, hgn, ne_eq, not_false_eq_true, if_true, hf0, hg0, Sem.run_bind]
  rw [hpart f.type _ 0 (.int .i64 a) hft rfl, Result.andThen_ok, hpart f.type _ 0 (.int .i64 c) hft rfl, Result.andThen_ok, run_equalIn_int w 9998 f.type .i64 .i64 a c hft, Result.andThen_ok]
  by_cases hac : a = c
  · subst hac
    simp only [beq_self_eq_true, Bool.not_true, Bool.false_eq_true, if_false, Sem.run_bind]
    rw [hpart g.type _ 1 (.int .i64 b) hgt rfl, Result.andThen_ok, hpart g.type _ 1 (.int .i64 d) hgt rfl, Result.andThen_ok, run_equalIn_int w 9998 g.type .i64 .i64 b d hgt, Result.andThen_ok]
    by_cases hbd : b = d
    · subst hbd; simp
    · simp [hbd]
  · simp [hac]

theorem EqOk.three {P : Program} {t : Nat} {f g q : Field} (hg : P.eqGuardType P.depth t = false) (hs : P.stoodInHeld t = false) (hu : P.underlying t = some (.struct #[f, g, q]))
    (hf : f.name ≠ "_") (hf0 : f.offset = 0) (hft : P.underlying f.type = some (.int .i64)) (hgn : g.name ≠ "_") (hg0 : g.offset = 1) (hgt : P.underlying g.type = some (.int .i64))
    (hqn : q.name ≠ "_") (hq0 : q.offset = 2) (hqt : P.underlying q.type = some (.int .i64)) : EqOk P t 3 := by
  refine ⟨hg, fun w xs ys hx hy => ?_⟩
  obtain ⟨a, b, c, rfl⟩ : ∃ a b c, xs = [a, b, c] := by match xs, hx with | [a, b, c], _ => exact ⟨a, b, c, rfl⟩
  obtain ⟨a', b', c', rfl⟩ : ∃ a b c, ys = [a, b, c] := by match ys, hy with | [a, b, c], _ => exact ⟨a, b, c, rfl⟩
  have hfs : P.fieldsOf t = #[f, g, q] := by simp [Program.fieldsOf, hu]
  have he := run_equalIn_struct (P := P) w 9999 t #[.int .i64 a, .int .i64 b, .int .i64 c] #[.int .i64 a', .int .i64 b', .int .i64 c'] (by rw [hfs]; exact hu) hs
  rw [hfs] at he
  have hpart : ∀ (ty : Nat) (cs : Array Value) (o : Nat) (v : Value), P.underlying ty = some (.int .i64) → cs[o]? = some v → (part ty cs o).run P w = .ok v w := by
    intro ty cs o v h1 h2
    simp [part, isAgg, run_underlying h1, h2]
  refine ⟨he.trans ?_, fun em => ?_⟩
  rotate_left
  · have hu' := hu
    unfold Instr.checkKey
    simp only [Sem.run_bind, run_underlying hu', Result.andThen_ok, List.map_cons, List.map_nil]
    simp [hf, hgn, hqn, hf0, hg0, hq0, hpart f.type #[.int .i64 a, .int .i64 b, .int .i64 c] 0 _ hft rfl, hpart g.type #[.int .i64 a, .int .i64 b, .int .i64 c] 1 _ hgt rfl, hpart q.type #[.int .i64 a, .int .i64 b, .int .i64 c] 2 _ hqt rfl, run_checkKey_int w hft em, run_checkKey_int w hgt em, run_checkKey_int w hqt em]
  simp only [Op.eqFields, hf, hgn, hqn, ne_eq, not_false_eq_true, if_true, hf0, hg0, hq0, Sem.run_bind]
  rw [hpart f.type _ 0 (.int .i64 a) hft rfl, Result.andThen_ok, hpart f.type _ 0 (.int .i64 a') hft rfl, Result.andThen_ok, run_equalIn_int w 9998 f.type .i64 .i64 a a' hft, Result.andThen_ok]
  by_cases hac : a = a'
  · subst hac
    simp only [beq_self_eq_true, Bool.not_true, Bool.false_eq_true, if_false, Sem.run_bind]
    rw [hpart g.type _ 1 (.int .i64 b) hgt rfl, Result.andThen_ok, hpart g.type _ 1 (.int .i64 b') hgt rfl, Result.andThen_ok, run_equalIn_int w 9998 g.type .i64 .i64 b b' hgt, Result.andThen_ok]
    by_cases hbd : b = b'
    · subst hbd
      simp only [beq_self_eq_true, Bool.not_true, Bool.false_eq_true, if_false, Sem.run_bind]
      rw [hpart q.type _ 2 (.int .i64 c) hqt rfl, Result.andThen_ok, hpart q.type _ 2 (.int .i64 c') hqt rfl, Result.andThen_ok, run_equalIn_int w 9998 q.type .i64 .i64 c c' hqt, Result.andThen_ok]
      by_cases hcd : c = c'
      · subst hcd; simp
      · simp [hcd]
    · simp [hbd]
  · simp [hac]

section
variable {X : Ctx} {Q : Exit → ASt → Prop} {s : ASt} {C : Cfg}
theorem athen_n {K : ASt → Prop} (h : K s) : athen K Q .normal s := h
theorem awp_r (hX : X.Ok) (hC : X.C = C) {id : Nat} {l : List Oper} {y : Code} (h : ∀ K : ASt → Prop, (∀ s', awp X y Q s' → K s') → vcOps X C l l s K) : awp X (.seq (.region id l.toArray false) y) Q s := by
  subst hC; exact awp_seqr hX h
theorem awp_rd (hX : X.Ok) (hC : X.C = C) (hm : X.P.follows .mixedOrders = true) {id : Nat} {l : List Oper} {y : Code} (h : ∀ K : ASt → Prop, (∀ s', awp X y Q s' → K s') → vcOpsD X C l l s [] (fun s' log => chk l log.reverse = true ∧ K s')) : awp X (.seq (.region id l.toArray true) y) Q s := by
  subst hC; exact awp_draws hX hm h
theorem awp_r0 (hX : X.Ok) (hC : X.C = C) {id : Nat} {l : List Oper} (h : ∀ K : ASt → Prop, (∀ s', Q .normal s' → K s') → vcOps X C l l s K) : awp X (.region id l.toArray false) Q s := by
  subst hC; exact awp_region hX (h _ fun _ h => h)
theorem awp_rd0 (hX : X.Ok) (hC : X.C = C) (hm : X.P.follows .mixedOrders = true) {id : Nat} {l : List Oper} (h : ∀ K : ASt → Prop, (∀ s', Q .normal s' → K s') → vcOpsD X C l l s [] (fun s' log => chk l log.reverse = true ∧ K s')) : awp X (.region id l.toArray true) Q s := by
  subst hC; exact awp_draw hX hm (h _ fun _ h => h)
end

/-- A loop, with what holds at each head. -/
theorem awp_loopP {X : Ctx} {Q : Exit → ASt → Prop} {s : ASt} {x : Code} {ι : Type} (p : ι → Prop) (I : ι → ASt) (μ : ι → Nat) (i0 : ι) (hp : p i0) (h0 : Le s (I i0))
    (h : ∀ i, p i → awp X x (athen (fun s' => ∃ j, p j ∧ Le s' (I j) ∧ μ j < μ i) Q) (I i)) : awp X (.loop x) Q s :=
  awp_loop (ι := {i : ι // p i}) (fun i => I i.1) (fun i => μ i.1) ⟨i0, hp⟩ h0 fun i => awp_mono (h i.1 i.2) fun e s hq => by
    cases e <;> first | exact hq | (obtain ⟨j, h1, h2, h3⟩ := hq; exact ⟨⟨j, h1⟩, h2, h3⟩)

mutual
theorem AV.ren_id : ∀ a : AV, a.ren id = a
  | .und => rfl
  | .nil _ => rfl
  | .d _ => rfl
  | .ref _ => rfl
  | .ptr _ _ => rfl
  | .ep _ _ _ _ => rfl
  | .anyb _ => rfl
  | .mref _ => rfl
  | .agg vs => by simp only [AV.ren, AV.rens_id vs]
  | .tup vs => by simp only [AV.ren, AV.rens_id vs]
  | .fn f us vs => by simp only [AV.ren, AV.rens_id us, AV.rens_id vs]
theorem AV.rens_id : ∀ as : List AV, AV.rens id as = as
  | [] => rfl
  | a :: as => by simp only [AV.rens, AV.ren_id a, AV.rens_id as]
end

theorem acall_simple {X : Ctx} {o : Oper} {s : ASt} {K : LA → Prop} (hX : X.Ok) {C : Cfg} (hC : X.C = C) {P : Program} (hP : X.P = P) {c : Call} {fo : Operand} {f : Nat} {as : List AV} {res : AV}
    (hs : Spec P f (Args as) [] res []) (ho : o.op = .call c) (hc : c.callee = .value fo) (hf : aev C 0 s fo = .fn f [] []) (has : evA C s c.args.toList c.argTypes.toList = as) (hids : res.ids = [])
    (hK : K ⟨rsOf s (fo :: c.args.toList), [], [], [], o.dst, res⟩) : ACall X o (.fn f [] []) as s K := by
  subst hC; subst hP
  obtain ⟨la, h1, h2, h3⟩ := acall (K := K) hX id [] hs ho hc hf has (by simp) (by simp) trivial trivial (fun l l' h => by simp [look] at h) (by simp) (by simp) (by simp) (by simp) (by rw [hids]; simp) (by simp)
    (fun s' E a w _ hE vals hv => by simpa [Args, Env.pre] using hv) (by rw [AV.ren_id]; exact hK)
  exact ⟨la, h1, h2, h3⟩
def leT (t : List (Nat × AV)) : List (Nat × AV) → Prop
  | [] => True
  | (k, v) :: r => get t k = v ∧ leT t r
def leM (m : List (Nat × AObj)) : List (Nat × AObj) → Prop
  | [] => True
  | (k, v) :: r => look m k = some v ∧ leM m r
theorem leT_spec {t : List (Nat × AV)} : ∀ {t' : List (Nat × AV)}, leT t t' → ∀ k, get t' k = .und ∨ get t k = get t' k
  | [], _, k => .inl rfl
  | (i, v) :: r, h, k => by
    simp only [get]
    split
    · rename_i hk; subst hk; exact .inr h.1
    · exact leT_spec h.2 k
theorem leM_spec {m : List (Nat × AObj)} : ∀ {m' : List (Nat × AObj)}, leM m m' → ∀ l o, look m' l = some o → look m l = some o
  | [], _, l, o, h => by simp [look] at h
  | (i, v) :: r, h, l, o, ho => by
    simp only [look] at ho
    split at ho
    · rename_i hk; subst hk; cases ho; exact h.1
    · exact leM_spec h.2 l o ho
theorem Le.of {s s' : ASt} (h1 : leT s.t s'.t) (h2 : leM s.m s'.m) : Le s s' := ⟨leT_spec h1, leM_spec h2⟩

-- what the layer's own words come to
attribute [go_sem] leT leM Fin resAV cvt cvts cvtD D.sc.injEq D.sl.injEq D.pt.injEq Value.bool.injEq Value.int.injEq AV.d.injEq AV.agg.injEq AV.tup.injEq AV.ref.injEq AV.ptr.injEq AV.nil.injEq AObj.box.injEq AObj.tip.injEq AObj.own.injEq Option.some.injEq List.cons.injEq Prod.mk.injEq
attribute [go_sem] vcOp gslot aev cst rsOf LA.app ASt.kill ASt.put putM rml rmk subT kl AV.sub AV.subs AObj.sub get look params vcLoad rowsOf partRows toD toDs allOne AV.isOne AV.fit avCells AV.ids AV.idss msOf over overD fillAV place evParts partOps partAVs allT allF evA evs optHi optLo vcSlice mxOk dlow vcBuiltin vcInt vcEq eqInts isSlT isPtT isBoT Cfg.sz Cfg.by' Cfg.zrow zrowOf LA.gd skipLA athen ablock
attribute [go_sem] Nat.succ_ne_self ne_eq not_false_eq_true not_true_eq_false true_and and_true and_self false_and and_false if_true if_false Nat.zero_ne_one Nat.one_ne_zero Nat.add_zero Nat.zero_add Nat.zero_le Nat.le_refl Nat.lt_irrefl Nat.zero_lt_succ Nat.lt_add_one Bool.not_true Bool.not_false Bool.true_eq_false Bool.false_eq_true Bool.not_not forall_const true_implies false_implies implies_true beq_self_eq_true BEq.rfl Bool.true_and Bool.and_true Bool.false_and Bool.and_false Bool.true_or Bool.false_or Bool.false_bne Bool.true_bne Bool.bne_false Bool.bne_true Bool.true_xor Bool.false_xor Bool.xor_false Bool.xor_true Option.map_some Option.map_none Option.toList_some Option.toList_none List.length_cons List.length_nil List.length_map List.map_cons List.map_nil List.drop_zero List.drop_succ_cons List.drop_nil List.take_zero List.take_succ_cons List.take_nil List.getElem?_cons_zero List.getElem?_cons_succ List.getElem?_nil List.append_nil List.nil_append List.cons_append List.reverse_nil List.reverse_cons List.mem_cons List.not_mem_nil or_false false_or List.getElem?_toArray List.size_toArray not_or
end Go.Ab
end
section
namespace Go.Ab

/-- The orders in which a row may run: what may come next, and what then. -/
inductive OT where
  | nil
  | br (i : Nat) (sub sib : OT)

def OT.heads : OT → List Nat
  | .nil => []
  | .br i _ sib => i :: sib.heads

def OT.ok (ops : Array Oper) : Nat → Bool → Array Bool → OT → Bool
  | _, true, listed, .nil => Region.ready .any ops listed == []
  | _, false, _, .nil => true
  | 0, _, _, .br _ _ _ => false
  | fuel + 1, first, listed, .br i sub sib => (!first || Region.ready .any ops listed == i :: sib.heads) && OT.ok ops fuel true (listed.setIfInBounds i true) sub && OT.ok ops (fuel + 1) false listed sib

def OT.vc (X : Ctx) (C : Cfg) (l : List Oper) (K : ASt → Prop) : OT → Bool → ASt → Prop
  | .nil, first, s => if first = true then K s else True
  | .br i sub sib, _, s => (match l[i]? with
    | some o => o.guard = none ∧ vcOp X C o s fun la => OT.vc X C l K sub true (la.app s)
    | none => False) ∧ OT.vc X C l K sib false s

theorem OT.sib {X : Ctx} {l : List Oper} {K : ASt → Prop} {s : ASt} : ∀ {t : OT} {b : Bool} {fuel : Nat} {listed : Array Bool}, OT.ok l.toArray (fuel + 1) b listed t = true → t.vc X X.C l K b s → ∀ i ∈ t.heads, ∃ o sub, l[i]? = some o ∧ o.guard = none ∧
    OT.ok l.toArray fuel true (listed.setIfInBounds i true) sub = true ∧ vcOp X X.C o s fun la => sub.vc X X.C l K true (la.app s)
  | .nil, _, _, _, _, _, i, hi => by cases hi
  | .br j sub sib, b, fuel, listed, hok, hvc, i, hi => by
    simp only [OT.ok, Bool.and_eq_true] at hok
    simp only [OT.vc] at hvc
    rcases List.mem_cons.1 hi with rfl | hi
    · obtain ⟨h1, _⟩ := hvc
      split at h1
      · rename_i o ho
        exact ⟨o, sub, ho, h1.1, hok.1.2, h1.2⟩
      · exact h1.elim
    · exact OT.sib hok.2 hvc.2 i hi

theorem OT.sound {X : Ctx} (hX : X.Ok) {l : List Oper} {K : ASt → Prop} {Q : Exit → Act → World → Prop} (hd : ∀ o ∈ l, ∀ d, o.dst = some d → d < X.n) (hQ : ∀ s a w, K s → Rel X s a w → Q .normal a w) :
    ∀ (fuel : Nat) (listed : Array Bool) (t : OT) (s : ASt) (a : Act) (w : World), OT.ok l.toArray fuel true listed t = true → t.vc X X.C l K true s → Rel X s a w → wpAny X.P .any l.toArray Q fuel listed a w := by
  intro fuel
  induction fuel with
  | zero =>
    intro listed t s a w hok hvc hr
    cases t with
    | nil =>
      simp only [OT.ok, beq_iff_eq] at hok
      simp only [OT.vc, if_true] at hvc
      exact ⟨hok, hQ s a w hvc hr⟩
    | br i sub sib => simp [OT.ok] at hok
  | succ fuel ih =>
    intro listed t s a w hok hvc hr
    cases t with
    | nil =>
      simp only [OT.ok, beq_iff_eq] at hok
      simp only [OT.vc, if_true] at hvc
      refine ⟨fun _ => hQ s a w hvc hr, fun i hi => ?_⟩
      rw [hok] at hi; cases hi
    | br j sub sib =>
      have hready : Region.ready .any l.toArray listed = j :: sib.heads := by
        simp only [OT.ok, Bool.and_eq_true, Bool.not_true, Bool.false_or, beq_iff_eq] at hok
        exact hok.1.1
      refine ⟨fun h => absurd (hready.symm.trans h) (List.cons_ne_nil _ _), fun i hi => ?_⟩
      rw [hready] at hi
      obtain ⟨o, sub', h1, h2, h3, h4⟩ := OT.sib hok hvc i hi
      obtain ⟨la, g1, g2, g3⟩ := vcOp_sound hX h4
      unfold wpOp
      rw [show l.toArray[i]? = some o from by simpa using h1]
      simp only
      rw [if_pos (by simp [Region.wanted, h2])]
      exact .inl (Oper.wp_out (fun a' w' hr' => ih _ sub' (la.app s) a' w' h3 g3 hr') (g1.2 s a w (hd o (List.mem_of_getElem? h1)) g2 hr))

section
variable {X : Ctx} {Q : Exit → ASt → Prop} {s : ASt} {C : Cfg}
theorem awp_tree (hX : X.Ok) (hC : X.C = C) (hm : X.P.follows .mixedOrders = true) {id : Nat} {l : List Oper} (t : OT) (ht : OT.ok l.toArray l.length true (Array.replicate l.length false) t = true)
    (h : t.vc X C l (Q .normal) true s) : awp X (.region id l.toArray true) Q s := by
  subst hC
  refine ⟨fun hc a w hr => ?_⟩
  refine wp_region_any hm ?_
  obtain ⟨E, hE⟩ := hr
  rw [show l.toArray.size = l.length from by simp]
  exact OT.sound hX (dok_spec (by simpa [cok] using hc)) (Q := lift X Q) (fun s a w h1 h2 => ⟨s, h1, h2⟩) _ _ t s a _ ht h ⟨E, hE.drawn⟩
theorem awp_trees (hX : X.Ok) (hC : X.C = C) (hm : X.P.follows .mixedOrders = true) {id : Nat} {l : List Oper} {y : Code} (t : OT) (ht : OT.ok l.toArray l.length true (Array.replicate l.length false) t = true)
    (h : t.vc X C l (fun s' => awp X y Q s') true s) : awp X (.seq (.region id l.toArray true) y) Q s :=
  awp_seq (awp_tree hX hC hm t ht h)
end

/-- A call of a function that leaves memory alone; its arguments taken for what the contract wants. -/
theorem acall_cvt {X : Ctx} {o : Oper} {s : ASt} {K : LA → Prop} (hX : X.Ok) {C : Cfg} (hC : X.C = C) {P : Program} (hP : X.P = P) {c : Call} {fo : Operand} {f : Nat} {first caps as as' : List AV} {res : AV} (mm : List (Nat × AObj))
    (hs : Spec P f (Args as') [] res []) (ho : o.op = .call c) (hc : c.callee = .value fo) (hf : aev C 0 s fo = .fn f first caps) (has : evA C s c.args.toList c.argTypes.toList = as)
    (hmm : ∀ p ∈ mm, look s.m p.1 = some p.2) (hcv : cvts ⟨[], mm⟩ (first ++ as ++ caps) as') (hids : res.ids = [])
    (hK : K ⟨rsOf s (fo :: c.args.toList), mm, [], [], o.dst, res⟩) : ACall X o (.fn f first caps) as s K := by
  subst hC; subst hP
  obtain ⟨la, h1, h2, h3⟩ := acall (K := K) hX id mm hs ho hc hf has hmm (by simp) trivial trivial (fun l l' h => by simp [look] at h) (by simp) (by simp) (by simp) (by simp) (by rw [hids]; simp) (by simp)
    (fun s' E a w hl hE vals hv => by
      have : AVrs w E as' vals := cvts_rel (s := ⟨[], mm⟩) (fun l q hq => hE.good.obj l q (hl _ (look_mem hq))) hcv hv
      simpa [Args, Env.pre] using this) (by rw [AV.ren_id]; exact hK)
  exact ⟨la, h1, h2, h3⟩
def lookAll (s : ASt) : List Nat → List (Nat × AObj)
  | [] => []
  | l :: r => match look s.m l with | some o => (l, o) :: lookAll s r | none => lookAll s r
theorem lookAll_look (s : ASt) : ∀ (ls : List Nat), ∀ p ∈ lookAll s ls, look s.m p.1 = some p.2
  | [], p, h => by cases h
  | l :: r, p, h => by
    unfold lookAll at h
    split at h
    · rename_i o ho
      rcases List.mem_cons.1 h with rfl | h
      · exact ho
      · exact lookAll_look s r p h
    · exact lookAll_look s r p h
theorem acall_look {X : Ctx} {o : Oper} {s : ASt} {K : LA → Prop} (hX : X.Ok) {C : Cfg} (hC : X.C = C) {P : Program} (hP : X.P = P) {c : Call} {fo : Operand} {f : Nat} {first caps as as' : List AV} {res : AV}
    (hs : Spec P f (Args as') [] res []) (ho : o.op = .call c) (hc : c.callee = .value fo) (hf : aev C 0 s fo = .fn f first caps) (has : evA C s c.args.toList c.argTypes.toList = as)
    (hcv : cvts ⟨[], lookAll s (AV.idss (first ++ as ++ caps))⟩ (first ++ as ++ caps) as') (hids : res.ids = [])
    (hK : K ⟨rsOf s (fo :: c.args.toList), lookAll s (AV.idss (first ++ as ++ caps)), [], [], o.dst, res⟩) : ACall X o (.fn f first caps) as s K :=
  acall_cvt hX hC hP _ hs ho hc hf has (lookAll_look s _) hcv hids hK
attribute [go_sem] lookAll
-- one operation at a time
section
variable {X : Ctx} {C : Cfg} {l rest : List Oper} {o : Oper} {s : ASt} {K : ASt → Prop} {KD : ASt → List Rec → Prop} {log : List Rec}
theorem vcOps_n (hg : o.guard = none) (h : ∀ K' : LA → Prop, (∀ la, vcOps X C l rest (la.app s) K → K' la) → vcOp X C o s K') : vcOps X C l (o :: rest) s K := by
  unfold vcOps; rw [hg]; exact h _ fun _ h => h
theorem vcOps_s {j g : Nat} {want b : Bool} (hg : o.guard = some (j, want)) (hs : gslot l j = some g) (hb : get s.t g = .d (.sc (.bool b)))
    (h1 : b = want → ∀ K' : LA → Prop, (∀ la, vcOps X C l rest (la.app (s.put (some g) (.d (.sc (.bool want))))) K → K' la) → vcOp X C o (s.put (some g) (.d (.sc (.bool want)))) K')
    (h2 : b = (!want) → vcOps X C l rest ((s.put (some g) (.d (.sc (.bool (!want))))).put o.dst .und) K) : vcOps X C l (o :: rest) s K := by
  unfold vcOps; simp only [hg, hs, hb]; exact ⟨fun hw => h1 hw _ fun _ h => h, h2⟩
theorem vcOps_nil (h : K s) : vcOps X C l [] s K := h
theorem vcOpsD_n (hg : o.guard = none) (h : ∀ K' : LA → Prop, (∀ la, vcOpsD X C l rest (la.app s) (mkRec la s :: log) KD → K' la) → vcOp X C o s K') : vcOpsD X C l (o :: rest) s log KD := by
  unfold vcOpsD; rw [hg]; exact h _ fun _ h => h
theorem vcOpsD_s {j g : Nat} {want b : Bool} (hg : o.guard = some (j, want)) (hs : gslot l j = some g) (hb : get s.t g = .d (.sc (.bool b)))
    (h1 : b = want → ∀ K' : LA → Prop, (∀ la, vcOpsD X C l rest (la.app (s.put (some g) (.d (.sc (.bool want))))) (mkRec (la.gd g want) (s.put (some g) (.d (.sc (.bool want)))) :: log) KD → K' la) → vcOp X C o (s.put (some g) (.d (.sc (.bool want)))) K')
    (h2 : b = (!want) → vcOpsD X C l rest ((s.put (some g) (.d (.sc (.bool (!want))))).put o.dst .und) (mkRec (skipLA g (!want) o.dst) (s.put (some g) (.d (.sc (.bool (!want))))) :: log) KD) : vcOpsD X C l (o :: rest) s log KD := by
  unfold vcOpsD; simp only [hg, hs, hb]; exact ⟨fun hw => h1 hw _ fun _ h => h, h2⟩
theorem vcOpsD_nil {Q : ASt → Prop} (h1 : chk l log.reverse = true) (h2 : Q s) : vcOpsD X C l [] s log (fun s' log => chk l log.reverse = true ∧ Q s') := ⟨h1, h2⟩
theorem otvc_br {i : Nat} {sub sib : OT} {b : Bool} (hi : l[i]? = some o) (hg : o.guard = none) (h : ∀ K' : LA → Prop, (∀ la, OT.vc X C l K sub true (la.app s) → K' la) → vcOp X C o s K') (h2 : OT.vc X C l K sib false s) : OT.vc X C l K (.br i sub sib) b s := by
  unfold OT.vc; rw [hi]; exact ⟨⟨hg, h _ fun _ h => h⟩, h2⟩
theorem otvc_done (h : K s) : OT.vc X C l K .nil true s := by unfold OT.vc; exact h
theorem otvc_end : OT.vc X C l K .nil false s := by unfold OT.vc; exact trivial
end
section
variable {X : Ctx} {Q : Exit → ASt → Prop} {s : ASt} {C : Cfg}
theorem ablock_nn {id : Nat} (h : Q .normal s) : ablock id Q .normal s := h
theorem awp_R (hX : X.Ok) (hC : X.C = C) {id : Nat} {l : List Oper} {y : Code} (h : vcOps X C l l s fun s' => awp X y Q s') : awp X (.seq (.region id l.toArray false) y) Q s := by
  subst hC; exact awp_seq (awp_region hX h)
theorem awp_RD (hX : X.Ok) (hC : X.C = C) (hm : X.P.follows .mixedOrders = true) {id : Nat} {l : List Oper} {y : Code} (h : vcOpsD X C l l s [] (fun s' log => chk l log.reverse = true ∧ awp X y Q s')) : awp X (.seq (.region id l.toArray true) y) Q s := by
  subst hC; exact awp_seq (awp_draw hX hm h)
theorem awp_R0 (hX : X.Ok) (hC : X.C = C) {id : Nat} {l : List Oper} (h : vcOps X C l l s fun s' => Q .normal s') : awp X (.region id l.toArray false) Q s := by
  subst hC; exact awp_region hX h
theorem awp_RD0 (hX : X.Ok) (hC : X.C = C) (hm : X.P.follows .mixedOrders = true) {id : Nat} {l : List Oper} (h : vcOpsD X C l l s [] (fun s' log => chk l log.reverse = true ∧ Q .normal s')) : awp X (.region id l.toArray true) Q s := by
  subst hC; exact awp_draw hX hm h
end
attribute [go_sem] mpOk intsOf InR decide_eq_true_eq decide_eq_false_iff_not Bool.not_eq_true' Bool.not_eq_false' decide_true decide_false
end Go.Ab
end
