/- Ranges over a function: rounds, walked; the statement itself. -/
import Derived.RangeFuncCalls
import Derived.TacticsIn
import Derived.Test.YtameldglfobjkaaGreatL2P9
set_option linter.unusedSimpArgs false
set_option linter.unusedVariables false
namespace Go.Ab
section
variable {l n:Nat} {P:Program} {a:Act} {w:World}
theorem ET {o:Oper} {K:Act→World→Prop} {Q:Exit→Act→World→Prop} (hd:∀c,o.op≠ .defer c) (h:o.wp P a w K Q):o.wpIn (Fence.wide.inRound l) n P a w K Q:=by
 refine ⟨fun f _=>trivial, ?_⟩
 rw [Oper.semAt_eq _ _ _ hd]
 unfold Oper.wp at h
 generalize (execOp a.eval o).run P w=r at h ⊢
 unfold Oper.upon at h
 unfold Oper.uponIn
 split at h
 ·exact h
 ·exact h
 ·exact h
 ·exact ⟨fun e=>absurd e (by show ¬(Fence.wide.depth.isSome=true);simp [Fence.wide]),CallsIn.inRound l (callsIn_wide.2 h)⟩
 ·refine ⟨fun e=>absurd e (by show ¬(Fence.wide.depth.isSome=true);simp [Fence.wide]),fun c cs _=> ?_⟩
  obtain ⟨v,w',r,s⟩:=h c cs
  exact ⟨v,w',r,(stepsIn_wide (P:=P)).2 s⟩
 ·exact h
 ·exact h.elim
end
structure fO (X:Ctx) (c:Code) (Q:Exit→ASt→Prop) (s:ASt):Prop where
 run:qS X.n c=true→∀l n a w,Rel X s a w→c.wpIn (Fence.wide.inRound l) n X.P (lift X Q) a w
theorem og {X:Ctx} (hX:X.Ok) {f n:Nat} {l:List Oper} {Q:Exit→Act→World→Prop} {K:ASt→Prop} (hK:∀s a w,K s→Rel X s a w→Q .normal a w):
 ∀(r:List Oper) (s:ASt),(∀o∈r,∀d,o.dst=some d→d<X.n)→bT X X.C l r s K→∀a w,Rel X s a w→wpListIn (Fence.wide.inRound f) n X.P l.toArray Q r a w
 | [],s,_,h,a,w,hr=>hK s a w h hr
 |o::r,s,hd,h,a,w,hr=>by
  have ih:=og hX (f:=f) (n:=n) (l:=l) hK r
  have hd':∀o∈r,∀d,o.dst=some d→d<X.n:=fun o ho=>hd o (by simp [ho])
  have run:∀s,Rel X s a w→(vcOp X X.C o s fun la=>bT X X.C l r (la.app s) K)→o.wpIn (Fence.wide.inRound f) n X.P a w (wpListIn (Fence.wide.inRound f) n X.P l.toArray Q r) Q:=by
   intro s hr h
   have bV:∀c,o.op≠ .defer c:=fun c e=>by simp only [vcOp,e] at h
   obtain ⟨la,⟨_,h1⟩,h2,h3⟩:=iE hX h
   exact ET bV (Oper.si (fun a' w' hr'=>ih (la.app s) hd' h3 a' w' hr') (h1 s a w (hd o (by simp)) h2 hr))
  unfold wpListIn
  unfold bT at h
  cases hgd:o.guard with
  |none=>
   simp only [hgd] at h
   rw [if_pos (by simp [Region.wanted,hgd])]
   exact run s hr h
  |some p=>
   obtain ⟨j,want⟩:=p
   simp only [hgd] at h
   split at h
   ·exact h.elim
   ·rename_i g hg
    split at h
    ·rename_i b hb
     obtain ⟨E,hE⟩:=hr
     obtain ⟨hy,hv⟩:=mR hE hg hb
     by_cases hbw:b=want
     ·subst hbw
      rw [if_pos (by simp [Region.wanted,hgd,hy])]
      exact run _ ⟨E,hE.put (by rw [hv];exact bW _ rfl)⟩ (h.1 rfl)
     ·have G6:b= !want:=by cases b<;>cases want<;>simp_all
      rw [if_neg (by simp [Region.wanted,hgd,hy,hbw])]
      exact ⟨fun _ _=>trivial,ih _ hd' (h.2 G6) _ _ ⟨E,(hE.put (by rw [hv,G6];exact bW _ rfl)).Kj o.dst⟩⟩
    ·rename_i hb
     obtain ⟨E,hE⟩:=hr
     have hy:=lg hE hg hb
     rw [if_neg (by simp [Region.wanted,hgd,hy])]
     exact ⟨fun _ _=>trivial,ih _ hd' h _ _ ⟨E,hE.Kj o.dst⟩⟩
    ·exact h.elim
section
variable {X:Ctx} {C:Cfg} {Q:Exit→ASt→Prop} {s:ASt}
theorem qn (hX:X.Ok) {id:Nat} {l:List Oper} (h:bT X X.C l l s (fun s'=>Q .normal s')):fO X (.region id l.toArray false) Q s:=by
 refine ⟨fun hc f n a w hr=> ?_⟩
 refine wpIn_region_list ?_
 exact og hX (K:=fun s'=>Q .normal s') (Q:=lift X Q) (fun s a w hs hr=>⟨s,hs,hr⟩) l s (nP (by simpa [qS] using hc)) h a w hr
theorem Iw {x y:Code} (h:fO X x (athen (fun s'=>fO X y Q s') Q) s):fO X (.seq x y) Q s:=by
 refine ⟨fun hc l n a w hr=> ?_⟩
 simp only [qS,Bool.and_eq_true] at hc
 refine wpIn_seq (wpIn_mono (h.run hc.1 l n a w hr) ?_)
 rintro e a w ⟨s,h1,h2⟩
 cases e<;>first|exact h1.run hc.2 l n a w h2|exact ⟨s,h1,h2⟩
theorem Ll {c:Nat} {x y:Code} {b:Bool} (hc:get s.t c= .d (.sc (.bool b))) (h1:b=true→fO X x Q s) (h2:b=false→fO X y Q s):fO X (.cond (.tmp c) x y) Q s:=by
 refine ⟨fun hk l n a w ⟨E,hE⟩=> ?_⟩
 simp only [qS,Bool.and_eq_true] at hk
 have hv:=hE.slot c
 rw [hc] at hv
 have hv:=cC hv
 cases b with
 |true=>exact wpIn_cond_true (by simpa [Act.eval] using hv) ((h1 rfl).run hk.1 l n a w ⟨E,hE⟩)
 |false=>exact wpIn_cond_false (by simpa [Act.eval] using hv) ((h2 rfl).run hk.2 l n a w ⟨E,hE⟩)
theorem Lm {id:Nat} {x:Code} (h:fO X x (ablock id Q) s):fO X (.block id x) Q s:=by
 refine ⟨fun hk l n a w hr=> ?_⟩
 refine wpIn_block (wpIn_mono (h.run hk l n a w hr) ?_)
 rintro e a w ⟨s,h1,h2⟩
 cases e with
 |exit id'=>
  simp only [Exit.inBlock,ablock] at h1 ⊢
  split
  ·rename_i hid;simp only [hid,if_true] at h1;exact ⟨s,h1,h2⟩
  ·rename_i hid;simp only [hid,if_false] at h1;exact ⟨s,h1,h2⟩
 |_=>exact ⟨s,h1,h2⟩
theorem Ln {c:Nat} {x y:Code} (h:gd (get s.t c) true (fO X x Q s) (fO X y Q s) False fun _=>False):fO X (.cond (.tmp c) x y) Q s:=by
 unfold gd at h
 split at h
 ·rename_i b hb;exact Ll hb h.1 h.2
 ·exact h.elim
 ·exact h.elim
 ·exact h.elim
theorem Lo (hX:X.Ok) (hC:X.C=C) {id:Nat} {l:List Oper} (h:bT X C l l s fun s'=>Q .normal s'):fO X (.region id l.toArray false) Q s:=by
 subst hC;exact qn hX h
theorem Lq (hX:X.Ok) (hC:X.C=C) {id:Nat} {l:List Oper} {y:Code} (h:bT X C l l s fun s'=>fO X y Q s'):fO X (.seq (.region id l.toArray false) y) Q s:=by
 subst hC;exact Iw (qn hX h)
instance Ot:Rs (Q .normal s) (fO X .skip Q s):=⟨fun h=>⟨fun _ _ _ a w hr=>wpIn_skip ⟨s,h,hr⟩⟩⟩
instance Ou {id:Nat} :Rs (Q (.exit id) s) (fO X (.exit id) Q s):=⟨fun h=>⟨fun _ _ _ a w hr=>wpIn_exit ⟨s,h,hr⟩⟩⟩
instance Ov {c:Nat} {x y:Code} :Rs (gd (get s.t c) true (fO X x Q s) (fO X y Q s) False fun _=>False) (fO X (.cond (.tmp c) x y) Q s):=⟨Ln⟩
instance Ow [h:Xc X C] {id:Nat} {l:List Oper} {y:Code} :Rn (bT X C l l s fun s'=>fO X y Q s') (fO X (.seq (.region id l.toArray false) y) Q s):=⟨Lq h.ok h.eq⟩
instance Ox [h:Xc X C] {id:Nat} {l:List Oper} :Rn (bT X C l l s fun s'=>Q .normal s') (fO X (.region id l.toArray false) Q s):=⟨Lo h.ok h.eq⟩
instance Oy {id:Nat} {x:Code} :Rn (fO X x (ablock id Q) s) (fO X (.block id x) Q s):=⟨Lm⟩
instance (priority:=low) Oz {x y:Code} :Rn (fO X x (athen (fun s'=>fO X y Q s') Q) s) (fO X (.seq x y) Q s):=⟨Iw⟩
end
structure Sc (s1 s:ASt):Prop where
 run:∀X:Ctx,X.Ok→∀a w,Rel X s a w→Rel X s1 a w
def To (s1:ASt):Exit→ASt→Prop
 | .normal,s=>Sc s1 s
 |_,_=>False
def OA (P:Program) (gf sz:Nat) (rows:List (List D)):Prop:=
 ∀(l:Nat) (p:Value) (J:Nat→World→Prop) (W:World),
  (∀k W1,J k W1→∃z,Rd W1 z p (.pt [.sl sz rows])∧(k<rows.length→∀us:List Value,us.length=sz→
    (∀(i:Nat) (u:Value) (x:D),us[i]? =some u→(rows.getD (rows.length - 1 - k) [])[i]? =some x→Rd W1 z u x)→
    YieldAt Fence.wide 3 P l #[.int .i64 ((rows.length - 1 - k:Nat):Int), .agg us.toArray] W1 fun e W2=>e= .returned (.bool true)∧J (k+1) W2))→
  J 0 W→CallsIn Fence.wide 4 P gf #[.func (.yield l) #[] #[],p] W fun e W'=>(∃v,e= .returned v)∧J rows.length W'
section
variable {X:Ctx} {E:Env} {s:ASt} {a:Act} {w w':World}
theorem aK.Jm (h:aK X E s a w) {b':List (Nat × Obj)} (hb:∀p∈b',cm p.2=true∧w.heap[p.1]? =some p.2):aK {X with bk:=b'} E s a w:=
 ⟨⟨h.defers.all,h.defers.nd,hb⟩,h.size,h.good,h.gF,h.mine,h.slot⟩
theorem aK.Jn {D:Nat} {q q':Obj} (h:aK X E s a w) (h0:X.w0.heap.size≤D) (hq:w.heap[D]? =some q) (hb:cm q=true) (hl:∀x,q≠ .deferred x) (hb':cm q'=true) {b':List (Nat × Obj)}
 (hn:∀p∈b',cm p.2=true∧(w.putObj D q').heap[p.1]? =some p.2):aK {X with bk:=b'} E s a (w.putObj D q'):=by
 have h1:aK {X with bk:= []} E s a w:=h.Jm (by simp)
 have h2:=h1.bk (w':=w.putObj D q') (ds:=a.defers) (Bk.one h0 hq hb hb') ⟨fun d hd=>by
  obtain ⟨D',k1,k2,k3⟩:=h.defers.all d hd
  refine ⟨D',k1,k2, ?_⟩
  rw [World.putObj_heap_other]
  ·exact k3
  ·rintro rfl;rw [hq] at k3;cases k3;exact hl _ rfl,h.defers.nd,by simp⟩
 exact aK.Jm (X:= {X with bk:= []}) h2 hn
theorem aK.slots (h:aK X E s a w) {t:List (Nat × AV)} {a':Act} (hs:a'.tmps.size=X.n) (hd:a'.defers= []) (ht:∀k,bS w E (get t k) (a'.tmps.getD k undef)):aK X E ⟨t,s.m⟩ a' w:=
 ⟨⟨by rw [hd];simp,by rw [hd];exact List.nodup_nil,h.defers.bk⟩,hs,h.good,h.gF,h.mine,ht⟩
end
theorem Hj {t:Array Value} {i k:Nat} {v:Value} (h:i<t.size):(t.setIfInBounds i v).getD k undef=if i=k then v else t.getD k undef:=by
 by_cases e:i=k
 ·subst e;rw [if_pos rfl];simp [Array.getD_eq_getD_getElem?,h]
 ·rw [if_neg e];simp only [Array.getD_eq_getD_getElem?,Array.getElem?_setIfInBounds_ne e]
end Go.Ab
