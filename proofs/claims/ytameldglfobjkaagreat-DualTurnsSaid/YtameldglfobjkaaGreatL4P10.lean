/- Ranges over a function: rounds, walked; the statement itself. -/
import Derived.RangeFuncCalls
import Derived.TacticsIn
import Derived.Test.YtameldglfobjkaaGreatL4P9
set_option linter.unusedSimpArgs false
set_option linter.unusedVariables false
namespace Go.Ab
section
variable {l n:Nat} {P:Program} {a:Act} {w:World}
theorem C7 {o:Oper} {K:Act→World→Prop} {Q:Exit→Act→World→Prop} (hd:∀c,o.op≠ .defer c) (h:o.wp P a w K Q):o.wpIn (Fence.wide.inRound l) n P a w K Q:=by
 refine ⟨fun f _=>trivial, ?_⟩
 rw [Oper.semAt_eq _ _ _ hd]
 unfold Oper.wp at h
 generalize (execOp a.eval o).run P w=r at h ⊢
 unfold Oper.upon at h
 unfold Oper.uponIn
 split at h
 ·exact h
 ·exact h
 ·exact h
 ·exact ⟨fun e=>absurd e (by show ¬(Fence.wide.depth.isSome=true);simp [Fence.wide]),CallsIn.inRound l (callsIn_wide.2 h)⟩
 ·refine ⟨fun e=>absurd e (by show ¬(Fence.wide.depth.isSome=true);simp [Fence.wide]),fun c cs _=> ?_⟩
  obtain ⟨v,w',r,s⟩:=h c cs
  exact ⟨v,w',r,(stepsIn_wide (P:=P)).2 s⟩
 ·exact h
 ·exact h.elim
end
structure e8 (X:Ctx) (c:Code) (Q:Exit→ASt→Prop) (s:ASt):Prop where
 run:qD X.n c=true→∀l n a w,Rel X s a w→c.wpIn (Fence.wide.inRound l) n X.P (lift X Q) a w
theorem oq {X:Ctx} (hX:X.Ok) {f n:Nat} {l:List Oper} {Q:Exit→Act→World→Prop} {K:ASt→Prop} (hK:∀s a w,K s→Rel X s a w→Q .normal a w):
 ∀(r:List Oper) (s:ASt),(∀o∈r,∀d,o.dst=some d→d<X.n)→bT X X.C l r s K→∀a w,Rel X s a w→wpListIn (Fence.wide.inRound f) n X.P l.toArray Q r a w
 | [],s,_,h,a,w,hr=>hK s a w h hr
 |o::r,s,hd,h,a,w,hr=>by
  have ih:=oq hX (f:=f) (n:=n) (l:=l) hK r
  have hd':∀o∈r,∀d,o.dst=some d→d<X.n:=fun o ho=>hd o (by simp [ho])
  have run:∀s,Rel X s a w→(vcOp X X.C o s fun la=>bT X X.C l r (la.app s) K)→o.wpIn (Fence.wide.inRound f) n X.P a w (wpListIn (Fence.wide.inRound f) n X.P l.toArray Q r) Q:=by
   intro s hr h
   have b8:∀c,o.op≠ .defer c:=fun c e=>by simp only [vcOp,e] at h
   obtain ⟨la,⟨_,h1⟩,h2,h3⟩:=gZ hX h
   exact C7 b8 (Oper.q7 (fun a' w' hr'=>ih (la.app s) hd' h3 a' w' hr') (h1 s a w (hd o (by simp)) h2 hr))
  unfold wpListIn
  unfold bT at h
  cases hgd:o.guard with
  |none=>
   simp only [hgd] at h
   rw [if_pos (by simp [Region.wanted,hgd])]
   exact run s hr h
  |some p=>
   obtain ⟨j,want⟩:=p
   simp only [hgd] at h
   split at h
   ·exact h.elim
   ·rename_i g hg
    split at h
    ·rename_i b hb
     obtain ⟨E,hE⟩:=hr
     obtain ⟨hy,hv⟩:=mW hE hg hb
     by_cases GB:b=want
     ·subst GB
      rw [if_pos (by simp [Region.wanted,hgd,hy])]
      exact run _ ⟨E,hE.put (by rw [hv];exact bU _ rfl)⟩ (h.1 rfl)
     ·have Ft:b= !want:=by cases b<;>cases want<;>simp_all
      rw [if_neg (by simp [Region.wanted,hgd,hy,GB])]
      exact ⟨fun _ _=>trivial,ih _ hd' (h.2 Ft) _ _ ⟨E,(hE.put (by rw [hv,Ft];exact bU _ rfl)).ID o.dst⟩⟩
    ·rename_i hb
     obtain ⟨E,hE⟩:=hr
     have hy:=k7 hE hg hb
     rw [if_neg (by simp [Region.wanted,hgd,hy])]
     exact ⟨fun _ _=>trivial,ih _ hd' h _ _ ⟨E,hE.ID o.dst⟩⟩
    ·exact h.elim
section
variable {X:Ctx} {C:Cfg} {Q:Exit→ASt→Prop} {s:ASt}
theorem qh (hX:X.Ok) {id:Nat} {l:List Oper} (h:bT X X.C l l s (fun s'=>Q .normal s')):e8 X (.region id l.toArray false) Q s:=by
 refine ⟨fun hc f n a w hr=> ?_⟩
 refine wpIn_region_list ?_
 exact oq hX (K:=fun s'=>Q .normal s') (Q:=lift X Q) (fun s a w hs hr=>⟨s,hs,hr⟩) l s (nR (by simpa [qD] using hc)) h a w hr
theorem GJ {x y:Code} (h:e8 X x (athen (fun s'=>e8 X y Q s') Q) s):e8 X (.seq x y) Q s:=by
 refine ⟨fun hc l n a w hr=> ?_⟩
 simp only [qD,Bool.and_eq_true] at hc
 refine wpIn_seq (wpIn_mono (h.run hc.1 l n a w hr) ?_)
 rintro e a w ⟨s,h1,h2⟩
 cases e<;>first|exact h1.run hc.2 l n a w h2|exact ⟨s,h1,h2⟩
theorem JC {c:Nat} {x y:Code} {b:Bool} (hc:get s.t c= .d (.sc (.bool b))) (h1:b=true→e8 X x Q s) (h2:b=false→e8 X y Q s):e8 X (.cond (.tmp c) x y) Q s:=by
 refine ⟨fun hk l n a w ⟨E,hE⟩=> ?_⟩
 simp only [qD,Bool.and_eq_true] at hk
 have hv:=hE.slot c
 rw [hc] at hv
 have hv:=dh hv
 cases b with
 |true=>exact wpIn_cond_true (by simpa [Act.eval] using hv) ((h1 rfl).run hk.1 l n a w ⟨E,hE⟩)
 |false=>exact wpIn_cond_false (by simpa [Act.eval] using hv) ((h2 rfl).run hk.2 l n a w ⟨E,hE⟩)
theorem JD {id:Nat} {x:Code} (h:e8 X x (ablock id Q) s):e8 X (.block id x) Q s:=by
 refine ⟨fun hk l n a w hr=> ?_⟩
 refine wpIn_block (wpIn_mono (h.run hk l n a w hr) ?_)
 rintro e a w ⟨s,h1,h2⟩
 cases e with
 |exit id'=>
  simp only [Exit.inBlock,ablock] at h1 ⊢
  split
  ·rename_i hid;simp only [hid,if_true] at h1;exact ⟨s,h1,h2⟩
  ·rename_i hid;simp only [hid,if_false] at h1;exact ⟨s,h1,h2⟩
 |_=>exact ⟨s,h1,h2⟩
theorem JE {c:Nat} {x y:Code} (h:gd (get s.t c) true (e8 X x Q s) (e8 X y Q s) False fun _=>False):e8 X (.cond (.tmp c) x y) Q s:=by
 unfold gd at h
 split at h
 ·rename_i b hb;exact JC hb h.1 h.2
 ·exact h.elim
 ·exact h.elim
 ·exact h.elim
theorem JF (hX:X.Ok) (hC:X.C=C) {id:Nat} {l:List Oper} (h:bT X C l l s fun s'=>Q .normal s'):e8 X (.region id l.toArray false) Q s:=by
 subst hC;exact qh hX h
theorem JG (hX:X.Ok) (hC:X.C=C) {id:Nat} {l:List Oper} {y:Code} (h:bT X C l l s fun s'=>e8 X y Q s'):e8 X (.seq (.region id l.toArray false) y) Q s:=by
 subst hC;exact GJ (qh hX h)
instance Ml:Rs (Q .normal s) (e8 X .skip Q s):=⟨fun h=>⟨fun _ _ _ a w hr=>wpIn_skip ⟨s,h,hr⟩⟩⟩
instance Mm {id:Nat} :Rs (Q (.exit id) s) (e8 X (.exit id) Q s):=⟨fun h=>⟨fun _ _ _ a w hr=>wpIn_exit ⟨s,h,hr⟩⟩⟩
instance Mn {c:Nat} {x y:Code} :Rs (gd (get s.t c) true (e8 X x Q s) (e8 X y Q s) False fun _=>False) (e8 X (.cond (.tmp c) x y) Q s):=⟨JE⟩
instance Mo [h:Xc X C] {id:Nat} {l:List Oper} {y:Code} :Rn (bT X C l l s fun s'=>e8 X y Q s') (e8 X (.seq (.region id l.toArray false) y) Q s):=⟨JG h.ok h.eq⟩
instance Mp [h:Xc X C] {id:Nat} {l:List Oper} :Rn (bT X C l l s fun s'=>Q .normal s') (e8 X (.region id l.toArray false) Q s):=⟨JF h.ok h.eq⟩
instance Mq {id:Nat} {x:Code} :Rn (e8 X x (ablock id Q) s) (e8 X (.block id x) Q s):=⟨JD⟩
instance (priority:=low) Mr {x y:Code} :Rn (e8 X x (athen (fun s'=>e8 X y Q s') Q) s) (e8 X (.seq x y) Q s):=⟨GJ⟩
end
structure Pt (s1 s:ASt):Prop where
 run:∀X:Ctx,X.Ok→∀a w,Rel X s a w→Rel X s1 a w
def To (s1:ASt):Exit→ASt→Prop
 | .normal,s=>Pt s1 s
 |_,_=>False
def C8 (P:Program) (gf sz:Nat) (rows:List (List D)):Prop:=
 ∀(l:Nat) (p:Value) (J:Nat→World→Prop) (W:World),
  (∀k W1,J k W1→∃z,Rd W1 z p (.pt [.sl sz rows])∧(k<rows.length→∀us:List Value,us.length=sz→
    (∀(i:Nat) (u:Value) (x:D),us[i]? =some u→(rows.getD (rows.length - 1 - k) [])[i]? =some x→Rd W1 z u x)→
    YieldAt Fence.wide 3 P l #[.int .i64 ((rows.length - 1 - k:Nat):Int), .agg us.toArray] W1 fun e W2=>e= .returned (.bool true)∧J (k+1) W2))→
  J 0 W→CallsIn Fence.wide 4 P gf #[.func (.yield l) #[] #[],p] W fun e W'=>(∃v,e= .returned v)∧J rows.length W'
section
variable {X:Ctx} {E:Env} {s:ASt} {a:Act} {w w':World}
theorem aO.HG (h:aO X E s a w) {b':List (Nat × Obj)} (hb:∀p∈b',cy p.2=true∧w.heap[p.1]? =some p.2):aO {X with bk:=b'} E s a w:=
 ⟨⟨h.defers.all,h.defers.nd,hb⟩,h.size,h.good,h.fZ,h.mine,h.slot⟩
theorem aO.FD {D:Nat} {q q':Obj} (h:aO X E s a w) (h0:X.w0.heap.size≤D) (hq:w.heap[D]? =some q) (hb:cy q=true) (hl:∀x,q≠ .deferred x) (hb':cy q'=true) {b':List (Nat × Obj)}
 (hn:∀p∈b',cy p.2=true∧(w.putObj D q').heap[p.1]? =some p.2):aO {X with bk:=b'} E s a (w.putObj D q'):=by
 have h1:aO {X with bk:= []} E s a w:=h.HG (by simp)
 have h2:=h1.bk (w':=w.putObj D q') (ds:=a.defers) (Bk.one h0 hq hb hb') ⟨fun d hd=>by
  obtain ⟨D',k1,k2,k3⟩:=h.defers.all d hd
  refine ⟨D',k1,k2, ?_⟩
  rw [World.putObj_heap_other]
  ·exact k3
  ·rintro rfl;rw [hq] at k3;cases k3;exact hl _ rfl,h.defers.nd,by simp⟩
 exact aO.HG (X:= {X with bk:= []}) h2 hn
theorem aO.slots (h:aO X E s a w) {t:List (Nat × AV)} {a':Act} (hs:a'.tmps.size=X.n) (hd:a'.defers= []) (ht:∀k,bY w E (get t k) (a'.tmps.getD k undef)):aO X E ⟨t,s.m⟩ a' w:=
 ⟨⟨by rw [hd];simp,by rw [hd];exact List.nodup_nil,h.defers.bk⟩,hs,h.good,h.fZ,h.mine,ht⟩
end
theorem zU {t:Array Value} {i k:Nat} {v:Value} (h:i<t.size):(t.setIfInBounds i v).getD k undef=if i=k then v else t.getD k undef:=by
 by_cases e:i=k
 ·subst e;rw [if_pos rfl];simp [Array.getD_eq_getD_getElem?,h]
 ·rw [if_neg e];simp only [Array.getD_eq_getD_getElem?,Array.getElem?_setIfInBounds_ne e]
theorem C9 {X:Ctx} (hX:X.Ok) {gs p0 p1:Nat} {assign body:Code} {Q:Exit→ASt→Prop} {s:ASt} {gf sz:Nat} {rows:List (List D)} (it:C8 X.P gf sz rows) (can:uV X.P gf)
 (hg:get s.t gs= .fn gf [] [.d (.pt [.sl sz rows])]) (hsz:∀r∈rows,r.length=sz)
 (π:Nat→Nat) (mm m:List (Nat × AObj)) (tb:List (Nat × AV)) (mK:Nat→List (Nat × AObj)) (sA:Nat→ASt)
 (ho:Over π mm m (mK rows.length) (.tup [])) (hmm:∀p∈mm,look s.m p.1=some p.2) (kQ:∀p∈m,10000≤p.1)
 (htb:∀k,(get tb k).ren π=get s.t k∨get tb k= .fe) (rM:∀k,∀l∈(get tb k).ids,bE m l≠none)
 (h0:∀X':Ctx,X'.Ok→∀a w,Rel X' ⟨tb,m⟩ a w→Rel X' ⟨tb,mK 0⟩ a w)
 (hA:∀k,k<rows.length→∀X':Ctx,X'.Ok→X'.P=X.P→X'.C=X.C→e8 X' assign (To (sA k)) ⟨(p1, .agg ((rows.getD (rows.length - 1 - k) []).map .d))::(p0, .d (.sc (.int .i64 ((rows.length - 1 - k:Nat):Int))))::tb,mK k⟩)
 (hB:∀k,k<rows.length→∀X':Ctx,X'.Ok→X'.P=X.P→X'.C=X.C→e8 X' body (To ⟨[],mK (k+1)⟩) (sA k))
 (hQ:Q .normal ((⟨[],mm,killM π m (mK rows.length)++killM π (mK rows.length) m,renM π (mK rows.length),none,(AV.tup []).ren π⟩:LA).app s)):
 cl X (.rangeFunc (.tmp gs) #[p0,p1] assign body) Q s:=by
 refine ⟨fun hk a w ⟨E,hE⟩=> ?_⟩
 simp only [qD,Bool.and_eq_true,List.all_cons,List.all_nil,decide_eq_true_eq] at hk
 obtain ⟨⟨hps,yy⟩,hk2⟩:=hk
 have uM:p0<X.n:=hps.1
 have hp1:p1<X.n:=by have:=hps.2;simpa using this
 have K6:=hE.slot gs
 rw [hg] at K6
 obtain ⟨us,vs,K6,ET,p,vs',rfl,hp,EU⟩:=K6
 have ET:us= []:=ET
 have EU:vs'= []:=EU
 subst ET;subst EU
 have xk:=ho.good hE.good hmm
 obtain ⟨Xb,yP⟩:∃Xb:List (Nat × Obj)→Ctx,Xb=fun b=>⟨X.P,X.C,X.n,m,E.pre π,w,b,w.heap.size⟩:=⟨_,rfl⟩
 have Da:∀b,(Xb b).Ok:=fun b=>by
  rw [yP]
  exact ⟨hX.C,fun l hl=>by
   obtain ⟨o,ho'⟩:=Option.ne_none_iff_exists'.1 hl
   exact kQ _ (aW (fJ (fun p hp=>(ho.pl p hp).2) ho').1),Nat.le_refl _⟩
 have hs0:∀k,bY w (E.pre π) (get tb k) (a.tmps.getD k undef):=fun k=>by
  rcases htb k with h|h
  ·rw [nS,h];exact hE.slot k
  ·rw [h];trivial
 have hstart:aO (Xb []) (E.pre π) ⟨tb,m⟩ {a with defers:= []} w:=by
  rw [yP]
  exact ⟨Marks.nil,hE.size,xk,G0.refl _ _ _,fun l o b hl hro hb=> .inr ⟨l,o,hl,hro,hb⟩,hs0⟩
 have ym:∀ {b E' s' a' W},aO (Xb b) E' s' a' W→∀k,bY W E' (get tb k) (a.tmps.getD k undef):=fun {b E' s' a' W} h k=>by
  rw [yP] at h
  exact bY.mono (live:=fun l=>bE m l≠none) ⟨h.fZ.st,fun l hl=>(h.fZ.EL l hl).1,fun l hl=>(h.fZ.EL l hl).2⟩ (rM k) (hs0 k)
 refine (wpIn_wide (n:=5)).1 (wpIn_rangeFunc fun fn _=> ?_)
 obtain ⟨rec,xp⟩:∃rec:LoopState→Option Code→Loop,rec=fun st pe=> {state:=st,pending:=pe,fn,tmps:=a.tmps,params:= #[p0,p1],assign,body,defers:=w.heap.size} :=⟨_,rfl⟩
 obtain ⟨W1,K7⟩:∃W1,(w.alloc (.deferred (some []))).alloc (.loop (rec .ready none))=W1:=⟨_,rfl⟩
 obtain ⟨L,hL⟩:∃L,L=w.heap.size+1:=⟨_,rfl⟩
 have Pu:W1.heap[L]? =some (.loop (rec .ready none)):=by
  rw [← K7,hL];have:=World.alloc_heap_new (w.alloc (.deferred (some []))) (.loop (rec .ready none));rwa [World.size_alloc] at this
 have Pv:W1.heap[w.heap.size]? =some (.deferred (some [])):=by
  rw [← K7];exact (RowKit.Below.heap_alloc _ _ _ (by simp)).trans (World.alloc_heap_new w _)
 obtain ⟨bk,ic⟩:∃bk:LoopState→List (Nat × Obj),bk=fun st=> [(L, .loop (rec st none)),(w.heap.size, .deferred (some []))]:=⟨_,rfl⟩
 have Db:∀ {st:LoopState} {W:World},W.heap[L]? =some (.loop (rec st none))→W.heap[w.heap.size]? =some (.deferred (some []))→∀p∈bk st,cy p.2=true∧W.heap[p.1]? =some p.2:=fun {st W} h1 h2 p hp=>by
  rw [ic] at hp
  simp only [List.mem_cons,List.not_mem_nil,or_false] at hp
  rcases hp with rfl|rfl
  ·exact ⟨rfl,h1⟩
  ·exact ⟨rfl,h2⟩
 have u7:∀ {st E' s' a' W},aO (Xb (bk st)) E' s' a' W→W.heap[L]? =some (.loop (rec st none))∧W.heap[w.heap.size]? =some (.deferred (some [])):=fun {st E' s' a' W} h=>by
  have hb:=h.defers.bk
  rw [yP,ic] at hb
  exact ⟨(hb (L, .loop (rec st none)) (by simp)).2,(hb (w.heap.size, .deferred (some [])) (by simp)).2⟩
 have hw0:(Xb []).w0=w:=by rw [yP]
 obtain ⟨J,hJ⟩:∃J:Nat→World→Prop,J=fun k W=>∃E',aO (Xb (bk .ready)) E' ⟨tb,mK k⟩ {a with defers:= []} W:=⟨_,rfl⟩
 have Pw:J 0 W1:=by
  rw [hJ]
  have h1:aO (Xb []) (E.pre π) ⟨tb,m⟩ {a with defers:= []} W1:=by
   have hB:Bk (Xb []).w0 w W1:=by rw [← K7];exact (Bk.new _ _ _).trans (Bk.new _ _ _)
   exact hstart.bk hB (by rw [yP];exact Marks.nil)
  have h2:aO (Xb (bk .ready)) (E.pre π) ⟨tb,m⟩ {a with defers:= []} W1:=by
   have:=h1.HG (Db Pu Pv)
   rw [yP] at this ⊢
   exact this
  exact h0 _ (Da _) _ _ ⟨_,h2⟩
 obtain ⟨Rw,cg,Ms,Mt,Mu⟩:=can
 refine ⟨L, [{target:= .collected w.heap.size,args:= #[]}],W1, {target:= .fn (.func gf) #[p],args:= #[.func (.yield L) #[] #[]]},W1,gf,
  #[.func (.yield L) #[] #[],p],W1, ?_, ?_,fun _ _=>trivial, ?_,fun h=>absurd h (by simp [Fence.wide]), ?_⟩
 ·rw [← K7,xp,hL];exact run_enterLoop_outer _ _ _ _ _
 ·have Px:a.eval (.tmp gs)= .func (.func gf) #[] #[p]:=by simpa [Act.eval] using K6
  simp only [resolve,Px]
  simp [go_sem]
 ·have:=dm (P:=X.P) Ms Mt Mu #[.func (.yield L) #[] #[],p] W1
  simp [invoke,go_sem,this]
 ·refine (it L p J W1 ?_ Pw).mono ?_
  ·intro k V JH
   rw [hJ] at JH
   obtain ⟨E1,EV⟩:=JH
   have Cv:aH w E.z V E1.z:=by have:=EV.fZ.st;rw [yP] at this;exact this
   refine ⟨E1.z,Rd.mono Cv hp,fun hkk us NX G7=> ?_⟩
   obtain ⟨JI,N6⟩:=u7 EV
   have JJ:a.tmps.size=X.n:=hE.size
   have Py:=run_yield (P:=X.P) (args:= #[.int .i64 ((rows.length - 1 - k:Nat):Int), .agg us.toArray]) JI (by rw [xp];rfl)
   obtain ⟨ar,JK⟩:∃ar:Act,ar= {tmps:=(a.tmps.setIfInBounds p0 (.int .i64 ((rows.length - 1 - k:Nat):Int))).setIfInBounds p1 (.agg us.toArray),defers:= []} :=⟨_,rfl⟩
   have Mv:(Instr.yield L #[.int .i64 ((rows.length - 1 - k:Nat):Int), .agg us.toArray]).run X.P V= .ok (.round L fn ar.tmps assign body) V:=by
    rw [Py,xp,JK];simp
   refine ⟨fn,ar.tmps,assign,body,Mv,roundIn_of_wpIn trivial ?_⟩
   have hrl:(rows.getD (rows.length - 1 - k) []).length=sz:=by
    have hlt:rows.length - 1 - k<rows.length:=by omega
    rw [List.getD_eq_getElem?_getD,List.getElem?_eq_getElem hlt]
    exact hsz _ (List.getElem_mem _)
   have Pz:aO (Xb (bk .ready)) E1 ⟨(p1, .agg ((rows.getD (rows.length - 1 - k) []).map .d))::(p0, .d (.sc (.int .i64 ((rows.length - 1 - k:Nat):Int))))::tb,mK k⟩ ar V:=by
    refine EV.slots (a':=ar) ?_ (by rw [JK]) fun q=> ?_
    ·have:(Xb (bk .ready)).n=X.n:=by rw [yP]
     rw [JK,this];simpa using JJ
    ·rw [JK]
     simp only
     rw [zU (by simp;omega),zU (by omega)]
     simp only [get]
     by_cases e1:p1=q
     ·rw [if_pos e1,if_pos e1]
      refine ⟨us,rfl, ?_⟩
      rw [cQ]
      refine ⟨by rw [List.length_map,NX,hrl],fun i av u h1 h2=> ?_⟩
      rw [List.getElem?_map,Option.map_eq_some_iff] at h1
      obtain ⟨x,h3,rfl⟩:=h1
      exact G7 i u x h2 h3
     ·rw [if_neg e1,if_neg e1]
      by_cases e0:p0=q
      ·rw [if_pos e0,if_pos e0]
       exact .sc _ rfl
      ·rw [if_neg e0,if_neg e0]
       exact ym EV q
   have FE:∀b,(Xb b).P=X.P∧(Xb b).C=X.C∧(Xb b).n=X.n:=fun b=>by rw [yP];exact ⟨rfl,rfl,rfl⟩
   have Mw:=(hA k hkk (Xb (bk .ready)) (Da _) (FE _).1 (FE _).2.1).run (by rw [(FE _).2.2];exact yy) L 3 ar V ⟨_,Pz⟩
   rw [(FE _).1] at Mw
   have Mx:ar= {tmps:=ar.tmps,defers:= []} :=by rw [JK]
   rw [Mx] at Mw
   refine wpIn_mono Mw ?_
   rintro e a1 V1 ⟨s1,hq1,iF⟩
   cases e with
   |normal=>
    obtain ⟨E2,zS⟩:=hq1.run _ (Da _) _ _ iF
    obtain ⟨HH,My⟩:=u7 zS
    have Mz:(Xb (bk .ready)).w0.heap.size≤L:=by rw [yP,hL];simp
    have K8:=zS.FD (b':=bk .busy) Mz HH rfl (fun x e=>by cases e) (q':= .loop (rec .busy none)) rfl (Db (World.putObj_heap_same (Array.getElem?_eq_some_iff.1 HH).1) ((World.putObj_heap_other (by omega)).trans My))
    have K8:aO (Xb (bk .busy)) E2 (sA k) a1 (V1.putObj L (.loop (rec .busy none))):=by rw [yP] at K8 ⊢;exact K8
    have N7:=run_beginRound (P:=X.P) HH (by rw [xp])
    have hrb:({rec .ready none with state:= .busy} :Loop)=rec .busy none:=by rw [xp]
    rw [hrb] at N7
    refine ⟨_,N7, ?_⟩
    have N8:=(hB k hkk (Xb (bk .busy)) (Da _) (FE _).1 (FE _).2.1).run (by rw [(FE _).2.2];exact hk2) L 3 a1 _ ⟨_,K8⟩
    rw [(FE _).1] at N8
    refine wpIn_mono N8 ?_
    rintro e a2 V2 ⟨s2,xd,tK⟩
    cases e with
    |normal=>
     obtain ⟨E4,N9⟩:=xd.run _ (Da _) _ _ tK
     obtain ⟨HJ,MA⟩:=u7 N9
     have Oa:=run_endRound (P:=X.P) none HJ
     have IC:({rec .busy none with state:=if (none:Option Code).isNone then .ready else .done,pending:=none} :Loop)=rec .ready none:=by rw [xp];rfl
     rw [IC] at Oa
     refine ⟨_,_,Oa,rfl, ?_⟩
     have Mz:(Xb (bk .busy)).w0.heap.size≤L:=by rw [yP,hL];simp
     have JL:=N9.FD (b':=bk .ready) Mz HJ rfl (fun x e=>by cases e) (q':= .loop (rec .ready none)) rfl (Db (World.putObj_heap_same (Array.getElem?_eq_some_iff.1 HJ).1) ((World.putObj_heap_other (by omega)).trans MA))
     have JL:aO (Xb (bk .ready)) E4 ⟨[],mK (k+1)⟩ a2 (V2.putObj L (.loop (rec .ready none))):=by rw [yP] at JL ⊢;exact JL
     rw [hJ]
     exact ⟨E4,JL.slots (t:=tb) (a':= {a with defers:= []}) (by rw [(FE _).2.2];exact hE.size) rfl (ym JL)⟩
    |_=>exact xd.elim
   |_=>exact hq1.elim
  ·rintro e V ⟨⟨v,rfl⟩,Ob⟩
   rw [hJ] at Ob
   obtain ⟨E1,EV⟩:=Ob
   obtain ⟨JI,N6⟩:=u7 EV
   have hel:=run_endLoop (P:=X.P) JI (by rw [xp];simp)
   have hpe:(rec .ready none).pending=none:=by rw [xp]
   rw [hpe] at hel
   obtain ⟨rx,hel⟩:∃rx:Loop,(Instr.endLoop L).run X.P V= .ok none (V.putObj L (.loop rx)):=⟨_,hel⟩
   refine ⟨none,_,hel, ?_⟩
   have hpost:Post m (E.pre π) w (.tup []) (mK rows.length) (.returned (.tuple #[])) V:=by
    rw [yP] at EV
    exact ⟨.tuple #[],E1,rfl,EV.fZ,EV.good,EV.mine, [],rfl,rfl⟩
   obtain ⟨v2,E2,_,zS⟩:=hpost.back hX ho (rs:= []) (dst:=none) (fun d hd=>by cases hd) hE hmm
   refine ⟨_,hQ,E2, ?_⟩
   have MB:=hE.fZ.size
   have Rx:L<V.heap.size:=(Array.getElem?_eq_some_iff.1 JI).1
   have hne:∀D q,w.heap[D]? =some q→D≠L∧D≠w.heap.size:=fun D q hq=>by
    have:=(Array.getElem?_eq_some_iff.1 hq).1
    omega
   have zS:aO X E2 _ a V:=zS
   refine zS.bk (w':=V.putObj L (.loop rx)) (ds:= [{target:= .collected w.heap.size,args:= #[]}]++a.defers) (Bk.one (by omega) JI rfl rfl) ⟨fun d hd=> ?_, ?_,fun q hq=> ?_⟩
   ·rcases List.mem_cons.1 hd with rfl|hd
    ·exact ⟨w.heap.size,rfl,Nat.le_trans hX.lo MB,(World.putObj_heap_other (by omega)).trans N6⟩
    ·obtain ⟨D,k1,k2,k3⟩:=zS.defers.all d hd
     obtain ⟨D',IA,_,I6⟩:=hE.defers.all d hd
     rw [k1] at IA
     have:D=D':=by injection IA with e1 e2;injection e1
     subst this
     exact ⟨D,k1,k2,(World.putObj_heap_other (hne D _ I6).1).trans k3⟩
   ·refine List.nodup_cons.2 ⟨fun hd=> ?_,hE.defers.nd⟩
    obtain ⟨D',IA,_,I6⟩:=hE.defers.all _ hd
    have:w.heap.size=D':=by injection IA with e1 e2;injection e1
    exact (hne D' _ I6).2 this.symm
   ·obtain ⟨b1,b2⟩:=zS.defers.bk q hq
    obtain ⟨_,b3⟩:=hE.defers.bk q hq
    exact ⟨b1,(World.putObj_heap_other (hne _ _ b3).1).trans b2⟩
end Go.Ab
