/- Ranges over a function: rounds, walked; the statement itself. -/
import Derived.RangeFuncCalls
import Derived.TacticsIn
import Derived.Test.YtameldglfobjkaaGreatL5P9
set_option linter.unusedSimpArgs false
set_option linter.unusedVariables false
namespace Go.Ab
section
variable {l n:Nat} {P:Program} {a:Act} {w:World}
theorem Gf {o:Oper} {K:Act→World→Prop} {Q:Exit→Act→World→Prop} (hd:∀c,o.op≠ .defer c) (h:o.wp P a w K Q):o.wpIn (Fence.wide.inRound l) n P a w K Q:=by
 refine ⟨fun f _=>trivial, ?_⟩
 rw [Oper.semAt_eq _ _ _ hd]
 unfold Oper.wp at h
 generalize (execOp a.eval o).run P w=r at h ⊢
 unfold Oper.upon at h
 unfold Oper.uponIn
 split at h
 ·exact h
 ·exact h
 ·exact h
 ·exact ⟨fun e=>absurd e (by show ¬(Fence.wide.depth.isSome=true);simp [Fence.wide]),CallsIn.inRound l (callsIn_wide.2 h)⟩
 ·refine ⟨fun e=>absurd e (by show ¬(Fence.wide.depth.isSome=true);simp [Fence.wide]),fun c cs _=> ?_⟩
  obtain ⟨v,w',r,s⟩:=h c cs
  exact ⟨v,w',r,(stepsIn_wide (P:=P)).2 s⟩
 ·exact h
 ·exact h.elim
end
structure gm (X:Ctx) (c:Code) (Q:Exit→ASt→Prop) (s:ASt):Prop where
 run:sS X.n c=true→∀l n a w,Rel X s a w→c.wpIn (Fence.wide.inRound l) n X.P (lift X Q) a w
theorem qc {X:Ctx} (hX:X.Ok) {f n:Nat} {l:List Oper} {Q:Exit→Act→World→Prop} {K:ASt→Prop} (hK:∀s a w,K s→Rel X s a w→Q .normal a w):
 ∀(r:List Oper) (s:ASt),(∀o∈r,∀d,o.dst=some d→d<X.n)→b9 X X.C l r s K→∀a w,Rel X s a w→wpListIn (Fence.wide.inRound f) n X.P l.toArray Q r a w
 | [],s,_,h,a,w,hr=>hK s a w h hr
 |o::r,s,hd,h,a,w,hr=>by
  have ih:=qc hX (f:=f) (n:=n) (l:=l) hK r
  have hd':∀o∈r,∀d,o.dst=some d→d<X.n:=fun o ho=>hd o (by simp [ho])
  have run:∀s,Rel X s a w→(vcOp X X.C o s fun la=>b9 X X.C l r (la.app s) K)→o.wpIn (Fence.wide.inRound f) n X.P a w (wpListIn (Fence.wide.inRound f) n X.P l.toArray Q r) Q:=by
   intro s hr h
   have fA:∀c,o.op≠ .defer c:=fun c e=>by simp only [vcOp,e] at h
   obtain ⟨la,⟨_,h1⟩,h2,h3⟩:=gQ hX h
   exact Gf fA (Oper.qT (fun a' w' hr'=>ih (la.app s) hd' h3 a' w' hr') (h1 s a w (hd o (by simp)) h2 hr))
  unfold wpListIn
  unfold b9 at h
  cases hgd:o.guard with
  |none=>
   simp only [hgd] at h
   rw [if_pos (by simp [Region.wanted,hgd])]
   exact run s hr h
  |some p=>
   obtain ⟨j,want⟩:=p
   simp only [hgd] at h
   split at h
   ·exact h.elim
   ·rename_i g hg
    split at h
    ·rename_i b hb
     obtain ⟨E,hE⟩:=hr
     obtain ⟨hy,hv⟩:=oS hE hg hb
     by_cases JB:b=want
     ·subst JB
      rw [if_pos (by simp [Region.wanted,hgd,hy])]
      exact run _ ⟨E,hE.put (by rw [hv];exact bX _ rfl)⟩ (h.1 rfl)
     ·have Iw:b= !want:=by cases b<;>cases want<;>simp_all
      rw [if_neg (by simp [Region.wanted,hgd,hy,JB])]
      exact ⟨fun _ _=>trivial,ih _ hd' (h.2 Iw) _ _ ⟨E,(hE.put (by rw [hv,Iw];exact bX _ rfl)).LU o.dst⟩⟩
    ·rename_i hb
     obtain ⟨E,hE⟩:=hr
     have hy:=mH hE hg hb
     rw [if_neg (by simp [Region.wanted,hgd,hy])]
     exact ⟨fun _ _=>trivial,ih _ hd' h _ _ ⟨E,hE.LU o.dst⟩⟩
    ·exact h.elim
section
variable {X:Ctx} {C:Cfg} {Q:Exit→ASt→Prop} {s:ASt}
theorem sn (hX:X.Ok) {id:Nat} {l:List Oper} (h:b9 X X.C l l s (fun s'=>Q .normal s')):gm X (.region id l.toArray false) Q s:=by
 refine ⟨fun hc f n a w hr=> ?_⟩
 refine wpIn_region_list ?_
 exact qc hX (K:=fun s'=>Q .normal s') (Q:=lift X Q) (fun s a w hs hr=>⟨s,hs,hr⟩) l s (mI (by simpa [sS] using hc)) h a w hr
theorem JH {x y:Code} (h:gm X x (athen (fun s'=>gm X y Q s') Q) s):gm X (.seq x y) Q s:=by
 refine ⟨fun hc l n a w hr=> ?_⟩
 simp only [sS,Bool.and_eq_true] at hc
 refine wpIn_seq (wpIn_mono (h.run hc.1 l n a w hr) ?_)
 rintro e a w ⟨s,h1,h2⟩
 cases e<;>first|exact h1.run hc.2 l n a w h2|exact ⟨s,h1,h2⟩
theorem MQ {c:Nat} {x y:Code} {b:Bool} (hc:get s.t c= .d (.sc (.bool b))) (h1:b=true→gm X x Q s) (h2:b=false→gm X y Q s):gm X (.cond (.tmp c) x y) Q s:=by
 refine ⟨fun hk l n a w ⟨E,hE⟩=> ?_⟩
 simp only [sS,Bool.and_eq_true] at hk
 have hv:=hE.slot c
 rw [hc] at hv
 have hv:=dB hv
 cases b with
 |true=>exact wpIn_cond_true (by simpa [Act.eval] using hv) ((h1 rfl).run hk.1 l n a w ⟨E,hE⟩)
 |false=>exact wpIn_cond_false (by simpa [Act.eval] using hv) ((h2 rfl).run hk.2 l n a w ⟨E,hE⟩)
theorem MR {id:Nat} {x:Code} (h:gm X x (ablock id Q) s):gm X (.block id x) Q s:=by
 refine ⟨fun hk l n a w hr=> ?_⟩
 refine wpIn_block (wpIn_mono (h.run hk l n a w hr) ?_)
 rintro e a w ⟨s,h1,h2⟩
 cases e with
 |exit id'=>
  simp only [Exit.inBlock,ablock] at h1 ⊢
  split
  ·rename_i hid;simp only [hid,if_true] at h1;exact ⟨s,h1,h2⟩
  ·rename_i hid;simp only [hid,if_false] at h1;exact ⟨s,h1,h2⟩
 |_=>exact ⟨s,h1,h2⟩
theorem MT {c:Nat} {x y:Code} (h:gd (get s.t c) true (gm X x Q s) (gm X y Q s) False fun _=>False):gm X (.cond (.tmp c) x y) Q s:=by
 unfold gd at h
 split at h
 ·rename_i b hb;exact MQ hb h.1 h.2
 ·exact h.elim
 ·exact h.elim
 ·exact h.elim
theorem MU (hX:X.Ok) (hC:X.C=C) {id:Nat} {l:List Oper} (h:b9 X C l l s fun s'=>Q .normal s'):gm X (.region id l.toArray false) Q s:=by
 subst hC;exact sn hX h
theorem MV (hX:X.Ok) (hC:X.C=C) {id:Nat} {l:List Oper} {y:Code} (h:b9 X C l l s fun s'=>gm X y Q s'):gm X (.seq (.region id l.toArray false) y) Q s:=by
 subst hC;exact JH (sn hX h)
instance PZ:Rs (Q .normal s) (gm X .skip Q s):=⟨fun h=>⟨fun _ _ _ a w hr=>wpIn_skip ⟨s,h,hr⟩⟩⟩
instance P3 {id:Nat} :Rs (Q (.exit id) s) (gm X (.exit id) Q s):=⟨fun h=>⟨fun _ _ _ a w hr=>wpIn_exit ⟨s,h,hr⟩⟩⟩
instance P4 {c:Nat} {x y:Code} :Rs (gd (get s.t c) true (gm X x Q s) (gm X y Q s) False fun _=>False) (gm X (.cond (.tmp c) x y) Q s):=⟨MT⟩
instance P5 [h:Xc X C] {id:Nat} {l:List Oper} {y:Code} :Rn (b9 X C l l s fun s'=>gm X y Q s') (gm X (.seq (.region id l.toArray false) y) Q s):=⟨MV h.ok h.eq⟩
instance P6 [h:Xc X C] {id:Nat} {l:List Oper} :Rn (b9 X C l l s fun s'=>Q .normal s') (gm X (.region id l.toArray false) Q s):=⟨MU h.ok h.eq⟩
instance P7 {id:Nat} {x:Code} :Rn (gm X x (ablock id Q) s) (gm X (.block id x) Q s):=⟨MR⟩
instance (priority:=low) P8 {x y:Code} :Rn (gm X x (athen (fun s'=>gm X y Q s') Q) s) (gm X (.seq x y) Q s):=⟨JH⟩
end
structure Tp (s1 s:ASt):Prop where
 run:∀X:Ctx,X.Ok→∀a w,Rel X s a w→Rel X s1 a w
def To (s1:ASt):Exit→ASt→Prop
 | .normal,s=>Tp s1 s
 |_,_=>False
def Gg (P:Program) (gf sz:Nat) (rows:List (List D)):Prop:=
 ∀(l:Nat) (p:Value) (J:Nat→World→Prop) (W:World),
  (∀k W1,J k W1→∃z,Rd W1 z p (.pt [.sl sz rows])∧(k<rows.length→∀us:List Value,us.length=sz→
    (∀(i:Nat) (u:Value) (x:D),us[i]? =some u→(rows.getD (rows.length - 1 - k) [])[i]? =some x→Rd W1 z u x)→
    YieldAt Fence.wide 3 P l #[.int .i64 ((rows.length - 1 - k:Nat):Int), .agg us.toArray] W1 fun e W2=>e= .returned (.bool true)∧J (k+1) W2))→
  J 0 W→CallsIn Fence.wide 4 P gf #[.func (.yield l) #[] #[],p] W fun e W'=>(∃v,e= .returned v)∧J rows.length W'
section
variable {X:Ctx} {E:Env} {s:ASt} {a:Act} {w w':World}
theorem aS.KF (h:aS X E s a w) {b':List (Nat × Obj)} (hb:∀p∈b',cO p.2=true∧w.heap[p.1]? =some p.2):aS {X with bk:=b'} E s a w:=
 ⟨⟨h.defers.all,h.defers.nd,hb⟩,h.size,h.good,h.iy,h.mine,h.slot⟩
theorem aS.IJ {D:Nat} {q q':Obj} (h:aS X E s a w) (h0:X.w0.heap.size≤D) (hq:w.heap[D]? =some q) (hb:cO q=true) (hl:∀x,q≠ .deferred x) (hb':cO q'=true) {b':List (Nat × Obj)}
 (hn:∀p∈b',cO p.2=true∧(w.putObj D q').heap[p.1]? =some p.2):aS {X with bk:=b'} E s a (w.putObj D q'):=by
 have h1:aS {X with bk:= []} E s a w:=h.KF (by simp)
 have h2:=h1.bk (w':=w.putObj D q') (ds:=a.defers) (Bk.one h0 hq hb hb') ⟨fun d hd=>by
  obtain ⟨D',k1,k2,k3⟩:=h.defers.all d hd
  refine ⟨D',k1,k2, ?_⟩
  rw [World.putObj_heap_other]
  ·exact k3
  ·rintro rfl;rw [hq] at k3;cases k3;exact hl _ rfl,h.defers.nd,by simp⟩
 exact aS.KF (X:= {X with bk:= []}) h2 hn
theorem aS.slots (h:aS X E s a w) {t:List (Nat × AV)} {a':Act} (hs:a'.tmps.size=X.n) (hd:a'.defers= []) (ht:∀k,cn w E (get t k) (a'.tmps.getD k undef)):aS X E ⟨t,s.m⟩ a' w:=
 ⟨⟨by rw [hd];simp,by rw [hd];exact List.nodup_nil,h.defers.bk⟩,hs,h.good,h.iy,h.mine,ht⟩
end
theorem CU {t:Array Value} {i k:Nat} {v:Value} (h:i<t.size):(t.setIfInBounds i v).getD k undef=if i=k then v else t.getD k undef:=by
 by_cases e:i=k
 ·subst e;rw [if_pos rfl];simp [Array.getD_eq_getD_getElem?,h]
 ·rw [if_neg e];simp only [Array.getD_eq_getD_getElem?,Array.getElem?_setIfInBounds_ne e]
theorem Gh {X:Ctx} (hX:X.Ok) {gs p0 p1:Nat} {assign body:Code} {Q:Exit→ASt→Prop} {s:ASt} {gf sz:Nat} {rows:List (List D)} (it:Gg X.P gf sz rows) (can:x8 X.P gf)
 (hg:get s.t gs= .fn gf [] [.d (.pt [.sl sz rows])]) (hsz:∀r∈rows,r.length=sz)
 (π:Nat→Nat) (mm m:List (Nat × AObj)) (tb:List (Nat × AV)) (mK:Nat→List (Nat × AObj)) (sA:Nat→ASt)
 (ho:Over π mm m (mK rows.length) (.tup [])) (hmm:∀p∈mm,look s.m p.1=some p.2) (nZ:∀p∈m,10000≤p.1)
 (htb:∀k,(get tb k).ren π=get s.t k∨get tb k= .gr) (sX:∀k,∀l∈(get tb k).ids,bB m l≠none)
 (h0:∀X':Ctx,X'.Ok→∀a w,Rel X' ⟨tb,m⟩ a w→Rel X' ⟨tb,mK 0⟩ a w)
 (hA:∀k,k<rows.length→∀X':Ctx,X'.Ok→X'.P=X.P→X'.C=X.C→gm X' assign (To (sA k)) ⟨(p1, .agg ((rows.getD (rows.length - 1 - k) []).map .d))::(p0, .d (.sc (.int .i64 ((rows.length - 1 - k:Nat):Int))))::tb,mK k⟩)
 (hB:∀k,k<rows.length→∀X':Ctx,X'.Ok→X'.P=X.P→X'.C=X.C→gm X' body (To ⟨[],mK (k+1)⟩) (sA k))
 (hQ:Q .normal ((⟨[],mm,killM π m (mK rows.length)++killM π (mK rows.length) m,renM π (mK rows.length),none,(AV.tup []).ren π⟩:LA).app s)):
 cA X (.rangeFunc (.tmp gs) #[p0,p1] assign body) Q s:=by
 refine ⟨fun hk a w ⟨E,hE⟩=> ?_⟩
 simp only [sS,Bool.and_eq_true,List.all_cons,List.all_nil,decide_eq_true_eq] at hk
 obtain ⟨⟨hps,Bf⟩,hk2⟩:=hk
 have A7:p0<X.n:=hps.1
 have hp1:p1<X.n:=by have:=hps.2;simpa using this
 have OC:=hE.slot gs
 rw [hg] at OC
 obtain ⟨us,vs,OC,hg1,p,vs',rfl,hp,hg2⟩:=OC
 have hg1:us= []:=hg1
 have hg2:vs'= []:=hg2
 subst hg1;subst hg2
 have uC:=ho.good hE.good hmm
 obtain ⟨Xb,Bv⟩:∃Xb:List (Nat × Obj)→Ctx,Xb=fun b=>⟨X.P,X.C,X.n,m,E.pre π,w,b,w.heap.size⟩:=⟨_,rfl⟩
 have Gi:∀b,(Xb b).Ok:=fun b=>by
  rw [Bv]
  exact ⟨hX.C,fun l hl=>by
   obtain ⟨o,ho'⟩:=Option.ne_none_iff_exists'.1 hl
   exact nZ _ (aU (e8 (fun p hp=>(ho.pl p hp).2) ho').1),Nat.le_refl _⟩
 have hs0:∀k,cn w (E.pre π) (get tb k) (a.tmps.getD k undef):=fun k=>by
  rcases htb k with h|h
  ·rw [pQ,h];exact hE.slot k
  ·rw [h];trivial
 have hstart:aS (Xb []) (E.pre π) ⟨tb,m⟩ {a with defers:= []} w:=by
  rw [Bv]
  exact ⟨Marks.nil,hE.size,uC,Fl.refl _ _ _,fun l o b hl hro hb=> .inr ⟨l,o,hl,hro,hb⟩,hs0⟩
 have za:∀ {b E' s' a' W},aS (Xb b) E' s' a' W→∀k,cn W E' (get tb k) (a.tmps.getD k undef):=fun {b E' s' a' W} h k=>by
  rw [Bv] at h
  exact cn.mono (live:=fun l=>bB m l≠none) ⟨h.iy.st,fun l hl=>(h.iy.HQ l hl).1,fun l hl=>(h.iy.HQ l hl).2⟩ (sX k) (hs0 k)
 refine (wpIn_wide (n:=5)).1 (wpIn_rangeFunc fun fn _=> ?_)
 obtain ⟨rec,zU⟩:∃rec:LoopState→Option Code→Loop,rec=fun st pe=> {state:=st,pending:=pe,fn,tmps:=a.tmps,params:= #[p0,p1],assign,body,defers:=w.heap.size} :=⟨_,rfl⟩
 obtain ⟨W1,OD⟩:∃W1,(w.alloc (.deferred (some []))).alloc (.loop (rec .ready none))=W1:=⟨_,rfl⟩
 obtain ⟨L,hL⟩:∃L,L=w.heap.size+1:=⟨_,rfl⟩
 have Tq:W1.heap[L]? =some (.loop (rec .ready none)):=by
  rw [← OD,hL];have:=World.alloc_heap_new (w.alloc (.deferred (some []))) (.loop (rec .ready none));rwa [World.size_alloc] at this
 have Tr:W1.heap[w.heap.size]? =some (.deferred (some [])):=by
  rw [← OD];exact (RowKit.Below.heap_alloc _ _ _ (by simp)).trans (World.alloc_heap_new w _)
 obtain ⟨bk,hbk⟩:∃bk:LoopState→List (Nat × Obj),bk=fun st=> [(L, .loop (rec st none)),(w.heap.size, .deferred (some []))]:=⟨_,rfl⟩
 have Gj:∀ {st:LoopState} {W:World},W.heap[L]? =some (.loop (rec st none))→W.heap[w.heap.size]? =some (.deferred (some []))→∀p∈bk st,cO p.2=true∧W.heap[p.1]? =some p.2:=fun {st W} h1 h2 p hp=>by
  rw [hbk] at hp
  simp only [List.mem_cons,List.not_mem_nil,or_false] at hp
  rcases hp with rfl|rfl
  ·exact ⟨rfl,h1⟩
  ·exact ⟨rfl,h2⟩
 have yf:∀ {st E' s' a' W},aS (Xb (bk st)) E' s' a' W→W.heap[L]? =some (.loop (rec st none))∧W.heap[w.heap.size]? =some (.deferred (some [])):=fun {st E' s' a' W} h=>by
  have hb:=h.defers.bk
  rw [Bv,hbk] at hb
  exact ⟨(hb (L, .loop (rec st none)) (by simp)).2,(hb (w.heap.size, .deferred (some [])) (by simp)).2⟩
 have hw0:(Xb []).w0=w:=by rw [Bv]
 obtain ⟨J,hJ⟩:∃J:Nat→World→Prop,J=fun k W=>∃E',aS (Xb (bk .ready)) E' ⟨tb,mK k⟩ {a with defers:= []} W:=⟨_,rfl⟩
 have hJ0:J 0 W1:=by
  rw [hJ]
  have h1:aS (Xb []) (E.pre π) ⟨tb,m⟩ {a with defers:= []} W1:=by
   have hB:Bk (Xb []).w0 w W1:=by rw [← OD];exact (Bk.new _ _ _).trans (Bk.new _ _ _)
   exact hstart.bk hB (by rw [Bv];exact Marks.nil)
  have h2:aS (Xb (bk .ready)) (E.pre π) ⟨tb,m⟩ {a with defers:= []} W1:=by
   have:=h1.KF (Gj Tq Tr)
   rw [Bv] at this ⊢
   exact this
  exact h0 _ (Gi _) _ _ ⟨_,h2⟩
 obtain ⟨Vs,cg,P9,Qa,Qb⟩:=can
 refine ⟨L, [{target:= .collected w.heap.size,args:= #[]}],W1, {target:= .fn (.func gf) #[p],args:= #[.func (.yield L) #[] #[]]},W1,gf,
  #[.func (.yield L) #[] #[],p],W1, ?_, ?_,fun _ _=>trivial, ?_,fun h=>absurd h (by simp [Fence.wide]), ?_⟩
 ·rw [← OD,zU,hL];exact run_enterLoop_outer _ _ _ _ _
 ·have Ts:a.eval (.tmp gs)= .func (.func gf) #[] #[p]:=by simpa [Act.eval] using OC
  simp only [resolve,Ts]
  simp [go_sem]
 ·have:=cL (P:=X.P) P9 Qa Qb #[.func (.yield L) #[] #[],p] W1
  simp [invoke,go_sem,this]
 ·refine (it L p J W1 ?_ hJ0).mono ?_
  ·intro k V MW
   rw [hJ] at MW
   obtain ⟨E1,HY⟩:=MW
   have FF:aL w E.z V E1.z:=by have:=HY.iy.st;rw [Bv] at this;exact this
   refine ⟨E1.z,Rd.mono FF hp,fun hkk us RQ J9=> ?_⟩
   obtain ⟨MX,R2⟩:=yf HY
   have MY:a.tmps.size=X.n:=hE.size
   have Tt:=run_yield (P:=X.P) (args:= #[.int .i64 ((rows.length - 1 - k:Nat):Int), .agg us.toArray]) MX (by rw [zU];rfl)
   obtain ⟨ar,MZ⟩:∃ar:Act,ar= {tmps:=(a.tmps.setIfInBounds p0 (.int .i64 ((rows.length - 1 - k:Nat):Int))).setIfInBounds p1 (.agg us.toArray),defers:= []} :=⟨_,rfl⟩
   have Qc:(Instr.yield L #[.int .i64 ((rows.length - 1 - k:Nat):Int), .agg us.toArray]).run X.P V= .ok (.round L fn ar.tmps assign body) V:=by
    rw [Tt,zU,MZ];simp
   refine ⟨fn,ar.tmps,assign,body,Qc,roundIn_of_wpIn trivial ?_⟩
   have hrl:(rows.getD (rows.length - 1 - k) []).length=sz:=by
    have hlt:rows.length - 1 - k<rows.length:=by omega
    rw [List.getD_eq_getElem?_getD,List.getElem?_eq_getElem hlt]
    exact hsz _ (List.getElem_mem _)
   have Tu:aS (Xb (bk .ready)) E1 ⟨(p1, .agg ((rows.getD (rows.length - 1 - k) []).map .d))::(p0, .d (.sc (.int .i64 ((rows.length - 1 - k:Nat):Int))))::tb,mK k⟩ ar V:=by
    refine HY.slots (a':=ar) ?_ (by rw [MZ]) fun q=> ?_
    ·have:(Xb (bk .ready)).n=X.n:=by rw [Bv]
     rw [MZ,this];simpa using MY
    ·rw [MZ]
     simp only
     rw [CU (by simp;omega),CU (by omega)]
     simp only [get]
     by_cases e1:p1=q
     ·rw [if_pos e1,if_pos e1]
      refine ⟨us,rfl, ?_⟩
      rw [di]
      refine ⟨by rw [List.length_map,RQ,hrl],fun i av u h1 h2=> ?_⟩
      rw [List.getElem?_map,Option.map_eq_some_iff] at h1
      obtain ⟨x,h3,rfl⟩:=h1
      exact J9 i u x h2 h3
     ·rw [if_neg e1,if_neg e1]
      by_cases e0:p0=q
      ·rw [if_pos e0,if_pos e0]
       exact .sc _ rfl
      ·rw [if_neg e0,if_neg e0]
       exact za HY q
   have IK:∀b,(Xb b).P=X.P∧(Xb b).C=X.C∧(Xb b).n=X.n:=fun b=>by rw [Bv];exact ⟨rfl,rfl,rfl⟩
   have Qd:=(hA k hkk (Xb (bk .ready)) (Gi _) (IK _).1 (IK _).2.1).run (by rw [(IK _).2.2];exact Bf) L 3 ar V ⟨_,Tu⟩
   rw [(IK _).1] at Qd
   have M0:ar= {tmps:=ar.tmps,defers:= []} :=by rw [MZ]
   rw [M0] at Qd
   refine wpIn_mono Qd ?_
   rintro e a1 V1 ⟨s1,hq1,pM⟩
   cases e with
   |normal=>
    obtain ⟨E2,HX⟩:=hq1.run _ (Gi _) _ _ pM
    obtain ⟨KG,Qe⟩:=yf HX
    have Qf:(Xb (bk .ready)).w0.heap.size≤L:=by rw [Bv,hL];simp
    have OE:=HX.IJ (b':=bk .busy) Qf KG rfl (fun x e=>by cases e) (q':= .loop (rec .busy none)) rfl (Gj (World.putObj_heap_same (Array.getElem?_eq_some_iff.1 KG).1) ((World.putObj_heap_other (by omega)).trans Qe))
    have OE:aS (Xb (bk .busy)) E2 (sA k) a1 (V1.putObj L (.loop (rec .busy none))):=by rw [Bv] at OE ⊢;exact OE
    have R3:=run_beginRound (P:=X.P) KG (by rw [zU])
    have hrb:({rec .ready none with state:= .busy} :Loop)=rec .busy none:=by rw [zU]
    rw [hrb] at R3
    refine ⟨_,R3, ?_⟩
    have R4:=(hB k hkk (Xb (bk .busy)) (Gi _) (IK _).1 (IK _).2.1).run (by rw [(IK _).2.2];exact hk2) L 3 a1 _ ⟨_,OE⟩
    rw [(IK _).1] at R4
    refine wpIn_mono R4 ?_
    rintro e a2 V2 ⟨s2,A8,uf⟩
    cases e with
    |normal=>
     obtain ⟨E4,R5⟩:=A8.run _ (Gi _) _ _ uf
     obtain ⟨KH,Qg⟩:=yf R5
     have R6:=run_endRound (P:=X.P) none KH
     have LS:({rec .busy none with state:=if (none:Option Code).isNone then .ready else .done,pending:=none} :Loop)=rec .ready none:=by rw [zU];rfl
     rw [LS] at R6
     refine ⟨_,_,R6,rfl, ?_⟩
     have Qf:(Xb (bk .busy)).w0.heap.size≤L:=by rw [Bv,hL];simp
     have M1:=R5.IJ (b':=bk .ready) Qf KH rfl (fun x e=>by cases e) (q':= .loop (rec .ready none)) rfl (Gj (World.putObj_heap_same (Array.getElem?_eq_some_iff.1 KH).1) ((World.putObj_heap_other (by omega)).trans Qg))
     have M1:aS (Xb (bk .ready)) E4 ⟨[],mK (k+1)⟩ a2 (V2.putObj L (.loop (rec .ready none))):=by rw [Bv] at M1 ⊢;exact M1
     rw [hJ]
     exact ⟨E4,M1.slots (t:=tb) (a':= {a with defers:= []}) (by rw [(IK _).2.2];exact hE.size) rfl (za M1)⟩
    |_=>exact A8.elim
   |_=>exact hq1.elim
  ·rintro e V ⟨⟨v,rfl⟩,R7⟩
   rw [hJ] at R7
   obtain ⟨E1,HY⟩:=R7
   obtain ⟨MX,R2⟩:=yf HY
   have hel:=run_endLoop (P:=X.P) MX (by rw [zU];simp)
   have hpe:(rec .ready none).pending=none:=by rw [zU]
   rw [hpe] at hel
   obtain ⟨rx,hel⟩:∃rx:Loop,(Instr.endLoop L).run X.P V= .ok none (V.putObj L (.loop rx)):=⟨_,hel⟩
   refine ⟨none,_,hel, ?_⟩
   have hpost:Post m (E.pre π) w (.tup []) (mK rows.length) (.returned (.tuple #[])) V:=by
    rw [Bv] at HY
    exact ⟨.tuple #[],E1,rfl,HY.iy,HY.good,HY.mine, [],rfl,rfl⟩
   obtain ⟨v2,E2,_,HX⟩:=hpost.back hX ho (rs:= []) (dst:=none) (fun d hd=>by cases hd) hE hmm
   refine ⟨_,hQ,E2, ?_⟩
   have Qh:=hE.iy.size
   have Vt:L<V.heap.size:=(Array.getElem?_eq_some_iff.1 MX).1
   have hne:∀D q,w.heap[D]? =some q→D≠L∧D≠w.heap.size:=fun D q hq=>by
    have:=(Array.getElem?_eq_some_iff.1 hq).1
    omega
   have HX:aS X E2 _ a V:=HX
   refine HX.bk (w':=V.putObj L (.loop rx)) (ds:= [{target:= .collected w.heap.size,args:= #[]}]++a.defers) (Bk.one (by omega) MX rfl rfl) ⟨fun d hd=> ?_, ?_,fun q hq=> ?_⟩
   ·rcases List.mem_cons.1 hd with rfl|hd
    ·exact ⟨w.heap.size,rfl,Nat.le_trans hX.lo Qh,(World.putObj_heap_other (by omega)).trans R2⟩
    ·obtain ⟨D,k1,k2,k3⟩:=HX.defers.all d hd
     obtain ⟨D',HS,_,Ki⟩:=hE.defers.all d hd
     rw [k1] at HS
     have:D=D':=by injection HS with e1 e2;injection e1
     subst this
     exact ⟨D,k1,k2,(World.putObj_heap_other (hne D _ Ki).1).trans k3⟩
   ·refine List.nodup_cons.2 ⟨fun hd=> ?_,hE.defers.nd⟩
    obtain ⟨D',HS,_,Ki⟩:=hE.defers.all _ hd
    have:w.heap.size=D':=by injection HS with e1 e2;injection e1
    exact (hne D' _ Ki).2 this.symm
   ·obtain ⟨b1,b2⟩:=HX.defers.bk q hq
    obtain ⟨_,b3⟩:=hE.defers.bk q hq
    exact ⟨b1,(World.putObj_heap_other (hne _ _ b3).1).trans b2⟩
end Go.Ab
