/- Ranges over a function: rounds, walked; the statement itself. -/
import Derived.RangeFuncCalls
import Derived.TacticsIn
import Derived.Test.YtameldglfobjkaaGreatL6P12
set_option linter.unusedSimpArgs false
set_option linter.unusedVariables false
namespace Go.Ab
section
variable {l n:Nat} {P:Program} {a:Act} {w:World}
theorem O3{o:Oper}{K:Act->World->Prop}{Q:Exit->Act->World->Prop}(hd:∀c,o.op≠ .defer c)(h:o.wp P a w K Q):o.wpIn (Fence.wide.inRound l) n P a w K Q:=by
 refine⟨fun f _=>trivial, ?_⟩
 rw[Oper.semAt_eq _ _ _ hd]
 unfold Oper.wp at h
 generalize (execOp a.eval o).run P w=r at h ⊢
 unfold Oper.upon at h
 unfold Oper.uponIn
 split at h
 ·exact h
 ·exact h
 ·exact h
 ·exact⟨fun e=>absurd e (by show ¬(Fence.wide.depth.isSome=true);simp[Fence.wide]),CallsIn.inRound l (callsIn_wide.2 h)⟩
 ·refine⟨fun e=>absurd e (by show ¬(Fence.wide.depth.isSome=true);simp[Fence.wide]),fun c cs _=> ?_⟩
  obtain⟨v,w',r,s⟩:=h c cs
  exact⟨v,w',r,(stepsIn_wide (P:=P)).2 s⟩
 ·exact h
 ·exact h.elim
end
structure jf (X:Ctx) (c:Code) (Q:Exit->ASt->Prop) (s:ASt):Prop where
 run:vk X.n c=true->∀l n a w,Rel X s a w->c.wpIn (Fence.wide.inRound l) n X.P (lift X Q) a w
theorem vR{X:Ctx}(hX:X.Ok){f n:Nat}{l:List Oper}{Q:Exit->Act->World->Prop}{K:ASt->Prop}(hK:∀s a w,K s->Rel X s a w->Q .normal a w):
 ∀(r:List Oper) (s:ASt),(∀o∈r,∀d,o.dst=some d->d<X.n)->vcOps X X.C l r s K->∀a w,Rel X s a w->wpListIn (Fence.wide.inRound f) n X.P l.toArray Q r a w
 | [],s,_,h,a,w,hr=>hK s a w h hr
 |o::r,s,hd,h,a,w,hr=>by
  have ih:=vR hX (f:=f) (n:=n) (l:=l) hK r
  have hd':∀o∈r,∀d,o.dst=some d->d<X.n:=fun o ho=>hd o (by simp[ho])
  have run:∀s,Rel X s a w->(vcOp X X.C o s fun la=>vcOps X X.C l r (la.app s) K)->o.wpIn (Fence.wide.inRound f) n X.P a w (wpListIn (Fence.wide.inRound f) n X.P l.toArray Q r) Q:=by
   intro s hr h
   have bR:∀c,o.op≠ .defer c:=fun c e=>by simp only[vcOp,e]at h
   obtain⟨la,⟨_,h1⟩,h2,h3⟩:=jH hX h
   exact O3 bR (Oper.xU (fun a' w' hr'=>ih (la.app s) hd' h3 a' w' hr') (h1 s a w (hd o (by simp)) h2 hr))
  unfold wpListIn
  unfold vcOps at h
  cases hgd:o.guard with
  |none=>
   simp only[hgd]at h
   rw[ac9 (by simp[Region.wanted,hgd])]
   exact run s hr h
  |some p=>
   obtain⟨j,want⟩:=p
   simp only[hgd]at h
   split at h
   ·exact h.elim
   ·rename_i g hg
    split at h
    ·rename_i b hb
     obtain⟨E,hE⟩:=hr
     obtain⟨hy,hv⟩:=uw hE hg hb
     by_cases hbw:b=want
     ·subst hbw
      rw[ac9 (by simp[Region.wanted,hgd,hy])]
      exact run _ ⟨E,hE.put (by rw[hv];exact cQ _ rfl)⟩ (h.1 rfl)
     ·have Sh:b= !want:=by cases b<;>cases want<;>simp_all
      rw[ac7 (by simp[Region.wanted,hgd,hy,hbw])]
      exact⟨fun _ _=>trivial,ih _ hd' (h.2 Sh) _ _ ⟨E,(hE.put (by rw[hv,Sh];exact cQ _ rfl)).Wu o.dst⟩⟩
    ·rename_i hb
     obtain⟨E,hE⟩:=hr
     have hy:=qF hE hg hb
     rw[ac7 (by simp[Region.wanted,hgd,hy])]
     exact⟨fun _ _=>trivial,ih _ hd' h _ _ ⟨E,hE.Wu o.dst⟩⟩
    ·exact h.elim
section
variable {X:Ctx} {C:Cfg} {Q:Exit->ASt->Prop} {s:ASt}
theorem yQ(hX:X.Ok){id:Nat}{l:List Oper}(h:vcOps X X.C l l s (fun s'=>Q .normal s')):jf X (.region id l.toArray false) Q s:=by
 refine⟨fun hc f n a w hr=> ?_⟩
 refine wpIn_region_list ?_
 exact vR hX (K:=fun s'=>Q .normal s') (Q:=lift X Q) (fun s a w hs hr=>⟨s,hs,hr⟩) l s (qG (by simpa[vk]using hc)) h a w hr
theorem T7{x y:Code}(h:jf X x (athen (fun s'=>jf X y Q s') Q) s):jf X (.seq x y) Q s:=by
 refine⟨fun hc l n a w hr=> ?_⟩
 simp only[vk,adf]at hc
 refine wpIn_seq (wpIn_mono (h.run hc.1 l n a w hr) ?_)
 rintro e a w ⟨s,h1,h2⟩
 cases e<;>first|exact h1.run hc.2 l n a w h2|exact⟨s,h1,h2⟩
theorem XG{c:Nat}{x y:Code}{b:Bool}(hc:get s.t c= .d (.sc (.bool b)))(h1:b=true->jf X x Q s)(h2:b=false->jf X y Q s):jf X (.cond (.tmp c) x y) Q s:=by
 refine⟨fun hk l n a w ⟨E,hE⟩=> ?_⟩
 simp only[vk,adf]at hk
 have hv:=hE.slot c
 rw[hc]at hv
 have hv:=dM hv
 cases b with
 |true=>exact wpIn_cond_true (by simpa[Act.eval]using hv) ((h1 rfl).run hk.1 l n a w ⟨E,hE⟩)
 |false=>exact wpIn_cond_false (by simpa[Act.eval]using hv) ((h2 rfl).run hk.2 l n a w ⟨E,hE⟩)
theorem XH{id:Nat}{x:Code}(h:jf X x (ablock id Q) s):jf X (.block id x) Q s:=by
 refine⟨fun hk l n a w hr=> ?_⟩
 refine wpIn_block (wpIn_mono (h.run hk l n a w hr) ?_)
 rintro e a w ⟨s,h1,h2⟩
 cases e with
 |exit id'=>
  simp only[Exit.inBlock,ablock]at h1 ⊢
  split
  ·rename_i hid;simp only[hid,if_true]at h1;exact⟨s,h1,h2⟩
  ·rename_i hid;simp only[hid,if_false]at h1;exact⟨s,h1,h2⟩
 |_=>exact⟨s,h1,h2⟩
theorem XI{c:Nat}{x y:Code}(h:gd (get s.t c) true (jf X x Q s) (jf X y Q s) False fun _=>False):jf X (.cond (.tmp c) x y) Q s:=by
 unfold gd at h
 split at h
 ·rename_i b hb;exact XG hb h.1 h.2
 ·exact h.elim
 ·exact h.elim
 ·exact h.elim
theorem XJ(hX:X.Ok)(hC:X.C=C){id:Nat}{l:List Oper}(h:vcOps X C l l s fun s'=>Q .normal s'):jf X (.region id l.toArray false) Q s:=by
 subst hC;exact yQ hX h
theorem XK(hX:X.Ok)(hC:X.C=C){id:Nat}{l:List Oper}{y:Code}(h:vcOps X C l l s fun s'=>jf X y Q s'):jf X (.seq (.region id l.toArray false) y) Q s:=by
 subst hC;exact T7 (yQ hX h)
instance aay:Rs (Q .normal s) (jf X .skip Q s):=⟨fun h=>⟨fun _ _ _ a w hr=>wpIn_skip ⟨s,h,hr⟩⟩⟩
instance aaz {id:Nat} :Rs (Q (.exit id) s) (jf X (.exit id) Q s):=⟨fun h=>⟨fun _ _ _ a w hr=>wpIn_exit ⟨s,h,hr⟩⟩⟩
instance aaA {c:Nat} {x y:Code} :Rs (gd (get s.t c) true (jf X x Q s) (jf X y Q s) False fun _=>False) (jf X (.cond (.tmp c) x y) Q s):=⟨XI⟩
instance aaB {P:Program} [h:Xc X P C] {id:Nat} {l:List Oper} {y:Code} :Rn (vcOps X C l l s fun s'=>jf X y Q s') (jf X (.seq (.region id l.toArray false) y) Q s):=⟨XK h.ok h.eq⟩
instance aaC {P:Program} [h:Xc X P C] {id:Nat} {l:List Oper} :Rn (vcOps X C l l s fun s'=>Q .normal s') (jf X (.region id l.toArray false) Q s):=⟨XJ h.ok h.eq⟩
instance aaD {id:Nat} {x:Code} :Rn (jf X x (ablock id Q) s) (jf X (.block id x) Q s):=⟨XH⟩
instance (priority:=low) aaE {x y:Code} :Rn (jf X x (athen (fun s'=>jf X y Q s') Q) s) (jf X (.seq x y) Q s):=⟨T7⟩
end
structure ToI (s1 s:ASt):Prop where
 run:∀X:Ctx,X.Ok->∀a w,Rel X s a w->Rel X s1 a w
def To(s1:ASt):Exit->ASt->Prop
 | .normal,s=>ToI s1 s
 |_,_=>False
def O4(P:Program)(gf sz:Nat)(rows:List (List D)):Prop:=
 ∀(l:Nat) (p:Value) (J:Nat->World->Prop) (W:World),
  (∀k W1,J k W1->∃z,Rd W1 z p (.pt [.sl sz rows])/\(k<rows.length->∀us:List Value,us.length=sz->
    (∀(i:Nat) (u:Value) (x:D),us[i]? =some u->(rows.getD (rows.length - 1 - k) [])[i]? =some x->Rd W1 z u x)->
    YieldAt Fence.wide 3 P l #[.int .i64 ((rows.length - 1 - k:Nat):Int), .agg us.toArray] W1 fun e W2=>e= .returned (.bool true)/\J (k+1) W2))->
  J 0 W->CallsIn Fence.wide 4 P gf #[.func (.yield l) #[] #[],p] W fun e W'=>(∃v,e= .returned v)/\J rows.length W'
section
variable {X:Ctx} {E:Env} {s:ASt} {a:Act} {w w':World}
theorem bh.Vb(h:bh X E s a w){b':List (Nat × Obj)}(hb:∀p∈b',dJ p.2=true/\w.heap[p.1]? =some p.2):bh {X with bk:=b'} E s a w:=
 ⟨⟨h.defers.all,h.defers.nd,hb⟩,h.size,h.good,h.j6,h.mine,h.slot⟩
theorem bh.Su{D:Nat}{q q':Obj}(h:bh X E s a w)(h0:X.w0.heap.size<=D)(hq:w.heap[D]? =some q)(hb:dJ q=true)(hl:∀x,q≠ .deferred x)(hb':dJ q'=true){b':List (Nat × Obj)}
 (hn:∀p∈b',dJ p.2=true/\(w.putObj D q').heap[p.1]? =some p.2):bh {X with bk:=b'} E s a (w.putObj D q'):=by
 have h1:bh {X with bk:= []} E s a w:=h.Vb (by simp)
 have h2:=h1.bk (w':=w.putObj D q') (ds:=a.defers) (Bk.one h0 hq hb hb') ⟨fun d hd=>by
  obtain⟨D',k1,k2,k3⟩:=h.defers.all d hd
  refine⟨D',k1,k2, ?_⟩
  rw[World.putObj_heap_other]
  ·exact k3
  ·rintro rfl;rw[hq]at k3;cases k3;exact hl _ rfl,h.defers.nd,by simp⟩
 exact bh.Vb (X:= {X with bk:= []}) h2 hn
theorem bh.slots(h:bh X E s a w){t:List (Nat × AV)}{a':Act}(hs:a'.tmps.size=X.n)(hd:a'.defers= [])(ht:∀k,cG w E (get t k) (a'.tmps.getD k undef)):bh X E ⟨t,s.m⟩ a' w:=
 ⟨⟨by rw[hd];simp,by rw[hd];exact ae0,h.defers.bk⟩,hs,h.good,h.j6,h.mine,ht⟩
end
theorem Kz{t:Array Value}{i k:Nat}{v:Value}(h:i<t.size):(t.setIfInBounds i v).getD k undef=if i=k then v else t.getD k undef:=by
 by_cases e:i=k
 ·subst e;rw[ac9 rfl];simp[adS,h]
 ·rw[ac7 e];simp only[adS,aeZ e]
theorem O5{X:Ctx}(hX:X.Ok){gs p0 p1:Nat}{assign body:Code}{Q:Exit->ASt->Prop}{s:ASt}{gf sz:Nat}{rows:List (List D)}(it:O4 X.P gf sz rows)(can:zN X.P gf)
 (hg:get s.t gs= .fn gf [] [.d (.pt [.sl sz rows])]) (hsz:∀r∈rows,r.length=sz)
 (π:Nat->Nat) (mm m:List (Nat × AObj)) (tb:List (Nat × AV)) (mK:Nat->List (Nat × AObj)) (sA:Nat->ASt)
 (ho:Over π mm m (mK rows.length) (.tup [])) (hmm:∀p∈mm,look s.m p.1=some p.2) (nE:∀p∈m,10000<=p.1)
 (htb:∀k,(get tb k).ren π=get s.t k\/get tb k= .jA) (zw:∀k,∀l∈(get tb k).ids,bM m l≠none)
 (h0:∀X':Ctx,X'.Ok->∀a w,Rel X' ⟨tb,m⟩ a w->Rel X' ⟨tb,mK 0⟩ a w)
 (hA:∀k,k<rows.length->∀X':Ctx,X'.Ok->X'.P=X.P->X'.C=X.C->jf X' assign (To (sA k)) ⟨(p1, .agg ((rows.getD (rows.length - 1 - k) []).map .d))::(p0, .d (.sc (.int .i64 ((rows.length - 1 - k:Nat):Int))))::tb,mK k⟩)
 (hB:∀k,k<rows.length->∀X':Ctx,X'.Ok->X'.P=X.P->X'.C=X.C->jf X' body (To ⟨[],mK (k+1)⟩) (sA k))
 (hQ:Q .normal ((⟨[],mm,killM π m (mK rows.length)++killM π (mK rows.length) m,renM π (mK rows.length),none,(AV.tup []).ren π⟩:LA).app s)):
 cR X (.rangeFunc (.tmp gs) #[p0,p1] assign body) Q s:=by
 refine⟨fun hk a w ⟨E,hE⟩=> ?_⟩
 simp only[vk,adf,List.all_cons,List.all_nil,adb]at hk
 obtain⟨⟨hps,Ao⟩,hk2⟩:=hk
 have DZ:p0<X.n:=hps.1
 have hp1:p1<X.n:=by have:=hps.2;simpa using this
 have Y8:=hE.slot gs
 rw[hg]at Y8
 obtain⟨us,vs,Y8,hg1,p,vs',rfl,hp,hg2⟩:=Y8
 have hg1:us= []:=hg1
 have hg2:vs'= []:=hg2
 subst hg1;subst hg2
 have AW:=ho.good hE.good hmm
 obtain⟨Xb,Iv⟩:∃Xb:List (Nat × Obj)->Ctx,Xb=fun b=>⟨X.P,X.C,X.n,m,E.pre π,w,b,w.heap.size⟩:=⟨_,rfl⟩
 have O6:∀b,(Xb b).Ok:=fun b=>by
  rw[Iv]
  exact⟨hX.C,fun l hl=>by
   obtain⟨o,ho'⟩:=ade.1 hl
   exact nE _ (bn (fG (fun p hp=>(ho.pl p hp).2) ho').1),adg _⟩
 have hs0:∀k,cG w (E.pre π) (get tb k) (a.tmps.getD k undef):=fun k=>by
  rcases htb k with h|h
  ·rw[vv,h];exact hE.slot k
  ·rw[h];trivial
 have hstart:bh (Xb []) (E.pre π) ⟨tb,m⟩ {a with defers:= []} w:=by
  rw[Iv]
  exact⟨Marks.nil,hE.size,AW,Ob.refl _ _ _,fun l o b hl hro hb=> .inr ⟨l,o,hl,hro,hb⟩,hs0⟩
 have CR:∀ {b E' s' a' W},bh (Xb b) E' s' a' W->∀k,cG W E' (get tb k) (a.tmps.getD k undef):=fun {b E' s' a' W} h k=>by
  rw[Iv]at h
  exact cG.mono (live:=fun l=>bM m l≠none) ⟨h.j6.st,fun l hl=>(h.j6.RG l hl).1,fun l hl=>(h.j6.RG l hl).2⟩ (zw k) (hs0 k)
 refine(wpIn_wide (n:=5)).1 (wpIn_rangeFunc fun fn _=> ?_)
 obtain⟨rec,Ga⟩:∃rec:LoopState->Option Code->Loop,rec=fun st pe=> {state:=st,pending:=pe,fn,tmps:=a.tmps,params:= #[p0,p1],assign,body,defers:=w.heap.size} :=⟨_,rfl⟩
 obtain⟨W1,Vc⟩:∃W1,(w.alloc (.deferred (some []))).alloc (.loop (rec .ready none))=W1:=⟨_,rfl⟩
 obtain⟨L,hL⟩:∃L,L=w.heap.size+1:=⟨_,rfl⟩
 have hL1:W1.heap[L]? =some (.loop (rec .ready none)):=by
  rw[<- Vc,hL];have:=World.alloc_heap_new (w.alloc (.deferred (some []))) (.loop (rec .ready none));rwa [World.size_alloc]at this
 have hK1:W1.heap[w.heap.size]? =some (.deferred (some [])):=by
  rw[<- Vc];exact(RowKit.Below.heap_alloc _ _ _ (by simp)).trans (World.alloc_heap_new w _)
 obtain⟨bk,hbk⟩:∃bk:LoopState->List (Nat × Obj),bk=fun st=> [(L, .loop (rec st none)),(w.heap.size, .deferred (some []))]:=⟨_,rfl⟩
 have O7:∀ {st:LoopState} {W:World},W.heap[L]? =some (.loop (rec st none))->W.heap[w.heap.size]? =some (.deferred (some []))->∀p∈bk st,dJ p.2=true/\W.heap[p.1]? =some p.2:=fun {st W} h1 h2 p hp=>by
  rw[hbk]at hp
  simp only[adv,aen,or_false]at hp
  rcases hp with rfl|rfl
  ·exact⟨rfl,h1⟩
  ·exact⟨rfl,h2⟩
 have Eg:∀ {st E' s' a' W},bh (Xb (bk st)) E' s' a' W->W.heap[L]? =some (.loop (rec st none))/\W.heap[w.heap.size]? =some (.deferred (some [])):=fun {st E' s' a' W} h=>by
  have hb:=h.defers.bk
  rw[Iv,hbk]at hb
  exact⟨(hb (L, .loop (rec st none)) (by simp)).2,(hb (w.heap.size, .deferred (some [])) (by simp)).2⟩
 have hw0:(Xb []).w0=w:=by rw[Iv]
 obtain⟨J,hJ⟩:∃J:Nat->World->Prop,J=fun k W=>∃E',bh (Xb (bk .ready)) E' ⟨tb,mK k⟩ {a with defers:= []} W:=⟨_,rfl⟩
 have hJ0:J 0 W1:=by
  rw[hJ]
  have h1:bh (Xb []) (E.pre π) ⟨tb,m⟩ {a with defers:= []} W1:=by
   have hB:Bk (Xb []).w0 w W1:=by rw[<- Vc];exact(Bk.new _ _ _).trans (Bk.new _ _ _)
   exact hstart.bk hB (by rw[Iv];exact Marks.nil)
  have h2:bh (Xb (bk .ready)) (E.pre π) ⟨tb,m⟩ {a with defers:= []} W1:=by
   have:=h1.Vb (O7 hL1 hK1)
   rw[Iv]at this ⊢
   exact this
  exact h0 _ (O6 _) _ _ ⟨_,h2⟩
 obtain⟨fng,cg,aaF,aaG,aaH⟩:=can
 refine⟨L, [{target:= .collected w.heap.size,args:= #[]}],W1, {target:= .fn (.func gf) #[p],args:= #[.func (.yield L) #[] #[]]},W1,gf,
  #[.func (.yield L) #[] #[],p],W1, ?_, ?_,fun _ _=>trivial, ?_,fun h=>absurd h (by simp[Fence.wide]), ?_⟩
 ·rw[<- Vc,Ga,hL];exact run_enterLoop_outer _ _ _ _ _
 ·have hev:a.eval (.tmp gs)= .func (.func gf) #[] #[p]:=by simpa[Act.eval]using Y8
  simp only[resolve,hev]
  simp[go_sem]
 ·have:=dG (P:=X.P) aaF aaG aaH #[.func (.yield L) #[] #[],p] W1
  simp[invoke,go_sem,this]
 ·refine(it L p J W1 ?_ hJ0).mono ?_
  ·intro k V XL
   rw[hJ]at XL
   obtain⟨E1,RN⟩:=XL
   have Ow:aK w E.z V E1.z:=by have:=RN.j6.st;rw[Iv]at this;exact this
   refine⟨E1.z,Rd.mono Ow hp,fun hkk us hus UB=> ?_⟩
   obtain⟨XM,hVD⟩:=Eg RN
   have WB:a.tmps.size=X.n:=hE.size
   have hyl:=run_yield (P:=X.P) (args:= #[.int .i64 ((rows.length - 1 - k:Nat):Int), .agg us.toArray]) XM (by rw[Ga];rfl)
   obtain⟨ar,XN⟩:∃ar:Act,ar= {tmps:=(a.tmps.setIfInBounds p0 (.int .i64 ((rows.length - 1 - k:Nat):Int))).setIfInBounds p1 (.agg us.toArray),defers:= []} :=⟨_,rfl⟩
   have aaI:(Instr.yield L #[.int .i64 ((rows.length - 1 - k:Nat):Int), .agg us.toArray]).run X.P V= .ok (.round L fn ar.tmps assign body) V:=by
    rw[hyl,Ga,XN];simp
   refine⟨fn,ar.tmps,assign,body,aaI,roundIn_of_wpIn trivial ?_⟩
   have hrl:(rows.getD (rows.length - 1 - k) []).length=sz:=by
    have hlt:rows.length - 1 - k<rows.length:=by omega
    rw[aas,acF hlt]
    exact hsz _ (ad2 _)
   have hEr:bh (Xb (bk .ready)) E1 ⟨(p1, .agg ((rows.getD (rows.length - 1 - k) []).map .d))::(p0, .d (.sc (.int .i64 ((rows.length - 1 - k:Nat):Int))))::tb,mK k⟩ ar V:=by
    refine RN.slots (a':=ar) ?_ (by rw[XN]) fun q=> ?_
    ·have:(Xb (bk .ready)).n=X.n:=by rw[Iv]
     rw[XN,this];simpa using WB
    ·rw[XN]
     simp only
     rw[Kz (by simp;omega),Kz (by omega)]
     simp only[get]
     by_cases e1:p1=q
     ·rw[ac9 e1,ac9 e1]
      refine⟨us,rfl, ?_⟩
      rw[dW]
      refine⟨by rw[adn,hus,hrl],fun i av u h1 h2=> ?_⟩
      rw[adm,ad9]at h1
      obtain⟨x,h3,rfl⟩:=h1
      exact UB i u x h2 h3
     ·rw[ac7 e1,ac7 e1]
      by_cases e0:p0=q
      ·rw[ac9 e0,ac9 e0]
       exact .sc _ rfl
      ·rw[ac7 e0,ac7 e0]
       exact CR RN q
   have Sv:∀b,(Xb b).P=X.P/\(Xb b).C=X.C/\(Xb b).n=X.n:=fun b=>by rw[Iv];exact⟨rfl,rfl,rfl⟩
   have XO:=(hA k hkk (Xb (bk .ready)) (O6 _) (Sv _).1 (Sv _).2.1).run (by rw[(Sv _).2.2];exact Ao) L 3 ar V ⟨_,hEr⟩
   rw[(Sv _).1]at XO
   have XP:ar= {tmps:=ar.tmps,defers:= []} :=by rw[XN]
   rw[XP]at XO
   refine wpIn_mono XO ?_
   rintro e a1 V1 ⟨s1,hq1,uu⟩
   cases e with
   |normal=>
    obtain⟨E2,L8⟩:=hq1.run _ (O6 _) _ _ uu
    obtain⟨Vd,aaJ⟩:=Eg L8
    have hLw:(Xb (bk .ready)).w0.heap.size<=L:=by rw[Iv,hL];simp
    have T8:=L8.Su (b':=bk .busy) hLw Vd rfl (fun x e=>by cases e) (q':= .loop (rec .busy none)) rfl (O7 (World.putObj_heap_same (adq.1 Vd).1) ((World.putObj_heap_other (by omega)).trans aaJ))
    have T8:bh (Xb (bk .busy)) E2 (sA k) a1 (V1.putObj L (.loop (rec .busy none))):=by rw[Iv]at T8 ⊢;exact T8
    have hbr:=run_beginRound (P:=X.P) Vd (by rw[Ga])
    have hrb:({rec .ready none with state:= .busy} :Loop)=rec .busy none:=by rw[Ga]
    rw[hrb]at hbr
    refine⟨_,hbr, ?_⟩
    have hB':=(hB k hkk (Xb (bk .busy)) (O6 _) (Sv _).1 (Sv _).2.1).run (by rw[(Sv _).2.2];exact hk2) L 3 a1 _ ⟨_,T8⟩
    rw[(Sv _).1]at hB'
    refine wpIn_mono hB' ?_
    rintro e a2 V2 ⟨s2,Mb,tQ⟩
    cases e with
    |normal=>
     obtain⟨E4,hE4⟩:=Mb.run _ (O6 _) _ _ tQ
     obtain⟨Ve,aaK⟩:=Eg hE4
     have her:=run_endRound (P:=X.P) none Ve
     have Wt:({rec .busy none with state:=if(none:Option Code).isNone then .ready else .done,pending:=none} :Loop)=rec .ready none:=by rw[Ga];rfl
     rw[Wt]at her
     refine⟨_,_,her,rfl, ?_⟩
     have hLw:(Xb (bk .busy)).w0.heap.size<=L:=by rw[Iv,hL];simp
     have XQ:=hE4.Su (b':=bk .ready) hLw Ve rfl (fun x e=>by cases e) (q':= .loop (rec .ready none)) rfl (O7 (World.putObj_heap_same (adq.1 Ve).1) ((World.putObj_heap_other (by omega)).trans aaK))
     have XQ:bh (Xb (bk .ready)) E4 ⟨[],mK (k+1)⟩ a2 (V2.putObj L (.loop (rec .ready none))):=by rw[Iv]at XQ ⊢;exact XQ
     rw[hJ]
     exact⟨E4,XQ.slots (t:=tb) (a':= {a with defers:= []}) (by rw[(Sv _).2.2];exact hE.size) rfl (CR XQ)⟩
    |_=>exact Mb.elim
   |_=>exact hq1.elim
  ·rintro e V ⟨⟨v,rfl⟩,hJN⟩
   rw[hJ]at hJN
   obtain⟨E1,RN⟩:=hJN
   obtain⟨XM,hVD⟩:=Eg RN
   have hel:=run_endLoop (P:=X.P) XM (by rw[Ga];simp)
   have hpe:(rec .ready none).pending=none:=by rw[Ga]
   rw[hpe]at hel
   obtain⟨rx,hel⟩:∃rx:Loop,(Instr.endLoop L).run X.P V= .ok none (V.putObj L (.loop rx)):=⟨_,hel⟩
   refine⟨none,_,hel, ?_⟩
   have hpost:Post m (E.pre π) w (.tup []) (mK rows.length) (.returned (.tuple #[])) V:=by
    rw[Iv]at RN
    exact⟨.tuple #[],E1,rfl,RN.j6,RN.good,RN.mine, [],rfl,rfl⟩
   obtain⟨v2,E2,_,L8⟩:=hpost.back hX ho (rs:= []) (dst:=none) (fun d hd=>by cases hd) hE hmm
   refine⟨_,hQ,E2, ?_⟩
   have aaL:=hE.j6.size
   have hLt:L<V.heap.size:=(adq.1 XM).1
   have hne:∀D q,w.heap[D]? =some q->D≠L/\D≠w.heap.size:=fun D q hq=>by
    have:=(adq.1 hq).1
    omega
   have L8:bh X E2 _ a V:=L8
   refine L8.bk (w':=V.putObj L (.loop rx)) (ds:= [{target:= .collected w.heap.size,args:= #[]}]++a.defers) (Bk.one (by omega) XM rfl rfl) ⟨fun d hd=> ?_, ?_,fun q hq=> ?_⟩
   ·rcases adv.1 hd with rfl|hd
    ·exact⟨w.heap.size,rfl,aej hX.lo aaL,(World.putObj_heap_other (by omega)).trans hVD⟩
    ·obtain⟨D,k1,k2,k3⟩:=L8.defers.all d hd
     obtain⟨D',RI,_,UK⟩:=hE.defers.all d hd
     rw[k1]at RI
     have:D=D':=by injection RI with e1 e2;injection e1
     subst this
     exact⟨D,k1,k2,(World.putObj_heap_other (hne D _ UK).1).trans k3⟩
   ·refine ad5.2 ⟨fun hd=> ?_,hE.defers.nd⟩
    obtain⟨D',RI,_,UK⟩:=hE.defers.all _ hd
    have:w.heap.size=D':=by injection RI with e1 e2;injection e1
    exact(hne D' _ UK).2 this.symm
   ·obtain⟨b1,b2⟩:=L8.defers.bk q hq
    obtain⟨_,b3⟩:=hE.defers.bk q hq
    exact⟨b1,(World.putObj_heap_other (hne _ _ b3).1).trans b2⟩
end Go.Ab
