/- Ranges over a function: rounds, walked; the statement itself. -/
import Derived.RangeFuncCalls
import Derived.TacticsIn
import Derived.Test.YtameldglfobjkaaGreatL3P9
set_option linter.unusedSimpArgs false
set_option linter.unusedVariables false
namespace Go.Ab
section
variable {l n:Nat} {P:Program} {a:Act} {w:World}
theorem F4 {o:Oper} {K:Act→World→Prop} {Q:Exit→Act→World→Prop} (hd:∀c,o.op≠ .defer c) (h:o.wp P a w K Q):o.wpIn (Fence.wide.inRound l) n P a w K Q:=by
 refine ⟨fun f _=>trivial, ?_⟩
 rw [Oper.semAt_eq _ _ _ hd]
 unfold Oper.wp at h
 generalize (execOp a.eval o).run P w=r at h ⊢
 unfold Oper.upon at h
 unfold Oper.uponIn
 split at h
 ·exact h
 ·exact h
 ·exact h
 ·exact ⟨fun e=>absurd e (by show ¬(Fence.wide.depth.isSome=true);simp [Fence.wide]),CallsIn.inRound l (callsIn_wide.2 h)⟩
 ·refine ⟨fun e=>absurd e (by show ¬(Fence.wide.depth.isSome=true);simp [Fence.wide]),fun c cs _=> ?_⟩
  obtain ⟨v,w',r,s⟩:=h c cs
  exact ⟨v,w',r,(stepsIn_wide (P:=P)).2 s⟩
 ·exact h
 ·exact h.elim
end
structure gD (X:Ctx) (c:Code) (Q:Exit→ASt→Prop) (s:ASt):Prop where
 run:tf X.n c=true→∀l n a w,Rel X s a w→c.wpIn (Fence.wide.inRound l) n X.P (lift X Q) a w
theorem qu {X:Ctx} (hX:X.Ok) {f n:Nat} {l:List Oper} {Q:Exit→Act→World→Prop} {K:ASt→Prop} (hK:∀s a w,K s→Rel X s a w→Q .normal a w):
 ∀(r:List Oper) (s:ASt),(∀o∈r,∀d,o.dst=some d→d<X.n)→cn X X.C l r s K→∀a w,Rel X s a w→wpListIn (Fence.wide.inRound f) n X.P l.toArray Q r a w
 | [],s,_,h,a,w,hr=>hK s a w h hr
 |o::r,s,hd,h,a,w,hr=>by
  have ih:=qu hX (f:=f) (n:=n) (l:=l) hK r
  have hd':∀o∈r,∀d,o.dst=some d→d<X.n:=fun o ho=>hd o (by simp [ho])
  have run:∀s,Rel X s a w→(vcOp X X.C o s fun la=>cn X X.C l r (la.app s) K)→o.wpIn (Fence.wide.inRound f) n X.P a w (wpListIn (Fence.wide.inRound f) n X.P l.toArray Q r) Q:=by
   intro s hr h
   have cC:∀c,o.op≠ .defer c:=fun c e=>by simp only [vcOp,e] at h
   obtain ⟨la,⟨_,h1⟩,h2,h3⟩:=jq hX h
   exact F4 cC (Oper.ua (fun a' w' hr'=>ih (la.app s) hd' h3 a' w' hr') (h1 s a w (hd o (by simp)) h2 hr))
  unfold wpListIn
  unfold cn at h
  cases hgd:o.guard with
  |none=>
   simp only [hgd] at h
   rw [if_pos (by simp [Region.wanted,hgd])]
   exact run s hr h
  |some p=>
   obtain ⟨j,want⟩:=p
   simp only [hgd] at h
   split at h
   ·exact h.elim
   ·rename_i g hg
    split at h
    ·rename_i b hb
     obtain ⟨E,hE⟩:=hr
     obtain ⟨hy,hv⟩:=o4 hE hg hb
     by_cases JI:b=want
     ·subst JI
      rw [if_pos (by simp [Region.wanted,hgd,hy])]
      exact run _ ⟨E,hE.put (by rw [hv];exact cu _ rfl)⟩ (h.1 rfl)
     ·have IL:b= !want:=by cases b<;>cases want<;>simp_all
      rw [if_neg (by simp [Region.wanted,hgd,hy,JI])]
      exact ⟨fun _ _=>trivial,ih _ hd' (h.2 IL) _ _ ⟨E,(hE.put (by rw [hv,IL];exact cu _ rfl)).LH o.dst⟩⟩
    ·rename_i hb
     obtain ⟨E,hE⟩:=hr
     have hy:=mL hE hg hb
     rw [if_neg (by simp [Region.wanted,hgd,hy])]
     exact ⟨fun _ _=>trivial,ih _ hd' h _ _ ⟨E,hE.LH o.dst⟩⟩
    ·exact h.elim
section
variable {X:Ctx} {C:Cfg} {Q:Exit→ASt→Prop} {s:ASt}
theorem sH (hX:X.Ok) {id:Nat} {l:List Oper} (h:cn X X.C l l s (fun s'=>Q .normal s')):gD X (.region id l.toArray false) Q s:=by
 refine ⟨fun hc f n a w hr=> ?_⟩
 refine wpIn_region_list ?_
 exact qu hX (K:=fun s'=>Q .normal s') (Q:=lift X Q) (fun s a w hs hr=>⟨s,hs,hr⟩) l s (qe (by simpa [tf] using hc)) h a w hr
theorem JO {x y:Code} (h:gD X x (athen (fun s'=>gD X y Q s') Q) s):gD X (.seq x y) Q s:=by
 refine ⟨fun hc l n a w hr=> ?_⟩
 simp only [tf,Bool.and_eq_true] at hc
 refine wpIn_seq (wpIn_mono (h.run hc.1 l n a w hr) ?_)
 rintro e a w ⟨s,h1,h2⟩
 cases e<;>first|exact h1.run hc.2 l n a w h2|exact ⟨s,h1,h2⟩
theorem MH {c:Nat} {x y:Code} {b:Bool} (hc:get s.t c= .d (.sc (.bool b))) (h1:b=true→gD X x Q s) (h2:b=false→gD X y Q s):gD X (.cond (.tmp c) x y) Q s:=by
 refine ⟨fun hk l n a w ⟨E,hE⟩=> ?_⟩
 simp only [tf,Bool.and_eq_true] at hk
 have hv:=hE.slot c
 rw [hc] at hv
 have hv:=dK hv
 cases b with
 |true=>exact wpIn_cond_true (by simpa [Act.eval] using hv) ((h1 rfl).run hk.1 l n a w ⟨E,hE⟩)
 |false=>exact wpIn_cond_false (by simpa [Act.eval] using hv) ((h2 rfl).run hk.2 l n a w ⟨E,hE⟩)
theorem MI {id:Nat} {x:Code} (h:gD X x (ablock id Q) s):gD X (.block id x) Q s:=by
 refine ⟨fun hk l n a w hr=> ?_⟩
 refine wpIn_block (wpIn_mono (h.run hk l n a w hr) ?_)
 rintro e a w ⟨s,h1,h2⟩
 cases e with
 |exit id'=>
  simp only [Exit.inBlock,ablock] at h1 ⊢
  split
  ·rename_i hid;simp only [hid,if_true] at h1;exact ⟨s,h1,h2⟩
  ·rename_i hid;simp only [hid,if_false] at h1;exact ⟨s,h1,h2⟩
 |_=>exact ⟨s,h1,h2⟩
theorem MJ {c:Nat} {x y:Code} (h:gd (get s.t c) true (gD X x Q s) (gD X y Q s) False fun _=>False):gD X (.cond (.tmp c) x y) Q s:=by
 unfold gd at h
 split at h
 ·rename_i b hb;exact MH hb h.1 h.2
 ·exact h.elim
 ·exact h.elim
 ·exact h.elim
theorem MK (hX:X.Ok) (hC:X.C=C) {id:Nat} {l:List Oper} (h:cn X C l l s fun s'=>Q .normal s'):gD X (.region id l.toArray false) Q s:=by
 subst hC;exact sH hX h
theorem ML (hX:X.Ok) (hC:X.C=C) {id:Nat} {l:List Oper} {y:Code} (h:cn X C l l s fun s'=>gD X y Q s'):gD X (.seq (.region id l.toArray false) y) Q s:=by
 subst hC;exact JO (sH hX h)
instance PT:Rs (Q .normal s) (gD X .skip Q s):=⟨fun h=>⟨fun _ _ _ a w hr=>wpIn_skip ⟨s,h,hr⟩⟩⟩
instance PU {id:Nat} :Rs (Q (.exit id) s) (gD X (.exit id) Q s):=⟨fun h=>⟨fun _ _ _ a w hr=>wpIn_exit ⟨s,h,hr⟩⟩⟩
instance PV {c:Nat} {x y:Code} :Rs (gd (get s.t c) true (gD X x Q s) (gD X y Q s) False fun _=>False) (gD X (.cond (.tmp c) x y) Q s):=⟨MJ⟩
instance PW [h:Xc X C] {id:Nat} {l:List Oper} {y:Code} :Rn (cn X C l l s fun s'=>gD X y Q s') (gD X (.seq (.region id l.toArray false) y) Q s):=⟨ML h.ok h.eq⟩
instance PX [h:Xc X C] {id:Nat} {l:List Oper} :Rn (cn X C l l s fun s'=>Q .normal s') (gD X (.region id l.toArray false) Q s):=⟨MK h.ok h.eq⟩
instance PY {id:Nat} {x:Code} :Rn (gD X x (ablock id Q) s) (gD X (.block id x) Q s):=⟨MI⟩
instance (priority:=low) PZ {x y:Code} :Rn (gD X x (athen (fun s'=>gD X y Q s') Q) s) (gD X (.seq x y) Q s):=⟨JO⟩
end
structure TA (s1 s:ASt):Prop where
 run:∀X:Ctx,X.Ok→∀a w,Rel X s a w→Rel X s1 a w
def To (s1:ASt):Exit→ASt→Prop
 | .normal,s=>TA s1 s
 |_,_=>False
def F5 (P:Program) (gf sz:Nat) (rows:List (List D)):Prop:=
 ∀(l:Nat) (p:Value) (J:Nat→World→Prop) (W:World),
  (∀k W1,J k W1→∃z,Rd W1 z p (.pt [.sl sz rows])∧(k<rows.length→∀us:List Value,us.length=sz→
    (∀(i:Nat) (u:Value) (x:D),us[i]? =some u→(rows.getD (rows.length - 1 - k) [])[i]? =some x→Rd W1 z u x)→
    YieldAt Fence.wide 3 P l #[.int .i64 ((rows.length - 1 - k:Nat):Int), .agg us.toArray] W1 fun e W2=>e= .returned (.bool true)∧J (k+1) W2))→
  J 0 W→CallsIn Fence.wide 4 P gf #[.func (.yield l) #[] #[],p] W fun e W'=>(∃v,e= .returned v)∧J rows.length W'
section
variable {X:Ctx} {E:Env} {s:ASt} {a:Act} {w w':World}
theorem aT.KL (h:aT X E s a w) {b':List (Nat × Obj)} (hb:∀p∈b',cV p.2=true∧w.heap[p.1]? =some p.2):aT {X with bk:=b'} E s a w:=
 ⟨⟨h.defers.all,h.defers.nd,hb⟩,h.size,h.good,h.iA,h.mine,h.slot⟩
theorem aT.IW {D:Nat} {q q':Obj} (h:aT X E s a w) (h0:X.w0.heap.size≤D) (hq:w.heap[D]? =some q) (hb:cV q=true) (hl:∀x,q≠ .deferred x) (hb':cV q'=true) {b':List (Nat × Obj)}
 (hn:∀p∈b',cV p.2=true∧(w.putObj D q').heap[p.1]? =some p.2):aT {X with bk:=b'} E s a (w.putObj D q'):=by
 have h1:aT {X with bk:= []} E s a w:=h.KL (by simp)
 have h2:=h1.bk (w':=w.putObj D q') (ds:=a.defers) (Bk.one h0 hq hb hb') ⟨fun d hd=>by
  obtain ⟨D',k1,k2,k3⟩:=h.defers.all d hd
  refine ⟨D',k1,k2, ?_⟩
  rw [World.putObj_heap_other]
  ·exact k3
  ·rintro rfl;rw [hq] at k3;cases k3;exact hl _ rfl,h.defers.nd,by simp⟩
 exact aT.KL (X:= {X with bk:= []}) h2 hn
theorem aT.slots (h:aT X E s a w) {t:List (Nat × AV)} {a':Act} (hs:a'.tmps.size=X.n) (hd:a'.defers= []) (ht:∀k,cB w E (get t k) (a'.tmps.getD k undef)):aT X E ⟨t,s.m⟩ a' w:=
 ⟨⟨by rw [hd];simp,by rw [hd];exact List.nodup_nil,h.defers.bk⟩,hs,h.good,h.iA,h.mine,ht⟩
end
theorem CB {t:Array Value} {i k:Nat} {v:Value} (h:i<t.size):(t.setIfInBounds i v).getD k undef=if i=k then v else t.getD k undef:=by
 by_cases e:i=k
 ·subst e;rw [if_pos rfl];simp [Array.getD_eq_getD_getElem?,h]
 ·rw [if_neg e];simp only [Array.getD_eq_getD_getElem?,Array.getElem?_setIfInBounds_ne e]
theorem F6 {X:Ctx} (hX:X.Ok) {gs p0 p1:Nat} {assign body:Code} {Q:Exit→ASt→Prop} {s:ASt} {gf sz:Nat} {rows:List (List D)} (it:F5 X.P gf sz rows) (can:x6 X.P gf)
 (hg:get s.t gs= .fn gf [] [.d (.pt [.sl sz rows])]) (hsz:∀r∈rows,r.length=sz)
 (π:Nat→Nat) (mm m:List (Nat × AObj)) (tb:List (Nat × AV)) (mK:Nat→List (Nat × AObj)) (sA:Nat→ASt)
 (ho:Over π mm m (mK rows.length) (.tup [])) (hmm:∀p∈mm,look s.m p.1=some p.2) (mq:∀p∈m,10000≤p.1)
 (htb:∀k,(get tb k).ren π=get s.t k∨get tb k= .gG) (s5:∀k,∀l∈(get tb k).ids,bI m l≠none)
 (h0:∀X':Ctx,X'.Ok→∀a w,Rel X' ⟨tb,m⟩ a w→Rel X' ⟨tb,mK 0⟩ a w)
 (hA:∀k,k<rows.length→∀X':Ctx,X'.Ok→X'.P=X.P→X'.C=X.C→gD X' assign (To (sA k)) ⟨(p1, .agg ((rows.getD (rows.length - 1 - k) []).map .d))::(p0, .d (.sc (.int .i64 ((rows.length - 1 - k:Nat):Int))))::tb,mK k⟩)
 (hB:∀k,k<rows.length→∀X':Ctx,X'.Ok→X'.P=X.P→X'.C=X.C→gD X' body (To ⟨[],mK (k+1)⟩) (sA k))
 (hQ:Q .normal ((⟨[],mm,killM π m (mK rows.length)++killM π (mK rows.length) m,renM π (mK rows.length),none,(AV.tup []).ren π⟩:LA).app s)):
 cw X (.rangeFunc (.tmp gs) #[p0,p1] assign body) Q s:=by
 refine ⟨fun hk a w ⟨E,hE⟩=> ?_⟩
 simp only [tf,Bool.and_eq_true,List.all_cons,List.all_nil,decide_eq_true_eq] at hk
 obtain ⟨⟨hps,Bc⟩,hk2⟩:=hk
 have xT:p0<X.n:=hps.1
 have hp1:p1<X.n:=by have:=hps.2;simpa using this
 have OB:=hE.slot gs
 rw [hg] at OB
 obtain ⟨us,vs,OB,hg1,p,vs',rfl,hp,hg2⟩:=OB
 have hg1:us= []:=hg1
 have hg2:vs'= []:=hg2
 subst hg1;subst hg2
 have uA:=ho.good hE.good hmm
 obtain ⟨Xb,Bt⟩:∃Xb:List (Nat × Obj)→Ctx,Xb=fun b=>⟨X.P,X.C,X.n,m,E.pre π,w,b,w.heap.size⟩:=⟨_,rfl⟩
 have F7:∀b,(Xb b).Ok:=fun b=>by
  rw [Bt]
  exact ⟨hX.C,fun l hl=>by
   obtain ⟨o,ho'⟩:=Option.ne_none_iff_exists'.1 hl
   exact mq _ (aX (fZ (fun p hp=>(ho.pl p hp).2) ho').1),Nat.le_refl _⟩
 have hs0:∀k,cB w (E.pre π) (get tb k) (a.tmps.getD k undef):=fun k=>by
  rcases htb k with h|h
  ·rw [qf,h];exact hE.slot k
  ·rw [h];trivial
 have hstart:aT (Xb []) (E.pre π) ⟨tb,m⟩ {a with defers:= []} w:=by
  rw [Bt]
  exact ⟨Marks.nil,hE.size,uA,Ip.refl _ _ _,fun l o b hl hro hb=> .inr ⟨l,o,hl,hro,hb⟩,hs0⟩
 have Dr:∀ {b E' s' a' W},aT (Xb b) E' s' a' W→∀k,cB W E' (get tb k) (a.tmps.getD k undef):=fun {b E' s' a' W} h k=>by
  rw [Bt] at h
  exact cB.mono (live:=fun l=>bI m l≠none) ⟨h.iA.st,fun l hl=>(h.iA.HY l hl).1,fun l hl=>(h.iA.HY l hl).2⟩ (s5 k) (hs0 k)
 refine (wpIn_wide (n:=5)).1 (wpIn_rangeFunc fun fn _=> ?_)
 obtain ⟨rec,zR⟩:∃rec:LoopState→Option Code→Loop,rec=fun st pe=> {state:=st,pending:=pe,fn,tmps:=a.tmps,params:= #[p0,p1],assign,body,defers:=w.heap.size} :=⟨_,rfl⟩
 obtain ⟨W1,OC⟩:∃W1,(w.alloc (.deferred (some []))).alloc (.loop (rec .ready none))=W1:=⟨_,rfl⟩
 obtain ⟨L,hL⟩:∃L,L=w.heap.size+1:=⟨_,rfl⟩
 have P3:W1.heap[L]? =some (.loop (rec .ready none)):=by
  rw [← OC,hL];have:=World.alloc_heap_new (w.alloc (.deferred (some []))) (.loop (rec .ready none));rwa [World.size_alloc] at this
 have TB:W1.heap[w.heap.size]? =some (.deferred (some [])):=by
  rw [← OC];exact (RowKit.Below.heap_alloc _ _ _ (by simp)).trans (World.alloc_heap_new w _)
 obtain ⟨bk,hbk⟩:∃bk:LoopState→List (Nat × Obj),bk=fun st=> [(L, .loop (rec st none)),(w.heap.size, .deferred (some []))]:=⟨_,rfl⟩
 have F8:∀ {st:LoopState} {W:World},W.heap[L]? =some (.loop (rec st none))→W.heap[w.heap.size]? =some (.deferred (some []))→∀p∈bk st,cV p.2=true∧W.heap[p.1]? =some p.2:=fun {st W} h1 h2 p hp=>by
  rw [hbk] at hp
  simp only [List.mem_cons,List.not_mem_nil,or_false] at hp
  rcases hp with rfl|rfl
  ·exact ⟨rfl,h1⟩
  ·exact ⟨rfl,h2⟩
 have yc:∀ {st E' s' a' W},aT (Xb (bk st)) E' s' a' W→W.heap[L]? =some (.loop (rec st none))∧W.heap[w.heap.size]? =some (.deferred (some [])):=fun {st E' s' a' W} h=>by
  have hb:=h.defers.bk
  rw [Bt,hbk] at hb
  exact ⟨(hb (L, .loop (rec st none)) (by simp)).2,(hb (w.heap.size, .deferred (some [])) (by simp)).2⟩
 have hw0:(Xb []).w0=w:=by rw [Bt]
 obtain ⟨J,hJ⟩:∃J:Nat→World→Prop,J=fun k W=>∃E',aT (Xb (bk .ready)) E' ⟨tb,mK k⟩ {a with defers:= []} W:=⟨_,rfl⟩
 have hJ0:J 0 W1:=by
  rw [hJ]
  have h1:aT (Xb []) (E.pre π) ⟨tb,m⟩ {a with defers:= []} W1:=by
   have hB:Bk (Xb []).w0 w W1:=by rw [← OC];exact (Bk.new _ _ _).trans (Bk.new _ _ _)
   exact hstart.bk hB (by rw [Bt];exact Marks.nil)
  have h2:aT (Xb (bk .ready)) (E.pre π) ⟨tb,m⟩ {a with defers:= []} W1:=by
   have:=h1.KL (F8 P3 TB)
   rw [Bt] at this ⊢
   exact this
  exact h0 _ (F7 _) _ _ ⟨_,h2⟩
 obtain ⟨Vj,cg,P4,P5,P6⟩:=can
 refine ⟨L, [{target:= .collected w.heap.size,args:= #[]}],W1, {target:= .fn (.func gf) #[p],args:= #[.func (.yield L) #[] #[]]},W1,gf,
  #[.func (.yield L) #[] #[],p],W1, ?_, ?_,fun _ _=>trivial, ?_,fun h=>absurd h (by simp [Fence.wide]), ?_⟩
 ·rw [← OC,zR,hL];exact run_enterLoop_outer _ _ _ _ _
 ·have TC:a.eval (.tmp gs)= .func (.func gf) #[] #[p]:=by simpa [Act.eval] using OB
  simp only [resolve,TC]
  simp [go_sem]
 ·have:=cR (P:=X.P) P4 P5 P6 #[.func (.yield L) #[] #[],p] W1
  simp [invoke,go_sem,this]
 ·refine (it L p J W1 ?_ hJ0).mono ?_
  ·intro k V MM
   rw [hJ] at MM
   obtain ⟨E1,Ib⟩:=MM
   have Fs:aL w E.z V E1.z:=by have:=Ib.iA.st;rw [Bt] at this;exact this
   refine ⟨E1.z,Rd.mono Fs hp,fun hkk us R3 Kc=> ?_⟩
   obtain ⟨MN,Sb⟩:=yc Ib
   have F9:a.tmps.size=X.n:=hE.size
   have LN:=run_yield (P:=X.P) (args:= #[.int .i64 ((rows.length - 1 - k:Nat):Int), .agg us.toArray]) MN (by rw [zR];rfl)
   obtain ⟨ar,MO⟩:∃ar:Act,ar= {tmps:=(a.tmps.setIfInBounds p0 (.int .i64 ((rows.length - 1 - k:Nat):Int))).setIfInBounds p1 (.agg us.toArray),defers:= []} :=⟨_,rfl⟩
   have P7:(Instr.yield L #[.int .i64 ((rows.length - 1 - k:Nat):Int), .agg us.toArray]).run X.P V= .ok (.round L fn ar.tmps assign body) V:=by
    rw [LN,zR,MO];simp
   refine ⟨fn,ar.tmps,assign,body,P7,roundIn_of_wpIn trivial ?_⟩
   have hrl:(rows.getD (rows.length - 1 - k) []).length=sz:=by
    have hlt:rows.length - 1 - k<rows.length:=by omega
    rw [List.getD_eq_getElem?_getD,List.getElem?_eq_getElem hlt]
    exact hsz _ (List.getElem_mem _)
   have TD:aT (Xb (bk .ready)) E1 ⟨(p1, .agg ((rows.getD (rows.length - 1 - k) []).map .d))::(p0, .d (.sc (.int .i64 ((rows.length - 1 - k:Nat):Int))))::tb,mK k⟩ ar V:=by
    refine Ib.slots (a':=ar) ?_ (by rw [MO]) fun q=> ?_
    ·have:(Xb (bk .ready)).n=X.n:=by rw [Bt]
     rw [MO,this];simpa using F9
    ·rw [MO]
     simp only
     rw [CB (by simp;omega),CB (by omega)]
     simp only [get]
     by_cases e1:p1=q
     ·rw [if_pos e1,if_pos e1]
      refine ⟨us,rfl, ?_⟩
      rw [dy]
      refine ⟨by rw [List.length_map,R3,hrl],fun i av u h1 h2=> ?_⟩
      rw [List.getElem?_map,Option.map_eq_some_iff] at h1
      obtain ⟨x,h3,rfl⟩:=h1
      exact Kc i u x h2 h3
     ·rw [if_neg e1,if_neg e1]
      by_cases e0:p0=q
      ·rw [if_pos e0,if_pos e0]
       exact .sc _ rfl
      ·rw [if_neg e0,if_neg e0]
       exact Dr Ib q
   have IX:∀b,(Xb b).P=X.P∧(Xb b).C=X.C∧(Xb b).n=X.n:=fun b=>by rw [Bt];exact ⟨rfl,rfl,rfl⟩
   have P8:=(hA k hkk (Xb (bk .ready)) (F7 _) (IX _).1 (IX _).2.1).run (by rw [(IX _).2.2];exact Bc) L 3 ar V ⟨_,TD⟩
   rw [(IX _).1] at P8
   have P9:ar= {tmps:=ar.tmps,defers:= []} :=by rw [MO]
   rw [P9] at P8
   refine wpIn_mono P8 ?_
   rintro e a1 V1 ⟨s1,hq1,iQ⟩
   cases e with
   |normal=>
    obtain ⟨E2,Cy⟩:=hq1.run _ (F7 _) _ _ iQ
    obtain ⟨KM,Qa⟩:=yc Cy
    have Qb:(Xb (bk .ready)).w0.heap.size≤L:=by rw [Bt,hL];simp
    have OD:=Cy.IW (b':=bk .busy) Qb KM rfl (fun x e=>by cases e) (q':= .loop (rec .busy none)) rfl (F8 (World.putObj_heap_same (Array.getElem?_eq_some_iff.1 KM).1) ((World.putObj_heap_other (by omega)).trans Qa))
    have OD:aT (Xb (bk .busy)) E2 (sA k) a1 (V1.putObj L (.loop (rec .busy none))):=by rw [Bt] at OD ⊢;exact OD
    have LP:=run_beginRound (P:=X.P) KM (by rw [zR])
    have hrb:({rec .ready none with state:= .busy} :Loop)=rec .busy none:=by rw [zR]
    rw [hrb] at LP
    refine ⟨_,LP, ?_⟩
    have Sc:=(hB k hkk (Xb (bk .busy)) (F7 _) (IX _).1 (IX _).2.1).run (by rw [(IX _).2.2];exact hk2) L 3 a1 _ ⟨_,OD⟩
    rw [(IX _).1] at Sc
    refine wpIn_mono Sc ?_
    rintro e a2 V2 ⟨s2,CA,tg⟩
    cases e with
    |normal=>
     obtain ⟨E4,Sd⟩:=CA.run _ (F7 _) _ _ tg
     obtain ⟨KN,Qc⟩:=yc Sd
     have Se:=run_endRound (P:=X.P) none KN
     have LG:({rec .busy none with state:=if (none:Option Code).isNone then .ready else .done,pending:=none} :Loop)=rec .ready none:=by rw [zR];rfl
     rw [LG] at Se
     refine ⟨_,_,Se,rfl, ?_⟩
     have Qb:(Xb (bk .busy)).w0.heap.size≤L:=by rw [Bt,hL];simp
     have MP:=Sd.IW (b':=bk .ready) Qb KN rfl (fun x e=>by cases e) (q':= .loop (rec .ready none)) rfl (F8 (World.putObj_heap_same (Array.getElem?_eq_some_iff.1 KN).1) ((World.putObj_heap_other (by omega)).trans Qc))
     have MP:aT (Xb (bk .ready)) E4 ⟨[],mK (k+1)⟩ a2 (V2.putObj L (.loop (rec .ready none))):=by rw [Bt] at MP ⊢;exact MP
     rw [hJ]
     exact ⟨E4,MP.slots (t:=tb) (a':= {a with defers:= []}) (by rw [(IX _).2.2];exact hE.size) rfl (Dr MP)⟩
    |_=>exact CA.elim
   |_=>exact hq1.elim
  ·rintro e V ⟨⟨v,rfl⟩,Sf⟩
   rw [hJ] at Sf
   obtain ⟨E1,Ib⟩:=Sf
   obtain ⟨MN,Sb⟩:=yc Ib
   have hel:=run_endLoop (P:=X.P) MN (by rw [zR];simp)
   have hpe:(rec .ready none).pending=none:=by rw [zR]
   rw [hpe] at hel
   obtain ⟨rx,hel⟩:∃rx:Loop,(Instr.endLoop L).run X.P V= .ok none (V.putObj L (.loop rx)):=⟨_,hel⟩
   refine ⟨none,_,hel, ?_⟩
   have hpost:Post m (E.pre π) w (.tup []) (mK rows.length) (.returned (.tuple #[])) V:=by
    rw [Bt] at Ib
    exact ⟨.tuple #[],E1,rfl,Ib.iA,Ib.good,Ib.mine, [],rfl,rfl⟩
   obtain ⟨v2,E2,_,Cy⟩:=hpost.back hX ho (rs:= []) (dst:=none) (fun d hd=>by cases hd) hE hmm
   refine ⟨_,hQ,E2, ?_⟩
   have Qd:=hE.iA.size
   have Vk:L<V.heap.size:=(Array.getElem?_eq_some_iff.1 MN).1
   have hne:∀D q,w.heap[D]? =some q→D≠L∧D≠w.heap.size:=fun D q hq=>by
    have:=(Array.getElem?_eq_some_iff.1 hq).1
    omega
   have Cy:aT X E2 _ a V:=Cy
   refine Cy.bk (w':=V.putObj L (.loop rx)) (ds:= [{target:= .collected w.heap.size,args:= #[]}]++a.defers) (Bk.one (by omega) MN rfl rfl) ⟨fun d hd=> ?_, ?_,fun q hq=> ?_⟩
   ·rcases List.mem_cons.1 hd with rfl|hd
    ·exact ⟨w.heap.size,rfl,Nat.le_trans hX.lo Qd,(World.putObj_heap_other (by omega)).trans Sb⟩
    ·obtain ⟨D,k1,k2,k3⟩:=Cy.defers.all d hd
     obtain ⟨D',LD,_,Mi⟩:=hE.defers.all d hd
     rw [k1] at LD
     have:D=D':=by injection LD with e1 e2;injection e1
     subst this
     exact ⟨D,k1,k2,(World.putObj_heap_other (hne D _ Mi).1).trans k3⟩
   ·refine List.nodup_cons.2 ⟨fun hd=> ?_,hE.defers.nd⟩
    obtain ⟨D',LD,_,Mi⟩:=hE.defers.all _ hd
    have:w.heap.size=D':=by injection LD with e1 e2;injection e1
    exact (hne D' _ Mi).2 this.symm
   ·obtain ⟨b1,b2⟩:=Cy.defers.bk q hq
    obtain ⟨_,b3⟩:=hE.defers.bk q hq
    exact ⟨b1,(World.putObj_heap_other (hne _ _ b3).1).trans b2⟩
end Go.Ab
