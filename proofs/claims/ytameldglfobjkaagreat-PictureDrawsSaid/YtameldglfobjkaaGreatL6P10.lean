/- Rows of operations whose order is open: the rule. -/
import Derived.Orders
import Derived.Test.YtameldglfobjkaaGreatL6P9
set_option linter.unusedSimpArgs false
set_option linter.unusedVariables false
namespace Go.Ab
def yP(k:List Nat)(t0:List (Nat × AV)):List (Nat × AV)->List (Nat × AV)
 | []=> []
 |(i,_)::r=>if meets k (get t0 i).ids then(i,get t0 i)::yP k t0 r else yP k t0 r
def vM(k:List Nat)(m0:List (Nat × AObj)):List (Nat × AObj)->List (Nat × AObj)
 | []=> []
 |(i,_)::r=>match look m0 i with
  |some o=>if meets k o.ids then(i,o)::vM k m0 r else vM k m0 r
  |none=>vM k m0 r
def eO(la:LA)(s:ASt):Rec:=⟨la,yP (la.kill.map (·.1)) s.t s.t,vM (la.kill.map (·.1)) s.m s.m, []⟩
theorem xX{k:List Nat}{t0:List (Nat × AV)} :∀ {t:List (Nat × AV)} {p:Nat × AV},p∈yP k t0 t->p.2=get t0 p.1
 | [],p,h=>by cases h
 |(i,_)::r,p,h=>by
  simp only[yP]at h
  split at h
  ·rcases adv.1 h with rfl|h
   ·rfl
   ·exact xX h
  ·exact xX h
theorem CW{k:List Nat}{t0:List (Nat × AV)}{i x:Nat}(hx:x∈(get t0 i).ids)(hk:x∈k):∀ {t:List (Nat × AV)},get t i≠ .jA->(i,get t0 i)∈yP k t0 t
 | [],h=>absurd rfl h
 |(j,a)::r,h=>by
  simp only[get]at h
  simp only[yP]
  by_cases hji:j=i
  ·subst hji
   rw[ac9 (lT hk hx)];exact adH
  ·simp only[hji,if_false]at h
   have ih:=CW (t0:=t0) hx hk h
   split
   ·exact adz _ ih
   ·exact ih
theorem sr{k:List Nat}{m0:List (Nat × AObj)} :∀ {m:List (Nat × AObj)} {p:Nat × AObj},p∈vM k m0 m->look m0 p.1=some p.2
 | [],p,h=>by cases h
 |(i,_)::r,p,h=>by
  simp only[vM]at h
  split at h
  ·rename_i o ho
   split at h
   ·rcases adv.1 h with rfl|h
    ·exact ho
    ·exact sr h
   ·exact sr h
  ·exact sr h
theorem xY{k:List Nat}{m0:List (Nat × AObj)}{i x:Nat}{o:AObj}(ho:look m0 i=some o)(hx:x∈o.ids)(hk:x∈k):∀ {m:List (Nat × AObj)},look m i≠none->(i,o)∈vM k m0 m
 | [],h=>absurd rfl h
 |(j,a)::r,h=>by
  simp only[look]at h
  simp only[vM]
  by_cases hji:j=i
  ·subst hji
   simp only[ho]
   rw[ac9 (lT hk hx)];exact adH
  ·simp only[hji,if_false]at h
   have ih:=xY (m0:=m0) ho hx hk h
   split
   ·split
    ·exact adz _ ih
    ·exact ih
   ·exact ih
theorem Sr{t:List (Nat × AV)}{i x:Nat}(h:x∈(get t i).ids):get t i≠ .jA:=fun e=>by rw[e]at h;simp[AV.ids]at h
theorem OS{la:LA}{s:ASt}(hs:Sat la s):∀p∈(eO la s).rs,bf s p.1=p.2:=by
 intro p hp
 simp only[Rec.rs,eO,ac8,ada,aen,false_and,exists_false,or_false]at hp
 rcases hp with ⟨q,hq,rfl⟩|⟨q,hq,rfl⟩
 ·rcases hq with hq|hq
  ·simp only[bf,hs.1 q hq]
  ·simp only[bf,xX hq]
 ·rcases hq with hq|hq
  ·simp only[bf,hs.2 q hq]
  ·simp only[bf,sr hq]
theorem OU{la:LA}{s:ASt}{k:Key}(hk:k∉(eO la s).wr):bf (la.app s) k=bf s k/\∀x∈(bf s k).ids,x∉(eO la s).fm:=by
 have h2:∀x∈(bf s k).ids,x∉(eO la s).fm:=by
  intro x hx hkx
  apply hk
  have Z5:=hkx
  simp only[Rec.fm,eO]at hkx
  cases k with
  |cell l q=>
   refine ac8.2 (.inr ?_)
   simp only[bf]at hx
   split at hx
   ·rename_i hq
    obtain⟨o,ho,pE⟩:=AL hx
    rw[ho]at hx
    simp only[Rec.US,ac8,afq,ada,adk,adI]
    exact .inr ⟨(l,o),xY ho pE hkx (by simp[ho]),q,⟨hq,lT hx Z5⟩,rfl⟩
   ·simp[KV.ids]at hx
  |slot t=>
   refine ac8.2 (.inl ?_)
   simp only[Rec.xW,ac8,ada]
   exact .inl (.inl (.inl (.inr ⟨(t,get s.t t),CW hx hkx (Sr hx),rfl⟩)))
  |obj l=>
   refine ac8.2 (.inl ?_)
   simp only[Rec.xW,ac8,ada]
   simp only[bf]at hx
   cases ho:look s.m l with
   |none=>rw[ho]at hx;simp[KV.ids]at hx
   |some o=>
    rw[ho]at hx
    exact .inr ⟨(l,o),xY ho hx hkx (by simp[ho]),rfl⟩
 refine⟨?_,h2⟩
 show bf ((eO la s).la.app s) k=_
 rw[AM hk]
 exact KV.mT h2
def Eb(s s':ASt):Prop:=∀k,bf s k=bf s' k
theorem Eb.get{s s':ASt}(h:Eb s s')(t:Nat):get s.t t=get s'.t t:=by have:=h (.slot t);simpa[bf]using this
theorem Eb.look{s s':ASt}(h:Eb s s')(l:Nat):look s.m l=look s'.m l:=by have:=h (.obj l);simpa[bf]using this
theorem Eb.le{s s':ASt}(h:Eb s s'):Le s s':=⟨fun k=> .inr (h.get k),fun l o ho=>by rw[h.look];exact ho⟩
theorem Eb.app{s s':ASt}(h:Eb s s')(la:LA):Eb (la.app s) (la.app s'):=by
 intro k
 cases k with
 |slot t=>
  simp only[bf]
  congr 1
  unfold LA.app ASt.put
  split
  ·simp only[Ab.get];split
   ·rfl
   ·rw[fO,fO,h.get]
  ·simp only[fO];rw[h.get]
 |cell l q=>
  simp only[bf]
  have hm:∀s:ASt,(la.app s).m=putM la.iw (s.kill la.kill).m:=fun s=>by unfold LA.app ASt.put;split<;>rfl
  rw[hm,hm,eY,eY,gy,gy,h.look]
 |obj l=>
  simp only[bf]
  congr 1
  have hm:∀s:ASt,(la.app s).m=putM la.iw (s.kill la.kill).m:=fun s=>by unfold LA.app ASt.put;split<;>rfl
  rw[hm,hm,eY,eY,gy,gy,h.look]
def LA.gd(la:LA)(g:Nat)(want:Bool):LA:= {la with rs:=(g, .d (.sc (.bool want)))::la.rs}
def skipLA(g:Nat)(b:Bool)(dst:Option Nat):LA:=⟨[(g, .d (.sc (.bool b)))], [], [], [],dst, .tup []⟩
def skipT(g:Nat)(dst:Option Nat):LA:=⟨[(g, .tup [])], [], [], [],dst, .tup []⟩
def OV(C:Cfg)(o:Oper)(s:ASt):Option (Nat × Nat):=match o.op with
 | .load t x=>match C.T t with
   |some ⟨.st _,_,_,_⟩|some ⟨.ar _ _,_,_,_⟩=>none
   |some _=>match aev C 0 s x with
    | .ptr l q=>if q<16 then some (l,q) else none
    |_=>none
   |none=>none
 |_=>none
def xZ(C:Cfg)(o:Oper)(la:LA)(s:ASt):Rec:=match OV C o s with
 |some (l,q)=>⟨{la with ms:= []}, [], [], [(l,q,la.v)]⟩
 |none=>eO la s
def bW(X:Ctx)(C:Cfg)(l:List Oper):List Oper->ASt->List Rec->(ASt->List Rec->Prop)->Prop
 | [],s,log,K=>K s log
 |o::rest,s,log,K=>match o.guard with
  |none=>vcOp X C o s fun la=>bW X C l rest (la.app s) (xZ C o la s::log) K
  |some (j,want)=>match gslot l j with
   |none=>False
   |some g=>match get s.t g with
    | .d (.sc (.bool b))=>
      (b=want->vcOp X C o (s.put (some g) (.d (.sc (.bool want)))) fun la=>bW X C l rest (la.app (s.put (some g) (.d (.sc (.bool want))))) (eO (la.gd g want) (s.put (some g) (.d (.sc (.bool want))))::log) K)/\
      (b=(!want)->bW X C l rest ((s.put (some g) (.d (.sc (.bool (!want))))).put o.dst (.tup [])) (eO (skipLA g (!want) o.dst) (s.put (some g) (.d (.sc (.bool (!want)))))::log) K)
    | .tup []=>bW X C l rest (s.put o.dst (.tup [])) (eO (skipT g o.dst) s::log) K
    |_=>False
def L9(X:Ctx)(l:List Oper)(i:Nat)(r:Rec):Prop:=∀s a w,(∀p∈r.rs,bf s p.1=p.2)->Rel X s a w->∀(Q:Exit->Act->World->Prop) (K:Act->World->Prop),(∀a' w',Rel X (r.la.app s) a' w'->K a' w')->wpOp X.P l.toArray Q i K a w
theorem Ec{r:Rec}{s:ASt}(h:∀p∈r.rs,bf s p.1=p.2):Sat r.la s:=by
 constructor
 ·intro p hp
  have:=h (.slot p.1, .av p.2) (by simp only[Rec.rs,ac8,ada];exact .inl (.inl ⟨p, .inl hp,rfl⟩))
  simpa[bf]using this
 ·intro p hp
  have:=h (.obj p.1, .ob (some p.2)) (by simp only[Rec.rs,ac8,ada];exact .inl (.inr ⟨p, .inl hp,rfl⟩))
  simpa[bf]using this
theorem UX{C:Cfg}{s s':ASt}{x:Operand}(h:∀p∈rsOf s [x],get s'.t p.1=p.2):aev C 0 s' x=aev C 0 s x:=Kc h (by simp)
theorem OW{X:Ctx}(hX:X.Ok){o:Oper}{s:ASt}{K:LA->Prop}{l q:Nat}(DY:OV X.C o s=some (l,q))(h:vcOp X X.C o s K):
 ∃la,K la/\la.kill= []/\la.iw= []/\(∀p∈la.rs,get s.t p.1=p.2)/\bf s (.cell l q)= .av la.v/\
  ∀s' a w,(∀d,o.dst=some d->d<X.n)->(∀p∈la.rs,get s'.t p.1=p.2)->bf s' (.cell l q)= .av la.v->Rel X s' a w->o.wp X.P a w (fun a' w'=>Rel X (la.app s') a' w') W6:=by
 unfold OV at DY
 split at DY
 ·rename_i t x ho
  have hcell:∃ti,X.C.T t=some ti/\(∀(cells:List AV) (K:AV->Prop),vcLoad (some ti) cells q K=match cells[q]? with|some v=>K v|none=>False)/\aev X.C 0 s x= .ptr l q/\q<16:=by
   split at DY
   ·cases DY
   ·cases DY
   ·rename_i ti h1 h2 r8
    split at DY
    ·rename_i l' q' hx
     split at DY
     ·rename_i hq
      simp only[ady,afe]at DY
      obtain⟨rfl,rfl⟩:=DY
      refine⟨ti,r8,fun cells K=> ?_,hx,hq⟩
      obtain⟨k,sz,iu,zc⟩:=ti
      cases k with
      |st fs=>exact absurd rfl (h1 fs sz iu zc)
      |ar n e=>exact absurd rfl (h2 n e sz iu zc)
      |_=>rfl
     ·cases DY
    ·cases DY
   ·cases DY
  obtain⟨ti,r8,hvl,hx,hq⟩:=hcell
  have cond:∀(s':ASt) (v:AV),aev X.C 0 s' x= .ptr l q->bf s' (.cell l q)= .av v->∃la,aN X o la/\Sat la s'/\la.kill= []/\la.iw= []/\la.dst=o.dst/\la.v=v:=by
   intro s' v hx' hk
   simp only[bf,ac9 hq]at hk
   unfold jJ at hk
   have key:∀ob cells,look s'.m l=some ob->(ob= .box cells\/ob= .rob cells)->cells[q]? =some v->∃la,aN X o la/\Sat la s'/\la.kill= []/\la.iw= []/\la.dst=o.dst/\la.v=v:=by
    intro ob cells hl Kl hc
    have hv:vcOp X X.C o s' (fun la=>la.kill= []/\la.iw= []/\la.dst=o.dst/\la.v=v):=by
     simp only[vcOp,ho,hx',hl]
     rcases Kl with rfl|rfl
     ·simp only[r8,hvl,hc];exact⟨trivial,trivial,trivial,trivial⟩
     ·simp only[r8,hvl,hc];exact⟨trivial,trivial,trivial,trivial⟩
    exact jH hX hv
   split at hk
   ·rename_i cells hl
    split at hk
    ·rename_i v' hc
     cases hk
     exact key _ cells hl (.inl rfl) hc
    ·cases hk
   ·rename_i cells hl
    split at hk
    ·rename_i v' hc
     cases hk
     exact key _ cells hl (.inr rfl) hc
    ·cases hk
   ·cases hk
  simp only[vcOp,ho,hx]at h
  have fin:∀ob cells v,look s.m l=some ob->(ob= .box cells\/ob= .rob cells)->cells[q]? =some v->K ⟨rsOf s [x], [(l,ob)], [], [],o.dst,v⟩->∃la,K la/\la.kill= []/\la.iw= []/\(∀p∈la.rs,get s.t p.1=p.2)/\bf s (.cell l q)= .av la.v/\
   ∀s' a w,(∀d,o.dst=some d->d<X.n)->(∀p∈la.rs,get s'.t p.1=p.2)->bf s' (.cell l q)= .av la.v->Rel X s' a w->o.wp X.P a w (fun a' w'=>Rel X (la.app s') a' w') W6:=by
   intro ob cells v hl Kl hc hK
   have RH:bf s (.cell l q)= .av v:=by
    simp only[bf,ac9 hq,hl]
    rcases Kl with rfl|rfl<;>simp only[jJ,hc]
   exact⟨⟨rsOf s [x], [(l,ob)], [], [],o.dst,v⟩,hK,rfl,rfl,aH s _,RH,fun s' a w hd hs hk hr=>by
    obtain⟨la',g1,g2,g3,g4,g5,g6⟩:=cond s' v (by rw[UX hs,hx]) hk
    have e:la'.app s'=(⟨rsOf s [x], [(l,ob)], [], [],o.dst,v⟩:LA).app s':=by simp only[LA.app,g3,g4,g5,g6]
    have:=g1.2 s' a w hd g2 hr
    rwa [e]at this⟩
  split at h
  ·rename_i cells hl
   rw[r8,hvl]at h
   split at h
   ·rename_i v hc;exact fin _ cells v hl (.inl rfl) hc h
   ·exact h.elim
  ·rename_i cells hl
   rw[r8,hvl]at h
   split at h
   ·rename_i v hc;exact fin _ cells v hl (.inr rfl) hc h
   ·exact h.elim
  ·exact h.elim
 ·cases DY
theorem vN{X:Ctx}(hX:X.Ok){l:List Oper}{K:ASt->List Rec->Prop} :∀(r:List Oper) (i:Nat) (s s0:ASt) (log:List Rec),(∀j,r[j]? =l[i+j]?)->(∀o∈r,∀d,o.dst=some d->d<X.n)->Eb s0 s->bW X X.C l r s log K->
 ∃(new:List Rec) (e e':ASt),new.length=r.length/\K e (new.reverse++log)/\Eb e' e/\vH new s0 e'/\∀j q,new[j]? =some q->L9 X l (i+j) q
 | [],i,s,s0,log,_,_,he,h=>⟨[],s,s0,rfl,h,he, .nil _,fun j q hq=>by simp at hq⟩
 |o::r,i,s,s0,log,hl,hd,he,h=>by
  have ho:l[i]? =some o:=by have:=hl 0;simpa using this.symm
  have hl':∀j,r[j]? =l[i+1+j]? :=fun j=>by have:=hl (j+1);simp only[List.getElem?_cons_succ]at this;rw[this];congr 1;omega
  have hd':∀o∈r,∀d,o.dst=some d->d<X.n:=fun o ho=>hd o (by simp[ho])
  have Y7:∀(rc:Rec) (s1 s2:ASt),Eb s0 s1->Eb (rc.la.app s1) s2->(∀p∈rc.rs,bf s1 p.1=p.2)->(∀k,k∉rc.wr->bf (rc.la.app s1) k=bf s1 k/\∀x∈(bf s1 k).ids,x∉rc.fm)->L9 X l i rc->bW X X.C l r s2 (rc::log) K->
   ∃(new:List Rec) (e e':ASt),new.length=(o::r).length/\K e (new.reverse++log)/\Eb e' e/\vH new s0 e'/\∀j q,new[j]? =some q->L9 X l (i+j) q:=by
   intro rc s1 s2 h1 h2 h3 NV h4 h5
   obtain⟨new,e,e',g1,g2,g3,g4,g5⟩:=vN hX r (i+1) s2 (rc.la.app s1) (rc::log) hl' hd' h2 h5
   refine⟨rc::new,e,e',by simp[g1],by simpa using g2,g3, .cons (fun p hp=>(h1 p.1).trans (h3 p hp)) (fun k=> ?_) (fun k hk=> ?_) g4,fun j q hq=> ?_⟩
   ·exact((h1.app rc.la) k).symm
   ·obtain⟨q1,q2⟩:=NV k hk
    rw[h1 k];exact⟨q1,q2⟩
   ·cases j with
    |zero=>simp at hq;subst hq;exact h4
    |succ j=>have:=g5 j q (by simpa using hq);rw[show i+(j+1)=i+1+j from by omega];exact this
  have go:∀(la:LA) (s1 s2:ASt),Eb s0 s1->Eb (la.app s1) s2->Sat la s1->L9 X l i (eO la s1)->bW X X.C l r s2 (eO la s1::log) K->
   ∃(new:List Rec) (e e':ASt),new.length=(o::r).length/\K e (new.reverse++log)/\Eb e' e/\vH new s0 e'/\∀j q,new[j]? =some q->L9 X l (i+j) q:=by
   intro la s1 s2 h1 h2 h3 h4 h5
   exact Y7 (eO la s1) s1 s2 h1 h2 (OS h3) (fun k hk=>OU hk) h4 h5
  unfold bW at h
  cases hgd:o.guard with
  |none=>
   simp only[hgd]at h
   cases DY:OV X.C o s with
   |some lq=>
    obtain⟨lb,q⟩:=lq
    simp only[xZ,DY]at h
    obtain⟨la,h3,hk,hu,xO,hcl,hop⟩:=OW hX DY h
    have hap:∀s':ASt,({la with ms:= []} :LA).app s'=la.app s':=fun _=>rfl
    refine Y7 ⟨{la with ms:= []}, [], [], [(lb,q,la.v)]⟩ s _ he (fun _=>rfl) (fun p hp=> ?_) (fun k hk'=> ?_) (fun s' a w hs hr Q K hK=> ?_) h3
    ·simp only[Rec.rs,ad4,List.nil_append,adO,ac8,ada,adu]at hp
     rcases hp with ⟨p',Ww,rfl⟩|⟨p',rfl,rfl⟩
     ·simp only[bf];rw[xO p' Ww]
     ·exact hcl
    ·have:=AM (s:=s) hk'
     rw[this]
     have Z6:(⟨{la with ms:= []}, [], [], [(lb,q,la.v)]⟩:Rec).fm= []:=by simp[Rec.fm,hk]
     refine⟨KV.mT fun x _ hx=> ?_,fun x _ hx=> ?_⟩
     ·simp[hk]at hx
     ·rw[Z6]at hx;cases hx
    ·unfold wpOp
     rw[show l.toArray[i]? =some o from by simpa using ho]
     simp only
     rw[ac9 (by simp[Region.wanted,hgd])]
     refine .inl (Oper.xU hK (hop s' a w (hd o (by simp)) (fun p hp=> ?_) ?_ hr))
     ·have:=hs (.slot p.1, .av p.2) (by simp only[Rec.rs,ac8,ada];exact .inl (.inl ⟨p, .inl hp,rfl⟩))
      simpa[bf]using this
     ·exact hs (.cell lb q, .av la.v) (by simp[Rec.rs])
   |none=>
   simp only[xZ,DY]at h
   obtain⟨la,h1,h2,h3⟩:=jH hX h
   refine go la s _ he (fun _=>rfl) h2 (fun s' a w hs hr Q K hK=> ?_) h3
   unfold wpOp
   rw[show l.toArray[i]? =some o from by simpa using ho]
   simp only
   rw[ac9 (by simp[Region.wanted,hgd])]
   exact .inl (Oper.xU hK (h1.2 s' a w (hd o (by simp)) (Ec hs) hr))
  |some p=>
   obtain⟨j,want⟩:=p
   simp only[hgd]at h
   split at h
   ·exact h.elim
   ·rename_i g hg
    split at h
    ·rename_i b hb
     have hput:∀v,b=v->Eb s0 (s.put (some g) (.d (.sc (.bool v)))):=by
      intro v hv k
      rw[he k]
      cases k with
      |slot t=>
       simp only[bf,ASt.put,get]
       split
       ·rename_i ht;subst ht;rw[hb,hv]
       ·rfl
      |obj t=>rfl
      |cell t q=>rfl
     have T6:∀ {s':ASt} {a:Act} {w:World} {v:Bool},get s'.t g= .d (.sc (.bool v))->Rel X s' a w->yielded l.toArray a.tmps j=some v:=by
      rintro s' a w v hv ⟨E,hE⟩
      exact(uw hE hg hv).1
     by_cases hbw:b=want
     ·obtain⟨la,h1,h2,h3⟩:=jH hX (h.1 hbw)
      have jI:Sat (la.gd g want) (s.put (some g) (.d (.sc (.bool want)))):=⟨fun p hp=>by
       simp only[LA.gd]at hp
       rcases adv.1 hp with rfl|hp
       ·simp[ASt.put,get]
       ·exact h2.1 p hp,h2.2⟩
      refine go (la.gd g want) _ _ (hput want hbw) (fun _=>rfl) jI (fun s' a w hs hr Q K hK=> ?_) h3
      have hs':=Ec hs
      have hg':get s'.t g= .d (.sc (.bool want)):=hs'.1 (g, .d (.sc (.bool want))) (by simp[eO,LA.gd])
      unfold wpOp
      rw[show l.toArray[i]? =some o from by simpa using ho]
      simp only
      rw[ac9 (by simp[Region.wanted,hgd,T6 hg' hr])]
      exact .inl (Oper.xU hK (h1.2 s' a w (hd o (by simp)) ⟨fun p hp=>hs'.1 p (by simp only[eO,LA.gd];exact adz _ hp),hs'.2⟩ hr))
     ·have Sh:b= !want:=by cases b<;>cases want<;>simp_all
      refine go (skipLA g (!want) o.dst) _ _ (hput _ Sh) (fun k=> ?_) ⟨fun p hp=>by
       simp only[skipLA,adu]at hp
       subst hp;simp[ASt.put,get],fun p hp=>by simp[skipLA]at hp⟩ (fun s' a w hs hr Q K hK=> ?_) (h.2 Sh)
      ·rfl
      ·have hs':=Ec hs
       have hg':get s'.t g= .d (.sc (.bool (!want))):=hs'.1 (g, .d (.sc (.bool (!want)))) (by simp[eO,skipLA])
       unfold wpOp
       rw[show l.toArray[i]? =some o from by simpa using ho]
       simp only
       rw[ac7 (by simp[Region.wanted,hgd,T6 hg' hr])]
       obtain⟨E,hE⟩:=hr
       exact hK _ _ ⟨E,hE.Wu o.dst⟩
    ·rename_i hb
     refine go (skipT g o.dst) s _ he (fun k=>rfl) ⟨fun p hp=>by
      simp only[skipT,adu]at hp
      subst hp;exact hb,fun p hp=>by simp[skipT]at hp⟩ (fun s' a w hs hr Q K hK=> ?_) h
     have hs':=Ec hs
     have hg':get s'.t g= .tup []:=hs'.1 (g, .tup []) (by simp[eO,skipT])
     obtain⟨E,hE⟩:=hr
     have hy:=qF hE hg hg'
     unfold wpOp
     rw[show l.toArray[i]? =some o from by simpa using ho]
     simp only
     rw[ac7 (by simp[Region.wanted,hgd,hy])]
     exact hK _ _ ⟨E,hE.Wu o.dst⟩
    ·exact h.elim
theorem Iu{l:List Oper}{listed:Array Bool}(hsz:listed.size=l.length)(Kv:∀(j:Nat) o,l[j]? =some o->∀e∈o.after.toList,Region.binds .any e=true->e.on<j)
 (h:Region.ready .any l.toArray listed= []):∀i,i<l.length->listed.getD i false=true:=by
 intro i
 induction i using Nat.strongRecOn with
 |_ i ih=>
  intro hi
  cases hq:listed.getD i false with
  |true=>rfl
  |false=>
   exfalso
   have hi':i<listed.size:=by omega
   have hmem:i∈Region.ready .any l.toArray listed:=by
    unfold Region.ready
    rw[adI]
    refine⟨by simpa using hi, ?_⟩
    have h1:listed.getD i true=false:=by
     simp only[adS,adX hi']at hq ⊢
     simpa using hq
    have h2:l.toArray[i]? =some l[i]:=by simp[hi]
    rw[h1,h2]
    simp only[afs,Option.map_some,Option.getD_some,aeo]
    rw[<- Array.all_toList,ad7]
    intro e he
    cases hb:Region.binds .any e with
    |false=>rfl
    |true=>
     have hlt:=Kv i l[i] (acF hi) e he hb
     simp only[aet,aeK]
     exact ih e.on hlt (by omega)
   rw[h]at hmem;cases hmem
theorem Ma{X:Ctx}{l:List Oper}{log:List Rec}{s0 e:ASt}{Q:Exit->Act->World->Prop}(Sq:AA l log=true)(hch:vH log s0 e)(hop:∀j q,log[j]? =some q->L9 X l j q)
 (hQ:∀a w,Rel X e a w->Q .normal a w) {a:Act} {w:World} (hr:Rel X s0 a w):wpAny X.P .any l.toArray Q l.toArray.size (Array.replicate l.toArray.size false) a w:=by
 obtain⟨st,h0,hend,hst⟩:=hch.states
 obtain⟨hlen,hcl,Kv⟩:=FX Sq
 have main:∀(fuel:Nat) (listed:Array Bool) (s:ASt) (a:Act) (w:World),listed.size=l.length->((List.range l.length).countP fun i=> !listed.getD i false)<=fuel->
  Inv log st (fun k=>k<l.length/\listed.getD k false=true) s->(∀i j o,(j<l.length/\listed.getD j false=true)->l[j]? =some o->nP o i=true->(i<l.length/\listed.getD i false=true))->Rel X s a w->
  wpAny X.P .any l.toArray Q fuel listed a w:=by
  have fin:∀(listed:Array Bool) (s:ASt) (a:Act) (w:World),listed.size=l.length->Region.ready .any l.toArray listed= []->Inv log st (fun k=>k<l.length/\listed.getD k false=true) s->Rel X s a w->Q .normal a w:=by
   intro listed s a w hsz hnil hinv hr
   have hall:=Iu hsz Kv hnil
   refine hQ a w (hr.le (Eb.le fun k=> ?_))
   have:=hinv log.length (adg _) (fun h=>by omega) k (bf (st log.length) k) (.inr ⟨rfl,rfl⟩) (fun j hj hn=>absurd ⟨by omega,hall j (by omega)⟩ hn)
   rw[this,hend]
  intro fuel
  induction fuel with
  |zero=>
   intro listed s a w hsz UY hinv hD hr
   have hnil:Region.ready .any l.toArray listed= []:=by
    rw[ae7]
    intro i hi
    unfold Region.ready at hi
    rw[adI]at hi
    obtain⟨h1,h2⟩:=hi
    simp only[adf]at h2
    have hil:i<l.length:=by simpa using h1
    have h3:listed.getD i false=false:=by
     have NU:=h2.1
     simp only[adS,adX (show i<listed.size by omega)]at NU ⊢
     simpa using NU
    have hpos:0<(List.range l.length).countP fun i=> !listed.getD i false:=by
     rw[af0]
     exact⟨i,by simpa using hil,by rw[h3];rfl⟩
    omega
   exact⟨hnil,fin listed s a w hsz hnil hinv hr⟩
  |succ fuel ih=>
   intro listed s a w hsz UY hinv hD hr
   refine⟨fun hnil=>fin listed s a w hsz hnil hinv hr,fun i hi=> ?_⟩
   unfold Region.ready at hi
   rw[adI]at hi
   obtain⟨h1,h2⟩:=hi
   have hil:i<l.length:=by simpa using h1
   simp only[adf]at h2
   obtain⟨h2,h3⟩:=h2
   have hnl:listed.getD i false=false:=by
    simp only[adS,adX (show i<listed.size by omega)]at h2 ⊢
    simpa using h2
   have Wx:l[i]? =some l[i]:=acF hil
   have Z7:l.toArray[i]? =some l[i]:=by simp[hil]
   rw[Z7]at h3
   simp only[Option.map_some,Option.getD_some]at h3
   rw[<- Array.all_toList,ad7]at h3
   have lU:∀j,nP l[i] j=true->(j<l.length/\listed.getD j false=true):=by
    intro j hj
    unfold nP at hj
    rw[adQ]at hj
    obtain⟨e,he,hb⟩:=hj
    simp only[adf,beq_iff_eq]at hb
    obtain⟨hb,rfl⟩:=hb
    have:=h3 e he
    simp only[hb,aet,aeK]at this
    exact⟨by have:=Kv i _ Wx e he hb;omega,this⟩
   have Cr:log[i]? =some log[i]:=acF (by omega)
   obtain⟨jI,hinv'⟩:=OQ Sq hst hinv hD Cr Wx (fun h=>by rw[hnl]at h;exact absurd h.2 (by simp)) lU
   refine hop i _ Cr s a w jI hr Q _ fun a' w' hr'=> ?_
   have fR:∀k,(listed.setIfInBounds i true).getD k false=true↔(listed.getD k false=true\/k=i):=by
    intro k
    by_cases hki:i=k
    ·subst hki
     simp[adS,show i<listed.size by omega]
    ·simp only[adS,aeZ hki]
     constructor
     ·exact .inl
     ·rintro(h|h)
      ·exact h
      ·exact absurd h.symm hki
   refine ih _ _ a' w' (by simp[hsz]) ?_ ?_ ?_ hr'
   ·
    have AQ:((List.range l.length).countP fun k=> !(listed.setIfInBounds i true).getD k false)<((List.range l.length).countP fun k=> !listed.getD k false):=by
     have:∀(L:List Nat),i∈L->(L.countP fun k=> !(listed.setIfInBounds i true).getD k false)<(L.countP fun k=> !listed.getD k false):=by
      intro L
      have hle:∀(L:List Nat),(L.countP fun k=> !(listed.setIfInBounds i true).getD k false)<=(L.countP fun k=> !listed.getD k false):=by
       intro L
       apply List.countP_mono_left
       intro k _ hk
       cases hq:listed.getD k false with
       |false=>rfl
       |true=>have:=(fR k).2 (.inl hq);rw[this]at hk;simp at hk
      induction L with
      |nil=>intro h;cases h
      |cons k L ihL=>
       intro hm
       simp only[afT]
       have hle':=hle L
       by_cases hki:k=i
       ·subst hki
        have h4:(listed.setIfInBounds k true).getD k false=true:=(fR k).2 (.inr rfl)
        rw[h4,hnl]
        simp only[aet,afs,if_true,aec,if_false]
        omega
       ·have hm':i∈L:=by rcases adv.1 hm with h|h;exact absurd h.symm hki;exact h
        have:=ihL hm'
        have h5:(listed.setIfInBounds i true).getD k false=listed.getD k false:=by
         cases hq:listed.getD k false with
         |true=>exact(fR k).2 (.inl hq)
         |false=>
          cases Mb:(listed.setIfInBounds i true).getD k false with
          |false=>rfl
          |true=>rcases(fR k).1 Mb with h|h;rw[hq]at h;cases h;exact absurd h hki
        rw[h5];omega
     exact this _ (by simpa using hil)
    omega
   ·intro k hk bR key v yO hC
    refine hinv' k hk (fun h=>bR ?_) key v yO (fun j hj Wy r hr=>hC j hj (fun h=>Wy ?_) r hr)
    ·rcases h with h|h
     ·exact⟨h.1,(fR k).2 (.inl h.2)⟩
     ·exact⟨by omega,(fR k).2 (.inr h)⟩
    ·rcases(fR j).1 h.2 with h'|h'
     ·exact .inl ⟨h.1,h'⟩
     ·exact .inr h'
   ·intro q j o hj ho he
    rcases(fR j).1 hj.2 with h|h
    ·obtain⟨g1,g2⟩:=hD q j o ⟨hj.1,h⟩ ho he
     exact⟨g1,(fR q).2 (.inl g2)⟩
    ·subst h
     rw[Wx]at ho;cases ho
     obtain⟨g1,g2⟩:=lU q he
     exact⟨g1,(fR q).2 (.inl g2)⟩
 refine main _ _ s0 a w (by simp) ?_ ?_ ?_ hr
 ·simp only[aed]
  exact aej aeQ (by simp)
 ·intro k hk bR key v yO hC
  have hnot:∀j,¬(j<l.length/\(Array.replicate l.toArray.size false).getD j false=true):=by
   rintro j ⟨h1,h2⟩
   simp[adS,h1]at h2
  have:∀d,d<=k->bf (st d) key=bf (st 0) key:=by
   intro d
   induction d with
   |zero=>intro _;rfl
   |succ d ih=>
    intro hd
    rw[<- ih (by omega)]
    have hdl:d<log.length:=by omega
    exact((hst d _ (acF hdl)).2.2 key (hC d (by omega) (hnot d) _ (acF hdl))).1
  rw[<- h0, <- this k (adg _)]
  rcases yO with ⟨r,hr,hin⟩|⟨_,hv⟩
  ·exact(hst k r hr).1 _ hin
  ·exact hv.symm
 ·rintro i j o ⟨h1,h2⟩
  simp[adS,h1]at h2
theorem bh.drawn{X:Ctx}{E:Env}{s:ASt}{a:Act}{w:World}(h:bh X E s a w){n:Nat} :bh X E s a {w with drawn:=n} :=by
 have hst:aK w E.z {w with drawn:=n} E.z:=fun b=>⟨adg _,fun o _=>rfl⟩
 refine⟨⟨h.defers.all,h.defers.nd,h.defers.bk⟩,h.size,⟨h.good.low,h.good.inj,fun l o hl=> ?_,h.good.fresh⟩,⟨h.j6.os,h.j6.tape,h.j6.output,h.j6.size,h.j6.st.trans hst,h.j6.frame,h.j6.RG⟩,h.mine,fun k=> ?_⟩
 ·have:=bF.keep (k:= []) hst (fun _ _=>⟨rfl,rfl⟩) (fun l x hl=>by simp[kl]at hl) rfl (fun _ _=>rfl) (fun b _=>⟨rfl,rfl⟩) (h.good.gw l o hl)
  rwa [AObj.mR]at this
 ·exact cG.mono (live:=fun _=>True) ⟨hst,fun _ _=>rfl,fun _ _=>rfl⟩ (fun _ _=>trivial) (h.slot k)
section
variable {X:Ctx} {Q:Exit->ASt->Prop} {s:ASt}
theorem FZ(hX:X.Ok)(hm:X.P.follows .mixedOrders=true){id:Nat}{l:List Oper}(h:bW X X.C l l s [] (fun s' log=>AA l log.reverse=true/\Q .normal s')):cR X (.region id l.toArray true) Q s:=by
 refine⟨fun hc a w hr=> ?_⟩
 obtain⟨new,e,e',h1,⟨h2,h3⟩,h4,h5,h6⟩:=vN hX l 0 s s [] (fun j=>by rw[adT]) (qG (by simpa[vk]using hc)) (fun _=>rfl) h
 simp only[ad4,agk]at h2
 refine wp_region_any hm (Ma (X:=X) h2 h5 (fun j q hq=>by have:=h6 j q hq;rwa [adT]at this) (fun a w hr=>⟨e,h3,hr.le h4.le⟩) ?_)
 obtain⟨E,hE⟩:=hr
 exact⟨E,hE.drawn⟩
end
end Go.Ab
