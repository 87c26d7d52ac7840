/- The plain law of PictureBent: a point more on a piece of a line. -/
import Derived.Test.YtameldglfobjkaaGreatL6P18
set_option linter.unusedSimpArgs false
set_option linter.unusedVariables false
namespace Go.Ab
theorem MI{a b c d:Pt}(hcd:c≠d)(hT:tm a b c d=0)(hne:ai a b c≠0):c8 a b c d=0:=by
 have d1:=k9 a b c d
 have PJ:∀p,iz c d p=true->p=a\/p=b->False:=fun p hp h=>by
  have h1:=(dK.1 hp).1
  have d2:=mg a b c d
  have h2:ai c d a=0/\ai c d b=0:=by rcases h with rfl|rfl<;>omega
  exact hne (x7 hcd h2.1 h2.2 pN)
 have hn:∀p,¬Cx a b c d p:=by
  rintro p (⟨h,rfl⟩|⟨h,rfl⟩|⟨h,rfl⟩|⟨h,rfl⟩)
  ·exact PJ _ h (.inl rfl)
  ·exact PJ _ h (.inr rfl)
  ·exact hne (dK.1 h).1
  ·have:=(dK.1 h).1;omega
 have hq:ai a b d=ai a b c:=by omega
 have hp:=sq_nonneg (ai a b c)
 have Ww:=afG hne hne
 unfold c8
 rw[vY hn]
 simp only[sK,v7,agP,if_false]
 rw[ac7 (fun h=>by have h:=h.1;rw[hq]at h;omega)]
def pQ(a b m:Pt):Prop:=a.1+b.1=2*m.1/\a.2+b.2=2*m.2
theorem pQ.PW{a b m:Pt}(h:pQ a b m)(c:Pt):ai a b c=2*ai a m c:=by
 obtain⟨h1,h2⟩:=h
 have e1:b.1=2*m.1 - a.1:=by omega
 have e2:b.2=2*m.2 - a.2:=by omega
 unfold ai;rw[e1,e2];grind
theorem pQ.tm{a b m:Pt}(h:pQ a b m)(c d:Pt):tm a b c d=2*tm a m c d:=by
 obtain⟨h1,h2⟩:=h
 have e1:b.1=2*m.1 - a.1:=by omega
 have e2:b.2=2*m.2 - a.2:=by omega
 unfold Go.Ab.tm;rw[e1,e2];grind
theorem pQ.Ug{a b m:Pt}(h:pQ a b m)(c d:Pt):ai c d a+ai c d b=2*ai c d m:=by
 obtain⟨h1,h2⟩:=h
 have e1:b.1=2*m.1 - a.1:=by omega
 have e2:b.2=2*m.2 - a.2:=by omega
 unfold ai;rw[e1,e2];grind
theorem pQ.along{a b m:Pt}(h:pQ a b m)(c:Pt):an a b c=2*an a m c:=by
 obtain⟨h1,h2⟩:=h
 have e1:b.1=2*m.1 - a.1:=by omega
 have e2:b.2=2*m.2 - a.2:=by omega
 unfold an;rw[e1,e2];grind
theorem pQ.Vz{a b m:Pt}(h:pQ a b m):an a b b=2*an a b m:=by
 obtain⟨h1,h2⟩:=h
 have e1:b.1=2*m.1 - a.1:=by omega
 have e2:b.2=2*m.2 - a.2:=by omega
 unfold an;rw[e1,e2];grind
theorem pQ.symm{a b m:Pt}(h:pQ a b m):pQ b a m:=⟨by rw[Int.add_comm];exact h.1,by rw[Int.add_comm];exact h.2⟩
theorem VA{u v:Int}(h:u*(u+v)<=0):u*v<=0:=by
 have h1:=sq_nonneg u
 have h2:u*(u+v)=u*u+u*v:=by grind
 omega
theorem double{u v:Int}{u' v':Int}(h:u'*v'<=0)(hu:u=2*u')(hv:v=2*v'):u*v<=0:=by
 have:u*v=4*(u'*v'):=by rw[hu,hv];grind
 omega
theorem SI{a b m c d e:Pt}(hm:pQ a b m)(hT:tm a b c d≠0)(h1:ai a b e=0)(h2:ai c d e=0)(h3:ai c d a*ai c d m<=0):iz a m e=true:=by
 rw[dK]
 have ha:=hm.PW e
 have hu:=hm.Ug c d
 have hd:=mg a b c d
 obtain⟨Cw,hm2⟩:=hm
 have kx:tm a b c d*(e.1 - a.1)=ai c d a*(b.1 - a.1):=by
  unfold ai at h1 h2 ⊢;unfold tm;grind
 have ky:tm a b c d*(e.2 - a.2)=ai c d a*(b.2 - a.2):=by
  unfold ai at h1 h2 ⊢;unfold tm;grind
 generalize hTT:tm a b c d=T at*
 generalize hU:ai c d a=u at*
 generalize hV:ai c d b=v at*
 generalize hW:ai c d m=w at*
 have main:∀(p q r x:Int),p+q=2*r->T*(x - p)=u*(q - p)->(p - x)*(r - x)<=0:=by
  intro p q r x hpq hk
  have e1:2*(T*(r - x))= -(2*w)*(q - p):=by
   have:2*(T*(r - x))=T*(q - p) - 2*(T*(x - p)):=by
    have:2*r=p+q:=hpq.symm
    grind
   rw[this,hk]
   have:T=u - v:=by omega
   rw[this]
   have:v=2*w - u:=by omega
   rw[this];grind
  have e2:(p - x)*(r - x)*(T*T)=(u*w)*((q - p)*(q - p)):=by
   have h4:T*(p - x)= -(u*(q - p)):=by rw[<- hk];grind
   have h5:T*(r - x)= -(w*(q - p)):=by
    have: -(2*w)*(q - p)=2* -(w*(q - p)):=by grind
    omega
   have:(p - x)*(r - x)*(T*T)=(T*(p - x))*(T*(r - x)):=by grind
   rw[this,h4,h5];grind
  refine cD hT ?_
  rw[e2]
  exact c9 h3
 refine⟨by omega,main _ _ _ _ Cw kx,main _ _ _ _ hm2 ky⟩
theorem MJ{a b m c d:Pt}(hab:a≠b)(hcd:c≠d)(hm:pQ a b m):
 (1<=c8 a m c d->1<=c8 a b c d)/\(2<=c8 a m c d->2<=c8 a b c d)/\∀e,c8 a b c d<=1->1<=c8 a m c d->iz a b e=true->iz c d e=true->iz a m e=true:=by
 have ham:a≠m:=fun e=>hab (by subst e;obtain⟨h1,h2⟩:=hm;ext<;>omega)
 have hac:=hm.PW c
 have had:=hm.PW d
 have Sx:=hm.tm c d
 by_cases hT:tm a b c d=0
 ·by_cases hA:ai a b c=0
  ·have hd:ai a b d=0:=by have:=k9 a b c d;omega
   have XO:ai a m c=0:=by omega
   have hd':ai a m d=0:=by omega
   have kc:=hm.along c
   have kd:=hm.along d
   have kb:=hm.Vz
   have kk:=hm.along m
   have hL:=oh hab
   have hLm:=oh ham
   rw[uL hab hcd hA hd,uL ham hcd XO hd',v8,v8,kb,kk,kc,kd]
   have h3:∀e,iz a b e=true->iz c d e=true->(0<=an a m e/\an a m e<=2*an a m m)/\(min (an a m c) (an a m d)<=an a m e/\an a m e<=max (an a m c) (an a m d))/\(an a m e<=an a m m->iz a m e=true):=by
    intro e h1 h2
    have he:=(dK.1 h1).1
    have he':ai a m e=0:=by have:=hm.PW e;omega
    have ke:=hm.along e
    have g1:=(pO hab pN x6 he).1 h1
    rw[v8,kb,kk,ke]at g1
    have g2:=(pO hab hA hd he).1 h2
    rw[kc,kd,ke]at g2
    refine⟨by omega,by omega,fun h=>(pO ham pN x6 he').2 ?_⟩
    rw[v8];omega
   generalize an a m c=x at*
   generalize an a m d=y at*
   generalize an a m m=z at*
   refine⟨fun h=> ?_,fun h=> ?_,fun e h0 h h1 h2=> ?_⟩
   ·split at h
    ·omega
    ·rw[ac7 (by omega)];split<;>omega
   ·split at h
    ·omega
    ·split at h
     ·omega
     ·rw[ac7 (by omega),ac7 (by omega)];omega
   ·obtain⟨g1,g2,g3⟩:=h3 e h1 h2
    refine g3 ?_
    split at h
    ·omega
    ·split at h0
     ·omega
     ·split at h0
      ·omega
      ·omega
  ·have h0:=MI hcd (a:=a) (b:=m) (by omega) (by omega)
   rw[h0]
   exact⟨fun h=>by omega,fun h=>by omega,fun e _ h=>by omega⟩
 ·have UC:tm a m c d≠0:=by omega
  have hu:=hm.Ug c d
  rw[kf hT,kf UC]
  have k1:ai a m c*ai a m d<=0->ai a b c*ai a b d<=0:=fun h=>double h hac had
  have k2:ai c d a*ai c d m<=0->ai c d a*ai c d b<=0:=fun h=>by
   refine VA (u:=ai c d a) (v:=ai c d b) ?_
   rw[hu]
   have:ai c d a*(2*ai c d m)=2*(ai c d a*ai c d m):=by grind
   omega
  refine⟨fun h=> ?_,fun h=> ?_,fun e _ h h1 h2=> ?_⟩
  ·split at h
   ·rename_i hh;rw[ac9 ⟨k1 hh.1,k2 hh.2⟩];omega
   ·omega
  ·split at h<;>omega
  ·split at h
   ·rename_i hh
    exact SI hm hT (dK.1 h1).1 (dK.1 h2).1 hh.2
   ·omega
theorem IY(a b c d:Pt):fF c d a b=fF a b c d:=by
 rw[jX,jX,Bg]
 by_cases h:bC a/\bC b/\bC c/\bC d
 ·rw[ac9 h,ac9 ⟨h.2.2.1,h.2.2.2,h.1,h.2.1⟩]
 ·rw[ac7 h,ac7 fun g=>h ⟨g.2.2.1,g.2.2.2,g.1,g.2.1⟩]
theorem IZ(a b c d:Pt):fF b a c d=fF a b c d:=by
 rw[jX,jX,IU]
 by_cases h:bC a/\bC b/\bC c/\bC d
 ·rw[ac9 h,ac9 ⟨h.2.1,h.1,h.2.2.1,h.2.2.2⟩]
 ·rw[ac7 h,ac7 fun g=>h ⟨g.2.1,g.1,g.2.2.1,g.2.2.2⟩]
theorem Bm(a b p:Pt):nG b a p=nG a b p:=by
 unfold nG
 rw[fV]
 congr 1
 rw[decide_eq_decide]
 exact⟨fun ⟨x,y,z⟩=>⟨y,x,z⟩,fun ⟨x,y,z⟩=>⟨y,x,z⟩⟩
theorem GB(es:List Pt)(p q:Pc):dH es q p=dH es p q:=by
 unfold dH
 rw[IY]
 congr 4
 funext x
 rw[Bool.and_comm]
theorem wk(es:List Pt)(a b:Pt)(q:Pc):dH es (b,a) q=dH es (a,b) q:=by
 unfold dH
 simp only[IZ,Bm]
theorem wm{es:List Pt}{a b m c d:Pt}(ia:bC a)(ib:bC b)(im:bC m)(ic:bC c)(id:bC d)(hab:a≠b)(hcd:c≠d)(hm:pQ a b m)(h:dH es (a,b) (c,d)=false):dH es (a,m) (c,d)=false:=by
 obtain⟨h1,h2,h3⟩:=MJ hab hcd hm
 simp only[dH,aep,adL,aeS,afE]at h ⊢
 rw[jX,ac9 ⟨ia,ib,ic,id⟩]at h
 rw[jX,ac9 ⟨ia,im,ic,id⟩]
 refine⟨by omega, ?_⟩
 by_cases hn:c8 a m c d=1
 ·right
  have hN:c8 a b c d=1:=by omega
  rcases h.2 with h4|h4
  ·exact absurd hN h4
  ·rw[adQ]at h4 ⊢
   obtain⟨e,he,h5⟩:=h4
   refine⟨e,he, ?_⟩
   simp only[nG,adf,adb]at h5 ⊢
   exact⟨⟨⟨ia,im,h5.1.1.2.2⟩,h3 e (by omega) (by omega) h5.1.2 h5.2.2⟩,h5.2⟩
 ·exact .inl hn
theorem I1{a b m p:Pt}(hm:pQ a b m)(h:iz a m p=true):iz a b p=true:=by
 rw[dK]at h ⊢
 have:=hm.PW p
 obtain⟨Cw,hm2⟩:=hm
 have key:∀(x y z w:Int),x+y=2*z->(x - w)*(z - w)<=0->(x - w)*(y - w)<=0:=by
  intro x y z w h1 h2
  have e:(x - w)*(y - w)=2*((x - w)*(z - w)) - (x - w)*(x - w):=by
   have:y=2*z - x:=by omega
   rw[this];grind
  have:=sq_nonneg (x - w)
  omega
 exact⟨by omega,key _ _ _ _ Cw h.2.1,key _ _ _ _ hm2 h.2.2⟩
theorem GC{a b m p:Pt}(ia:bC a)(ib:bC b)(hm:pQ a b m)(h:nG a b p=false):nG a m p=false:=by
 cases hq:nG a m p with
 |false=>rfl
 |true=>
  exfalso
  simp only[nG,adf,adb]at hq
  have:nG a b p=true:=by
   simp only[nG,adf,adb]
   exact⟨⟨ia,ib,hq.1.2.2⟩,I1 hm hq.2⟩
  rw[this]at h;cases h
def kM(l:List Pt)(k:Nat)(m:Pt):List Pt:=l.take (k+1)++m::l.drop (k+1)
theorem GD{l:List Pt}{k:Nat}{m:Pt}(hk:k+1<l.length):(kM l k m).length=l.length+1:=by
 simp[kM];omega
theorem wo{l:List Pt}{k:Nat}{m:Pt}(hk:k+1<l.length){j:Nat} :(kM l k m).getD j (0,0)=if j<=k then l.getD j (0,0) else if j=k+1 then m else l.getD (j - 1) (0,0):=by
 unfold kM
 rw[aas]
 by_cases h1:j<=k
 ·rw[ac9 h1,adx (by simp;omega),adD,ac9 (by omega), <- List.getD_eq_getElem?_getD]
 ·rw[ac7 h1,adw (by simp;omega)]
  have e:(l.take (k+1)).length=k+1:=by simp;omega
  rw[e]
  by_cases h2:j=k+1
  ·rw[ac9 h2,h2,ags];rfl
  ·rw[ac7 h2]
   obtain⟨r,rfl⟩:∃r,j=k+2+r:=⟨j - (k+2),by omega⟩
   rw[show k+2+r - (k+1)=r+1 from by omega,List.getElem?_cons_succ,ad3, <- List.getD_eq_getElem?_getD]
   congr 1;omega
theorem wq{l:List Pt}{q:Pc} :q∈fe l↔∃j,j+1<l.length/\q=(l.getD j (0,0),l.getD (j+1) (0,0)):=by
 simp only[fe,MC,ada,adk]
 constructor
 ·rintro⟨j,h,rfl⟩;exact⟨j,by omega,rfl⟩
 ·rintro⟨j,h,rfl⟩;exact⟨j,by omega,rfl⟩
theorem PX{l:List Pt}{k:Nat}{m:Pt}(hk:k+1<l.length){q:Pc}(h:q∈fe (kM l k m)):q∈fe l\/q=(l.getD k (0,0),m)\/q=(m,l.getD (k+1) (0,0)):=by
 obtain⟨j,hj,rfl⟩:=wq.1 h
 rw[GD hk]at hj
 rw[wo hk,wo hk]
 by_cases h1:j+1<=k
 ·left
  rw[ac9 (by omega),ac9 h1]
  exact wq.2 ⟨j,by omega,rfl⟩
 ·by_cases h2:j=k
  ·right;left
   subst h2
   rw[ac9 (by omega),ac7 (by omega),ac9 rfl]
  ·by_cases h3:j=k+1
   ·right;right
    subst h3
    rw[ac7 (by omega),ac9 rfl,ac7 (by omega),ac7 (by omega)]
    rfl
   ·left
    rw[ac7 (by omega),ac7 h3,ac7 (by omega),ac7 (by omega)]
    exact wq.2 ⟨j - 1,by omega,by rw[show j - 1+1=j+1 - 1 from by omega]⟩
theorem bU{n:Nat}{holds:Nat->Bool} :¬0<=bP n holds↔∀j,j<n->holds j=true:=by
 constructor
 ·intro h j hj
  cases hq:holds j with
  |true=>rfl
  |false=>
   exfalso
   have h1:=cT (fun i=> !holds i) (List.range n)
   have h2:(List.range n).any (fun i=> !holds i)=true:=adQ.2 ⟨j,adk.2 hj,by rw[hq];rfl⟩
   rw[h2]at h1
   exact h (aek h1)
 ·intro h
  rw[iY h];omega
structure uP (g:Gr) (d:Dr):Prop where
 fit:ga g d=true
 lg:dZ d=true
 ends:∀i,i<g.es.length->qT g d i=true
 I2:∀i,i<g.es.length->gL (d.ls.getD i [])=true
 alone:∀x,x<d.pts.length->fD d x=true
 free:∀i,i<g.es.length->kL g d i=true
 apart:∀i,i<g.es.length->fZ g d i=true
theorem GF{g:Gr}{d:Dr} :(kG g d).1=0↔uP g d:=by
 unfold kG
 constructor
 ·intro h
  split at h
  ·cases h
  rename_i h1
  split at h
  ·cases h
  rename_i h2
  split at h
  ·cases h
  rename_i h3
  split at h
  ·cases h
  rename_i h4
  split at h
  ·cases h
  rename_i h5
  split at h
  ·cases h
  rename_i h6
  split at h
  ·cases h
  rename_i h7
  exact⟨by simpa using h1,by simpa using h2,bU.1 h3,bU.1 h4,bU.1 h5,bU.1 h6,bU.1 h7⟩
 ·intro h
  rw[ac7 (by rw[h.fit];simp),ac7 (by rw[h.lg];simp),ac7 (bU.2 h.ends),ac7 (bU.2 h.I2),ac7 (bU.2 h.alone),ac7 (bU.2 h.free),ac7 (bU.2 h.apart)]
theorem PY{α:Type}{l:List α}{i j:Nat}{x d:α}(hi:i<l.length):(l.set i x).getD j d=if j=i then x else l.getD j d:=by
 rw[aas,aea]
 by_cases h:i=j
 ·subst h;rw[ac9 rfl,ac9 hi,ac9 rfl];rfl
 ·rw[ac7 h,ac7 fun e=>h e.symm,aas]
theorem uP.may{g:Gr}{d:Dr}(h:uP g d):aM g=true:=by
 have:=h.fit
 simp only[ga,adf,adb]at this
 exact Bj this.1.1
theorem uP.ok{g:Gr}{d:Dr}(h:uP g d):x8 g d:=by
 have:=h.fit
 simp only[ga,adf,adb]at this
 exact⟨h.may,this.1.2,this.2,uO h.lg⟩
theorem uP.SJ{g:Gr}{d:Dr}(h:uP g d){i:Nat}(hi:i<g.es.length):∀p∈d.ls.getD i [],bC p:=by
 intro p hp
 have h1:=h.lg
 simp only[dZ,adf,adJ]at h1
 have h2:=(adU.1 h1.2) _ (az (d:= []) (show i<d.ls.length by rw[h.ok.nl];exact hi))
 have h3:(d.ls.getD i []).any nF=false:=by
  cases hq:(d.ls.getD i []).any nF with
  |false=>rfl
  |true=>exact absurd (by simp only[jC,hq,afn]) h2
 have h4:=(adU.1 h3) p hp
 rw[sD]at h4
 simpa using h4
theorem uP.piece{g:Gr}{d:Dr}(h:uP g d){i:Nat}(hi:i<g.es.length){q:Pc}(hq:q∈fe (d.ls.getD i [])):bC q.1/\bC q.2/\q.1.2<q.2.2/\q.1≠q.2:=by
 have h1:=h.I2 i hi
 simp only[gL,adJ]at h1
 have h2:=(adU.1 h1) q hq
 simp only[adb]at h2
 obtain⟨j,hj,rfl⟩:=wq.1 hq
 refine⟨h.SJ hi _ (az (by omega)),h.SJ hi _ (az hj),by omega,fun e=> ?_⟩
 simp only at e h2
 rw[e]at h2;exact h2 (afP _)
theorem uP.bad{g:Gr}{d:Dr}(h:uP g d){i k:Nat}(hi:i<g.es.length)(hk:k<i){a b:Pc}(ha:a∈fe (d.ls.getD i []))(hb:b∈fe (d.ls.getD k [])):dH (gW g d i k) a b=false:=by
 have h1:=h.apart i hi
 simp only[fZ,jm,ad7,adk,adJ]at h1
 exact h1 k hk a ha b hb
theorem uP.acD{g:Gr}{d:Dr}(h:uP g d){i k:Nat}{m:Pt}(hi:i<g.es.length)(hk:k+1<(d.ls.getD i []).length)(hl:(d.ls.getD i []).length<=7)(hm:pQ ((d.ls.getD i []).getD k (0,0)) ((d.ls.getD i []).getD (k+1) (0,0)) m):
 uP g ⟨d.pts,d.ls.set i (kM (d.ls.getD i []) k m)⟩:=by
 have Vu:=h.ok
 have hil:i<d.ls.length:=by rw[Vu.nl];exact hi
 obtain⟨l,iF⟩:∃l,l=d.ls.getD i []:=⟨_,rfl⟩
 rw[<- iF]at hk hl hm ⊢
 have NX:(l.getD k (0,0),l.getD (k+1) (0,0))∈fe (d.ls.getD i []):=by rw[<- iF];exact wq.2 ⟨k,hk,rfl⟩
 obtain⟨ia,ib,hr,hne⟩:=h.piece hi NX
 simp only at ia ib hr hne
 generalize ha:l.getD k (0,0)=a at*
 generalize hb:l.getD (k+1) (0,0)=b at*
 have im:bC m:=by
  obtain⟨h1,h2⟩:=hm
  simp only[bC]at ia ib ⊢
  omega
 have hlen:=GD (m:=m) hk
 have vo:∀j,(d.ls.set i (kM l k m)).getD j []=if j=i then kM l k m else d.ls.getD j []:=fun j=>PY hil
 have hpc:∀j,∀q∈fe ((d.ls.set i (kM l k m)).getD j []),q∈fe (d.ls.getD j [])\/j=i/\(q=(a,m)\/q=(m,b)):=by
  intro j q hq
  rw[vo]at hq
  by_cases hji:j=i
  ·rw[ac9 hji]at hq
   rcases PX hk hq with h1|h1|h1
   ·left;rw[hji, <- iF];exact h1
   ·right;rw[ha]at h1;exact⟨hji, .inl h1⟩
   ·right;rw[hb]at h1;exact⟨hji, .inr h1⟩
  ·rw[ac7 hji]at hq;exact .inl hq
 have XX:∀(f:Pc->Bool) (j:Nat),(fe (d.ls.getD j [])).any f=false->(j=i->f (a,m)=false/\f (m,b)=false)->(fe ((d.ls.set i (kM l k m)).getD j [])).any f=false:=by
  intro f j h1 h2
  rw[adU]at h1 ⊢
  intro q hq
  rcases hpc j q hq with h3|⟨h3,h4⟩
  ·exact h1 q h3
  ·obtain⟨h5,h6⟩:=h2 h3
   rcases h4 with rfl|rfl
   ·rw[h5];simp
   ·rw[h6];simp
 refine⟨?_, ?_, ?_, ?_, ?_, ?_, ?_⟩
 ·have:=h.fit
  simpa[ga]using this
 ·have h1:=h.lg
  simp only[dZ,adf,adJ]at h1 ⊢
  refine⟨h1.1, ?_⟩
  rw[adU]
  intro x hx
  rcases agp hx with h2|h2
  ·exact(adU.1 h1.2) x h2
  ·subst h2
   have h3:(kM l k m).any nF=false:=by
    rw[adU]
    intro p hp
    have hin:bC p:=by
     unfold kM at hp
     rcases ac8.1 hp with h4|h4
     ·exact h.SJ hi p (by rw[<- iF];exact afu h4)
     ·rcases adv.1 h4 with h5|h5
      ·rw[h5];exact im
      ·exact h.SJ hi p (by rw[<- iF];exact afv h5)
    rw[sD,ac6 hin];simp
   simp only[jC,h3,afp,adK,adb]
   omega
 ·intro j hj
  have h1:=h.ends j hj
  unfold qT at h1 ⊢
  simp only[vo]
  by_cases hji:j=i
  ·subst hji
   rw[ac9 rfl]
   rw[<- iF]at h1
   have e1:(kM l k m).getD 0 (0,0)=l.getD 0 (0,0):=by rw[wo hk,ac9 (by omega)]
   have e2:(kM l k m).getD ((kM l k m).length - 1) (0,0)=l.getD (l.length - 1) (0,0):=by
    rw[hlen,wo hk,ac7 (by omega),ac7 (by omega),Nat.add_sub_cancel]
   rw[e1,e2];exact h1
  ·rw[ac7 hji];exact h1
 ·intro j hj
  have h1:=h.I2 j hj
  simp only[gL,adJ]at h1 ⊢
  refine XX _ j h1 fun _=> ?_
  obtain⟨_,h2⟩:=hm
  exact⟨ac5 (by simp only;omega),ac5 (by simp only;omega)⟩
 ·exact h.alone
 ·intro j hj
  have h1:=h.free j hj
  simp only[kL,oq,ad7,adk]at h1 ⊢
  intro x hx
  have h2:=h1 x hx
  simp only[adK,adJ]at h2 ⊢
  refine h2.imp id fun h3=> ?_
  unfold SE at h3 ⊢
  refine XX _ j h3 fun hji=> ?_
  subst hji
  have h4:=(adU.1 h3) _ NX
  have h5:nG a b (d.pts.getD x (0,0))=false:=by simpa using h4
  refine⟨GC ia ib hm h5, ?_⟩
  rw[Bm]
  exact GC ib ia hm.symm (by rw[Bm];exact h5)
 ·intro j hj
  simp only[fZ,jm,ad7,adk,adJ]
  intro s hs p hp q hq
  have hc:gW g ⟨d.pts,d.ls.set i (kM l k m)⟩ j s=gW g d j s:=rfl
  rw[hc]
  have CR:s<g.es.length:=by omega
  rcases hpc j p hp with h1|⟨h1,h2⟩
  ·rcases hpc s q hq with h3|⟨h3,h4⟩
   ·exact h.bad hj hs h1 h3
   ·subst h3
    obtain⟨ic,id,_,hcd⟩:=h.piece hj h1
    have h5:=h.bad hj hs h1 NX
    rw[GB]at h5
    rw[GB]
    obtain⟨p1,p2⟩:=p
    rcases h4 with rfl|rfl
    ·exact wm ia ib im ic id hne hcd hm h5
    ·rw[wk]
     exact wm ib ia im ic id (fun e=>hne e.symm) hcd hm.symm (by rw[wk];exact h5)
  ·subst h1
   have h3:q∈fe (d.ls.getD s []):=by
    rcases hpc s q hq with h3|⟨h3,_⟩
    ·exact h3
    ·omega
   obtain⟨ic,id,_,hcd⟩:=h.piece CR h3
   have h5:=h.bad hj hs NX h3
   obtain⟨q1,q2⟩:=q
   rcases h2 with rfl|rfl
   ·exact wm ia ib im ic id hne hcd hm h5
   ·rw[wk]
    exact wm ib ia im ic id (fun e=>hne e.symm) hcd hm.symm (by rw[wk];exact h5)
end Go.Ab
