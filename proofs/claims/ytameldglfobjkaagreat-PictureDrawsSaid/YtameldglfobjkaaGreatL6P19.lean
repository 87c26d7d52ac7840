/- A part of the proof. -/
import Derived.RangeFuncBox
import Derived.RangeFuncLeaves
import Derived.Shelf.Abstract
import Derived.WalkKit
import Derived.OwnWalkIn
import Derived.TacticsInMore
import Derived.LoopNIn
import Derived.LoopIn
import Derived.Test.YtameldglfobjkaaGreatL6P18
set_option linter.unusedSimpArgs false
set_option linter.unusedVariables false
section
set_option maxRecDepth 10000
namespace Go.Ab
open Go.Proofs
section
variable {g:Gr} {p:Pl} (h:aG g p)
include h
theorem DH{f:Fr}(hi:Bx g f){A C:List Int}{x:Int}(hW:(ef f.row).map (·.1)=A++(aP g p).ins x++C)(hI:(aP g p).ins x≠ [])(N5:x∉f.pl):
 au g f x=true/\fN g x/\aV g x≠0/\∃a X c,ef f.row=a++X++c/\a.map (·.1)=A/\X.map (·.1)=(aP g p).ins x/\c.map (·.1)=C/\gv x a/\gv x c/\zD x X/\X≠ []:=by
 have hm:=ah h.1
 have hx:fN g x:=adm fun h0=>hI (nh h0)
 have bR:((ef f.row).map (·.1)).Nodup:=QE hi
 rw[gR hx]at hW hI ⊢
 obtain⟨i1,i2⟩:=er h hx
 rw[hW]at bR
 obtain⟨l1,c,e1,e2,e3⟩:=af9.1 hW
 obtain⟨a,X,e4,e5,e6⟩:=af9.1 e2
 have hrow:ef f.row=a++X++c:=by rw[e1,e4]
 have hit:∀t∈a++X++c,(0<=t.1/\t.1<g.es.length)/\t.2.1=bt g t.1/\t.2.2=bA g t.1:=fun t ht=>xu hm hi.tofL (by rw[hrow];exact ht)
 have hX:zD x X:=fun t ht=>by
  have h1:t.1∈dP g p x:=by rw[<- e6];exact aeP ht
  rw[(hit t (by simp[ht])).2.2,((i2 _).1 h1).2]
 have hin:∀t∈a++X++c,t.2.2=x->t.1∈dP g p x:=fun t ht e=>by
  obtain⟨h1,_,h3⟩:=hit t ht
  exact(i2 _).2 ⟨h1,by rw[<- h3,e]⟩
 have ha:gv x a:=fun t ht e=>by
  have h1:=hin t (by simp[ht]) e
  have h2:t.1∈A:=by rw[<- e5];exact aeP ht
  exact(adu.1 (adu.1 bR).1).2.2 _ h2 _ h1 rfl
 have Um:gv x c:=fun t ht e=>by
  have h1:=hin t (by simp[ht]) e
  have h2:t.1∈C:=by rw[<- e3];exact aeP ht
  exact(adu.1 bR).2.2 _ (ac9.2 (.inr h1)) _ h2 rfl
 have Uk:X.length=aV g x:=by rw[<- jt h hx, <- e6,ado]
 have nX:X≠ []:=fun h0=>hI (by rw[<- e6,h0];rfl)
 have hR:=BU hm hi.tofL hx.1 hx.2 N5 hrow ha Um hX nX Uk
 have hn:aV g x≠0:=fun h0=>nX (adF (Uk.trans h0))
 exact⟨hR,hx,hn,a,X,c,hrow,e5,e6,e3,ha,Um,hX,nX⟩
theorem JT{f:Fr}(hi:Bx g f){k:Nat}(hc:ud g p (k+1) f)(hlen:(f.pl.length:Int)+(k+1:Nat)=g.n){A C:List Int}{x:Int}(hW:(ef f.row).map (·.1)=A++(aP g p).ins x++C)(hI:(aP g p).ins x≠ [])(N5:x∉f.pl)(hs:aq p 0∈f.pl)
 (hno:∀z,(aP g p).ins z≠ []->¬(aP g p).ins z<:+:A):ee g f false=x:=by
 have hm:=ah h.1
 obtain⟨hR,hx,hn,a,X,c,hrow,e5,e6,e3,ha,Um,hX,nX⟩:=DH h hi hW hI N5
 unfold ee kz
 simp only[aed,if_false]
 cases hf:f.row.find? (fun t=>au g f t.2.2) with
 |none=>
  exfalso
  obtain⟨t,X',rfl⟩:∃t X',X=t::X':=by
   cases X with
   |nil=>exact absurd rfl nX
   |cons t X'=>exact⟨t,X',rfl⟩
  have h1:t∈f.row:=(eX.1 (by rw[hrow];simp)).1
  have h2:=List.find?_eq_none.1 hf t h1
  rw[hX t (by simp)]at h2
  exact h2 hR
 |some t=>
  show t.2.2=x
  obtain⟨ht,l,r,hlr,hl⟩:=List.find?_eq_some_iff_append.1 hf
  refine adm fun hzx=> ?_
  have hz:=aF ht
  have QO:0<=t.1:=by
   have:=(hi.it t (by rw[hlr];simp)).head hm
   exact this.1.2 (by omega)
  have hed:ef f.row=ef l++t::ef r:=by rw[hlr,kR];simp[ef,QO]
  have YF:∀s∈ef l,s.2.2≠x:=fun s hs e=>by
   have:=hl s (eX.1 hs).1
   rw[e,hR]at this;cases this
  have RU:t∈a:=by
   have he:ef l++t::ef r=a++(X++c):=by rw[<- hed,hrow,adO]
   rcases ae9.1 he with ⟨q,h1,h2⟩|⟨q,h1,h2⟩
   ·cases q with
    |nil=>
     exfalso
     cases X with
     |nil=>exact nX rfl
     |cons u X'=>
      have:t=u:=by simpa using(af5 h2).1
      exact hzx (this ▸ hX u (by simp))
    |cons u q=>
     have:t=u:=(af5 h2).1
     rw[h1,this];simp
   ·cases q with
    |nil=>
     exfalso
     cases X with
     |nil=>exact nX rfl
     |cons u X'=>
      have:u=t:=by simpa using(af5 h2).1
      exact hzx (this ▸ hX u (by simp))
    |cons u q=>
     exfalso
     cases X with
     |nil=>exact nX rfl
     |cons u' X'=>
      have:u'=u:=(af5 h2).1
      exact YF u (by rw[h1];simp) (this ▸ hX u' (by simp))
  have hnz:aV g t.2.2≠0:=fun h0=>by
   have:=gB h.1 (x:=t.2.2) (y:=aq p 0) ⟨hz.1,hz.2.1⟩ (hi.lg _ hs) h0 (gE h)
   exact hz.2.2 (this ▸ hs)
  obtain⟨b,d,g1,g2,g3,g4,g5,_⟩:=xq hm hi.tofL ht hnz (bE p t.2.2)
  have St:(ef (aC g f t.2.2 (bE p t.2.2)).1.1).map (·.1)=(aP g p).ins t.2.2:=by
   rw[gR ⟨hz.1,hz.2.1⟩];exact(s5 h.1 h.2.1 hi hlen hc ht).1
  generalize ef (aC g f t.2.2 (bE p t.2.2)).1.1=Y at g1 g4 g5 St
  have nY:Y≠ []:=fun h0=>hnz (by rw[<- g5,h0];rfl)
  have hYa:Y<:+:a:=by
   have he:b++(Y++d)=a++(X++c):=by rw[<- List.append_assoc, <- g1,hrow,adO]
   rcases ae9.1 he with ⟨q,h1,h2⟩|⟨q,h1,h2⟩
   ·rcases ae9.1 h2 with ⟨q2,h3,h4⟩|⟨q2,h3,h4⟩
    ·exact⟨b,q2,by rw[h1,h3,adO]⟩
    ·cases q2 with
     |nil=>exact⟨b, [],by rw[h1,h3];simp⟩
     |cons u q2=>
      exfalso
      cases X with
      |nil=>exact nX rfl
      |cons u' X'=>
       have e1:u'=u:=(af5 h4).1
       have h5:=g4 u (by rw[h3];simp)
       exact hzx (by rw[<- h5, <- e1];exact hX u' (by simp))
   ·exfalso
    exact g2 t (by rw[h1];simp[RU]) rfl
  refine hno t.2.2 (fun h0=>nY (by rw[<- St]at h0;simpa using h0)) ?_
  rw[<- St, <- e5]
  obtain⟨u,v,huv⟩:=hYa
  exact⟨u.map (·.1),v.map (·.1),by rw[<- huv];simp⟩
theorem DI:∀ {k:Nat},k<=g.n.toNat->ud g p (g.n.toNat - k) (aY g p false k)
 |0,_=>yw h (k:=0) (by omega)
 |k+1,hk=>by
  have ih:=DI (k:=k) (by omega)
  obtain⟨h1,h2,_,_⟩:=gZ h false (k:=k) (by omega)
  have hR:=(pW h false (k:=k) (by omega)).1
  rw[show g.n.toNat - k=(g.n.toNat - (k+1))+1 by omega]at ih
  exact(s5 h.1 h.2.1 h1 (by omega) ih hR).2
variable (hI:q8 g=true)
include hI
theorem Cb:∀ {j:Nat},j<=g.es.length->∃k,1<=k/\k<=g.n.toNat/\(aY g p false k).pl=((aP g p).st j).D/\(ef (aY g p false k).row).map (·.1)=((aP g p).st j).A++((aP g p).st j).B
 |0,_=>by
  have hm:=ah h.1
  have hn:=aB hm
  have hq:=sY h false
  have h0:=aD h.2.1 (k:=0) (by omega)
  have NY:=aD hq.2.1 (k:=0) (by omega)
  have he:aq (⟨iL g p false,p.outs⟩:Pl) 0=aq p 0:=gB h.1 NY h0 (gE hq) (gE h)
  have hp:ee g (aY g p false 0) false=aq p 0:=by
   rw[<- he]
   show _=(iL g p false).getD 0 0
   rw[iL,aas,adn,adq (by omega)];rfl
  have hw:aY g p false 1=fK g p 1:=by
   show w9 g p (aY g p false 0) (ee g (aY g p false 0) false)=_
   rw[hp];rfl
  refine⟨1,by omega,by omega, ?_, ?_⟩
  ·rw[hw];rfl
  ·have:=QU h (by omega)
   unfold WK at this
   rw[hw,this]
   show _= []++(aP g p).outs (aq p 0)
   rw[eo h0];rfl
 |j+1,hj=>by
  have hm:=ah h.1
  obtain⟨k,k1,k2,k3,k4⟩:=Cb (j:=j) (by omega)
  have hok:=nj h hI
  obtain⟨B,hB,hc⟩:=mX hok (j:=j) (by show j<g.es.length;omega)
  rcases hc with ⟨A',h1,h2,h3⟩|⟨h1,h3⟩
  rotate_left
  ·refine⟨k,k1,k2,by rw[h3];exact k3, ?_⟩
   rw[h3,k4,hB];simp
  obtain⟨i1,i2,_,_⟩:=gZ h false (k:=k) k2
  have hinv:=(aP g p).inv hok j (by show j<=g.es.length;omega)
  have hW:(ef (aY g p false k).row).map (·.1)=A'++(aP g p).ins ((aP g p).hd ((aP g p).sh j))++B:=by rw[k4,hB, <- h1];simp
  have N5:(aP g p).hd ((aP g p).sh j)∉(aY g p false k).pl:=by
   rw[k3]
   obtain⟨r,hr⟩:=pV hok (j:=j) (by show j<=g.es.length;omega)
   exact((hok.eW hr ((aP g p).sh j)).1 (by rw[hB];simp)).2.2
  obtain⟨hR,hx,hn,a,X,c,hrow,e5,e6,e3,ha,Um,hX,nX⟩:=DH h i1 hW h2 N5
  have hkn:k<g.n.toNat:=by
   refine adm fun hge=>N5 ?_
   exact jQ i1.tofL (by omega) hx
  have hcmp:=DI h (k:=k) k2
  rw[show g.n.toNat - k=(g.n.toNat - k - 1)+1 by omega]at hcmp
  have hsrc:aq p 0∈(aY g p false k).pl:=by
   rw[k3]
   obtain⟨r,hr⟩:=pV hok (j:=j) (by show j<=g.es.length;omega)
   exact hok.wX hr
  have hpk:=JT h i1 hcmp (by omega) hW h2 N5 hsrc fun z hz hA=>hinv.no z hz (by
   obtain⟨u,w,ZB⟩:=hA
   rcases afu ((aP g p).ins ((aP g p).hd ((aP g p).sh j))) with g0|⟨I',b,g0⟩
   ·exact absurd g0 h2
   ·rw[g0,agi, <- List.append_assoc]at h1
    have h5:=(afY h1 rfl).1
    exact⟨u,w++I',by rw[h5, <- ZB];simp⟩)
  have px:=aW h.2.1 hx.1 hx.2
  refine⟨k+1,by omega,by omega, ?_, ?_⟩
  ·show(aY g p false k).pl++ [ee g (aY g p false k) false]=_
   rw[hpk,k3,h3]
  ·show(ef (aC g (aY g p false k) (ee g (aY g p false k) false) (bE p (ee g (aY g p false k) false))).2.row).map (·.1)=_
   rw[hpk,E6 hm i1.tofL hR hn hrow ha Um hX nX (bE p _),h3,adt,adt,e5,e3,jT (fun i hi=>by
    have:=aX.1 (px.mem_iff.1 hi);exact this.1.1),aeF,eo hx]
   have e7:((fun t:It=>t.1) ∘ gM g ((aP g p).hd ((aP g p).sh j)))=id:=rfl
   rw[e7,agF,adO]
end
theorem Tj{g:Gr}{p:Pl}(h:aG g p)(x:Int):(aP g (cZ p)).ins x=((aP g p).ins x).reverse:=by
 by_cases hx:fN g x
 ·obtain⟨k,hk,rfl⟩:=cq h.2.1 hx.1 hx.2
  rw[gR hx,gR hx,ni h hk]
  have h2:=ni (xd h) hk
  have e1:aq (cZ p) k=aq p k:=rfl
  rw[e1]at h2
  rw[h2]
  have g1:pZ g p (fK g p k) (aq p k)=(ef (cB g p k)).map (·.1):=rfl
  have g2:pZ g (cZ p) (fK g (cZ p) k) (aq p k)=(ef (cB g (cZ p) k)).map (·.1):=rfl
  rw[g1,g2,Qm h hk]
  unfold ef
  rw[List.filter_reverse,List.map_reverse]
 ·rw[nh hx,nh hx];rfl
theorem HC{g:Gr}{p:Pl}(x:Int):(aP g (cZ p)).outs x=((aP g p).outs x).reverse:=by
 by_cases hx:fN g x
 ·rw[eo hx,eo hx,pY]
 ·rw[oM hx,oM hx];rfl
theorem zk{P Q:PS}{L R:Int->Int}{f0 f1:Int}{low:Int->Int}(h1:∀x,P.outs x=Q.outs x)(h2:∀x,P.ins x=Q.ins x)(h3:P.src=Q.src)(F:P.fM L R f0 f1 low):Q.fM L R f0 f1 low:=
 {ne:=F.ne
  kQ:=fun {x u a b v} e=>F.kQ ((h1 x).trans e)
  uV:=fun {x u a b v} e=>F.uV ((h2 x).trans e)
  fst:=fun {x a u b v} e1 e2=>F.fst ((h2 x).trans e1) ((h1 x).trans e2)
  GM:=fun {x a u b v} e1 e2=>F.GM ((h2 x).trans e1) ((h1 x).trans e2)
  s0:=fun {b v} e=>F.s0 ((h1 _).trans (h3 ▸ e))
  s1:=fun {b v} e=>F.s1 ((h1 _).trans (h3 ▸ e))
  new:=fun {x u a b v} e=>F.new ((h1 x).trans e)
  new1:=fun {x u a b v u' a' b' v'} e1 e2 e3=>F.new1 ((h1 x).trans e1) ((h1 x).trans e2) e3}
theorem DJ{g:Gr}{p:Pl}(h:aG g p)(hI:q8 g=true):(aP g p).fM (Rf g (cZ p)) (Lf g (cZ p)) (cN g (cZ p)) 0 (loF g (cZ p)):=by
 have F:=eA (xd h) hI
 have ok:=nj h hI
 have F1:(aP g p).Di.fM (Lf g (cZ p)) (Rf g (cZ p)) 0 (cN g (cZ p)) (loF g (cZ p)):=zk HC (Tj h) rfl F
 exact zk (P:=(aP g p).Di.Di) (fun x=>agl _) (fun x=>agl _) rfl (F1.Di ok.Di)
def jy(g:Gr)(p:Pl)(rev:Bool)(v:Int):Int:=(gl g p rev g.n.toNat).getD v.toNat 0
theorem Lv{P Q:PS}{A B:Int->Int}{x y:Int}(hm:P.m=Q.m)(hp:P.Lp A B x y):Q.Lp A B x y:=by
 induction hp with
 |refl=>exact .refl
 | @step e _ he ih=>exact .step ih ⟨he.1,by have:=he.2;rw[hm]at this;exact this⟩
theorem Lw{P Q:PS}{A B:Int->Int}{x y:Int}(hm:P.m=Q.m)(hp:P.Lp A B x y):Q.Lp B A y x:=by
 induction hp with
 |refl=>exact .refl
 | @step e _ he ih=>exact PS.Lp.trans (PS.Lp.step (L:=B) (R:=A) (e:=e) .refl ⟨he.1,by have:=he.2;rw[hm]at this;exact this⟩) ih
section
variable {g:Gr} {p:Pl} (h:aG g p)
include h
theorem oS(rev:Bool){v:Int}(hv:fN g v):∃i:Nat,i<g.n.toNat/\(iL g p rev).getD i 0=v/\jy g p rev v=i:=by
 have hm:v∈iL g p rev:=(M6 h rev).mem_iff.2 (cE.2 (by have:=hv.1;have:=hv.2;omega))
 obtain⟨i,hi,e⟩:=ads.1 hm
 have hl:(iL g p rev).length=g.n.toNat:=GZ
 have e2:(iL g p rev).getD i 0=v:=by rw[aas,acF hi];exact e
 refine⟨i,by omega,e2, ?_⟩
 have:=KU h rev (k:=g.n.toNat) (adh _) i (by omega)
 rw[e2]at this
 exact this
theorem nu(rev:Bool){a b:Int}(ha:fN g a)(hb:fN g b)(e:jy g p rev a=jy g p rev b):a=b:=by
 obtain⟨i,h1,h2,h3⟩:=oS h rev ha
 obtain⟨j,g1,g2,g3⟩:=oS h rev hb
 have:i=j:=by omega
 rw[<- h2, <- g2,this]
variable (hI:q8 g=true)
include hI
theorem YG{v:Int}(hv:fN g v):v∈((aP g p).st (aP g p).m).D:=by
 have ok:=nj h hI
 by_cases hs:v=aq p 0
 ·have:=JS ok (j:=0) (x:=v) (d:=(aP g p).m) (by omega) (by
   show v∈ [aq p 0]
   rw[hs];simp)
  rwa [adU]at this
 ·have hn:aV g v≠0:=fun h0=>hs (gB h.1 hv (aD h.2.1 (by have:=aB (ah h.1);omega)) h0 (gE h))
  have hl:=jt h hv
  obtain⟨a,u,hu⟩:=jZ (l:=dP g p v) (fun h0=>by rw[h0]at hl;exact hn hl.symm)
  obtain⟨h1,h2⟩:=(ok.cz v a).1 (by rw[gR hv,hu];simp)
  have:=B0 ok (eA h hI) h1
  rwa [h2]at this
theorem mG{a b:Int}(ha:fN g a)(hb:fN g b)(hlt:jy g p false a<jy g p false b):(aP g p).Zz a b:=by
 have ok:=nj h hI
 have hn:=aB (ah h.1)
 obtain⟨ia,a1,a2,a3⟩:=oS h false ha
 obtain⟨ib,b1,b2,b3⟩:=oS h false hb
 have dI:∀k,k<=g.n.toNat->(aY g p false k).pl=(iL g p false).take k:=fun k hk=>by
  rw[ET,iL, <- List.map_take,List.take_range,agr hk]
 have hl:(iL g p false).length=g.n.toNat:=GZ
 have bR:(iL g p false).Nodup:=cF (sY h false).2.1
 have hidx:∀i k,i<g.n.toNat->k<=g.n.toNat->(iL g p false).getD i 0∈(iL g p false).take k->i<k:=fun i k hi hk hm=>by
  obtain⟨j,hj,e⟩:=ads.1 hm
  rw[adH]at hj
  rw[aga,aas,acF (by omega)]at e
  have:=(agm bR).1 e
  omega
 by_cases hs:a=aq p 0
 ·refine⟨0,afC _, ?_,fun hb2=> ?_⟩
  ·show a∈ [aq p 0]
   rw[hs];simp
  ·have hb2:b∈ [aq p 0]:=hb2
   have:b=a:=by rw[hs];simpa using hb2
   rw[this]at hlt;omega
 ·obtain⟨i,A',B,k1,k2,k3,k4,k5,k6,k7⟩:=s9 ok (eA h hI) (show a≠(aP g p).src from hs) (adh _) (YG h hI ha)
  refine⟨i+1,k1,by rw[k7];simp,fun hb2=> ?_⟩
  obtain⟨k,g1,g2,g3,_⟩:=Cb h hI (j:=i+1) k1
  obtain⟨k',Xt,Y6,TX,_⟩:=Cb h hI (j:=i) (agb k1)
  have hlk:=(gZ h false (k:=k) g2).2.1
  have YH:=(gZ h false (k:=k') Y6).2.1
  rw[g3,k7]at hlk
  rw[TX]at YH
  have hkk:k=k'+1:=by rw[<- hlk, <- YH];simp
  have hia:¬ia<k':=fun hc=>k2 (by
   rw[<- TX,dI k' Y6, <- a2]
   rw[aas,acF (by omega)]
   exact ads.2 ⟨ia,by rw[adH];omega,by rw[aga];rfl⟩)
  have hib:=hidx ib k b1 g2 (by rw[b2, <- dI k g2,g3];exact hb2)
  omega
theorem Lx:∀ {k:Nat},k<g.n.toNat->(aP g p).gD (aq p 0) (aq p k):=by
 intro k
 induction k using Nat.strongRecOn with
 |_ k ih=>
  intro hk
  by_cases h0:k=0
  ·subst h0;exact .refl
  ·have hx:=aD h.2.1 hk
   have hn:aV g (aq p k)≠0:=fun h1=>by
    have:=gB h.1 hx (aD h.2.1 (k:=0) (by omega)) h1 (gE h)
    exact h0 (dS h.2.1 hk (by omega) this)
   have hl:=jt h hx
   obtain⟨a,u,hu⟩:=jZ (l:=dP g p (aq p k)) (fun h1=>by rw[h1]at hl;exact hn hl.symm)
   obtain⟨j,hj,et⟩:=B5 h hk (a:=a) (by rw[hu];simp)
   obtain⟨h1,h2⟩:=((nj h hI).cz (aq p k) a).1 (by rw[gR hx,hu];simp)
   have:=ih j hj (by omega)
   have et':(aP g p).tl a=aq p j:=et
   rw[<- et']at this
   rw[<- h2]
   exact .step this h1
theorem LB:∀ {d k:Nat},k+d+1=g.n.toNat->(aP g p).gD (aq p k) (aq p (g.n.toNat - 1)):=by
 intro d
 induction d using Nat.strongRecOn with
 |_ d ih=>
  intro k hk
  by_cases h0:d=0
  ·obtain rfl:k=g.n.toNat - 1:=by omega
   exact .refl
  ·have hx:=aD h.2.1 (show k<g.n.toNat by omega)
   have hO:bE p (aq p k)≠ []:=fun h1=>by
    have:=(oN h hI hx).1 h1
    have:=dS h.2.1 (show k<g.n.toNat by omega) (by omega) this
    omega
   obtain⟨e,v,hv⟩:=jZ hO
   have he:=S9 h (show k<g.n.toNat by omega) (e:=e) (by rw[hv];simp)
   have hh:=aU (ah h.1) (i:=e.toNat) (by omega)
   obtain⟨k',hk',e2⟩:=cq h.2.1 hh.1 hh.2
   have e2:aq p k'=bA g e:=e2
   obtain⟨j,hj,e3⟩:=E7 h he.1 hk' e2.symm
   have:j=k:=dS h.2.1 (show j<g.n.toNat by omega) (by omega) (e3.trans he.2)
   have h1:=ih (g.n.toNat - 1 - k') (by omega) (k:=k') (by omega)
   rw[e2]at h1
   have h2:(aP g p).gD (aq p k) ((aP g p).hd e):= .step (by show(aP g p).gD (aq p k) (bt g e);rw[he.2];exact .refl) he.1
   exact h2.trans h1
theorem Cc{a b:Int}(ha:fN g a)(hb:fN g b)(hab:¬(aP g p).gD a b)(hba:¬(aP g p).gD b a):a≠aq p 0/\b≠aq p 0/\bE p a≠ []/\bE p b≠ []:=by
 obtain⟨i,hi,rfl⟩:=cq h.2.1 ha.1 ha.2
 obtain⟨j,hj,rfl⟩:=cq h.2.1 hb.1 hb.2
 refine⟨fun e=>hab (by rw[e];exact Lx h hI hj),fun e=>hba (by rw[e];exact Lx h hI hi),fun e=>hba ?_,fun e=>hab ?_⟩
 ·rw[(oN h hI ha).1 e];exact LB h hI (d:=g.n.toNat - 1 - j) (by omega)
 ·rw[(oN h hI hb).1 e];exact LB h hI (d:=g.n.toNat - 1 - i) (by omega)
theorem HD{a b:Int}(ha:fN g a)(hb:fN g b)(hab:¬(aP g p).gD a b)(hba:¬(aP g p).gD b a)(hlt:jy g p true a<jy g p true b):(aP g p).Ti (Rf g (cZ p)) (Lf g (cZ p)) b a:=by
 have hm:=xd h
 have hx:∀v,jy g (cZ p) false v=jy g p true v:=fun v=>by
  unfold jy
  have:=BK h true (k:=g.n.toNat) (adh _)
  simp only[aeu]at this
  rw[this]
 have WV:=mG hm hI ha hb (by rw[hx,hx];exact hlt)
 have hR:∀ {x y:Int},(aP g (cZ p)).gD x y->(aP g p).gD x y:=fun hr=>by
  have:=Fa.1 hr
  exact Fa.2 (Lv (P:=aP g (cZ p)) (Q:=aP g p) rfl this)
 obtain⟨n1,n2,n3,n4⟩:=Cc h hI ha hb hab hba
 have hl:(aP g (cZ p)).Ti (Lf g (cZ p)) (Rf g (cZ p)) a b:=Lu (nj hm hI) (eA hm hI) n1 n2 (fun hr=>hab (hR hr)) (fun hr=>hba (hR hr)) (by rw[eo ha,pY];simpa using n3) (by rw[eo hb,pY];simpa using n4) WV
 obtain⟨u,e,f,v,h1,h2,h3⟩:=hl
 rw[HC]at h1 h2
 refine⟨v.reverse,f,e,u.reverse, ?_, ?_,Lw (P:=aP g (cZ p)) (Q:=aP g p) rfl h3⟩
 ·have:=congrArg List.reverse h2;simpa using this
 ·have:=congrArg List.reverse h1;simpa using this
theorem gq{a b:Int}(ha:fN g a)(hb:fN g b):(aP g p).gD a b↔jy g p false a<=jy g p false b/\jy g p true a<=jy g p true b:=by
 have ok:=nj h hI
 have hm:=xd h
 have hx:∀v,jy g (cZ p) false v=jy g p true v:=fun v=>by
  unfold jy
  have:=BK h true (k:=g.n.toNat) (adh _)
  simp only[aeu]at this
  rw[this]
 constructor
 ·intro hr
  refine⟨?_, ?_⟩
  ·refine adm fun hc=> ?_
   exact Fg ok (eA h hI) hr (mG h hI hb ha (by omega))
  ·refine adm fun hc=> ?_
   have tQ:(aP g (cZ p)).gD a b:=Fa.2 (Lv (P:=aP g p) (Q:=aP g (cZ p)) rfl (Fa.1 hr))
   exact Fg (nj hm hI) (eA hm hI) tQ (mG hm hI hb ha (by rw[hx,hx];omega))
 ·rintro⟨h1,h2⟩
  by_cases hab:a=b
  ·subst hab;exact .refl
  refine afa fun RT=> ?_
  have l1:jy g p false a<jy g p false b:=by
   have:jy g p false a≠jy g p false b:=fun e=>hab (nu h false ha hb e)
   omega
  have l2:jy g p true a<jy g p true b:=by
   have:jy g p true a≠jy g p true b:=fun e=>hab (nu h true ha hb e)
   omega
  have WV:=mG h hI ha hb l1
  by_cases hba:(aP g p).gD b a
  ·exact Fg ok (eA h hI) hba WV
  ·exact Ae ok (DJ h hI) (Cc h hI ha hb RT hba).1 WV (HD h hI ha hb RT hba l2)
theorem qc{a b:Int}(ha:fN g a)(hb:fN g b)(hab:¬(aP g p).gD a b)(hba:¬(aP g p).gD b a):(aP g p).Ti (Lf g p) (Rf g p) a b↔jy g p false a<jy g p false b/\jy g p true b<jy g p true a:=by
 have ok:=nj h hI
 have hne:a≠b:=fun e=>hab (e ▸ .refl)
 obtain⟨n1,n2,n3,n4⟩:=Cc h hI ha hb hab hba
 constructor
 ·intro hl
  have l1:jy g p false a<jy g p false b:=by
   refine adm fun hc=> ?_
   have:jy g p false a≠jy g p false b:=fun e=>hne (nu h false ha hb e)
   exact Ae ok (eA h hI) n2 (mG h hI hb ha (by omega)) hl
  refine⟨l1, ?_⟩
  refine adm fun hc=> ?_
  have:jy g p true a≠jy g p true b:=fun e=>hne (nu h true ha hb e)
  exact Ae ok (DJ h hI) n1 (mG h hI ha hb l1) (HD h hI ha hb hab hba (by omega))
 ·rintro⟨l1,_⟩
  exact Lu ok (eA h hI) n1 n2 hab hba (by rw[eo ha];exact n3) (by rw[eo hb];exact n4) (mG h hI ha hb l1)
end
end Go.Ab
end
section
namespace Go.Ab
open Go.Proofs Go.RowKit Go.Shelf
attribute [local go_sem] Oper.semAt_some
attribute [local congr] ACall.congr gd.congr Hd.congr Ny.congr vcOps.congr
set_option maxHeartbeats 4000000
theorem YI{W:World}{z:Nat->Nat}{p:Value}{x:D}(h:Rd W z p (.pt [x])):∃b off v,p= .pointer (some ⟨b,off,none⟩)/\W.cell? ⟨b,off,none⟩=some v/\Rd W z v x:=by
 cases h with
 |pt b off cells vs hz hc hr=>exact⟨b,off,vs 0,rfl,by simpa using hc 0 (by simp),hr 0 x rfl⟩
theorem abm{W:World}{z:Nat->Nat}{v:Value}{sz:Nat}{rows:List (List D)}(h:Rd W z v (.sl sz rows)):(∃p,v= .slice p 0 0/\rows= [])\/∃(b off cap:Nat) (vs:Nat->Value),v= .slice (some ⟨b,off,none⟩) rows.length cap/\rows.length<=cap/\(∀r∈rows,r.length=sz)/\
 (∀k,k<rows.length*sz->W.cell? ⟨b,off+k,none⟩=some (vs k))/\∀(i j:Nat) (r:List D) (x:D),rows[i]? =some r->r[j]? =some x->Rd W z (vs (i*sz+j)) x:=by
 cases h with
 |nil p sz=>exact .inl ⟨p,rfl,rfl⟩
 |sl b off n cap sz rows vs hn hsz hz hcap hc hr=>subst hn;exact .inr ⟨b,off,cap,vs,rfl,hcap,hsz,hc,hr⟩
set_option maxRecDepth 100000 in
set_option maxHeartbeats 4000000 in
theorem Tl(rows:List (List D))(h3:∀r∈rows,r.length=3)(hl:rows.length<=1000000):O5 Tryz.prog 95 3 rows:=by
 intro l p J W hJ h0
 obtain⟨z0,DZ,_⟩:=hJ 0 W h0
 obtain⟨B,o,v0,rfl,TW,Sc⟩:=YI DZ
 have hc:∀k W1,J k W1->∃pp cap,W1.cell? ⟨B,o,none⟩=some (.slice pp rows.length cap)/\(k<rows.length->∃b1 o1,pp=some ⟨b1,o1,none⟩/\∃u0 u1 u2:Value,
  W1.cell? ⟨b1,o1+(rows.length - 1 - k)*3,none⟩=some u0/\W1.cell? ⟨b1,o1+(rows.length - 1 - k)*3+1,none⟩=some u1/\W1.cell? ⟨b1,o1+(rows.length - 1 - k)*3+2,none⟩=some u2/\
  YieldAt Fence.wide 3 Tryz.prog l #[.int .i64 ((rows.length - 1 - k:Nat):Int), .agg #[u0,u1,u2]] W1 fun e W2=>e= .returned (.bool true)/\J (k+1) W2):=by
  intro k W1 hk
  obtain⟨z,hp,hy⟩:=hJ k W1 hk
  obtain⟨B',o',v,e,hv,hr⟩:=YI hp
  cases e
  rcases abm hr with ⟨pp,rfl,rfl⟩|⟨b,off,cap,vs,rfl,hcap,hsz,hcs,xO⟩
  ·exact⟨pp,0,hv,fun h=>absurd h (by simp)⟩
  ·refine⟨_,cap,hv,fun cM=>⟨b,off,rfl,vs ((rows.length - 1 - k)*3),vs ((rows.length - 1 - k)*3+1),vs ((rows.length - 1 - k)*3+2), ?_, ?_, ?_, ?_⟩⟩
   ·exact hcs ((rows.length - 1 - k)*3) (by omega)
   ·exact hcs ((rows.length - 1 - k)*3+1) (by omega)
   ·exact hcs ((rows.length - 1 - k)*3+2) (by omega)
   ·have hlt:rows.length - 1 - k<rows.length:=by omega
    refine hy cM [vs ((rows.length - 1 - k)*3),vs ((rows.length - 1 - k)*3+1),vs ((rows.length - 1 - k)*3+2)] rfl fun i u x hu hx=> ?_
    have hx':∃r,rows[rows.length - 1 - k]? =some r/\r[i]? =some x:=⟨rows[rows.length - 1 - k],acF hlt,by rw[aas,acF hlt]at hx;exact hx⟩
    obtain⟨r,uu,tQ⟩:=hx'
    have:=xO (rows.length - 1 - k) i r x uu tQ
    match i,hu with
    |0,hu=>cases hu;exact this
    |1,hu=>cases hu;exact this
    |2,hu=>cases hu;exact this
 clear hJ DZ Sc TW
 refine callsIn_of_wp Tryz.func95 rfl trivial ?_ rfl
 simp only[Tryz.ntmps95,aee,List.length_cons,List.length_nil,Nat.reduceAdd,Nat.reduceSub,afy,Array.replicate_zero,afL,afB,List.nil_append,List.cons_append]
 obtain⟨pp0,Xs,hc0,_⟩:=hc 0 W h0
 have hw:wrap64 ((rows.length:Int) - 1)=(rows.length:Int) - 1:=by unfold wrap64;omega
 gi_wp2
 gi_loopw [3] (fun i wr=>∃k:Nat,k<=rows.length/\i= .int .i64 ((rows.length:Int) - 1 - k)/\J k wr) (fun i _=>(Go.RowKit.intOf i+1).toNat)
 case atStart=>exact⟨0,afC _,by simp,h0⟩
 case round=>
  obtain⟨k,hk,rfl,XM⟩:=hrel
  obtain⟨pp,cap,hcx,LC⟩:=hc k wr XM
  by_cases hlt:k<rows.length
  ·obtain⟨b1,o1,rfl,u0,u1,u2,g0,g1,g2,fn,tmps,assign,body,hy,hR⟩:=LC hlt
   have hi:((rows.length - 1 - k:Nat):Int)=(rows.length:Int) - 1 - k:=by omega
   rw[hi]at hy
   have hi2:((rows.length:Int) - 1 - k).toNat=rows.length - 1 - k:=by omega
   have hi3:0<=(rows.length:Int) - 1 - k:=by omega
   have Zq:wrap64 ((rows.length:Int) - 1 - k - 1)=(rows.length:Int) - 1 - k - 1:=by unfold wrap64;omega
   gi_wp2
   refine hR.mono ?_
   rintro e W3 ⟨rfl,hJ3⟩
   gi_wp2
   go_roundw
   case rel=>exact⟨k+1,by omega,by congr 1;omega,hJ3⟩
   case measure=>simp[Go.RowKit.intOf];omega
  ·obtain rfl:k=rows.length:=by omega
   gi_wp2
   go_end0
   exact⟨⟨_,rfl⟩,XM⟩
end Go.Ab
end
section
namespace Go.Ab
open Go.Proofs
set_option maxRecDepth 10000
variable {g:Gr} {p:Pl}
theorem Q4(h:qn g p){k:Nat}(hk:k<g.n.toNat):cB (aj g p) (bK g p) k=(cB g p k).map (mC g.es.length (bg g p)):=by
 have hr:=h.run
 have mY:=hr.2.1
 have hm:=ah hr.1
 have BT:=zU h
 have hQ:=ru hr
 obtain⟨vt,Jm⟩:=iB hr
 have hnG:=e9 (g:=g) (p:=p)
 obtain⟨WS,hrow⟩:=Zk h (k:=k) (by omega)
 obtain⟨hi,_,_⟩:=bz hm mY (k:=k) (by omega) fun j hj=>hr.2.2 j (by omega)
 obtain⟨S1,Jo,_⟩:=bz BT hQ (k:=k) (by omega) WS
 have hR:au g (fK g p k) (aq p k)=true:=hr.2.2 k (by omega)
 have pE:=zW hr (k:=k) (by omega)
 have hx:=aD mY (k:=k) (by omega)
 obtain⟨NZ,IA⟩:=lE hm mY (k:=k) (by omega) fun j hj=>hr.2.2 j (by omega)
 have hlr:(loose (fK g p k).row).Nodup:=(adu.1 NZ).2.1
 have hnot:aq p k∉(fK (aj g p) (bK g p) k).pl:=by
  rw[Jo, <- pE]
  exact BS (cF hQ) (by rw[aI hQ];omega)
 have Jp:=zf hr (k:=k) (by omega)
 have bR:=xo (g:=g) (p:=p) (x:=aq p k)
 have VN:=Dq hr hx
 have hin:∀v,(v,aq p k)∈bg g p->v∈loose (cB g p k):=fun v hv=>by
  rcases xg hv with ⟨i,h1,h2,h3⟩|⟨_,h2,_⟩
  ·have:=dS mY (by omega) h1 h2
   subst this;exact h3
  ·omega
 have hout:∀v,v∈loose (cB g p k)->(v,aq p k)∈bg g p:=fun v hv=>adS _ (rq (by omega) hv)
 have GB:cB g p k=(aC g (fK g p k) (aq p k) (bE p (aq p k))).1.1:=rfl
 have hgG:cB (aj g p) (bK g p) k=(aC (aj g p) (fK (aj g p) (bK g p) k) (aq p k) (bE (bK g p) (aq p k))).1.1:=by
  rw[<- pE];rfl
 rw[hgG]
 generalize aq p k=x at*
 by_cases hn:aV g x=0
 ·have hno:=dO hm hi.tofL hx.1 hn
  rw[cH _ hno]at GB
  have S2:aV (aj g p) x=0:=by rw[bR,hn,Jp,GB];rfl
  have VO:=dO BT S1.tofL hx.1 S2
  rw[cH _ VO,GB]
  rfl
 ·obtain⟨A,X,C,hrw,nA,nC,hX,cX⟩:=bD hm hi.tofL hR hn
  rw[dR _ hrw nA nC hX]at GB
  simp only at GB
  rw[GB]at hin hout Jp
  have hXm:∀t∈X,t∈(fK g p k).row:=fun t ht=>by rw[hrw];simp[ht]
  have hAm:∀t∈A,t∈(fK g p k).row:=fun t ht=>by rw[hrw];simp[ht]
  have hCm:∀t∈C,t∈(fK g p k).row:=fun t ht=>by rw[hrw];simp[ht]
  have hit:∀t∈X,(t.1<0↔¬t.2.2=x):=fun t ht=>by
   have h1:=(hi.it t (hXm t ht)).head hm
   have h2:=hX.al t ht
   omega
  rw[hrw,bY,bY,adu,adu]at hlr
  have Zl:gv x (A.map (mC g.es.length (bg g p))):=fun t' ht'=>by
   obtain⟨t,ht,rfl⟩:=adb.1 ht'
   by_cases h0:0<=t.1
   ·rw[kE h0];exact nA t ht
   ·rcases oz (m:=g.es.length) vt t.2.1 with ⟨h1,_⟩|⟨y,h1⟩
    ·rw[q9 h1];exact nA t ht
    ·obtain⟨j,_,h2,_⟩:=ng (m:=g.es.length) vt h1
     rw[jb (by omega) h2]
     intro e
     have e:y=x:=e
     subst e
     exact hlr.1.2.2 _ (jS ht (by omega)) _ (hin _ h1) rfl
  have Zm:gv x (C.map (mC g.es.length (bg g p))):=fun t' ht'=>by
   obtain⟨t,ht,rfl⟩:=adb.1 ht'
   by_cases h0:0<=t.1
   ·rw[kE h0];exact nC t ht
   ·rcases oz (m:=g.es.length) vt t.2.1 with ⟨h1,_⟩|⟨y,h1⟩
    ·rw[q9 h1];exact nC t ht
    ·obtain⟨j,_,h2,_⟩:=ng (m:=g.es.length) vt h1
     rw[jb (by omega) h2]
     intro e
     have e:y=x:=e
     subst e
     exact hlr.2.2 _ (ad0 _ (hin _ h1)) _ (jS ht (by omega)) rfl
  have KZ:∀t∈X,(mC g.es.length (bg g p) t).2.2=x:=fun t ht=>by
   by_cases h0:0<=t.1
   ·rw[kE h0]
    have:=hit t ht
    omega
   ·obtain⟨j,_,h2,_⟩:=ng (m:=g.es.length) vt (hout _ (jS ht (by omega)))
    rw[jb (by omega) h2]
  have Jg:Mid x (X.map (mC g.es.length (bg g p))):=by
   obtain⟨q,X0,e1,_⟩:=hX.fst
   obtain⟨X1,q',e2,_⟩:=hX.GM
   refine⟨⟨mC g.es.length (bg g p) q,X0.map (mC g.es.length (bg g p)),by rw[e1];rfl,KZ q (by rw[e1];simp)⟩,⟨X1.map (mC g.es.length (bg g p)),mC g.es.length (bg g p) q',by rw[e2];simp,KZ q' (by rw[e2];simp)⟩,fun t' ht'=> ?_⟩
   obtain⟨t,ht,rfl⟩:=adb.1 ht'
   exact .inl (KZ t ht)
  have AQ:(X.map (mC g.es.length (bg g p))).countP (lz x)=aV (aj g p) x:=by
   have h1:(X.map (mC g.es.length (bg g p))).countP (lz x)=(X.map (mC g.es.length (bg g p))).length:=afI.2 fun t' ht'=>by
    obtain⟨t,ht,rfl⟩:=adb.1 ht'
    simp[lz,KZ t ht]
   rw[h1,ado,bR,Jp, <- cX,zg hit]
  have VP:(fK (aj g p) (bK g p) k).row=A.map (mC g.es.length (bg g p))++X.map (mC g.es.length (bg g p))++C.map (mC g.es.length (bg g p)):=by rw[hrow,hrw];simp
  rw[dR _ VP Zl Zm Jg,GB]
def Cd(g:Gr)(p:Pl)(v:Nat):List Int:=(p.outs.getD v []).map (fun i=>2*i)++(((gC g p g.n.toNat).getD v []).reverse.filter fun t=> !decide (t.1= -1)).map fun t=>2*t.1+1
def gr(g:Gr)(p:Pl):List (List Int):=(List.range p.outs.length).map (Cd g p)
theorem Tm(hr:aG g p){k:Nat}(hk:k<g.n.toNat):∀t∈cB g p k,Jf g t:=by
 have mY:=hr.2.1
 have hm:=ah hr.1
 obtain⟨hi,_,_⟩:=bz hm mY (k:=k) (by omega) fun j hj=>hr.2.2 j (by omega)
 have hR:au g (fK g p k) (aq p k)=true:=hr.2.2 k (by omega)
 have hx:=aD mY (k:=k) (by omega)
 unfold cB
 by_cases hn:aV g (aq p k)=0
 ·rw[cH _ (dO hm hi.tofL hx.1 hn)]
  intro t ht;cases ht
 ·obtain⟨A,X,C,hrw,nA,nC,hX,cX⟩:=bD hm hi.tofL hR hn
  rw[dR _ hrw nA nC hX]
  intro t ht
  exact hi.it t (by rw[hrw];simp[show t∈X from ht])
end Go.Ab
end
section
set_option maxHeartbeats 16000000
set_option maxRecDepth 20000
namespace Go.Ab
attribute [local congr] ACall.congr gd.congr Hd.congr Ny.congr vcOps.congr
open Go.Proofs
theorem CM(jD:List It):Spec Tryz.prog 48 (Args [.d (sT jD)]) [] (.fn 95 [] [.d (.pt [.sl 3 (jD.map rT)])]) []:=by
 (refine T.h [] [] [.t 2] Tryz.func48 rfl rfl (by kernel_rfl) fun X hX hP hC aA bB=> ?_)
 repeat' (first|refine Rn.p ?_|((first|refine Rs.p ?_|refine Hd.mk ?_);try simp only[go_sem,simprocAttr]))
section
variable {g:Gr} {p:Pl}
theorem LD(hr:aG g p){x:Nat}(hx:x<g.n.toNat):((gC g p g.n.toNat).getD x []).length<=10000/\∀t∈(gC g p g.n.toNat).getD x [],t.1= -1\/(0<=t.1/\t.1<g.es.length):=by
 have mY:=hr.2.1
 have hm:=ah hr.1
 have hn:=aB hm
 obtain⟨k,hk,ek⟩:=cq mY (x:=(x:Int)) (by omega) (by omega)
 have e1:=wT mY (k:=g.n.toNat) (adh _) hk
 rw[ek,Int.toNat_natCast]at e1
 rw[e1]
 refine⟨?_,fun t ht=> ?_⟩
 ·obtain⟨hi,_,hrl⟩:=bz hm mY (k:=k) (by omega) fun j hj=>hr.2.2 j (by omega)
  have hR:au g (fK g p k) (aq p k)=true:=hr.2.2 k (by omega)
  have hmul:k*(g.es.length+1)<=64*129:=afR (by omega) (by omega)
  have hx:=aD mY (k:=k) (by omega)
  unfold cB
  by_cases hn0:aV g (aq p k)=0
  ·rw[cH _ (dO hm hi.tofL hx.1 hn0)];simp
  ·obtain⟨A,X,C,hrw,nA,nC,hX,cX⟩:=bD hm hi.tofL hR hn0
   rw[dR _ hrw nA nC hX]
   rw[hrw]at hrl
   simp only[adj]at hrl
   show X.length<=_
   omega
 ·rcases Tm hr hk t ht with ⟨h0,_⟩|⟨h0,h1,_⟩
  ·exact .inl h0
  ·exact .inr ⟨h0,h1⟩
theorem Fh(hr:aG g p){x:Nat}(hx:x<g.n.toNat):(p.outs.getD x []).length<=g.es.length/\∀i∈p.outs.getD x [],0<=i/\i<g.es.length:=by
 have mY:=hr.2.1
 have hl:=wS mY (x:=(x:Int)) (by omega) (by omega)
 have hp:=aW mY (x:=(x:Int)) (by omega) (by omega)
 unfold bE at hl hp
 rw[Int.toNat_natCast]at hl hp
 exact⟨hl,fun i hi=>(gA (hp.mem_iff.1 hi)).1⟩
end
def JU(jD:List It)(k:Nat):List Int:=((jD.reverse.take k).filter fun t=> !decide (t.1= -1)).map fun t=>2*t.1+1
theorem Tn{jD:List It} :JU jD jD.length=(jD.reverse.filter fun t=> !decide (t.1= -1)).map fun t=>2*t.1+1:=by
 unfold JU
 rw[adC (by simp)]
theorem Q5{jD:List It}{k:Nat}(hk:k<jD.length):JU jD (k+1)=JU jD k++(if(jD.getD (jD.length - 1 - k) (0,0,0)).1= -1 then [] else [2*(jD.getD (jD.length - 1 - k) (0,0,0)).1+1]):=by
 unfold JU
 have hk':k<jD.reverse.length:=by simpa using hk
 rw[ad2,acF hk',ad9,adt]
 congr 1
 rw[List.getElem_reverse,aas,acF (by omega)]
 simp only[Option.toList_some,Option.getD_some,aeE,List.filter_nil]
 split<;>rename_i h
 ·rw[ac8 (by simpa using h)];rfl
 ·rw[ada (by simpa using h)];rfl
theorem LF{jD:List It}{k:Nat} :(JU jD k).length<=jD.length:=by
 unfold JU
 rw[ado]
 have h1:=aeI (fun t:It=> !decide (t.1= -1)) (jD.reverse.take k)
 have h2:(jD.reverse.take k).length<=jD.length:=by rw[adH,aeQ];omega
 omega
theorem tq{g:Gr}{p:Pl} :(gr g p).length=p.outs.length:=by simp[gr]
theorem JV{g:Gr}{p:Pl}{k:Nat}(hk:k<p.outs.length):(gr g p).take (k+1)=(gr g p).take k++ [Cd g p k]:=by
 rw[ad2,acF (by rw[tq];exact hk)]
 simp[gr]
theorem DK(g:Gr)(hl:g.es.length<=1000)(p:Pl)(hr:aG g p):Spec Tryz.prog 12 (Args [eG g,ePl p]) [] (.tup [.d (.sl 1 (vI (gr g p))),eN 0]) []:=by
 have hb:(true=true)↔(bX g).1=0/\bq g p:=⟨fun _=>⟨hr.1,hr.2.1⟩,fun _=>rfl⟩
 have mY:=hr.2.1
 have hm:=ah hr.1
 have hn:=aB hm
 have hlen:=mY.1
 have hall:∀l∈p.outs,l.length<=g.es.length:=fun l hm=>by
  obtain⟨i,hi,rfl⟩:=ae4 hm
  have:=(Fh hr (x:=i) (by omega)).1
  rwa [aas,acF hi]at this
 have hPL:uc p:=by
  have:=aI mY
  exact⟨by omega,by omega,fun l hm=>by have:=hall l hm;omega⟩
 have ZC:=ig g hl p hPL true hb
 rw[p9 hb hr]at ZC
 simp only at ZC
 have hel:=qW (g:=g) (p:=p) (k:=g.n.toNat)
 have SV:=fun x hx=>LD hr (x:=x) hx
 have Wy:=fun x hx=>Fh hr (x:=x) hx
 have htV:∀x,Cd g p x=(p.outs.getD x []).map (fun i=>2*i)++JU ((gC g p g.n.toNat).getD x []) ((gC g p g.n.toNat).getD x []).length:=fun x=>by rw[Tn];rfl
 generalize gC g p g.n.toNat=ends at ZC hel SV htV
 (refine T.h [] [] [.t 4, .t 5] Tryz.func12 rfl rfl (by kernel_rfl) fun X hX hP hC aA bB=> ?_)
 repeat' (first|(show cR _ (.seq (.region 5 _ _) _) _ _;(refine dQ hX 9 300 (.tip 25 1 []) ?_ ?_ (by decide) ⟨25,1,by decide, .inr rfl⟩ ?_;(iterate 2 (focus(simp only[go_sem,simprocAttr];done)));simp only[go_sem,simprocAttr]))|refine Rn.p ?_|((first|refine Rs.p ?_|refine Hd.mk ?_|refine aa (ZC) rfl ?_);try simp only[go_sem,simprocAttr]))
 refine ag (fun k:Nat=>k<=p.outs.length) (fun k=>⟨[(6, .d (.sl 1 (vT ends))),(9, .ref 300),(28, .d (.sl 1 (vI p.outs))),(29,eN p.outs.length),(30,eN k)], [(300, .tip 25 1 (vI ((gr g p).take k)))]⟩) (fun k=>p.outs.length - k) 0 (by omega) ?_ ?_
 ·refine Le.of ?_ ?_<;>simp[go_sem,simprocAttr,vI_length,vI]
 rintro k hk
 rcases adk k p.outs.length with hlt|hge
 ·have hb1:decide ((k:Int)<(p.outs.length:Int))=true:=ac7 (by omega)
  have RY:=fun d=>jr (ls:=p.outs) hlt d
  have Ig:=fun d=>wu (ls:=ends) (k:=k) (by omega) d
  have dw:=JV (g:=g) hlt
  have htl:((gr g p).take k).length=k:=by rw[adH,tq];omega
  have YJ:=Wy k (by omega)
  have YK:=SV k (by omega)
  have Tp:=htV k
  have Ur:∀l1 l2,vI (l1++ [l2])=vI l1++ [[sI l2]]:=fun l1 l2=>by simp[vI]
  generalize p.outs.getD k []=o at RY YJ Tp
  generalize ends.getD k []=jD at Ig YK Tp
  generalize H7:(gr g p).take (k+1)=T2 at dw
  generalize (gr g p).take k=T1 at dw htl
  repeat' (first|(show cR _ (.seq (.region 9 _ _) _) _ _;(refine jj hX 12 0 401 (.tip 3 1 []) rfl rfl rfl (by simp only[go_sem,simprocAttr,vI_length,vT_length,hb1,RY,Ig]) (by decide) (by simp[go_sem,simprocAttr,vI_length,vT_length,hb1,RY,Ig]) ⟨3,1,by decide, .inr rfl⟩ ?_;simp only[List.set_cons_zero,List.set_cons_succ,go_sem,simprocAttr,vI_length,vT_length,hb1,RY,Ig]))|refine Rn.p ?_|((first|refine Rs.p ?_|refine Hd.mk ?_);try simp only[go_sem,simprocAttr,vI_length,vT_length,hb1,RY,Ig])|with_reducible (apply And.intro)|omega)
  refine ag (fun j:Nat=>j<=o.length) (fun j=>⟨[(6, .d (.sl 1 (vT ends))),(9, .ref 300),(28, .d (.sl 1 (vI p.outs))),(29,eN p.outs.length),(30,eN k),(10,eN k),(12, .ptr 12 0),(35, .d (sI o)),(36,eN o.length),(37,eN j)], [(300, .tip 25 1 (vI T1)),(12, .box [.ref 401]),(401, .tip 3 1 (((o.take j).map fun i=>2*i).map rI))]⟩) (fun j=>o.length - j) 0 (by omega) ?_ ?_
  ·refine Le.of ?_ ?_<;>simp[go_sem,simprocAttr,vI_length,vT_length,hb1,RY,Ig]
  rintro j hj
  rcases adk j o.length with hjl|WG
  ·have hb2:decide ((j:Int)<(o.length:Int))=true:=ac7 (by omega)
   have hq:=az (d:=0) hjl
   have ZD:(o.take j).length=j:=by rw[adH];omega
   have Wz:o.take (j+1)=o.take j++ [o.getD j 0]:=by
    rw[ad2,acF hjl,aas,acF hjl];rfl
   have hi2:=YJ.2 _ hq
   generalize hP2:o.take (j+1)=P2 at Wz
   generalize o.take j=P1 at Wz ZD
   generalize Ww:o.getD j 0=i at Wz hi2
   repeat' (first|(show cR _ (.region 13 _ _) _ _;(refine dY hX 12 0 45 401 rfl rfl rfl (by first|exact .inl rfl|exact .inr rfl) (by decide) (by decide) ?_;simp only[List.set_cons_zero,List.set_cons_succ,go_sem,simprocAttr,vI_length,vT_length,hb1,hb2,RY,Ig,Ww,ZD,ado]))|refine Rn.p ?_|((first|refine Rs.p ?_|refine Hd.mk ?_);try simp only[go_sem,simprocAttr,vI_length,vT_length,hb1,hb2,RY,Ig,Ww,ZD,ado])|with_reducible (apply And.intro)|omega)
   refine⟨j+1,by omega, ?_,by omega⟩
   rw[hP2,Wz]
   refine Le.of ?_ ?_<;>simp[go_sem,simprocAttr,vI_length,vT_length,hb1,hb2,RY,Ig,Ww,ZD,ado,rI]
  have hb2:decide ((j:Int)<(o.length:Int))=false:=ac6 (by omega)
  obtain rfl:j=o.length:=by omega
  rw[aef]
  have hBw:=CM jD
  repeat' (first|refine Rn.p ?_|((first|refine Rs.p ?_|refine Hd.mk ?_|refine aa (hBw) rfl ?_);try simp only[go_sem,simprocAttr,vI_length,vT_length,hb1,hb2,RY,Ig])|with_reducible (apply And.intro)|omega)
  have Vx:∀j,(jD.map rT).getD j []=if j<jD.length then rT (jD.getD j (0,0,0)) else []:=fun j=>by
   simp only[aas,adn]
   split
   ·rename_i h;rw[acF h];rfl
   ·rename_i h;rw[adp (by omega)];rfl
  have hrl:(jD.map rT).length=jD.length:=ado ..
  refine O6 hX (gf:=95) (sz:=3) (rows:=jD.map rT) (by rw[hP];exact Tl _ (fun r hr=>by obtain⟨t,_,rfl⟩:=adb.1 hr;rfl) (by rw[hrl];omega)) (by rw[hP];exact⟨_,_,Tryz.func95,rfl,rfl⟩) rfl (fun r hr=>by obtain⟨t,_,rfl⟩:=adb.1 hr;rfl)
   (asN [(10000,12),(10001,401)]) [(12, .box [.ref 401]),(401, .tip 3 1 ((o.map fun i=>2*i).map rI))] [(10000, .box [.ref 10001]),(10001, .tip 3 1 ((o.map fun i=>2*i).map rI))] [(12, .ptr 10000 0)]
   (fun j=> [(10000, .box [.ref 402]),(402, .tip 3 1 (((o.map fun i=>2*i)++JU jD j).map rI))])
   (fun j=>⟨[(16, .ptr 16 0),(12, .ptr 10000 0)], [(16, .box [eN (jD.getD (jD.length - 1 - j) (0,0,0)).1,eN (jD.getD (jD.length - 1 - j) (0,0,0)).2.1,eN (jD.getD (jD.length - 1 - j) (0,0,0)).2.2]),(10000, .box [.ref 402]),(402, .tip 3 1 (((o.map fun i=>2*i)++JU jD j).map rI))]⟩) ?_ ?_ ?_ ?_ ?_ ?_ ?_ ?_ ?_
  ·refine⟨by simp[asN,AObj.ren,AV.rens,AV.ren],by simp[nodupM,look],by simp[nodupM,look],by simp[AObj.isNest],by simp[AObj.isNest],fun l l' h h' e=> ?_,by simp[look,asN],by simp[AObj.ro],by simp[AObj.ro],by simp[AV.ids,AV.idss],by simp[AObj.ids,AV.idss,AV.ids,look]⟩
   have mem:∀l,(look [(10000,AObj.box [AV.ref 10001]),(10001,AObj.tip 3 1 ((o.map fun i=>2*i).map rI))] l≠none\/look [(10000,AObj.box [AV.ref 402]),(402,AObj.tip 3 1 (((o.map fun i=>2*i)++JU jD (jD.map rT).length).map rI))] l≠none)->l=10000\/l=10001\/l=402:=fun l hl=>by
    simp only[look]at hl
    by_cases e1:10000=l
    ·exact .inl e1.symm
    ·by_cases e2:10001=l
     ·exact .inr (.inl e2.symm)
     ·by_cases e3:402=l
      ·exact .inr (.inr e3.symm)
      ·rw[ac8 e1,ac8 e2,ac8 e1,ac8 e3]at hl
       exact absurd rfl (hl.elim id id)
   rcases mem l h with rfl|rfl|rfl<;>rcases mem l' h' with rfl|rfl|rfl<;>first|rfl|(simp[asN]at e)
  ·simp[look]
  ·simp
  ·intro q
   simp only[get]
   by_cases e:12=q
   ·subst e;left;simp[AV.ren,asN]
   ·right;rw[ac8 e]
  ·intro q l hl
   simp only[get]at hl
   by_cases e:12=q
   ·rw[ada e]at hl
    simp only[AV.ids,adv]at hl
    subst hl
    rw[bJ (by omega)];simp[look]
   ·rw[ac8 e]at hl;simp[AV.ids]at hl
  ·intro X' Jg a w hr
   refine Rel.le ?_ (Rel.mvB Jg hr 10000 0 10001 402 rfl rfl rfl (.inr rfl) (by decide) (by decide))
   have hb0:JU jD 0= []:=by simp[JU]
   refine Le.of ?_ ?_<;>simp[go_sem,simprocAttr,hb0]
  ·intro j hj X' Jg Uc hC'
   have abn:Xc X' Tryz.prog (T.cfg [] []):=⟨Jg,by rw[hC',hC],by rw[Uc,hP],by rw[Uc,hP];exact hP ▸ aA⟩
   rw[hrl]at hj ⊢
   have CV:=Vx (jD.length - 1 - j)
   rw[ada (by omega)]at CV
   rw[CV]
   generalize jD.getD (jD.length - 1 - j) (0,0,0)=t
   repeat' (first|refine Rn.p ?_|((first|refine Rs.p ?_|refine Hd.mk ?_);try simp only[go_sem,simprocAttr,rT]))
   refine⟨fun Y hY a w hr=>Rel.le ?_ hr⟩
   refine Le.of ?_ ?_<;>simp[go_sem,simprocAttr,rT]
  ·intro j hj X' Jg Uc hC'
   have abn:Xc X' Tryz.prog (T.cfg [] []):=⟨Jg,by rw[hC',hC],by rw[Uc,hP],by rw[Uc,hP];exact hP ▸ aA⟩
   rw[hrl]at hj
   have Tq:=Q5 hj
   have Ct:=LF (jD:=jD) (k:=j)
   have Sy:=YK.2 _ (az (d:=(0,0,0)) (show jD.length - 1 - j<jD.length by omega))
   generalize jD.getD (jD.length - 1 - j) (0,0,0)=t at*
   generalize JU jD (j+1)=B2 at*
   generalize JU jD j=B1 at*
   by_cases ht:t.1= -1
   ·have hb3:decide (t.1= -1)=true:=ac7 ht
    rw[ada ht,ad5]at Tq
    subst Tq
    repeat' (first|refine Rn.p ?_|((first|refine Rs.p ?_|refine Hd.mk ?_);try simp only[go_sem,simprocAttr,ado,adj,hb3]))
    refine⟨fun Y hY a w hr=>Rel.le ?_ hr⟩
    refine Le.of ?_ ?_<;>simp[go_sem,simprocAttr,ado,adj,hb3]
   ·have hb3:decide (t.1= -1)=false:=ac6 ht
    rw[ac8 ht]at Tq
    subst Tq
    repeat' (first|refine Rn.p ?_|((first|refine Rs.p ?_|refine Hd.mk ?_);try simp only[go_sem,simprocAttr,ado,adj,hb3])|with_reducible (apply And.intro)|omega)
    refine⟨fun Y hY a w hr=>Rel.le ?_ (Rel.mvB hY hr 10000 0 63 402 rfl rfl rfl (.inr rfl) (by decide) (by decide))⟩
    refine Le.of ?_ ?_<;>simp[go_sem,simprocAttr,ado,adj,hb3,rI]
  ·rw[hrl, <- Tp]
   have YL:(Cd g p k).length<=20000:=by
    rw[Tp,adj,ado]
    have:=LF (jD:=jD) (k:=jD.length)
    omega
   generalize Cd g p k=tv at*
   simp only[go_sem,simprocAttr,vI_length,vT_length,hb1,killM,renM,asN,AObj.ren,AV.rens,AV.ren,Ur]
   repeat' (first|(show cR _ (.region 19 _ _) _ _;(refine uC hX 9 67 300 (by simp only[go_sem,simprocAttr,vI_length,vT_length,hb1,killM,renM,asN,AObj.ren,AV.rens,AV.ren,Ur]) rfl (by first|exact .inl rfl|exact .inr rfl) (by decide) ?_;simp only[go_sem,simprocAttr,vI_length,vT_length,hb1,killM,renM,asN,AObj.ren,AV.rens,AV.ren,Ur]))|refine Rn.p ?_|((first|refine Rs.p ?_|refine Hd.mk ?_);try simp only[go_sem,simprocAttr,vI_length,vT_length,hb1,killM,renM,asN,AObj.ren,AV.rens,AV.ren,Ur])|with_reducible (apply And.intro)|omega)
   refine⟨k+1,by omega, ?_,by omega⟩
   rw[H7,dw]
   refine Le.of ?_ ?_<;>simp[go_sem,simprocAttr,vI_length,vT_length,hb1,killM,renM,asN,AObj.ren,AV.rens,AV.ren,Ur]
 ·have hb1:decide ((k:Int)<(p.outs.length:Int))=false:=ac6 (by omega)
  obtain rfl:k=p.outs.length:=by omega
  rw[adC (Nat.le_of_eq tq)]
  repeat' (first|refine Rn.p ?_|((first|refine Rs.p ?_|refine Hd.mk ?_);try simp only[go_sem,simprocAttr,hb1]))
end Go.Ab
end
section
set_option maxRecDepth 10000
namespace Go.Ab
open Go.Proofs
section
variable {g:Gr} {p:Pl} (hrun:aG g p) (hI:q8 g=true) (h0:0<g.es.length) (YC:g.es.length<=60)
include hrun hI h0 YC
end
theorem Ce{g:Gr}{p:Pl}(hr:aG g p){v:Nat}(hv:v<g.n.toNat):Cd g p v=(p.outs.getD v []).map (fun i=>2*i)++(dP g p (v:Int)).reverse.map fun i=>2*i+1:=by
 unfold Cd dP
 rw[Int.toNat_natCast]
 congr 1
 have h1:=(LD hr hv).2
 generalize (gC g p g.n.toNat).getD v []=l at h1
 rw[<- List.map_reverse,aeF]
 have e:(ef l).reverse=l.reverse.filter fun t=> !decide (t.1= -1):=by
  unfold ef
  rw[List.filter_reverse]
  congr 1
  refine agD fun t ht=> ?_
  rcases h1 t ht with h2|h2
  ·rw[ac6 (by omega),ac7 h2];rfl
  ·rw[ac7 h2.1,ac6 (by omega)];rfl
 rw[e]
 rfl
section
variable {g:Gr} {p:Pl} (hrun:aG g p) (hI:q8 g=true) (h0:0<g.es.length) (YC:g.es.length<=60)
include hrun hI h0 YC
end
theorem Us{g:Gr}{p:Pl}(hr:aG g p){L:Nat->Int->Int->Prop}(hL:Hp g p L){k:Nat}(hk:k<g.n.toNat):(dP g p (aq p k)).Pairwise (L k):=by
 have mY:=hr.2.1
 have hm:=ah hr.1
 obtain⟨hi,_,_⟩:=bz hm mY (k:=k) (by omega) fun j hj=>hr.2.2 j (by omega)
 obtain⟨_,ih2,_⟩:=BZ hr.1 mY hL (k:=k) (by omega)
 have hR:au g (fK g p k) (aq p k)=true:=hr.2.2 k (by omega)
 have pE:=aD mY (k:=k) (by omega)
 rw[ni hr hk]
 unfold pZ
 by_cases hn0:aV g (aq p k)=0
 ·rw[cH _ (dO hm hi.tofL pE.1 hn0)];simp[ef]
 ·obtain⟨A,X,C,hrw,nA,nC,hX,cX⟩:=bD hm hi.tofL hR hn0
  rw[dR _ hrw nA nC hX]
  show((ef X).map (·.1)).Pairwise _
  rw[hrw,kR,kR,aeg,aeg]at ih2
  rw[aeJ]
  exact ih2.1.2.1
section
variable {g:Gr} {d:Dr} {p q:Pl} (h:yx g d) (h':yx g (Yz YA d)) (hp:ug g d p) (hq:ug g (Yz YA d) q)
include h h' hp hq
end
theorem gN:∀ {l:List Int} {i:Nat},l.Nodup->i<l.length->l.idxOf (l.getD i 0)=i
 | [],i,_,h=>by simp at h
 |a::l,0,_,_=>by simp
 |a::l,i+1,hn,h=>by
  obtain⟨h1,h2⟩:=ad6.1 hn
  have hi:i<l.length:=by simpa using h
  have e:(a::l).getD (i+1) 0=l.getD i 0:=rfl
  have hm:l.getD i 0∈l:=az hi
  have hne:(a==l.getD i 0)=false:=by
   rw[beq_eq_false_iff_ne];intro e2;exact h1 (e2 ▸ hm)
  rw[e,List.idxOf_cons,hne,cond_false,gN h2 hi]
theorem ve{l:List Int}{u:Int}(h:u∈l):l.idxOf u<l.length/\l.getD (l.idxOf u) 0=u:=by
 have h1:=agw.2 h
 refine⟨h1, ?_⟩
 rw[aas,acF h1,Option.getD_some]
 exact List.getElem_idxOf h1
theorem Fi{A B:List Int}{u:Int} :(A++B).idxOf u=if u∈A then A.idxOf u else A.length+B.idxOf u:=by
 rw[List.idxOf_append];split<;>omega
section
variable {g:Gr} {p:Pl}
def iq(g:Gr)(p:Pl)(c:Nat):List Int:=(ef (fK g p c).row).map (·.1)
theorem kT(h:aG g p){c:Nat}(hc:c<=g.n.toNat):(iq g p c).Nodup:=by
 obtain⟨hi,_,_⟩:=bz (ah h.1) h.2.1 hc fun j hj=>h.2.2 j (by omega)
 rw[iq,List.Nodup,aeJ]
 exact(hi.once.filter _).imp_of_mem fun {s t} hs ht h=>h (eX.1 hs).2
theorem lI(h:aG g p){c:Nat}(hc:c<g.n.toNat):∃A X C,iq g p c=A++X++C/\(∀e∈A,bA g e≠aq p c)/\(∀e∈X,bA g e=aq p c)/\(∀e∈C,bA g e≠aq p c)/\iq g p (c+1)=A++bE p (aq p c)++C:=by
 have hm:=ah h.1
 obtain⟨hi,dI,_⟩:=bz hm h.2.1 (k:=c) (by omega) fun j hj=>h.2.2 j (by omega)
 obtain⟨x0,x1⟩:=aD h.2.1 hc
 have hR:au g (fK g p c) (aq p c)=true:=h.2.2 c hc
 have hpx:=aW h.2.1 x0 x1
 have hab:=jT (g:=g) (x:=aq p c) (o:=bE p (aq p c)) fun i hi=>(aX.1 (hpx.mem_iff.1 hi)).1.1
 have hmap:(ef (aQ g (aq p c) (bE p (aq p c)))).map (·.1)=bE p (aq p c):=by
  rw[hab,aeF]
  have e7:((fun t:It=>t.1) ∘ gM g (aq p c))=id:=rfl
  rw[e7,agF]
 have hd:∀t∈ef (fK g p c).row,bA g t.1=t.2.2:=fun t ht=>(nk (p:=p) hm hi dI ht).2.2
 have Hq:fK g p (c+1)=(aC g (fK g p c) (aq p c) (bE p (aq p c))).2:=rfl
 by_cases hn:aV g (aq p c)=0
 ·have hno:=dO hm hi.tofL x0 hn
  have hrow:(fK g p c).row= []:=by
   rcases hi.src with h|⟨s,hs,hs0⟩
   ·exact h.2
   ·have:=gB h.1 (hi.lg s hs) ⟨x0,x1⟩ hs0 hn
    exact absurd (by rw[<- dI, <- this];exact hs) (yC h.2.1 hc)
  refine⟨[], [], [],by simp[iq,hrow,ef],by simp,by simp,by simp, ?_⟩
  rw[iq,Hq,cH _ hno,hrow]
  simpa using hmap
 ·obtain⟨a,X,b,e,ha,hb,hX,_,hs⟩:=He hm hi.tofL hR hn
  refine⟨a.map (·.1),X.map (·.1),b.map (·.1),by rw[iq,e,adt,adt], ?_, ?_, ?_, ?_⟩
  ·intro q hq
   obtain⟨t,ht,rfl⟩:=adb.1 hq
   rw[hd t (by rw[e];simp[ht])];exact ha t ht
  ·intro q hq
   obtain⟨t,ht,rfl⟩:=adb.1 hq
   rw[hd t (by rw[e];simp[ht])];exact hX t ht
  ·intro q hq
   obtain⟨t,ht,rfl⟩:=adb.1 hq
   rw[hd t (by rw[e];simp[ht])];exact hb t ht
  ·rw[iq,Hq,hs,adt,adt,hmap]
theorem HE(h:aG g p):∀ {c:Nat},c<=g.n.toNat->∀e,nL g p c e->e∈iq g p c
 |0,_,e,he=>by have:=he.low;simp at this
 |c+1,hc,e,he=>by
  obtain⟨A,X,C,e1,hA,hX,hC,e2⟩:=lI h (c:=c) (by omega)
  have hnext:=jU h.2.1 (k:=c) (by omega)
  have hl:=he.low
  have ht:=he.top
  rw[hnext,ac9,adv]at hl ht
  rw[e2]
  rcases hl with hl|hl
  ·have:=HE h (c:=c) (by omega) e ⟨he.e0,he.e1,hl,fun h=>ht (.inl h)⟩
   rw[e1,ac9,ac9]at this
   rcases this with (h1|h1)|h1
   ·simp[h1]
   ·exact absurd (hX e h1) fun h=>ht (.inr h)
   ·simp[h1]
  ·obtain⟨x0,x1⟩:=aD h.2.1 (k:=c) (by omega)
   have:e∈bE p (aq p c):=(aW h.2.1 x0 x1).mem_iff.2 (aX.2 ⟨⟨he.e0,he.e1⟩,hl⟩)
   simp[this]
end
def qo(g:Gr)(bs:List Int)(i:Int):Int:=g.n+(bs.idxOf i:Nat)
def mP(g:Gr)(bs:List Int):List Edge:=
 ((List.range g.es.length).map fun i:Nat=>(tl g i,if(i:Int)∈bs then qo g bs i else hd g i))++(List.range bs.length).map fun k:Nat=>(g.n+(k:Int),bA g (bs.getD k 0))
def aO(g:Gr)(bs:List Int):Gr:=⟨g.n+bs.length,mP g bs⟩
structure Cf (g:Gr) (bs:List Int):Prop where
 nd:bs.Nodup
 lg:∀i∈bs,0<=i/\i<g.es.length
section
variable {g:Gr} {bs:List Int}
theorem dV:(aO g bs).es.length=g.es.length+bs.length:=by simp[aO,mP]
theorem de{e:Int}(h0:0<=e)(h1:e<g.es.length):bt (aO g bs) e=bt g e/\bA (aO g bs) e=if e∈bs then qo g bs e else bA g e:=by
 have hl:e.toNat<g.es.length:=by omega
 have:(aO g bs).es.getD e.toNat (0,0)=(tl g e.toNat,if((e.toNat:Nat):Int)∈bs then qo g bs ((e.toNat:Nat):Int) else hd g e.toNat):=by
  simp only[aO,mP]
  rw[aas,ady (by simpa using hl),adn,adq hl]
  rfl
 rw[show((e.toNat:Nat):Int)=e by omega]at this
 exact⟨by unfold bt;rw[this];rfl,by unfold bA;rw[this];rfl⟩
theorem gG{k:Nat}(h:k<bs.length):bt (aO g bs) ((g.es.length+k:Nat):Int)=g.n+(k:Int)/\bA (aO g bs) ((g.es.length+k:Nat):Int)=bA g (bs.getD k 0):=by
 have:(aO g bs).es.getD (g.es.length+k) (0,0)=(g.n+(k:Int),bA g (bs.getD k 0)):=by
  simp only[aO,mP]
  rw[aas,adx (by simp),ado,ae3,af3,adn,adq h]
  rfl
 exact⟨by unfold bt;rw[Int.toNat_natCast,this],by unfold bA;rw[Int.toNat_natCast,this];rfl⟩
def rO(g:Gr)(bs:List Int)(e:Int):Int:=if e<g.es.length then e else bs.getD (e - g.es.length).toNat 0
def zm(g:Gr)(bs:List Int)(u:Int):Int:=if u<g.n then u else bt g (bs.getD (u - g.n).toNat 0)
theorem c7(hb:Cf g bs){i:Int}(hi:i∈bs):g.n<=qo g bs i/\qo g bs i<g.n+bs.length/\zm g bs (qo g bs i)=bt g i/\bs.getD (qo g bs i - g.n).toNat 0=i:=by
 obtain⟨h1,h2⟩:=ve hi
 have e:(qo g bs i - g.n).toNat=bs.idxOf i:=by unfold qo;omega
 refine⟨by unfold qo;omega,by unfold qo;omega, ?_,by rw[e,h2]⟩
 unfold zm
 rw[ac8 (by unfold qo;omega),e,h2]
end
structure HF (g:Gr) (p:Pl) (bs:List Int) (q:Pl):Prop where
 len:q.outs.length=(g.n+bs.length).toNat
 Q6:∀x:Nat,x<g.n.toNat->q.outs.getD x []=p.outs.getD x []
 Q7:∀k:Nat,k<bs.length->q.outs.getD (g.n.toNat+k) []= [((g.es.length+k:Nat):Int)]
 perm:q.ord.Perm (dD (g.n+bs.length).toNat)
 sort:q.ord.Pairwise fun u v=>p.ord.idxOf (zm g bs u)<p.ord.idxOf (zm g bs v)\/zm g bs u=zm g bs v/\u<v
theorem zF{A B:List Int}{u:Int}(h:u∈A):(A++B).idxOf u=A.idxOf u/\A.idxOf u<A.length:=⟨by rw[Fi,ada h],agw.2 h⟩
theorem kU{A B:List Int}{u:Int}(hn:(A++B).Nodup)(h:u∈B):(A++B).idxOf u=A.length+B.idxOf u/\B.idxOf u<B.length:=
 ⟨by rw[Fi,ac8 fun ha=>(adu.1 hn).2.2 u ha u h rfl],agw.2 h⟩
theorem Cg{g:Gr}{p:Pl}(h:aG g p){e:Int}(h0:0<=e)(h1:e<g.es.length):p.ord.idxOf (bt g e)<p.ord.idxOf (bA g e):=by
 have hm:=ah h.1
 have bR:=cF h.2.1
 have hl:=aI h.2.1
 obtain⟨k,hk,ek⟩:=cq h.2.1 (aU hm (i:=e.toNat) (by omega)).1 (aU hm (i:=e.toNat) (by omega)).2
 obtain⟨hi,dI,_⟩:=bz hm h.2.1 (k:=k) (by omega) fun j hj=>h.2.2 j (by omega)
 obtain⟨t,ht,e1,e2,_⟩:=yf hm hi (h.2.2 k hk) (i:=e.toNat) (by omega) ek.symm
 have hin:=hi.tail t ht (by omega)
 rw[dI,e2]at hin
 obtain⟨j,j1,j2,j3⟩:=lG hin
 have a1:p.ord.idxOf (tl g e.toNat)=j:=by rw[<- j3];exact gN bR j2
 have a2:p.ord.idxOf (hd g e.toNat)=k:=by rw[<- ek];exact gN bR (by omega)
 show p.ord.idxOf (tl g e.toNat)<p.ord.idxOf (hd g e.toNat)
 omega
def WW(g:Gr)(p:Pl)(bs:List Int)(u v:Int):Prop:=p.ord.idxOf (zm g bs u)<p.ord.idxOf (zm g bs v)\/zm g bs u=zm g bs v/\u<v
def gH(g:Gr)(q:Pl)(k:Nat):Nat:=((q.ord.take k).filter fun u=>decide (u<g.n)).length
section
variable {g:Gr} {p:Pl} {bs:List Int} {q:Pl} (h:aG g p) (hb:Cf g bs) (hq:HF g p bs q)
include h hb hq
theorem Q8:(aO g bs).n.toNat=g.n.toNat+bs.length:=by
 have hn:=aB (ah h.1)
 show(g.n+(bs.length:Int)).toNat=_
 omega
theorem dA{e:Int}(h0:0<=e)(h1:e<(aO g bs).es.length):(e<g.es.length/\rO g bs e=e)\/∃k:Nat,k<bs.length/\e=((g.es.length+k:Nat):Int)/\rO g bs e=bs.getD k 0/\bs.getD k 0∈bs/\bt (aO g bs) e=qo g bs (bs.getD k 0):=by
 rw[dV]at h1
 by_cases hlt:e<g.es.length
 ·exact .inl ⟨hlt,ada hlt⟩
 ·refine .inr ⟨(e - g.es.length).toNat,by omega,by omega,by unfold rO;rw[ac8 hlt],az (by omega), ?_⟩
  have hk:(e - g.es.length).toNat<bs.length:=by omega
  have:=(gG (g:=g) hk).1
  rw[show((g.es.length+(e - g.es.length).toNat:Nat):Int)=e by omega]at this
  rw[this]
  unfold qo
  rw[gN hb.nd hk]
theorem kX{u:Int}(hu:u<g.n):zm g bs u=u:=ada hu
theorem mH:bq (aO g bs) q:=by
 have hm:=ah h.1
 have hn:=aB hm
 have hN:=Q8 h hb hq
 refine⟨by rw[hq.len];rfl,hq.perm,fun x hx=> ?_⟩
 rw[hN]at hx
 by_cases Gh:x<g.n.toNat
 ·rw[hq.Q6 x Gh]
  have hp:=h.2.1.2.2 x Gh
  refine(aec (hp.nodup_iff.2 b7) b7).2 fun e=> ?_
  rw[hp.mem_iff]
  show e∈aJ (·.1) g.es g.es.length (x:Int)↔e∈aJ (·.1) (aO g bs).es (aO g bs).es.length (x:Int)
  rw[aX,aX]
  constructor
  ·rintro⟨⟨h0,h1⟩,h2⟩
   exact⟨⟨h0,by rw[dV];omega⟩,(de h0 h1).1.trans h2⟩
  ·rintro⟨⟨h0,h1⟩,h2⟩
   rcases dA h hb hq h0 h1 with ⟨h3,_⟩|⟨k,h3,_,_,h4,h5⟩
   ·exact⟨⟨h0,h3⟩,(de h0 h3).1.symm.trans h2⟩
   ·have:=(c7 hb h4).1
    have h2:bt (aO g bs) e=x:=h2
    omega
 ·obtain⟨k,rfl⟩:∃k,x=g.n.toNat+k:=⟨x - g.n.toNat,by omega⟩
  have hk:k<bs.length:=by omega
  rw[hq.Q7 k hk]
  refine(aec (by simp) b7).2 fun e=> ?_
  rw[adv]
  show _↔e∈aJ (·.1) (aO g bs).es (aO g bs).es.length ((g.n.toNat+k:Nat):Int)
  rw[aX]
  have hnew:=gG (g:=g) hk
  constructor
  ·rintro rfl
   exact⟨⟨by omega,by rw[dV];omega⟩,by have:bt (aO g bs) ((g.es.length+k:Nat):Int)=((g.n.toNat+k:Nat):Int):=by {rw[hnew.1];omega};exact this⟩
  ·rintro⟨⟨h0,h1⟩,h2⟩
   have h2:bt (aO g bs) e=((g.n.toNat+k:Nat):Int):=h2
   rcases dA h hb hq h0 h1 with ⟨h3,_⟩|⟨j,h3,h6,_,h4,h5⟩
   ·have:=(de (bs:=bs) h0 h3).1
    have:=aT hm (i:=e.toNat) (by omega)
    have e3:bt g e=tl g e.toNat:=rfl
    omega
   ·unfold qo at h5
    rw[gN hb.nd h3]at h5
    have:j=k:=by omega
    rw[h6,this]
theorem Ut{e:Int}(h0:0<=e)(h1:e<(aO g bs).es.length):WW g p bs (bt (aO g bs) e) (bA (aO g bs) e):=by
 have hm:=ah h.1
 have tr:=fun (i:Int) (a:0<=i) (b:i<g.es.length)=>show 0<=bt g i/\bt g i<g.n from aT hm (i:=i.toNat) (by omega)
 have hr:=fun (i:Int) (a:0<=i) (b:i<g.es.length)=>show 0<=bA g i/\bA g i<g.n from aU hm (i:=i.toNat) (by omega)
 rcases dA h hb hq h0 h1 with ⟨h3,_⟩|⟨k,h3,h6,_,h4,h5⟩
 ·obtain⟨r1,r2⟩:=de (g:=g) (bs:=bs) h0 h3
  rw[r1,r2]
  have t0:bt g e<g.n:=(tr e h0 h3).2
  by_cases hin:e∈bs
  ·rw[ada hin]
   obtain⟨n1,_,n3,_⟩:=c7 hb hin
   exact .inr ⟨by rw[n3];exact kX h hb hq t0,by omega⟩
  ·rw[ac8 hin]
   left
   rw[kX h hb hq t0,kX h hb hq (hr e h0 h3).2]
   exact Cg h h0 h3
 ·rw[h5]
  obtain⟨b0,b1⟩:=hb.lg _ h4
  obtain⟨n1,_,n3,_⟩:=c7 hb h4
  have:=(gG (g:=g) h3).2
  rw[<- h6]at this
  rw[this]
  left
  rw[n3,kX h hb hq (hr _ b0 b1).2]
  exact Cg h b0 b1
theorem Wb{j k:Nat}(hj:j<k)(hk:k<(aO g bs).n.toNat):WW g p bs (aq q j) (aq q k):=by
 have hl:=aI (mH h hb hq)
 have:=aei.1 hq.sort j k (by omega) (by omega) hj
 rw[aq,aq,aas,aas,acF (by omega),acF (by omega)]
 exact this
theorem xD{u:Int}(h0:0<=u)(h1:u<(aO g bs).n){k:Nat}(hk:k<(aO g bs).n.toNat)(hR:WW g p bs u (aq q k)):u∈q.ord.take k:=by
 obtain⟨j,hj,rfl⟩:=cq (mH h hb hq) h0 h1
 refine yA (adm fun hn=> ?_) (by rw[aI (mH h hb hq)];exact hj)
 by_cases e:j=k
 ·subst e
  unfold WW at hR;omega
 ·have h8:=Wb h hb hq (j:=k) (k:=j) (by omega) hj
  unfold WW at hR h8
  rcases hR with h9|⟨h9,X3⟩
  ·rcases h8 with h11|⟨h11,_⟩
   ·omega
   ·rw[h11]at h9;omega
  ·rw[h9]at h8;omega
theorem DL{u v:Int}(h0:0<=u)(h1:u<(aO g bs).n){k:Nat}(hk:k<=(aO g bs).n.toNat)(hv:v∈q.ord.take k)(hR:WW g p bs u v):u∈q.ord.take k:=by
 obtain⟨j,j1,j2,rfl⟩:=lG hv
 obtain⟨i,i1,i2,i3⟩:=lG (xD h hb hq h0 h1 (k:=j) (by omega) hR)
 rw[<- i3]
 exact yA (by omega) i2
theorem JW:(q.ord.filter fun u=>decide (u<g.n))=p.ord:=by
 have hn:=aB (ah h.1)
 have hN:=Q8 h hb hq
 have bR:=cF h.2.1
 have hl:=aI h.2.1
 refine MZ (R:=fun u v=>p.ord.idxOf u<p.ord.idxOf v) ?_ (fun a b h1 h2=>by omega) ?_ ?_
 ·refine(aec ((cF (mH h hb hq)).filter _) bR).2 fun u=> ?_
  rw[adJ,hq.perm.mem_iff,h.2.1.2.1.mem_iff,cE,cE,ade]
  have e:(g.n+(bs.length:Int)).toNat=g.n.toNat+bs.length:=hN
  omega
 ·refine(hq.sort.filter _).imp_of_mem fun {u v} hu hv hR=> ?_
  have hu:=ael (adJ.1 hu).2
  have hv:=ael (adJ.1 hv).2
  rw[kX h hb hq hu,kX h hb hq hv]at hR
  omega
 ·rw[aei]
  intro i j hi hj hij
  have a1:=gN bR hi
  have a2:=gN bR hj
  rw[aas,acF hi,Option.getD_some]at a1
  rw[aas,acF hj,Option.getD_some]at a2
  omega
theorem Af(k:Nat):((q.ord.take k).filter fun u=>decide (u<g.n))=p.ord.take (gH g q k):=by
 have hpre:((q.ord.take k).filter fun u=>decide (u<g.n))<+:(q.ord.filter fun u=>decide (u<g.n)):=(List.take_prefix k q.ord).filter _
 rw[JW h hb hq]at hpre
 exact List.prefix_iff_eq_take.1 hpre
theorem nv{u:Int}(hu:u<g.n)(k:Nat):u∈q.ord.take k↔u∈p.ord.take (gH g q k):=by
 rw[<- Af h hb hq k,adJ]
 simp[hu]
theorem LG(k:Nat):gH g q k<=g.n.toNat:=by
 have h1:((q.ord.take k).filter fun u=>decide (u<g.n)).length=(p.ord.take (gH g q k)).length:=by rw[Af h hb hq k]
 have h2:gH g q k=((q.ord.take k).filter fun u=>decide (u<g.n)).length:=rfl
 have hl:=aI h.2.1
 rw[adH]at h1
 omega
theorem Ch{k:Nat}(hk:k<(aO g bs).n.toNat)(hx:g.n<=aq q k):gH g q (k+1)=gH g q k:=by
 unfold gH
 rw[jU (mH h hb hq) hk,ad9]
 simp[show ¬aq q k<g.n by omega]
theorem oT{k:Nat}(hk:k<(aO g bs).n.toNat)(hx:aq q k<g.n):gH g q (k+1)=gH g q k+1/\gH g q k<g.n.toNat/\aq p (gH g q k)=aq q k:=by
 have e1:gH g q (k+1)=gH g q k+1:=by
  unfold gH
  rw[jU (mH h hb hq) hk,ad9]
  simp[hx]
 have hc:=LG h hb hq (k+1)
 refine⟨e1,by omega, ?_⟩
 have e2:=Af h hb hq (k+1)
 rw[jU (mH h hb hq) hk,ad9,Af h hb hq k,e1,jU h.2.1 (by omega)]at e2
 have:=List.append_cancel_left e2
 simpa[hx]using this.symm
theorem Q9{k:Nat}(hk:k<=(aO g bs).n.toNat){e:Int}(he:nL (aO g bs) q k e):nL g p (gH g q k) (rO g bs e):=by
 have hm:=ah h.1
 have hn:=aB hm
 have tr:=fun (i:Int) (a:0<=i) (b:i<g.es.length)=>show 0<=bt g i/\bt g i<g.n from aT hm (i:=i.toNat) (by omega)
 have hr:=fun (i:Int) (a:0<=i) (b:i<g.es.length)=>show 0<=bA g i/\bA g i<g.n from aU hm (i:=i.toNat) (by omega)
 have hGn:(aO g bs).n=g.n+bs.length:=rfl
 have nE:=he.low
 have CN:=he.top
 rcases dA h hb hq he.e0 he.e1 with ⟨h3,h4⟩|⟨j,h3,h6,h7,h4,h5⟩
 ·obtain⟨r1,r2⟩:=de (g:=g) (bs:=bs) he.e0 h3
  rw[h4]
  rw[r1]at nE
  rw[r2]at CN
  refine⟨he.e0,h3,(nv h hb hq (tr e he.e0 h3).2 k).1 nE,fun hc=> ?_⟩
  have hin:=(nv h hb hq (hr e he.e0 h3).2 k).2 hc
  by_cases j9:e∈bs
  ·rw[ada j9]at CN
   obtain⟨n1,n2,n3,_⟩:=c7 hb j9
   refine CN (DL h hb hq (by omega) (by omega) hk hin (.inl ?_))
   rw[n3,kX h hb hq (hr e he.e0 h3).2]
   exact Cg h he.e0 h3
  ·rw[ac8 j9]at CN
   exact CN hin
 ·rw[h7]
  obtain⟨b0,b1⟩:=hb.lg _ h4
  obtain⟨n1,n2,n3,_⟩:=c7 hb h4
  have hd2:=(gG (g:=g) h3).2
  rw[<- h6]at hd2
  rw[hd2]at CN
  rw[h5]at nE
  have QO:=tr _ b0 b1
  refine⟨b0,b1,(nv h hb hq QO.2 k).1 (DL h hb hq QO.1 (by have:=QO.2;omega) hk nE (.inr ⟨?_, ?_⟩)),fun hc=>CN ((nv h hb hq (hr _ b0 b1).2 k).2 hc)⟩
  ·rw[n3];exact kX h hb hq QO.2
  ·have:=QO.2;omega
theorem gI{k:Nat}(hk:k<(aO g bs).n.toNat)(hx:aq q k<g.n){e:Int}(he:nL (aO g bs) q k e):bA g (rO g bs e)=aq q k↔bA (aO g bs) e=aq q k:=by
 have hm:=ah h.1
 have hn:=aB hm
 have hr:=fun (i:Int) (a:0<=i) (b:i<g.es.length)=>show 0<=bA g i/\bA g i<g.n from aU hm (i:=i.toNat) (by omega)
 have hGn:(aO g bs).n=g.n+bs.length:=rfl
 rcases dA h hb hq he.e0 he.e1 with ⟨h3,h4⟩|⟨j,h3,h6,h7,h4,h5⟩
 ·obtain⟨r1,r2⟩:=de (g:=g) (bs:=bs) he.e0 h3
  rw[h4,r2]
  by_cases j9:e∈bs
  ·rw[ada j9]
   obtain⟨n1,n2,n3,_⟩:=c7 hb j9
   constructor
   ·intro e2
    have CN:=he.top
    rw[r2,ada j9]at CN
    refine absurd (xD h hb hq (by omega) (by omega) hk (.inl ?_)) CN
    rw[n3,kX h hb hq hx, <- e2]
    exact Cg h he.e0 h3
   ·intro e2;omega
  ·rw[ac8 j9]
 ·have hd2:=(gG (g:=g) h3).2
  rw[<- h6]at hd2
  rw[h7,hd2]
theorem HG:Hp (aO g bs) q fun k a b=>(iq g p (gH g q k)).idxOf (rO g bs a)<(iq g p (gH g q k)).idxOf (rO g bs b):=by
 have hm:=ah h.1
 have hn:=aB hm
 have hGn:(aO g bs).n=g.n+bs.length:=rfl
 have zG:=mH h hb hq
 have mem:=fun (k:Nat) (hk:k<=(aO g bs).n.toNat) (e:Int) (he:nL (aO g bs) q k e)=>HE h (LG h hb hq k) _ (Q9 h hb hq hk he)
 have only:=fun (k:Nat) (hk:k<(aO g bs).n.toNat) (hx:g.n<=aq q k) (e:Int) (he:nL (aO g bs) q k e) (hd:bA (aO g bs) e=aq q k)=>show e∈bs/\qo g bs e=aq q k/\rO g bs e=e by
  rcases dA h hb hq he.e0 he.e1 with ⟨h3,h4⟩|⟨j,h3,h6,h7,h4,h5⟩
  ·have r2:=(de (g:=g) (bs:=bs) he.e0 h3).2
   rw[hd]at r2
   by_cases j9:e∈bs
   ·rw[ada j9]at r2
    exact⟨j9,r2.symm,h4⟩
   ·rw[ac8 j9]at r2
    have h8:bA g e<g.n:=(aU hm (i:=e.toNat) (by have:=he.e0;omega)).2
    omega
  ·have hd2:=(gG (g:=g) h3).2
   rw[<- h6,hd]at hd2
   obtain⟨b0,b1⟩:=hb.lg _ h4
   have h8:bA g (bs.getD j 0)<g.n:=(aU hm (i:=(bs.getD j 0).toNat) (by omega)).2
   omega
 have same:=fun (k:Nat) (hk:k<(aO g bs).n.toNat) (hx:g.n<=aq q k) (e e':Int) (he:nL (aO g bs) q k e) (he':nL (aO g bs) q k e') (hd:bA (aO g bs) e=aq q k) (hd':bA (aO g bs) e'=aq q k)=>show e=e' by
  obtain⟨a1,a2,_⟩:=only k hk hx e he hd
  obtain⟨b1,b2,_⟩:=only k hk hx e' he' hd'
  have a3:=(c7 hb a1).2.2.2
  have b3:=(c7 hb b1).2.2.2
  rw[a2]at a3
  rw[b2]at b3
  rw[<- a3,b3]
 have Wc:=fun (k:Nat) (hk:k<(aO g bs).n.toNat) (hx:aq q k<g.n)=>show bE q (aq q k)=bE p (aq q k) from hq.Q6 _ (by have:=(aD zG hk).1;omega)
 have ZE:=fun (v e:Int) (h0:0<=v) (h1:v<g.n) (he:e∈bE p v)=>show rO g bs e=e by
  have:=(aX.1 ((aW h.2.1 h0 h1).mem_iff.1 he)).1.2
  exact ada this
 have mQ:=fun (k:Nat) (hk:k<(aO g bs).n.toNat) (hx:g.n<=aq q k) (c:Int) (hc:c∈bE q (aq q k))=>show rO g bs c=bs.getD (aq q k - g.n).toNat 0 by
  obtain⟨x0,x1⟩:=aD zG hk
  have hj:(aq q k - g.n).toNat<bs.length:=by omega
  have:=hq.Q7 _ hj
  have e:bE q (aq q k)= [((g.es.length+(aq q k - g.n).toNat:Nat):Int)]:=by
   rw[<- this];unfold bE;congr 1;omega
  rw[e,adv]at hc
  subst hc
  unfold rO
  rw[ac8 (by omega)]
  congr 1;omega
 refine⟨fun e e0 e1 k hk ek=> ?_,fun k hk a b c ha hb' hc ea ec r1 r2=> ?_,fun k hk a b ha hb' na nb r=> ?_,fun k hk a b c ha hb' na eb hc r=> ?_,fun k hk a b c ha hb' na eb hc r=> ?_,fun k hk=> ?_⟩
 ·have tR:=Ut h hb hq e0 e1
  rw[<- ek]at tR
  have BT:0<=bt (aO g bs) e/\bt (aO g bs) e<(aO g bs).n:=by
   rcases dA h hb hq e0 e1 with ⟨h3,h4⟩|⟨j,h3,h6,h7,h4,h5⟩
   ·rw[(de (g:=g) (bs:=bs) e0 h3).1]
    have h8:0<=bt g e/\bt g e<g.n:=aT hm (i:=e.toNat) (by omega)
    omega
   ·obtain⟨n1,n2,_⟩:=c7 hb h4
    omega
  exact xD h hb hq BT.1 BT.2 hk tR
 ·by_cases hx:aq q k<g.n
  ·obtain⟨c1,c2,c3⟩:=oT h hb hq hk hx
   obtain⟨A,X,C,e1,hA,hX,hC,_⟩:=lI h c2
   have bR:=kT h (c:=gH g q k) (by omega)
   have ma:=mem k (by omega) a ha
   have mb:=mem k (by omega) b hb'
   have mc:=mem k (by omega) c hc
   have da:=(gI h hb hq hk hx ha).2 ea
   have dc:=(gI h hb hq hk hx hc).2 ec
   refine(gI h hb hq hk hx hb').1 ?_
   rw[c3]at hA hX hC
   rw[e1]at ma mb mc r1 r2 bR
   have ha2:rO g bs a∈X:=by
    rcases ac9.1 ma with h1|h1
    ·rcases ac9.1 h1 with h1|h1
     ·exact absurd da (hA _ h1)
     ·exact h1
    ·exact absurd da (hC _ h1)
   have Pr:rO g bs c∈X:=by
    rcases ac9.1 mc with h1|h1
    ·rcases ac9.1 h1 with h1|h1
     ·exact absurd dc (hA _ h1)
     ·exact h1
    ·exact absurd dc (hC _ h1)
   rw[adO]at r1 r2 mb bR
   have ndX:(X++C).Nodup:=(adu.1 bR).2.1
   obtain⟨i1,_⟩:=kU (A:=A) (B:=X++C) bR (adS C ha2)
   obtain⟨i2,_⟩:=kU (A:=A) (B:=X++C) bR (adS C Pr)
   obtain⟨i3,i4⟩:=zF (A:=X) (B:=C) Pr
   rcases ac9.1 mb with h1|h1
   ·obtain⟨i5,i6⟩:=zF (A:=A) (B:=X++C) h1
    omega
   ·rcases ac9.1 h1 with h2|h2
    ·exact hX _ h2
    ·obtain⟨i5,_⟩:=kU (A:=A) (B:=X++C) bR h1
     obtain⟨i7,_⟩:=kU (A:=X) (B:=C) ndX h2
     omega
  ·have:=same k hk (by omega) a c ha hc ea ec
   subst this
   omega
 ·by_cases hx:aq q k<g.n
  ·obtain⟨c1,c2,c3⟩:=oT h hb hq hk hx
   obtain⟨A,X,C,e1,hA,hX,hC,e2⟩:=lI h c2
   have bR:=kT h (c:=gH g q k) (by omega)
   have ji:=kT h (c:=gH g q k+1) (by omega)
   have ma:=mem k (by omega) a ha
   have mb:=mem k (by omega) b hb'
   have da:=fun e=>na ((gI h hb hq hk hx ha).1 e)
   have db:=fun e=>nb ((gI h hb hq hk hx hb').1 e)
   rw[c1,e2]
   rw[c3]at hA hX hC
   rw[e2]at ji
   rw[e1]at ma mb r bR
   rw[adO]at r ma mb bR ji ⊢
   have ZF:(X++C).Nodup:=(adu.1 bR).2.1
   have WX:=(adu.1 ji).2.1
   have sp:∀u,u∈A++(X++C)->bA g u≠aq q k->u∈A\/u∈C:=fun u hu hne=>by
    rcases ac9.1 hu with h1|h1
    ·exact .inl h1
    ·rcases ac9.1 h1 with h2|h2
     ·exact absurd (hX _ h2) hne
     ·exact .inr h2
   rcases sp _ ma da with h1|h1<;>rcases sp _ mb db with h2|h2
   ·rw[(zF h1).1,(zF h2).1]at r ⊢
    exact r
   ·have i1:=zF (B:=bE p (aq p (gH g q k))++C) h1
    have i2:=kU ji (ad0 _ h2)
    omega
   ·have i1:=zF (B:=X++C) h2
    have i2:=kU bR (ad0 X h1)
    omega
   ·have i1:=kU bR (ad0 X h1)
    have i2:=kU bR (ad0 X h2)
    have i3:=kU ZF h1
    have i4:=kU ZF h2
    have j1:=kU ji (ad0 (bE p (aq p (gH g q k))) h1)
    have j2:=kU ji (ad0 (bE p (aq p (gH g q k))) h2)
    have j3:=kU WX h1
    have j4:=kU WX h2
    omega
  ·rw[Ch h hb hq hk (by omega)];exact r
 ·by_cases hx:aq q k<g.n
  ·obtain⟨c1,c2,c3⟩:=oT h hb hq hk hx
   obtain⟨A,X,C,e1,hA,hX,hC,e2⟩:=lI h c2
   have bR:=kT h (c:=gH g q k) (by omega)
   have ji:=kT h (c:=gH g q k+1) (by omega)
   have ma:=mem k (by omega) a ha
   have mb:=mem k (by omega) b hb'
   have da:=fun e=>na ((gI h hb hq hk hx ha).1 e)
   have db:=(gI h hb hq hk hx hb').2 eb
   rw[Wc k hk hx]at hc
   rw[ZE _ c (aD zG hk).1 hx hc]
   rw[c1,e2]
   rw[c3]at hA hX hC ⊢
   rw[e2]at ji
   rw[e1]at ma mb r bR
   rw[adO]at r ma mb bR ji ⊢
   rw[c3]at ji
   have ZF:(X++C).Nodup:=(adu.1 bR).2.1
   have hb2:rO g bs b∈X:=by
    rcases ac9.1 mb with h1|h1
    ·exact absurd db (hA _ h1)
    ·rcases ac9.1 h1 with h1|h1
     ·exact h1
     ·exact absurd db (hC _ h1)
   have i2:=kU bR (adS C hb2)
   have i3:=zF (B:=C) hb2
   have j2:=kU ji (adS C hc)
   rcases ac9.1 ma with h1|h1
   ·have j1:=zF (B:=bE p (aq q k)++C) h1
    omega
   ·rcases ac9.1 h1 with h2|h2
    ·exact absurd (hX _ h2) da
    ·have i1:=kU bR h1
     have i4:=kU ZF h2
     omega
  ·have hx:g.n<=aq q k:=by omega
   obtain⟨a1,a2,a3⟩:=only k hk hx b hb' eb
   have a4:=(c7 hb a1).2.2.2
   rw[a2]at a4
   rw[Ch h hb hq hk hx,mQ k hk hx c hc,a4, <- a3]
   exact r
 ·by_cases hx:aq q k<g.n
  ·obtain⟨c1,c2,c3⟩:=oT h hb hq hk hx
   obtain⟨A,X,C,e1,hA,hX,hC,e2⟩:=lI h c2
   have bR:=kT h (c:=gH g q k) (by omega)
   have ji:=kT h (c:=gH g q k+1) (by omega)
   have ma:=mem k (by omega) a ha
   have mb:=mem k (by omega) b hb'
   have da:=fun e=>na ((gI h hb hq hk hx ha).1 e)
   have db:=(gI h hb hq hk hx hb').2 eb
   rw[Wc k hk hx]at hc
   rw[ZE _ c (aD zG hk).1 hx hc]
   rw[c1,e2]
   rw[c3]at hA hX hC ⊢
   rw[e2]at ji
   rw[e1]at ma mb r bR
   rw[adO]at r ma mb bR ji ⊢
   rw[c3]at ji
   have WX:=(adu.1 ji).2.1
   have hb2:rO g bs b∈X:=by
    rcases ac9.1 mb with h1|h1
    ·exact absurd db (hA _ h1)
    ·rcases ac9.1 h1 with h1|h1
     ·exact h1
     ·exact absurd db (hC _ h1)
   have i2:=kU bR (adS C hb2)
   have j2:=kU ji (adS C hc)
   have j3:=zF (B:=C) hc
   rcases ac9.1 ma with h1|h1
   ·have i1:=zF (B:=X++C) h1
    omega
   ·rcases ac9.1 h1 with h2|h2
    ·exact absurd (hX _ h2) da
    ·have j1:=kU ji (ad0 (bE p (aq q k)) h2)
     have j4:=kU WX h2
     omega
  ·have hx:g.n<=aq q k:=by omega
   obtain⟨a1,a2,a3⟩:=only k hk hx b hb' eb
   have a4:=(c7 hb a1).2.2.2
   rw[a2]at a4
   rw[Ch h hb hq hk hx,mQ k hk hx c hc,a4, <- a3]
   exact r
 ·by_cases hx:aq q k<g.n
  ·obtain⟨c1,c2,c3⟩:=oT h hb hq hk hx
   obtain⟨A,X,C,_,_,_,_,e2⟩:=lI h c2
   have ji:=kT h (c:=gH g q k+1) (by omega)
   rw[Wc k hk hx,c1,e2]
   rw[e2,adO]at ji
   rw[adO]
   rw[c3]at ji ⊢
   have WX:=(adu.1 ji).2.1
   have nd3:=(adu.1 WX).1
   rw[aei]
   intro i j hi hj hij
   have m1:(bE p (aq q k))[i]∈bE p (aq q k):=ad3 hi
   have m2:(bE p (aq q k))[j]∈bE p (aq q k):=ad3 hj
   rw[ZE _ _ (aD zG hk).1 hx m1,ZE _ _ (aD zG hk).1 hx m2]
   have j1:=kU ji (adS C m1)
   have j2:=kU ji (adS C m2)
   have j3:=zF (B:=C) m1
   have j4:=zF (B:=C) m2
   have a1:=gN nd3 hi
   have a2:=gN nd3 hj
   rw[aas,acF hi,Option.getD_some]at a1
   rw[aas,acF hj,Option.getD_some]at a2
   omega
  ·have hx:g.n<=aq q k:=by omega
   obtain⟨x0,x1⟩:=aD zG hk
   have hj:(aq q k - g.n).toNat<bs.length:=by omega
   have:=hq.Q7 _ hj
   have e:bE q (aq q k)= [((g.es.length+(aq q k - g.n).toNat:Nat):Int)]:=by
    rw[<- this];unfold bE;congr 1;omega
   rw[e]
   exact List.pairwise_singleton ..
theorem Ra(hG:(bX (aO g bs)).1=0):aG (aO g bs) q:=Dz hG (mH h hb hq) (HG h hb hq)
end
theorem Tr{G:Gr}(hm:aM G=true)(φ:Int->Nat)(up:∀i,i<G.es.length->φ (tl G i)<φ (hd G i))(tw:∀i k,i<G.es.length->k<G.es.length->i≠k->G.es.getD i (0,0)≠G.es.getD k (0,0))(s:Int)
 (src:∀y,0<=y->y<G.n->(∀i,i<G.es.length->hd G i≠y)->y=s):(bX G).1=0:=by
 have Qz:KJ G=true:=(zT hm).2 ⟨φ,up⟩
 have QA:¬0<=l7 G:=fun hl=>by
  have h1:=cT (fun e:Edge=>decide (e.1=e.2)) G.es
  have h0:decide (0<=bT (fun e:Edge=>decide (e.1=e.2)) G.es)=true:=ac7 hl
  rw[h0]at h1
  obtain⟨e,he,h2⟩:=adR.1 h1.symm
  obtain⟨i,hi,rfl⟩:=ads.1 he
  have h3:tl G i=hd G i:=by simpa[tl,hd,aas,acF hi]using h2
  have:=up i hi
  rw[h3]at this
  omega
 have Pu:¬0<=fC G:=fun ht=>by
  obtain⟨i,k,hi,hk,hik,e⟩:=(lF _).1 ht
  exact tw i k hi hk hik e
 have QB:¬1<(bZ (·.2) G).length:=fun hb=>by
  have hs:∀y∈bZ (·.2) G,y=s:=fun y hy=>by
   obtain⟨⟨y0,y1⟩,y2⟩:=sR.1 hy
   refine src y y0 y1 fun i hi e=> ?_
   have:=sO (g:=G) (e:=(i:Int)) (by omega) (by omega)
   rw[Int.toNat_natCast,show(G.es.getD i (0,0)).2=y from e]at this
   omega
  have:=E5 gm hs
  omega
 unfold bX iT
 rw[ac8 (by simp[hm]),ac8 QA,ac8 Pu,ac8 (by rw[EY hm Qz];simp),ac8 QB]
theorem mI{g:Gr}(h:(bX g).1=0){i k:Nat}(hi:i<g.es.length)(hk:k<g.es.length)(e:g.es.getD i (0,0)=g.es.getD k (0,0)):i=k:=by
 refine adm fun hik=> ?_
 have hgt:¬0<=fC g:=by
  unfold bX iT at h
  intro h2
  split at h
  ·cases h
  split at h
  ·cases h
  cases h
 exact hgt ((lF g).2 ⟨i,k,hi,hk,hik,e⟩)
section
variable {g:Gr} {p:Pl} {bs:List Int} {q:Pl} (h:aG g p) (hb:Cf g bs) (hq:HF g p bs q) (hs1:g.n+bs.length<=64) (hs2:g.es.length+bs.length<=128)
include h hb hq hs1 hs2
theorem Ts:aM (aO g bs)=true:=by
 have hm:=ah h.1
 have hn:=aB hm
 have hGn:(aO g bs).n=g.n+bs.length:=rfl
 simp only[aM,adg,ade,adK,adV]
 refine⟨⟨⟨by omega,by omega⟩,by rw[dV];omega⟩,fun e he=> ?_⟩
 simp only[uE,AY,adL,ade,not_or]
 obtain⟨i,hi,rfl⟩:=ads.1 he
 have e0:(aO g bs).es.getD i (0,0)=(aO g bs).es[i]:=by rw[aas,acF hi];rfl
 have et:((aO g bs).es[i]).1=bt (aO g bs) (i:Int):=by unfold bt;rw[Int.toNat_natCast,e0]
 have eh:((aO g bs).es[i]).2=bA (aO g bs) (i:Int):=by unfold bA;rw[Int.toNat_natCast,e0]
 rw[et,eh]
 rcases dA h hb hq (e:=(i:Int)) (by omega) (by omega) with ⟨h3,h4⟩|⟨j,h3,h6,h7,h4,h5⟩
 ·obtain⟨r1,r2⟩:=de (g:=g) (bs:=bs) (e:=(i:Int)) (by omega) h3
  have t0:0<=bt g i/\bt g i<g.n:=aT hm (i:=i) (by omega)
  have d0:0<=bA g i/\bA g i<g.n:=aU hm (i:=i) (by omega)
  rw[r1,r2]
  by_cases j9:(i:Int)∈bs
  ·rw[ada j9]
   obtain⟨n1,n2,_⟩:=c7 hb j9
   omega
  ·rw[ac8 j9];omega
 ·obtain⟨b0,b1⟩:=hb.lg _ h4
  obtain⟨n1,n2,_⟩:=c7 hb h4
  have d0:0<=bA g (bs.getD j 0)/\bA g (bs.getD j 0)<g.n:=aU hm (i:=(bs.getD j 0).toNat) (by omega)
  have hd2:=(gG (g:=g) h3).2
  rw[<- h6]at hd2
  rw[h5,hd2]
  omega
theorem Wd{i k:Int}(WY:0<=i)(hi1:i<(aO g bs).es.length)(Ay:0<=k)(Ao:k<(aO g bs).es.length)(e1:bt (aO g bs) i=bt (aO g bs) k)(e2:bA (aO g bs) i=bA (aO g bs) k):i=k:=by
 have hm:=ah h.1
 have tr:=fun (i:Int) (a:0<=i) (b:i<g.es.length)=>show 0<=bt g i/\bt g i<g.n from aT hm (i:=i.toNat) (by omega)
 have hr:=fun (i:Int) (a:0<=i) (b:i<g.es.length)=>show 0<=bA g i/\bA g i<g.n from aU hm (i:=i.toNat) (by omega)
 rcases dA h hb hq WY hi1 with ⟨h3,h4⟩|⟨j,h3,h6,h7,h4,h5⟩
 ·obtain⟨r1,r2⟩:=de (g:=g) (bs:=bs) WY h3
  have t0:=tr i WY h3
  rcases dA h hb hq Ay Ao with ⟨g3,g4⟩|⟨j',g3,g6,g7,g4,g5⟩
  ·obtain⟨s1,s2⟩:=de (g:=g) (bs:=bs) Ay g3
   rw[r1,s1]at e1
   rw[r2,s2]at e2
   by_cases WZ:i∈bs
   ·by_cases hbk:k∈bs
    ·rw[ada WZ,ada hbk]at e2
     have a1:=(c7 hb WZ).2.2.2
     have a2:=(c7 hb hbk).2.2.2
     rw[e2]at a1
     rw[<- a1,a2]
    ·rw[ada WZ,ac8 hbk]at e2
     have:=(c7 hb WZ).1
     have:=hr k Ay g3
     omega
   ·by_cases hbk:k∈bs
    ·rw[ac8 WZ,ada hbk]at e2
     have:=(c7 hb hbk).1
     have:=hr i WY h3
     omega
    ·rw[ac8 WZ,ac8 hbk]at e2
     have:=mI h.1 (i:=i.toNat) (k:=k.toNat) (by omega) (by omega) (afs e1 e2)
     omega
  ·have:=(c7 hb g4).1
   omega
 ·rcases dA h hb hq Ay Ao with ⟨g3,g4⟩|⟨j',g3,g6,g7,g4,g5⟩
  ·have:=(c7 hb h4).1
   have:=(de (g:=g) (bs:=bs) Ay g3).1
   have:=tr k Ay g3
   omega
  ·rw[h5,g5]at e1
   have a1:=gN hb.nd h3
   have a2:=gN hb.nd g3
   unfold qo at e1
   have:j=j':=by omega
   rw[h6,g6,this]
theorem HH:(bX (aO g bs)).1=0:=by
 have hm:=ah h.1
 have hn:=aB hm
 have BT:=Ts h hb hq hs1 hs2
 have hGn:(aO g bs).n=g.n+bs.length:=rfl
 have zG:=mH h hb hq
 have YM:=cF zG
 have L3:=aI zG
 refine Tr BT (fun v=>q.ord.idxOf v) (fun i hi=> ?_) (fun i k hi hk hik e=>hik ?_) (aq p 0) (fun y y0 y1 hy=> ?_)
 ·have hR:=Ut h hb hq (e:=(i:Int)) (by omega) (by omega)
  have e1:bt (aO g bs) (i:Int)=tl (aO g bs) i:=rfl
  have e2:bA (aO g bs) (i:Int)=hd (aO g bs) i:=rfl
  rw[e1,e2]at hR
  obtain⟨t0,t1⟩:=aT BT hi
  obtain⟨d0,d1⟩:=aU BT hi
  obtain⟨k,hk,ek⟩:=cq zG d0 d1
  rw[<- ek]at hR
  obtain⟨j,j1,j2,j3⟩:=lG (xD h hb hq t0 t1 hk hR)
  have a1:q.ord.idxOf (tl (aO g bs) i)=j:=by rw[<- j3];exact gN YM j2
  have a2:q.ord.idxOf (hd (aO g bs) i)=k:=by rw[<- ek];exact gN YM (by omega)
  omega
 ·have e1:bt (aO g bs) (i:Int)=bt (aO g bs) (k:Int):=by unfold bt;simp only[Int.toNat_natCast];rw[e]
  have e2:bA (aO g bs) (i:Int)=bA (aO g bs) (k:Int):=by unfold bA;simp only[Int.toNat_natCast];rw[e]
  have:=Wd h hb hq hs1 hs2 (i:=(i:Int)) (k:=(k:Int)) (by omega) (by omega) (by omega) (by omega) e1 e2
  omega
 ·have Vl:y<g.n:=by
   refine adm fun Vl=> ?_
   have hj:(y - g.n).toNat<bs.length:=by omega
   have hin:bs.getD (y - g.n).toNat 0∈bs:=az hj
   obtain⟨b0,b1⟩:=hb.lg _ hin
   have r2:=(de (g:=g) (bs:=bs) b0 b1).2
   rw[ada hin]at r2
   unfold qo at r2
   rw[gN hb.nd hj]at r2
   refine hy (bs.getD (y - g.n).toNat 0).toNat (by rw[dV];omega) ?_
   have:hd (aO g bs) (bs.getD (y - g.n).toNat 0).toNat=bA (aO g bs) (bs.getD (y - g.n).toNat 0):=rfl
   rw[this,r2];omega
  have h0:=aD h.2.1 (k:=0) (by omega)
  have hz:aV g y=0:=by
   refine adm fun hnz=> ?_
   obtain⟨e,he⟩:∃e,e∈aJ (·.2) g.es g.es.length y:=by
    cases hc:aJ (·.2) g.es g.es.length y with
    |nil=>exact absurd (by unfold aV;rw[hc];rfl) hnz
    |cons e l=>exact⟨e,by simp⟩
   obtain⟨⟨e0,e1⟩,e2⟩:=aX.1 he
   have e2:bA g e=y:=e2
   have r2:=(de (g:=g) (bs:=bs) e0 e1).2
   by_cases j9:e∈bs
   ·obtain⟨i1,i2⟩:=ve j9
    have hd2:=(gG (g:=g) i1).2
    rw[i2,e2]at hd2
    exact hy (g.es.length+bs.idxOf e) (by rw[dV];omega) hd2
   ·rw[ac8 j9,e2]at r2
    exact hy e.toNat (by rw[dV];omega) r2
  refine gB h.1 ⟨y0,Vl⟩ h0 hz ?_
  refine adm fun hnz=> ?_
  obtain⟨A,X,C,hrw,_,_,hX,_⟩:=bD hm (wR g).tofL (h.2.2 0 (by omega)) hnz
  obtain⟨q,X0,e1,_⟩:=hX.fst
  rw[e1]at hrw
  simp at hrw
theorem LH:aG (aO g bs) q:=Ra h hb hq (HH h hb hq hs1 hs2)
theorem We(hI:q8 g=true):q8 (aO g bs)=true:=by
 have hm:=ah h.1
 have hn:=aB hm
 have hGn:(aO g bs).n=g.n+bs.length:=rfl
 have hN:=Q8 h hb hq
 have zG:=mH h hb hq
 unfold q8 at hI ⊢
 rw[adg,ade,ade]at hI
 rw[ac7 (HH h hb hq hs1 hs2),aep,ade]
 have key:∀y,y∈bZ (·.1) (aO g bs)↔y∈bZ (·.1) g:=fun y=>by
  rw[jc,jc]
  constructor
  ·rintro⟨⟨y0,y1⟩,y2⟩
   by_cases Vl:y<g.n
   ·refine⟨⟨y0,Vl⟩,ae8.2 fun e he=> ?_⟩
    obtain⟨⟨e0,e1⟩,e2⟩:=aX.1 he
    have:e∈aJ (·.1) (aO g bs).es (aO g bs).es.length y:=aX.2 ⟨⟨e0,by rw[dV];omega⟩,((de (g:=g) (bs:=bs) e0 e1).1.trans e2)⟩
    rw[y2]at this;cases this
   ·exfalso
    have hj:(y - g.n).toNat<bs.length:=by omega
    have WC:=(gG (g:=g) hj).1
    have:((g.es.length+(y - g.n).toNat:Nat):Int)∈aJ (·.1) (aO g bs).es (aO g bs).es.length y:=aX.2 ⟨⟨by omega,by rw[dV];omega⟩,by have:bt (aO g bs) ((g.es.length+(y - g.n).toNat:Nat):Int)=y:=by {rw[WC];omega};exact this⟩
    rw[y2]at this;cases this
  ·rintro⟨⟨y0,y1⟩,y2⟩
   refine⟨⟨y0,by omega⟩,ae8.2 fun e he=> ?_⟩
   obtain⟨⟨e0,e1⟩,e2⟩:=aX.1 he
   have e2:bt (aO g bs) e=y:=e2
   rcases dA h hb hq e0 e1 with ⟨h3,h4⟩|⟨j,h3,h6,h7,h4,h5⟩
   ·have:e∈aJ (·.1) g.es g.es.length y:=aX.2 ⟨⟨e0,h3⟩,((de (g:=g) (bs:=bs) e0 h3).1.symm.trans e2)⟩
    rw[y2]at this;cases this
   ·have:=(c7 hb h4).1
    omega
 have hp:(bZ (·.1) (aO g bs)).Perm (bZ (·.1) g):=(aec gm gm).2 key
 rw[hp.length_eq]
 exact hI.2
end
theorem Nz{l:List Int}(hn:l.Nodup):l.Pairwise fun a b=>l.idxOf a<l.idxOf b:=by
 rw[aei]
 intro i j hi hj hij
 have e1:=gN (i:=i) hn hi
 have e2:=gN (i:=j) hn hj
 rw[aas,acF hi,Option.getD_some]at e1
 rw[aas,acF hj,Option.getD_some]at e2
 omega
theorem Rb{g:Gr}{p:Pl}(hr:aG g p){k:Nat}(hk:k<g.n.toNat):∃a c,iq g p k=a++dP g p (aq p k)++c:=by
 have mY:=hr.2.1
 have hm:=ah hr.1
 obtain⟨hi,_,_⟩:=bz hm mY (k:=k) (by omega) fun j hj=>hr.2.2 j (by omega)
 have hR:au g (fK g p k) (aq p k)=true:=hr.2.2 k (by omega)
 have pE:=aD mY (k:=k) (by omega)
 by_cases hn0:aV g (aq p k)=0
 ·have:=jt hr ⟨pE.1,pE.2⟩
  rw[hn0]at this
  rw[adF this]
  exact⟨iq g p k, [],by simp⟩
 ·obtain⟨a,c,h1,_⟩:=xq hm hi.tofL hR hn0 (bE p (aq p k))
  refine⟨a.map (·.1),c.map (·.1), ?_⟩
  rw[ni hr hk]
  unfold iq pZ
  rw[h1,adt,adt]
theorem JX{g:Gr}{p:Pl}(hr:aG g p){k:Nat}(hk:k<g.n.toNat):(dP g p (aq p k)).Pairwise fun a b=>(iq g p k).idxOf a<(iq g p k).idxOf b:=by
 obtain⟨a,c,e⟩:=Rb hr hk
 have:=Nz (kT hr (c:=k) (by omega))
 generalize iq g p k=W at*
 rw[e,aeg,aeg]at this
 rw[e]
 exact this.1.2.1
theorem Tt{g:Gr}{p:Pl}{bs:List Int}{q:Pl}(h:aG g p)(hb:Cf g bs)(hq:HF g p bs q)(hs1:g.n+bs.length<=64)(hs2:g.es.length+bs.length<=128){x:Int}(hx:fN g x):
 (dP (aO g bs) q x).map (rO g bs)=dP g p x:=by
 have hR:=LH h hb hq hs1 hs2
 have hm:=ah h.1
 have hGn:(aO g bs).n=g.n+bs.length:=rfl
 have x0:=hx.1;have x1:=hx.2
 have Uu:fN (aO g bs) x:=⟨hx.1,by omega⟩
 obtain⟨k,hk,ek⟩:=cq hR.2.1 Uu.1 Uu.2
 obtain⟨_,o2,o3⟩:=oT h hb hq (k:=k) (by omega) (by omega)
 rw[ek]at o3
 have p1:=Us hR (HG h hb hq) (k:=k) (by omega)
 have p2:=JX h (k:=gH g q k) o2
 rw[ek]at p1
 rw[o3]at p2
 obtain⟨n1,m1⟩:=er hR Uu
 obtain⟨n2,m2⟩:=er h hx
 have p1':((dP (aO g bs) q x).map (rO g bs)).Pairwise fun a b=>(iq g p (gH g q k)).idxOf a<(iq g p (gH g q k)).idxOf b:=by
  rw[aeJ];exact p1
 refine agx (le:=fun a b=>(iq g p (gH g q k)).idxOf a<(iq g p (gH g q k)).idxOf b) (fun a b _ _ h1 h2=>by omega) p1' p2 ((aec (p1'.imp fun hab e=>by rw[e]at hab;omega) n2).2 fun e=> ?_)
 rw[m2,adb]
 constructor
 ·rintro⟨e,he,rfl⟩
  obtain⟨⟨e0,e1⟩,e2⟩:=(m1 e).1 he
  rcases dA h hb hq e0 e1 with ⟨h3,h4⟩|⟨j,h3,h6,h7,h4,h5⟩
  ·rw[(de (g:=g) (bs:=bs) e0 h3).2]at e2
   split at e2
   ·rename_i hin
    have:=(c7 hb hin).1
    omega
   ·rw[h4];exact⟨⟨e0,h3⟩,e2⟩
  ·have hd2:=(gG (g:=g) h3).2
   rw[<- h6,e2]at hd2
   rw[h7]
   exact⟨hb.lg _ h4,hd2.symm⟩
 ·rintro⟨⟨e0,e1⟩,e2⟩
  by_cases hin:e∈bs
  ·obtain⟨k1,k2⟩:=ve hin
   refine⟨((g.es.length+bs.idxOf e:Nat):Int),(m1 _).2 ⟨⟨by omega,by rw[dV];omega⟩, ?_⟩, ?_⟩
   ·rw[(gG (g:=g) k1).2,k2];exact e2
   ·unfold rO
    rw[ac8 (by omega),show(((g.es.length+bs.idxOf e:Nat):Int) - g.es.length).toNat=bs.idxOf e by omega,k2]
  ·refine⟨e,(m1 _).2 ⟨⟨e0,by rw[dV];omega⟩, ?_⟩, ?_⟩
   ·rw[(de (g:=g) (bs:=bs) e0 e1).2,ac8 hin];exact e2
   ·unfold rO
    rw[ada e1]
theorem LI{m:Nat}{N:List Edge} :∀ {l:List It},((ef l).map (·.1)).Sublist ((ef (l.map (mC m N))).map (·.1))
 | []=>agC _
 |t::l=>by
  have ih:=LI (m:=m) (N:=N) (l:=l)
  unfold ef at*
  rw[adD]
  by_cases h:0<=t.1
  ·rw[kE h,agX (by simpa using h),agX (by simpa using h),adD,adD]
   exact ih.cons_cons _
  ·rw[List.filter_cons_of_neg (by simpa using h),aeE]
   split
   ·rw[adD];exact ih.cons _
   ·exact ih
theorem Tu{g:Gr}{p:Pl}(h:qn g p){x:Int}(hx:fN g x):(dP g p x).Sublist (dP (aj g p) (bK g p) x):=by
 have hr:=h.run
 have hn:=e9 (g:=g) (p:=p)
 obtain⟨k,hk,rfl⟩:=cq hr.2.1 hx.1 hx.2
 have e2:=ni (ij h) (k:=k) (by omega)
 rw[zW hr (by omega)]at e2
 rw[ni hr (by omega),e2]
 have e3:=Q4 h (k:=k) (by omega)
 unfold cB at e3
 rw[zW hr (by omega)]at e3
 unfold pZ
 rw[e3]
 exact LI
def vf(g:Gr)(bs:List Int)(k:Nat)(v:Int):List Int:=((List.range k).filter fun j=>bt g (bs.getD j 0)=v).map fun j:Nat=>g.n+(j:Int)
def gJ(g:Gr)(bs:List Int)(k:Nat)(ord:List Int):List Int:=ord.flatMap fun v=>v::vf g bs k v
def mQ(g:Gr)(k:Nat):List (List Int):=(List.range k).map fun j:Nat=> [((g.es.length+j:Nat):Int)]
def HI(g:Gr)(p:Pl)(bs:List Int):Pl:=⟨gJ g bs bs.length p.ord,p.outs++mQ g bs.length⟩
theorem HJ{g:Gr}{bs:List Int}{k:Nat}(v:Int):vf g bs (k+1) v=vf g bs k v++if bt g (bs.getD k 0)=v then [g.n+(k:Int)] else []:=by
 unfold vf
 rw[adW,ad9,adt]
 congr 1
 by_cases h:bt g (bs.getD k 0)=v
 ·rw[ada h,aeE,ada (ac7 h)];rfl
 ·rw[ac8 h,aeE,ac8 (by rw[ac6 h];decide)];rfl
theorem j5{g:Gr}{bs:List Int}{k:Nat}{v u:Int} :u∈vf g bs k v↔∃j:Nat,j<k/\bt g (bs.getD j 0)=v/\u=g.n+(j:Int):=by
 simp only[vf,adb,adJ,adl,ade]
 constructor
 ·rintro⟨j,⟨h1,h2⟩,rfl⟩;exact⟨j,h1,h2,rfl⟩
 ·rintro⟨j,h1,h2,rfl⟩;exact⟨j,⟨h1,h2⟩,rfl⟩
theorem HK{g:Gr}{bs:List Int}{k:Nat}{a b:List Int} :gJ g bs k (a++b)=gJ g bs k a++gJ g bs k b:=by simp[gJ]
theorem lJ{g:Gr}{bs:List Int}{k:Nat}{v:Int}{b:List Int} :gJ g bs k (v::b)=v::(vf g bs k v++gJ g bs k b):=by simp[gJ]
theorem DM{g:Gr}{bs:List Int}{a:List Int} :gJ g bs 0 a=a:=by
 induction a with
 |nil=>rfl
 |cons v a ih=>rw[lJ,ih];rfl
theorem Ci{g:Gr}{bs:List Int}{k:Nat}{a:List Int}(h:bt g (bs.getD k 0)∉a):gJ g bs (k+1) a=gJ g bs k a:=by
 induction a with
 |nil=>rfl
 |cons v a ih=>
  rw[lJ,lJ,ih fun e=>h (adw.2 (.inr e)),HJ,ac8 fun e=>h (adw.2 (.inl e)),ad5]
theorem HL{g:Gr}{bs:List Int}{k:Nat}{a:List Int}{u:Int} :u∈gJ g bs k a↔∃v∈a,u=v\/u∈vf g bs k v:=by simp[gJ]
theorem DN{g:Gr}{bs:List Int}{k:Nat}{ord:List Int}(bR:ord.Nodup)(hr:∀u∈ord,u<g.n)(ht:bt g (bs.getD k 0)∈ord):
 ∃A B,gJ g bs k ord=A++bt g (bs.getD k 0)::(vf g bs k (bt g (bs.getD k 0))++B)/\gJ g bs (k+1) ord=A++bt g (bs.getD k 0)::(vf g bs k (bt g (bs.getD k 0))++(g.n+(k:Int))::B)/\bt g (bs.getD k 0)∉A/\∀u r,B=u::r->u<g.n:=by
 obtain⟨o1,o2,e⟩:=aeX ht
 have ji:=bR
 rw[e,adu]at ji
 obtain⟨_,n2,n3⟩:=ji
 obtain⟨n4,_⟩:=ad6.1 n2
 have n5:bt g (bs.getD k 0)∉o1:=fun h=>n3 _ h _ (by simp) rfl
 refine⟨gJ g bs k o1,gJ g bs k o2, ?_, ?_,fun h=> ?_,fun u r hB=> ?_⟩
 ·rw[congrArg (gJ g bs k) e,HK,lJ]
 ·rw[congrArg (gJ g bs (k+1)) e,HK,lJ,Ci n5,Ci n4,HJ,ada rfl];simp
 ·obtain⟨v,hv,h1|h1⟩:=HL.1 h
  ·exact n5 (h1 ▸ hv)
  ·obtain⟨j,_,_,h2⟩:=j5.1 h1
   have:=hr _ ht
   omega
 ·cases o2 with
  |nil=>simp[gJ]at hB
  |cons w o2=>
   rw[lJ]at hB
   cases hB
   exact hr _ (by rw[e];simp)
theorem Cj{bs:List Int}{k j:Nat}(h:j<k):(bs.take k).getD j 0=bs.getD j 0:=by
 rw[aas,aas,afV h]
theorem xE{bs:List Int}{k:Nat}(h:k<bs.length):bs.take (k+1)=bs.take k++ [bs.getD k 0]:=by
 rw[ad2,acF h,aas,acF h];rfl
theorem NA{g:Gr}{bs:List Int}(hb:Cf g bs){k:Nat}(hk:k<bs.length){i:Nat}(hi:bs.getD k 0=i):
 i<g.es.length/\(mP g (bs.take k)).getD i (0,0)=(tl g i,hd g i)/\mP g (bs.take (k+1))=(mP g (bs.take k)++ [(g.n+(k:Int),hd g i)]).set i (tl g i,g.n+(k:Int)):=by
 have hil:i<g.es.length:=by have:=hb.lg _ (az (d:=0) hk);omega
 have hlt:(bs.take k).length=k:=by simp;omega
 have NB:(bs.take (k+1)).length=k+1:=by simp;omega
 have hni:(i:Int)∉bs.take k:=fun hm=>by
  have bR:=hb.nd
  rw[<- List.take_append_drop (k+1) bs,xE hk,hi]at bR
  have:=(adu.1 (adu.1 bR).1).2.2 _ hm _ (adv.2 rfl)
  exact this rfl
 refine⟨hil, ?_, ?_⟩
 ·unfold mP
  rw[aas,ady (by simpa using hil),adn,adq hil,Option.map_some,Option.getD_some,ac8 hni]
 ·unfold mP
  rw[hlt,NB,adO,List.set_append_left _ _ (by simpa using hil),adW (n:=k),adt,adD,adP]
  have hd2:bA g ((bs.take (k+1)).getD k 0)=hd g i:=by rw[Cj (by omega),hi];rfl
  rw[hd2]
  congr 1
  ·refine adZ fun j=> ?_
   rw[aeb]
   by_cases hj:j<g.es.length
   ·rw[adn,adq hj,adn,adq hj]
    simp only[Option.map_some,ado,ae3]
    by_cases e:i=j
    ·subst e
     have hin:(i:Int)∈bs.take (k+1):=by rw[xE hk,hi];simp
     rw[ada rfl,ada hj,ada hin]
     unfold qo
     rw[xE hk,hi,Fi,ac8 hni,hlt]
     simp
    ·rw[ac8 e,xE hk,hi]
     by_cases hm:(j:Int)∈bs.take k
     ·rw[ada hm,ada (by simp[hm])]
      unfold qo
      rw[Fi,ada hm]
     ·rw[ac8 hm,ac8 (by simp[hm];omega)]
   ·rw[ac8 (by omega),adp (by simpa using hj),adp (by simpa using hj)]
  ·congr 1
   refine ae6 fun j hj=> ?_
   rw[adl]at hj
   rw[Cj hj,Cj (by omega)]
theorem NC{g:Gr} :mP g []=g.es:=by
 unfold mP
 simp only[List.length_nil,List.range_zero,adP,ad5,aeo,if_false]
 refine adZ fun j=> ?_
 by_cases hj:j<g.es.length
 ·rw[adn,adq hj,Option.map_some,acF hj]
  simp only[tl,hd,aas,acF hj,Option.getD_some]
 ·rw[adp (by simpa using hj),adp (by omega)]
section
variable {g:Gr} {p:Pl} {bs:List Int} (h:aG g p) (hb:Cf g bs)
include h hb
theorem Tv:(gJ g bs bs.length p.ord).Nodup/\∀u,u∈gJ g bs bs.length p.ord↔0<=u/\u<g.n+bs.length:=by
 have hm:=ah h.1
 have hn:=aB hm
 have bR:=cF h.2.1
 have hr:∀u∈p.ord,0<=u/\u<g.n:=fun u hu=>by
  have:=h.2.1.2.1.mem_iff.1 hu
  simp only[dD,adb,adl]at this
  obtain⟨k,hk,e⟩:=this
  have e:(k:Int)=u:=e
  omega
 have hown:∀v,(vf g bs bs.length v).Nodup:=fun v=>by
  unfold vf
  refine aey _ (fun a b hab=> ?_) ((afW).filter _)
  intro e;apply hab;omega
 constructor
 ·unfold gJ
  rw[List.Nodup,aha]
  refine⟨fun v hv=>ad6.2 ⟨fun hh=> ?_,hown v⟩, ?_⟩
  ·obtain⟨j,_,_,e⟩:=j5.1 hh
   have:=(hr v hv).2
   omega
  ·refine aeU (fun {a b} ha hb' hne=> ?_) bR
   intro u hu u' xN euu
   subst euu
   rcases adw.1 hu with rfl|hu
   ·rcases adw.1 xN with rfl|xN
    ·exact hne rfl
    ·obtain⟨j,_,_,e⟩:=j5.1 xN
     have:=(hr u ha).2
     omega
   ·obtain⟨j,_,j2,e⟩:=j5.1 hu
    rcases adw.1 xN with rfl|xN
    ·have:=(hr u hb').2
     omega
    ·obtain⟨l,_,l2,e'⟩:=j5.1 xN
     obtain rfl:j=l:=by omega
     exact hne (j2.symm.trans l2)
 ·intro u
  rw[HL]
  constructor
  ·rintro⟨v,hv,rfl|hu⟩
   ·have:=hr u hv;omega
   ·obtain⟨j,j1,_,e⟩:=j5.1 hu
    omega
  ·rintro⟨h0,h1⟩
   by_cases hlt:u<g.n
   ·obtain⟨l,hl,e⟩:=cq h.2.1 h0 hlt
    exact⟨u,by rw[<- e,aq,aas,acF (by rw[aI h.2.1];exact hl)];exact ad3 _, .inl rfl⟩
   ·have hk:(u - g.n).toNat<bs.length:=by omega
    have Cr:=hb.lg _ (az (d:=0) hk)
    have ht:=aT hm (i:=(bs.getD (u - g.n).toNat 0).toNat) (by omega)
    obtain⟨l,hl,e⟩:=cq h.2.1 ht.1 ht.2
    refine⟨bt g (bs.getD (u - g.n).toNat 0), ?_, .inr (j5.2 ⟨(u - g.n).toNat,hk,rfl,by omega⟩)⟩
    show tl g (bs.getD (u - g.n).toNat 0).toNat∈p.ord
    rw[<- e,aq,aas,acF (by rw[aI h.2.1];exact hl)];exact ad3 _
theorem Fj:HF g p bs (HI g p bs):=by
 have hm:=ah h.1
 have hn:=aB hm
 have dI:=h.2.1.1
 have bR:=cF h.2.1
 obtain⟨n1,n2⟩:=Tv h hb
 refine⟨?_,fun x hx=> ?_,fun k hk=> ?_, ?_, ?_⟩
 ·show(p.outs++mQ g bs.length).length=_
  rw[adj,dI,mQ,ado,ae3];omega
 ·show(p.outs++mQ g bs.length).getD x []=_
  rw[aas,ady (by omega), <- List.getD_eq_getElem?_getD]
 ·show(p.outs++mQ g bs.length).getD (g.n.toNat+k) []=_
  rw[aas,adx (by omega),dI,af3,mQ,adn,adq hk];rfl
 ·refine(aec n1 ?_).2 fun u=> ?_
  ·unfold dD
   exact aey _ (fun a b hab=>by intro e;apply hab;exact afp e) afW
  ·show u∈gJ g bs bs.length p.ord↔_
   rw[n2]
   simp only[dD,adb,adl]
   constructor
   ·rintro⟨h0,h1⟩;exact⟨u.toNat,by omega,by show((u.toNat:Nat):Int)=u;omega⟩
   ·rintro⟨k,hk,e⟩
    have e:(k:Int)=u:=e
    omega
 ·have hr:∀u∈p.ord,u<g.n:=fun u hu=>by
   have:=h.2.1.2.1.mem_iff.1 hu
   simp only[dD,adb,adl]at this
   obtain⟨k,hk,e⟩:=this
   have e:(k:Int)=u:=e
   omega
  have gK:∀v∈p.ord,∀u∈v::vf g bs bs.length v,zm g bs u=v:=fun v hv u hu=>by
   rcases adw.1 hu with rfl|hu
   ·exact ada (hr u hv)
   ·obtain⟨j,j1,j2,rfl⟩:=j5.1 hu
    unfold zm
    rw[ac8 (by omega),show(g.n+(j:Int) - g.n).toNat=j by omega]
    exact j2
  show(gJ g bs bs.length p.ord).Pairwise _
  unfold gJ
  rw[aha]
  refine⟨fun v hv=> ?_, ?_⟩
  ·refine aeU (R:=fun a b=>a<b) (fun {a b} ha hb' hab=> .inr ⟨(gK v hv a ha).trans (gK v hv b hb').symm,hab⟩) (aeW.2 ⟨fun u hu=> ?_, ?_⟩)
   ·obtain⟨j,_,_,rfl⟩:=j5.1 hu
    have:=hr v hv
    omega
   ·unfold vf
    refine aey _ (fun a b hab=> ?_) (List.pairwise_lt_range.filter _)
    omega
  ·refine aeU (R:=fun a b=>p.ord.idxOf a<p.ord.idxOf b) (fun {a b} ha hb' hab=> ?_) ?_
   ·intro u hu v hv
    rw[gK a ha u hu,gK b hb' v hv]
    exact .inl hab
   ·rw[aei]
    intro i j hi hj hij
    have e1:=gN bR hi
    have e2:=gN bR hj
    rw[aas,acF hi,Option.getD_some]at e1
    rw[aas,acF hj,Option.getD_some]at e2
    omega
end
end Go.Ab
end
section
set_option maxHeartbeats 8000000
set_option maxRecDepth 20000
namespace Go.Ab
attribute [local congr] ACall.congr gd.congr Hd.congr Ny.congr vcOps.congr
open Go.Proofs
theorem JY(g:Gr)(hm:aM g=true)(both:Bool)(c:Nat->Bool)(F:Nat)(i0:Int)(hF:∀i:Nat,i<g.es.length->Spec Tryz.prog F (Args [eN i, .ptr 10001 0]) [(10001, .rob [eN i0])] (eB (c i)) [(10001, .rob [eN i0])])(a0:List Nat)(h0:N7 g both c a0):
 Spec Tryz.prog 149 (Args [eG g, .ref 10000,eB both, .fn F [] [.ptr 10001 0]]) [(10000, .own 208 1 (a0.map rU)),(10001, .box [eN i0])] (.tup []) [(10000, .own 208 1 ((JI g both c).map rU)),(10001, .box [eN i0])]:=by
 have hn:=aB hm
 obtain⟨M,hM⟩:=Te (g:=g) (by omega) both c
 (refine T.h [] [] [] Tryz.func149 rfl rfl (by kernel_rfl) fun X hX hP hC aA bB=> ?_)
 repeat' (first|refine Rn.p ?_|((first|refine Rs.p ?_|refine Hd.mk ?_);try simp only[go_sem,simprocAttr]))
 refine ag (fun s:List Nat × Bool=>N7 g both c s.1/\(s.2=false->s.1=JI g both c)) (fun s=>⟨[(1, .ref 10000),(2,eB both),(3, .fn F [] [.ptr 10001 0]),(4, .ptr 4 0),(8,eB s.2)], [(10000, .own 208 1 (s.1.map rU)),(10001, .box [eN i0]),(4, .box [eN g.n, .d (sE g.es)])]⟩) (fun s=>2*(M - B8 s.1)+(if s.2=true then 1 else 0)) (a0,true) ⟨h0,by simp⟩ ?_ ?_
 ·refine Le.of ?_ ?_<;>simp[go_sem,simprocAttr]
 rintro⟨a,more⟩ ⟨hG,zu⟩
 simp only at hG zu ⊢
 cases more with
 |false=>
  have:=zu rfl
  subst this
  repeat' (first|refine Rn.p ?_|((first|refine Rs.p ?_|refine Hd.mk ?_);try simp only[go_sem,simprocAttr]))
 |true=>
 repeat' (first|refine Rn.p ?_|((first|refine Rs.p ?_|refine Hd.mk ?_);try simp only[go_sem,simprocAttr]))
 refine ag (fun k:Nat=>k<=g.es.length) (fun k=>⟨[(1, .ref 10000),(2,eB both),(3, .fn F [] [.ptr 10001 0]),(4, .ptr 4 0),(8,eB (cn g both c a k).2),(15, .d (sE g.es)),(16,eN g.es.length),(17,eN k)], [(10000, .own 208 1 ((cn g both c a k).1.map rU)),(10001, .box [eN i0]),(4, .box [eN g.n, .d (sE g.es)])]⟩) (fun k=>g.es.length - k) 0 (by omega) ?_ ?_
 ·refine Le.of ?_ ?_<;>simp[go_sem,simprocAttr,cn]
 rintro k hk
 rcases adk k g.es.length with hlt|hge
 rotate_left
 ·have hb:decide ((k:Int)<(g.es.length:Int))=false:=ac6 (by omega)
  obtain rfl:k=g.es.length:=by omega
  obtain⟨i1,_⟩:=lH hm hG (adh g.es.length)
  have YN:=JK hm hG
  have LC:=mE (g:=g) (both:=both) (c:=c) (a:=a) (k:=g.es.length)
  have hdone:=Nq hm hG
  have Ia:=hM _ i1
  generalize cn g both c a g.es.length=R at*
  repeat' (first|refine Rn.p ?_|((first|refine Rs.p ?_|refine Hd.mk ?_);try simp only[go_sem,simprocAttr,hb]))
  refine⟨(R.1,R.2),⟨i1,fun hf=> ?_⟩, ?_, ?_⟩
  ·rw[(LC hf).1];exact hdone hf
  ·refine Le.of ?_ ?_<;>simp[go_sem,simprocAttr,hb]
  ·cases hR2:R.2 with
   |true=>have:=YN hR2;simp;omega
   |false=>rw[(LC hR2).1];simp
 have hb:decide ((k:Int)<(g.es.length:Int))=true:=ac7 (by omega)
 obtain⟨ZG,_⟩:=lH hm hG (k:=k) (by omega)
 obtain⟨ht,hh⟩:=cU hm hlt
 have YO:=hF k hlt
 have Uv:=ZG.len
 have NB:=ZG.lt (by omega)
 obtain⟨x,hx⟩:∃x:Nat,(g.es.getD k (0,0)).1=x:=⟨(g.es.getD k (0,0)).1.toNat,by omega⟩
 obtain⟨y,hy⟩:∃y:Nat,(g.es.getD k (0,0)).2=y:=⟨(g.es.getD k (0,0)).2.toNat,by omega⟩
 have htl:(tl g k).toNat=x:=by show((g.es.getD k (0,0)).1).toNat=x;rw[hx];rfl
 have VL:(hd g k).toNat=y:=by show((g.es.getD k (0,0)).2).toNat=y;rw[hy];rfl
 have dw:cn g both c a (k+1)=if c k=true then((((cn g both c a k).1.set x ((cn g both c a k).1.getD x 0 ||| (cn g both c a k).1.getD y 0)).set y (if both=true then(cn g both c a k).1.getD x 0 ||| (cn g both c a k).1.getD y 0 else(cn g both c a k).1.getD y 0)),(cn g both c a k).2||(decide ((cn g both c a k).1.getD x 0 ||| (cn g both c a k).1.getD y 0≠(cn g both c a k).1.getD x 0)||decide ((if both=true then(cn g both c a k).1.getD x 0 ||| (cn g both c a k).1.getD y 0 else(cn g both c a k).1.getD y 0)≠(cn g both c a k).1.getD y 0))) else cn g both c a k:=by
  simp only[cn,htl,VL]
 generalize cn g both c a k=R at ZG Uv NB dw
 obtain⟨A,m1⟩:=R
 simp only at ZG Uv NB dw ⊢
 have YF:=NB x
 have hly:=NB y
 cases hc:c k with
 |false=>
  rw[hc]at YO dw
  repeat' (first|refine Rn.p ?_|((first|refine Rs.p ?_|refine Hd.mk ?_|(refine bw [(10001,10001)] (YO) ?_ ?_;(focus(simp[go_sem,simprocAttr,hb,hx,hy];done))));try simp only[go_sem,simprocAttr,hb,hx,hy])|with_reducible (apply And.intro)|omega)
  refine⟨k+1,by omega, ?_,by omega⟩
  rw[dw]
  refine Le.of ?_ ?_<;>simp[go_sem,simprocAttr,hb,hx,hy]
 |true=>
  rw[hc]at YO dw
  rw[ada rfl]at dw
  have n1:=neU (a:=A.getD x 0 ||| A.getD y 0) (b:=A.getD x 0)
  have n2:=neU (a:=if both=true then A.getD x 0 ||| A.getD y 0 else A.getD y 0) (b:=A.getD y 0)
  have YL:A.getD x 0 ||| A.getD y 0<18446744073709551616:=Nat.or_lt_two_pow (n:=64) YF hly
  have IA:(A.set x (A.getD x 0 ||| A.getD y 0)).length=A.length:=adQ ..
  generalize OC:A.getD x 0 ||| A.getD y 0=t at n1 n2 dw YL IA
  generalize hd1:decide (t≠A.getD x 0)=d1 at n1 dw
  cases both with
  |true=>
   rw[ada rfl]at n2 dw
   generalize hd2:decide (t≠A.getD y 0)=d2 at n2 dw
   clear hd1 hd2
   cases m1<;>cases d1<;>cases d2<;>simp only[afq,afo,aeL,afe]at dw
   all_goals(repeat' (first|refine Rn.p ?_|((first|refine Rs.p ?_|refine Hd.mk ?_|(refine bw [(10001,10001)] (YO) ?_ ?_;(focus(simp[go_sem,simprocAttr,hb,hx,hy,OC,n1,n2,Uv,yE,adQ];done))));try simp only[go_sem,simprocAttr,hb,hx,hy,OC,n1,n2,Uv,yE,adQ])|with_reducible (first|apply And.intro|refine oD (by kernel_rfl) ?_)|omega))
   all_goals(refine⟨k+1,by omega, ?_,by omega⟩)
   all_goals(rw[dw])
   all_goals(refine Le.of ?_ ?_<;>simp[go_sem,simprocAttr,hb,hx,hy,OC,n1,n2,Uv,yE,adQ])
  |false=>
   rw[ac8 (by simp)]at n2 dw
   have hd2:decide (A.getD y 0≠A.getD y 0)=false:=ac6 fun h=>h rfl
   rw[hd2]at n2 dw
   clear hd1
   cases m1<;>cases d1<;>simp only[afq,afo,aeL,afe]at dw
   all_goals(repeat' (first|refine Rn.p ?_|((first|refine Rs.p ?_|refine Hd.mk ?_|(refine bw [(10001,10001)] (YO) ?_ ?_;(focus(simp[go_sem,simprocAttr,hb,hx,hy,OC,n1,n2,Uv,yE,adQ];done))));try simp only[go_sem,simprocAttr,hb,hx,hy,OC,n1,n2,Uv,yE,adQ])|with_reducible (first|apply And.intro|refine oD (by kernel_rfl) ?_)|omega))
   all_goals(refine⟨k+1,by omega, ?_,by omega⟩)
   all_goals(rw[dw])
   all_goals(refine Le.of ?_ ?_<;>simp[go_sem,simprocAttr,hb,hx,hy,OC,n1,n2,Uv,yE,adQ])
theorem Rc(i k:Int):Spec Tryz.prog 150 (Args [eN k, .ptr 10001 0]) [(10001, .rob [eN i])] (eB (!decide (k=i))) [(10001, .rob [eN i])]:=by
 (refine T.h [] [] [.t 3] Tryz.func150 rfl rfl (by kernel_rfl) fun X hX hP hC aA bB=> ?_)
 repeat' (first|refine Rn.p ?_|((first|refine Rs.p ?_|refine Hd.mk ?_);try simp only[go_sem,simprocAttr]))
def xF(i:Nat)(k:Nat):Bool:= !decide ((k:Int)=(i:Int))
noncomputable def Re (g:Gr) (i:Nat):Bool:=((JI g false (xF i)).getD (tl g i).toNat 0).testBit (hd g i).toNat
noncomputable def Ii (g:Gr) (k:Nat):List Int:=((List.range k).filter fun i=>Re g i).map fun i:Nat=>(i:Int)
noncomputable def cO (g:Gr):List Int:=if aM g=true then Ii g g.es.length else []
theorem Rg{g:Gr}{k:Nat} :Ii g (k+1)=if Re g k=true then Ii g k++ [(k:Int)] else Ii g k:=by
 unfold Ii
 rw[adW,ad9,adt]
 cases h:Re g k with
 |true=>rw[ada rfl,aeE,ada h];rfl
 |false=>rw[ac8 (by simp),aeE,ac8 (by rw[h];decide)];simp
theorem LJ{g:Gr}{k:Nat} :(Ii g k).length<=k:=by
 unfold Ii
 rw[ado]
 exact aek (aeI _ _) (by simp)
theorem LL(g:Gr)(hl:g.es.length<=9223372036854775807):Spec Tryz.prog 102 (Args [eG g]) [] (.d (sI (cO g))) []:=by
 have hE:=JL g hl
 (refine T.h [200,34,33] [] [.t 2] Tryz.func102 rfl rfl (by kernel_rfl) fun X hX hP hC aA bB=> ?_)
 repeat' (first|(show cR _ (.seq (.region 1 _ _) _) _ _;(refine dQ hX 2 200 (.own 3 1 []) ?_ ?_ (by decide) ⟨3,1,by decide, .inl rfl⟩ ?_;(iterate 2 (focus(simp only[go_sem,simprocAttr];done)));simp only[go_sem,simprocAttr]))|refine Rn.p ?_|((first|refine Rs.p ?_|refine Hd.mk ?_);try simp only[go_sem,simprocAttr]))
 have hm0:aM g=false->cO g= []:=fun h=>by unfold cO;rw[h];rfl
 cases hm:aM g with
 |false=>
  have hU:nr g= []:=by unfold nr;rw[hm];rfl
  rw[hU]at hE
  rw[hm0 hm]
  cases Ib:g.es with
  |nil=>
   refine ag (fun k:Nat=>k=0) (fun _=>⟨[(1, .ptr 1 0),(2, .ref 200),(7, .d (sE [])),(8,eN 0),(9,eN 0)], [(1, .box [eN g.n, .d (sE [])]),(200, .own 3 1 [])]⟩) (fun _=>0) 0 rfl ?_ ?_
   ·refine Le.of ?_ ?_<;>simp[go_sem,simprocAttr,Ib]
   rintro k rfl
   repeat' (first|refine Rn.p ?_|((first|refine Rs.p ?_|refine Hd.mk ?_);try simp only[go_sem,simprocAttr]))
  |cons q r=>
   have hq:g.es.length=r.length+1:=by rw[Ib];rfl
   have hb:decide ((0:Int)<((r.length+1:Nat):Int))=true:=ac7 (by omega)
   refine ag (fun k:Nat=>k=0) (fun _=>⟨[(1, .ptr 1 0),(2, .ref 200),(7, .d (sE g.es)),(8,eN ((r.length+1:Nat):Int)),(9,eN 0)], [(1, .box [eN g.n, .d (sE g.es)]),(200, .own 3 1 [])]⟩) (fun _=>0) 0 rfl ?_ ?_
   ·refine Le.of ?_ ?_<;>simp[go_sem,simprocAttr,Ib]
   rintro k rfl
   repeat' (first|refine Rn.p ?_|((first|refine Rs.p ?_|refine Hd.mk ?_|(refine fu 15 (hE) ?_ (by first|exact tV|exact tW|exact tY|exact wO) rfl (by decide) ?_;(focus(simp only[go_sem,simprocAttr,hb];done))));try simp only[go_sem,simprocAttr,hb])|with_reducible (apply And.intro)|omega)
 |true=>
  have hn:=aB hm
  have he:(nr g).length=g.n.toNat:=by unfold nr;rw[ada hm];exact B9
  have hb0:decide ((g.n.toNat:Int)=0)=false:=ac6 (by omega)
  have hT:cO g=Ii g g.es.length:=ada hm
  rw[hT]
  have hG:=fun i:Nat=>JY g hm false (xF i) 150 (i:Int) (fun k _=>Rc (i:Int) (k:Int)) (nr g) (Nu hm)
  generalize nr g=U at hE he hG
  refine ag (fun k:Nat=>k<=g.es.length) (fun k=>⟨[(1, .ptr 1 0),(2, .ref 200),(7, .d (sE g.es)),(8,eN g.es.length),(9,eN k)], [(1, .box [eN g.n, .d (sE g.es)]),(200, .own 3 1 ((Ii g k).map rI))]⟩) (fun k=>g.es.length - k) 0 (by omega) ?_ ?_
  ·refine Le.of ?_ ?_<;>simp[go_sem,simprocAttr,Ii]
  rintro k hk
  rcases adk k g.es.length with hlt|hge
  rotate_left
  ·have hb:decide ((k:Int)<(g.es.length:Int))=false:=ac6 (by omega)
   obtain rfl:k=g.es.length:=by omega
   repeat' (first|refine Rn.p ?_|((first|refine Rs.p ?_|refine Hd.mk ?_);try simp only[go_sem,simprocAttr,hb]))
  have hb:decide ((k:Int)<(g.es.length:Int))=true:=ac7 (by omega)
  have hGk:=hG k
  have dw:=Rg (g:=g) (k:=k)
  have Eh:=LJ (g:=g) (k:=k)
  obtain⟨ht,hh⟩:=cU hm hlt
  obtain⟨x,hx⟩:∃x:Nat,(g.es.getD k (0,0)).1=x:=⟨(g.es.getD k (0,0)).1.toNat,by omega⟩
  obtain⟨y,hy⟩:∃y:Nat,(g.es.getD k (0,0)).2=y:=⟨(g.es.getD k (0,0)).2.toNat,by omega⟩
  rw[hx]at ht
  rw[hy]at hh
  have H7:Re g k=((JI g false (xF k)).getD x 0).testBit y:=by
   unfold Re
   rw[show(tl g k).toNat=x by show((g.es.getD k (0,0)).1).toNat=x;rw[hx];rfl,show(hd g k).toNat=y by show((g.es.getD k (0,0)).2).toNat=y;rw[hy];rfl]
  have hrl:(JI g false (xF k)).length=g.n.toNat:=z7
  have hH:=Ns ((JI g false (xF k)).getD x 0) (by
   rw[JJ (by omega)]
   exact afc Tb (Nat.pow_le_pow_right (by decide) (show g.n.toNat<=64 by omega))) (y:Int)
  rw[show(decide ((0:Int)<=(y:Int))&&decide ((y:Int)<64)&&((JI g false (xF k)).getD x 0).testBit ((y:Int)).toNat)=Re g k by
   rw[H7,ac7 (show(0:Int)<=(y:Int) by omega),ac7 (show(y:Int)<64 by omega)];rfl]at hH
  generalize JI g false (xF k)=R at hGk hrl hH
  generalize Ii g k=O at dw Eh
  cases hB:Re g k with
  |true=>
   rw[hB]at hH
   rw[hB,ada rfl]at dw
   repeat' (first|(show cR _ (.region 10 _ _) _ _;(refine uC hX 2 34 200 (by simp only[go_sem,simprocAttr,hb,hb0,he,hx,hy,hrl]) rfl (by first|exact .inl rfl|exact .inr rfl) (by decide) ?_;simp only[go_sem,simprocAttr,hb,hb0,he,hx,hy,hrl]))|refine Rn.p ?_|((first|refine Rs.p ?_|refine Hd.mk ?_|(refine fu 15 (hE) ?_ (by first|exact tV|exact tW|exact tY|exact wO) rfl (by decide) ?_;(focus(simp only[go_sem,simprocAttr,hb,hb0,he,hx,hy,hrl];done)))|(refine aS [(10000,15),(10001,3)] (hGk) ?_ ?_;(focus(simp[go_sem,simprocAttr,hb,hb0,he,hx,hy,hrl];done)))|refine aa (hH) rfl ?_);try simp only[go_sem,simprocAttr,hb,hb0,he,hx,hy,hrl])|with_reducible (first|apply And.intro|refine oD (by kernel_rfl) ?_)|omega)
   refine⟨k+1,by omega, ?_,by omega⟩
   rw[dw]
   refine Le.of ?_ ?_<;>simp[go_sem,simprocAttr,hb,hb0,he,hx,hy,hrl,rI]
  |false=>
   rw[hB]at hH
   rw[hB,ac8 (by simp)]at dw
   repeat' (first|refine Rn.p ?_|((first|refine Rs.p ?_|refine Hd.mk ?_|(refine fu 15 (hE) ?_ (by first|exact tV|exact tW|exact tY|exact wO) rfl (by decide) ?_;(focus(simp only[go_sem,simprocAttr,hb,hb0,he,hx,hy,hrl];done)))|(refine aS [(10000,15),(10001,3)] (hGk) ?_ ?_;(focus(simp[go_sem,simprocAttr,hb,hb0,he,hx,hy,hrl];done)))|refine aa (hH) rfl ?_);try simp only[go_sem,simprocAttr,hb,hb0,he,hx,hy,hrl])|with_reducible (first|apply And.intro|refine oD (by kernel_rfl) ?_)|omega)
   refine⟨k+1,by omega, ?_,by omega⟩
   rw[dw]
   refine Le.of ?_ ?_<;>simp[go_sem,simprocAttr,hb,hb0,he,hx,hy,hrl]
end Go.Ab
end
section
set_option maxRecDepth 10000
namespace Go.Ab
open Go.Proofs
def W0(g:Gr)(both:Bool)(c:Nat->Bool)(a:List Bool):Nat->List Bool
 |0=>a
 |k+1=>if c k&&((W0 g both c a k).getD (tl g k).toNat false||both&&(W0 g both c a k).getD (hd g k).toNat false) then
   ((W0 g both c a k).set (hd g k).toNat true).set (tl g k).toNat (((W0 g both c a k).set (hd g k).toNat true).getD (tl g k).toNat false||both) else W0 g both c a k
def Y8(g:Gr)(both:Bool)(c:Nat->Bool)(a:List Bool):Nat->List Bool
 |0=>a
 |r+1=>W0 g both c (Y8 g both c a r) g.es.length
section
variable {g:Gr} (hm:aM g=true) {both:Bool} {c:Nat->Bool}
include hm
def acZ(a:List Bool):Nat:=a.countP id
end
end Go.Ab
end
section
set_option maxHeartbeats 8000000
set_option maxRecDepth 20000
namespace Go.Ab
attribute [local congr] ACall.congr gd.congr Hd.congr Ny.congr vcOps.congr
open Go.Proofs
def abo(n x:Nat):List Bool:=(List.replicate n false).set x true
theorem xR.congr{g:Gr}{both:Bool}{c c':Nat->Bool}(h:∀k,k<g.es.length->c k=c' k){x y:Nat}(hr:xR g both c x y):xR g both c' x y:=by
 induction hr with
 |refl=>exact .refl
 | @fwd i a b _ ih=>exact .fwd a (by rw[<- h i a];exact b) ih
 | @Tc i a b d _ ih=>exact .Tc a (by rw[<- h i a];exact b) d ih
def ac0(m i:Nat):List Bool:=(qj m m).set i false
end Go.Ab
end
section
set_option maxRecDepth 10000
namespace Go.Ab
open Go.Proofs
section
variable {g:Gr} {bs:List Int} (hm:aM g=true) (hb:Cf g bs)
include hm hb
theorem xG{i:Nat}(hi:i<g.es.length):tl (aO g bs) i=tl g i/\hd (aO g bs) i=if(i:Int)∈bs then qo g bs i else hd g i:=by
 have:=de (g:=g) (bs:=bs) (e:=(i:Int)) (by omega) (by omega)
 exact this
theorem xH{k:Nat}(hk:k<bs.length):tl (aO g bs) (g.es.length+k)=g.n+(k:Int)/\hd (aO g bs) (g.es.length+k)=hd g (bs.getD k 0).toNat:=by
 have:=gG (g:=g) (bs:=bs) hk
 exact this
theorem Wf{c c':Nat->Bool}(h1:∀i:Nat,i<g.es.length->c' i=true->(i:Int)∉bs->c i=true)(h2:∀k:Nat,k<bs.length->c' (g.es.length+k)=true->c (bs.getD k 0).toNat=true){u w:Nat}(hu:u<g.n.toNat)(h:xR (aO g bs) false c' u w):xR g false c u (zm g bs w).toNat:=by
 have hn:=aB hm
 induction h with
 |refl=>
  have:(zm g bs (u:Int)).toNat=u:=by unfold zm;rw[ada (by omega)];omega
  rw[this]
  exact .refl
 |Tc _ _ hf=>cases hf
 | @fwd i hi V4 _ ih=>
   rw[dV]at hi
   rcases adk i g.es.length with hil|N1
   ·obtain⟨e1,e2⟩:=xG hm hb hil
    have t:=aT hm hil
    have d:=aU hm hil
    have q1:(zm g bs (((tl (aO g bs) i).toNat:Nat):Int)).toNat=(tl g i).toNat:=by rw[e1];unfold zm;rw[ada (by omega)];omega
    rw[q1]at ih
    by_cases hin:(i:Int)∈bs
    ·obtain⟨n1,n2,n3,n4⟩:=c7 hb hin
     rw[e2,ada hin,show(((qo g bs (i:Int)).toNat:Nat):Int)=qo g bs (i:Int) by omega,n3]
     exact ih
    ·rw[e2,ac8 hin]
     have q2:(zm g bs (((hd g i).toNat:Nat):Int)).toNat=(hd g i).toNat:=by unfold zm;rw[ada (by omega)];omega
     rw[q2]
     exact .fwd hil (h1 i hil V4 hin) ih
   ·obtain⟨k,rfl⟩:∃k,i=g.es.length+k:=⟨i - g.es.length,by omega⟩
    have hk:k<bs.length:=by omega
    obtain⟨e1,e2⟩:=xH hm hb hk
    have hr:=hb.lg _ (az (d:=0) hk)
    have hil:(bs.getD k 0).toNat<g.es.length:=by omega
    have t:=aT hm hil
    have d:=aU hm hil
    have q1:(zm g bs (((tl (aO g bs) (g.es.length+k)).toNat:Nat):Int)).toNat=(tl g (bs.getD k 0).toNat).toNat:=by
     rw[e1];unfold zm;rw[ac8 (by omega),show((((g.n+(k:Int)).toNat:Nat):Int) - g.n).toNat=k by omega];rfl
    rw[q1]at ih
    have q2:(zm g bs (((hd g (bs.getD k 0).toNat).toNat:Nat):Int)).toNat=(hd g (bs.getD k 0).toNat).toNat:=by unfold zm;rw[ada (by omega)];omega
    rw[e2,q2]
    exact .fwd hil (h2 k hk V4) ih
theorem Fk{i:Nat}(hi:i<g.es.length):Re g i=true↔xR g false (xF i) (tl g i).toNat (hd g i).toNat:=by
 have t:=aT hm hi
 have d:=aU hm hi
 unfold Re
 rw[JJ (by omega),Ln]
 exact⟨fun h=>h.2,fun h=>⟨by omega,h⟩⟩
end
theorem rR{i k:Nat} :xF i k=true↔k≠i:=by
 unfold xF
 rw[adK,adM]
 omega
theorem Fl{g:Gr}(hm:aM g=true){i:Int} :i∈cO g↔∃k:Nat,k<g.es.length/\Re g k=true/\i=(k:Int):=by
 unfold cO
 rw[ada hm]
 simp only[Ii,adb,adJ,adl]
 constructor
 ·rintro⟨j,⟨h1,h2⟩,rfl⟩;exact⟨j,h1,h2,rfl⟩
 ·rintro⟨j,h1,h2,rfl⟩;exact⟨j,⟨h1,h2⟩,rfl⟩
theorem Tw{g:Gr} :Cf g (cO g):=by
 unfold cO
 split
 ·refine⟨?_,fun i hi=> ?_⟩
  ·unfold Ii
   exact aey _ (fun a b hab=>by omega) (List.nodup_range.filter _)
  ·simp only[Ii,adb,adJ,adl]at hi
   obtain⟨j,⟨h1,_⟩,rfl⟩:=hi
   omega
 ·exact⟨ae1,by simp⟩
theorem Rh{g:Gr}(hm:aM g=true)(hmR:aM (aO g (cO g))=true):cO (aO g (cO g))= []:=by
 have hn:=aB hm
 have hb:=Tw (g:=g)
 refine ae8.2 fun e he=> ?_
 obtain⟨i,hi,ht,rfl⟩:=(Fl hmR).1 he
 have hbR:Cf (aO g (cO g)) []:=⟨ae1,by simp⟩
 rw[Fk hmR hbR hi]at ht
 rw[dV]at hi
 rcases adk i g.es.length with hil|N1
 ·obtain⟨e1,e2⟩:=xG hm hb hil
  have t:=aT hm hil
  have d:=aU hm hil
  by_cases hin:(i:Int)∈cO g
  ·obtain⟨n1,n2,n3,n4⟩:=c7 hb hin
   rw[e2,ada hin,e1]at ht
   generalize hw:(qo g (cO g) (i:Int)).toNat=w at ht
   cases ht with
   |refl=>omega
   |Tc _ _ hf=>cases hf
   | @fwd j hj hcj _=>
     have hji:=rR.1 hcj
     rw[dV]at hj
     rcases adk j g.es.length with hjl|WG
     ·have dj:=aU hm hjl
      have f2:=(xG hm hb hjl).2
      by_cases hjn:(j:Int)∈cO g
      ·obtain⟨m1,m2,m3,m4⟩:=c7 hb hjn
       rw[f2,ada hjn]at hw
       have:qo g (cO g) (i:Int)=qo g (cO g) (j:Int):=by omega
       rw[this,m4]at n4
       omega
      ·rw[f2,ac8 hjn]at hw
       omega
     ·obtain⟨k,rfl⟩:∃k,j=g.es.length+k:=⟨j - g.es.length,by omega⟩
      have hk:k<(cO g).length:=by omega
      have f2:=(xH hm hb hk).2
      have hr:=hb.lg _ (az (d:=0) hk)
      have dj:=aU hm (i:=((cO g).getD k 0).toNat) (by omega)
      rw[f2]at hw
      omega
  ·refine hin ((Fl hm).2 ⟨i,hil,(Fk hm hb hil).2 ?_,rfl⟩)
   rw[e1,e2,ac8 hin]at ht
   have:=Wf hm hb (c:=xF i) (fun j _ hj _=>hj) (fun k hk _=>rR.2 fun e=>hin ?_) (by omega) ht
   ·rw[show(zm g (cO g) (((hd g i).toNat:Nat):Int)).toNat=(hd g i).toNat by unfold zm;rw[ada (by omega)];omega]at this
    exact this
   ·have hr:=hb.lg _ (az (d:=0) hk)
    have:=az (d:=0) hk
    rw[show(cO g).getD k 0=(i:Int) by omega]at this
    exact this
 ·obtain⟨k,rfl⟩:∃k,i=g.es.length+k:=⟨i - g.es.length,by omega⟩
  have hk:k<(cO g).length:=by omega
  obtain⟨e1,e2⟩:=xH hm hb hk
  have hr:=hb.lg _ (az (d:=0) hk)
  have d:=aU hm (i:=((cO g).getD k 0).toNat) (by omega)
  rw[e1,e2]at ht
  have key:∀w,xR (aO g (cO g)) false (xF (g.es.length+k)) (g.n+(k:Int)).toNat w->w=(g.n+(k:Int)).toNat:=fun w hw=>by
   induction hw with
   |refl=>rfl
   |Tc _ _ hf=>cases hf
   | @fwd j hj hcj _ ih=>
     exfalso
     have hji:=rR.1 hcj
     rw[dV]at hj
     rcases adk j g.es.length with hjl|WG
     ·have tj:=aT hm hjl
      rw[(xG hm hb hjl).1]at ih
      omega
     ·obtain⟨k',rfl⟩:∃k',j=g.es.length+k':=⟨j - g.es.length,by omega⟩
      rw[(xH hm hb (by omega)).1]at ih
      omega
  have:=key _ ht
  omega
theorem JZ{p q r s c:Pt}(hu:p.2<q.2)(hr:r.2<s.2)(h:Cx p q r s c):Cv p q (c.2:Rat) (c.1:Rat)/\Cv r s (c.2:Rat) (c.1:Rat):=by
 rcases h with ⟨h,rfl⟩|⟨h,rfl⟩|⟨h,rfl⟩|⟨h,rfl⟩
 ·exact⟨dr hu eV,dr hr h⟩
 ·exact⟨dr hu (by rw[fV];exact eV),dr hr h⟩
 ·exact⟨dr hu h,dr hr eV⟩
 ·exact⟨dr hu h,dr hr (by rw[fV];exact eV)⟩
theorem Ri{A B:Rat}(hne:A - B≠0)(h:A*B<=0):∃u:Rat,0<=u/\u<=1/\u*(A - B)=A:=by
 refine⟨A / (A - B), ?_, ?_,by grind⟩
 all_goals(
  have e:A / (A - B)*(A - B)=A:=by grind
  generalize A / (A - B)=u at*
  have p:0<(A - B)*(A - B):=by
   have:=yz (A - B)
   rcases(show 0<(A - B)*(A - B)\/(A - B)*(A - B)=0 by grind) with h1|h1
   ·exact h1
   ·grind
  refine afE.1 fun hn=> ?_)
 ·have:=aeK (show 0< -u by grind) p
  have s:=yz A
  have:u*((A - B)*(A - B))=A*A - A*B:=by grind
  grind
 ·have:=aeK (show 0<u - 1 by grind) p
  have s:=yz B
  have:(u - 1)*((A - B)*(A - B))=A*B - B*B:=by grind
  grind
theorem J1{p q r s:Pt}(hu:p.2<q.2)(hr:r.2<s.2)(h:1<=c8 p q r s):∃y X:Rat,Cv p q y X/\Cv r s y X:=by
 by_cases hK:0<(K4 p q r s).length
 ·obtain⟨x,hx⟩:=List.length_pos_iff_exists_mem.1 hK
  obtain⟨c,hc,_⟩:=jl.1 hx
  exact⟨_,_,JZ hu hr hc⟩
 by_cases hT:tm p q r s=0
 ·exfalso
  unfold c8 at h
  rw[ac8 hK]at h
  split at h
  ·rename_i h2
   have d:=k9 p q r s
   rw[sK,sK,show ai p q s=ai p q r by omega]at h2
   have:=h2.1
   have:=sq_nonneg (jh (ai p q r) 0)
   omega
  ·omega
 ·rw[kf hT]at h
  split at h
  rotate_left
  ·omega
  rename_i h2
  obtain⟨h2,h3⟩:=h2
  have d:=mg p q r s
  have hne:((ai r s p:Int):Rat) - ((ai r s q:Int):Rat)≠0:=by
   intro e
   have:((ai r s p - ai r s q:Int):Rat)=((0:Int):Rat):=by push_cast;grind
   have:ai r s p - ai r s q=0:=by exact_mod_cast this
   omega
  obtain⟨u,u0,u1,WT⟩:=Ri hne (by exact_mod_cast h3)
  have pq:(0:Rat)<(q.2:Rat) - p.2:=by
   have:(p.2:Rat)<q.2:=by exact_mod_cast hu
   grind
  have rs:(0:Rat)<(s.2:Rat) - r.2:=by
   have:(r.2:Rat)<s.2:=by exact_mod_cast hr
   grind
  have c1:Cv p q (p.2+((q.2:Rat) - p.2)*u) (p.1+((q.1:Rat) - p.1)*u):=by
   refine⟨?_, ?_,by grind⟩
   ·have:=aeB (agj pq) u0
    grind
   ·have:=aeB (agj pq) (show 0<=1 - u by grind)
    grind
  have e2:((p.1+((q.1:Rat) - p.1)*u) - r.1)*((s.2:Rat) - r.2)=((s.1:Rat) - r.1)*((p.2+((q.2:Rat) - p.2)*u) - r.2):=by
   unfold ai at WT
   push_cast at WT
   grind
  refine⟨_,_,c1, ?_⟩
  generalize (p.2+((q.2:Rat) - p.2)*u)=y at*
  generalize (p.1+((q.1:Rat) - p.1)*u)=X at*
  have e1:=c1.eq
  have a1:((ai p q r:Int):Rat)*(s.2 - r.2)=(r.2 - y)*((tm p q r s:Int):Rat):=by
   unfold ai tm
   push_cast
   grind
  have a2:((ai p q s:Int):Rat)*(s.2 - r.2)=(s.2 - y)*((tm p q r s:Int):Rat):=by
   unfold ai tm
   push_cast
   grind
  have hM:((tm p q r s:Int):Rat)≠0:=by exact_mod_cast hT
  have hAB:((ai p q r:Int):Rat)*((ai p q s:Int):Rat)<=0:=by exact_mod_cast h2
  generalize ((tm p q r s:Int):Rat)=M at*
  generalize ((ai p q r:Int):Rat)=A at*
  generalize ((ai p q s:Int):Rat)=B at*
  have hMM:0<M*M:=by
   have:=yz M
   rcases(show 0<M*M\/M*M=0 by grind) with h1|h1
   ·exact h1
   ·grind
  have hp:((r.2:Rat) - y)*(s.2 - y)*(M*M)<=0:=by
   have e:((r.2:Rat) - y)*(s.2 - y)*(M*M)=A*B*((s.2 - r.2)*(s.2 - r.2)):=by grind
   rw[e]
   exact gn hAB (yz _)
  have hq:((r.2:Rat) - y)*(s.2 - y)<=0:=afE.1 fun hn=>by
   have:=aeK hn hMM
   grind
  refine⟨afE.1 fun hn=> ?_,afE.1 fun hn=> ?_,e2⟩
  ·have:=aeK (show 0<(r.2:Rat) - y by grind) (show 0<(s.2:Rat) - y by grind)
   grind
  ·have:=aeK (show 0<y - (r.2:Rat) by grind) (show 0<y - (s.2:Rat) by grind)
   grind
theorem Rj{es:List Pt}{p q r s:Pt}(hu:p.2<q.2)(hr:r.2<s.2)(h:∀y X:Rat,Cv p q y X->Cv r s y X->False):dH es (p,q) (r,s)=false:=by
 have h0:c8 p q r s<1:=ahc.1 fun hm=>by
  obtain⟨y,X,a,b⟩:=J1 hu hr hm
  exact h y X a b
 have h1:fF p q r s<1:=by
  rw[jX]
  split
  ·exact h0
  ·omega
 unfold dH
 simp only[aeq,adM,aeT]
 exact⟨by omega, .inl (by omega)⟩
theorem Tx{es:List Pt}{p q r s c:Pt}(hu:p.2<q.2)(hr:r.2<s.2)(hb:bC p/\bC q/\bC r/\bC s/\bC c)(hc:c∈es)(h1:iz p q c=true)(h2:iz r s c=true)(h:∀y X:Rat,Cv p q y X->Cv r s y X->y=(c.2:Rat)):dH es (p,q) (r,s)=false:=by
 obtain⟨b1,b2,b3,b4,b5⟩:=hb
 have hm:fF p q r s<=1:=by
  rw[jX,ada ⟨b1,b2,b3,b4⟩]
  have hl:(K4 p q r s).length<=1:=by
   have hn:=og p q r s
   match hK:K4 p q r s with
   | []=>simp
   | [x]=>simp
   |x::z::l=>
    exfalso
    rw[hK]at hn
    obtain⟨a,ha,rfl⟩:=jl.1 (show x∈K4 p q r s by rw[hK];simp)
    obtain⟨e,he,rfl⟩:=jl.1 (show z∈K4 p q r s by rw[hK];simp)
    obtain⟨a1,a2⟩:=JZ hu hr ha
    obtain⟨e1,e2⟩:=JZ hu hr he
    have y1:=h _ _ a1 a2
    have y2:=h _ _ e1 e2
    have y3:a.2=e.2:=by
     have:(a.2:Rat)=(e.2:Rat):=by grind
     exact_mod_cast this
    rw[y3]at a1
    have x3:a.1=e.1:=by exact_mod_cast zZ hu a1 e1
    have:a=e:=afs x3 y3
    rw[this]at hn
    simp at hn
  unfold c8
  split
  ·omega
  ·split<;>omega
 unfold dH
 simp only[aeq,adM,aeT,afF,adR,adg]
 refine⟨by omega, .inr ⟨c,hc, ?_, ?_⟩⟩
 ·unfold nG
  rw[ac7 ⟨b1,b2,b5⟩,h1];rfl
 ·unfold nG
  rw[ac7 ⟨b3,b4,b5⟩,h2];rfl
section
variable {P:PS} (h:P.Ok) {L R:Int->Int} {f0 f1:Int} {low:Int->Int} (F:P.fM L R f0 f1 low)
include h F
theorem Ty{x:Int}{u v v':List Int}{e a:Int}(hu:P.outs x=u++e::v)(ha:P.outs x=v'++ [a]):P.Lp L R (R e) (R a):=by
 have hl:ja L R (L ((P.outs x).headD 0)) (P.outs x):=by
  cases hI:P.outs x with
  |nil=>trivial
  |cons b w=>rw[<- hI];exact sW h F fun b' w' e'=>by rw[hI];rw[hI]at e';simp only[adB]at e';simp[e'.1]
 rw[hu,show u++e::v=(u++ [e])++v by simp,cw,cW]at hl
 have h2:=w8 (P:=P) (fun b hb=>((h.bI x b).1 (by rw[hu];simp[hb])).1) hl.2
 have h3:ku R (R e) v=R a:=by
  have e1:ku R 0 (P.outs x)=R a:=by rw[ha,cW]
  rw[hu,show u++e::v=(u++ [e])++v by simp,dn,cW]at e1
  exact e1
 rw[h3]at h2;exact h2
theorem DO{a e e1:Int}{u:List Int}(he:e∈P.ins a\/e∈P.outs a)(h1:P.outs a=u++ [e1]):P.Lp L R (R e) (R e1):=by
 rcases he with he|he
 ·obtain⟨s,w,hs⟩:=aeX he
  obtain⟨u',a',xN⟩:=iA (l:=P.ins a) (fun h0=>by rw[h0]at he;cases he)
  have:=Ql h F hs xN
  rw[F.GM xN h1]at this
  exact this
 ·obtain⟨s,w,hs⟩:=aeX he
  exact Ty h F hs h1
end
section
variable {P:PS} (h:P.Ok) {L R:Int->Int} {f0 f1:Int} {low:Int->Int} (F:P.fM L R f0 f1 low)
include h F
theorem Rk{b f f1:Int}{v:List Int}(hf:f∈P.ins b\/f∈P.outs b)(h1:P.outs b=f1::v):P.Lp L R (L f1) (L f):=by
 have:=DO h.Di (F.Di h) (a:=b) (e:=f) (e1:=f1) (u:=v.reverse) (by
  rcases hf with hf|hf
  ·exact .inl (aeY.2 hf)
  ·exact .inr (aeY.2 hf)) (by show(P.outs b).reverse=_;rw[h1];simp)
 exact Lw (P:=P.Di) (Q:=P) rfl this
theorem xI{a b e f:Int}(hl:P.Ti L R a b)(he:e∈P.ins a\/e∈P.outs a)(hf:f∈P.ins b\/f∈P.outs b):P.Lp L R (R e) (L f):=by
 obtain⟨u,e1,f1,v,h1,h2,h3⟩:=hl
 exact(DO h F he h1).trans (h3.trans (Rk h F hf h2))
end
def Ag(g:Gr)(e:Int):Prop:=0<=e/\e<g.es.length
def iC(g:Gr)(p:Pl)(v:Int):Pt:=(jy g p false v,jy g p true v)
theorem ND{p q:Pt}{y X:Rat}(h1:p.1<q.1)(h2:p.2<q.2)(h:Cv p q y X):(p.1:Rat)<=X/\X<=(q.1:Rat):=by
 have a1:(p.1:Rat)<q.1:=by exact_mod_cast h1
 have a2:(p.2:Rat)<q.2:=by exact_mod_cast h2
 have e:=h.eq
 have l:=h.lo
 have r:=h.hi
 refine⟨afE.1 fun hn=> ?_,afE.1 fun hn=> ?_⟩
 ·have:=aeK (show 0<(p.1:Rat) - X by grind) (show 0<(q.2:Rat) - p.2 by grind)
  have:=aeB (show 0<=(q.1:Rat) - p.1 by grind) (show 0<=y - p.2 by grind)
  grind
 ·have:=aeK (show 0<X - (q.1:Rat) by grind) (show 0<(q.2:Rat) - p.2 by grind)
  have:=aeB (show 0<=(q.1:Rat) - p.1 by grind) (show 0<=(q.2:Rat) - y by grind)
  grind
theorem Rl{u v w z:Pt}{y X:Rat}(a1:u.1<v.1)(a2:u.2<v.2)(h1:w.1<u.1)(h2:u.2<w.2)(h3:z.1<v.1)(h4:v.2<z.2)(b2:w.2<z.2)(a:Cv u v y X)(b:Cv w z y X):False:=by
 have a1':(u.1:Rat)<v.1:=by exact_mod_cast a1
 have a2':(u.2:Rat)<v.2:=by exact_mod_cast a2
 have CO:(w.1:Rat)<u.1:=by exact_mod_cast h1
 have NV:(u.2:Rat)<w.2:=by exact_mod_cast h2
 have NW:(z.1:Rat)<v.1:=by exact_mod_cast h3
 have h4':(v.2:Rat)<z.2:=by exact_mod_cast h4
 have b2':(w.2:Rat)<z.2:=by exact_mod_cast b2
 have ea:=a.eq
 have eb:=b.eq
 have lb:=b.lo
 have rb:=b.hi
 obtain⟨t,ht⟩:∃t:Rat,t*((z.2:Rat) - w.2)=y - w.2:=⟨(y - w.2) / ((z.2:Rat) - w.2),by grind⟩
 have t0:0<=t:=afE.1 fun hn=>by
  have:=aeK (show 0< -t by grind) (show 0<(z.2:Rat) - w.2 by grind)
  grind
 have t1:0<=1 - t:=afE.1 fun hn=>by
  have:=aeK (show 0<t - 1 by grind) (show 0<(z.2:Rat) - w.2 by grind)
  grind
 obtain⟨s,hs⟩:∃s:Rat,s*((v.2:Rat) - u.2)=y - u.2:=⟨(y - u.2) / ((v.2:Rat) - u.2),by grind⟩
 have hX:X - u.1=s*((v.1:Rat) - u.1):=by
  have:(X - u.1 - s*((v.1:Rat) - u.1))*((v.2:Rat) - u.2)=0:=by grind
  have:(v.2:Rat) - u.2≠0:=by grind
  grind
 have hZ:X - w.1=t*((z.1:Rat) - w.1):=by
  have:(X - w.1 - t*((z.1:Rat) - w.1))*((z.2:Rat) - w.2)=0:=by grind
  have:(z.2:Rat) - w.2≠0:=by grind
  grind
 have p1:0<(1 - t)*((u.1:Rat) - w.1)+t*((v.1:Rat) - z.1):=by
  rcases(show 0<t\/t=0 by grind) with h|h
  ·have:=aeB t1 (show 0<=(u.1:Rat) - w.1 by grind)
   have:=aeK h (show 0<(v.1:Rat) - z.1 by grind)
   grind
  ·rw[h];grind
 have p2:0<(1 - t)*((w.2:Rat) - u.2)+t*((z.2:Rat) - v.2):=by
  rcases(show 0<t\/t=0 by grind) with h|h
  ·have:=aeB t1 (show 0<=(w.2:Rat) - u.2 by grind)
   have:=aeK h (show 0<(z.2:Rat) - v.2 by grind)
   grind
  ·rw[h];grind
 have q1:(t - s)*((v.1:Rat) - u.1)=(1 - t)*((u.1:Rat) - w.1)+t*((v.1:Rat) - z.1):=by grind
 have q2:(s - t)*((v.2:Rat) - u.2)=(1 - t)*((w.2:Rat) - u.2)+t*((z.2:Rat) - v.2):=by grind
 rcases(show s<=t\/t<=s from Rat.le_total) with h|h
 ·have:=aeB (show 0<=t - s by grind) (show 0<=(v.2:Rat) - u.2 by grind)
  grind
 ·have:=aeB (show 0<=s - t by grind) (show 0<=(v.1:Rat) - u.1 by grind)
  grind
theorem LM{u v z:Pt}{y X:Rat}(a2:u.2<v.2)(b1:u.1<z.1)(b2:u.2<z.2)(h1:v.1<z.1)(h2:z.2<v.2)(a:Cv u v y X)(b:Cv u z y X):y=(u.2:Rat):=by
 have b1':(u.1:Rat)<z.1:=by exact_mod_cast b1
 have CO:(v.1:Rat)<z.1:=by exact_mod_cast h1
 have NV:(z.2:Rat)<v.2:=by exact_mod_cast h2
 have ea:=a.eq
 have eb:=b.eq
 have l:=a.lo
 have hx:=(ND b1 b2 b).1
 refine afa fun hne=> ?_
 have:=aeK (show 0<(z.1:Rat) - v.1 by grind) (show 0<y - u.2 by grind)
 have:=aeB (show 0<=X - u.1 by grind) (show 0<=(v.2:Rat) - z.2 by grind)
 grind
theorem LN{u w v:Pt}{y X:Rat}(a1:u.1<v.1)(a2:u.2<v.2)(h1:w.1<u.1)(h2:u.2<w.2)(b1:w.1<v.1)(a:Cv u v y X)(b:Cv w v y X):y=(v.2:Rat):=by
 have a1':(u.1:Rat)<v.1:=by exact_mod_cast a1
 have CO:(w.1:Rat)<u.1:=by exact_mod_cast h1
 have NV:(u.2:Rat)<w.2:=by exact_mod_cast h2
 have ea:=a.eq
 have eb:=b.eq
 have r:=a.hi
 have hx:=(ND a1 a2 a).2
 have f1:((v.1:Rat) - X)*((v.2:Rat) - u.2)=((v.1:Rat) - u.1)*(v.2 - y):=by grind
 have f2:((v.1:Rat) - X)*((v.2:Rat) - w.2)=((v.1:Rat) - w.1)*(v.2 - y):=by grind
 refine afa fun hne=> ?_
 have:=aeK (show 0<(u.1:Rat) - w.1 by grind) (show 0<(v.2:Rat) - y by grind)
 have:=aeB (show 0<=(v.1:Rat) - X by grind) (show 0<=(w.2:Rat) - u.2 by grind)
 grind
section
variable {g:Gr} {p:Pl} (h:aG g p) (hI:q8 g=true)
include h hI
theorem HM{a b:Int}(ha:fN g a)(hb:fN g b)(h1:(aP g p).gD a b)(h2:(aP g p).gD b a):a=b:=by
 have e1:=(gq h hI ha hb).1 h1
 have e2:=(gq h hI hb ha).1 h2
 exact nu h false ha hb (by omega)
theorem fI{e:Int}(he:Ag g e):fN g (bt g e)/\fN g (bA g e)/\bt g e≠bA g e:=by
 have h0:=he.1;have h1:=he.2
 have t:=aT (ah h.1) (show e.toNat<g.es.length by omega)
 have d:=aU (ah h.1) (show e.toNat<g.es.length by omega)
 have:=Cg h he.1 he.2
 exact⟨⟨t.1,t.2⟩,⟨d.1,d.2⟩,fun e2=>by rw[e2]at this;omega⟩
theorem Ck{e:Int}(he:Ag g e):(aP g p).gD (bt g e) (bA g e):= .step .refl he
theorem rS{e:Int}(he:Ag g e):(iC g p (bt g e)).1<(iC g p (bA g e)).1/\(iC g p (bt g e)).2<(iC g p (bA g e)).2:=by
 obtain⟨a,b,c⟩:=fI h hI he
 have:=(gq h hI a b).1 (Ck h hI he)
 have n1:jy g p false (bt g e)≠jy g p false (bA g e):=fun e=>c (nu h false a b e)
 have n2:jy g p true (bt g e)≠jy g p true (bA g e):=fun e=>c (nu h true a b e)
 exact⟨by show jy g p false (bt g e)<jy g p false (bA g e);omega,by show jy g p true (bt g e)<jy g p true (bA g e);omega⟩
theorem Tz{i:Nat}{u y:Int}(hr:(aP g p).gD u y):xR g false (xF i) u.toNat y.toNat\/(aP g p).gD (bA g i) y:=by
 induction hr with
 |refl=>exact .inl .refl
 | @step e _ he ih=>
   have he':Ag g e:=he
   have h0:=he'.1;have h1:=he'.2
   rcases ih with ih|ih
   ·by_cases SV:e=(i:Int)
    ·right;rw[SV];exact .refl
    ·left;exact xR.fwd (i:=e.toNat) (by omega) (rR.2 (by omega)) ih
   ·exact .inr (.step ih he)
theorem Rm{i:Nat}{x y:Int}(hr:(aP g p).gD x y):xR g false (xF i) x.toNat y.toNat\/(aP g p).gD x (bt g i):=by
 induction hr with
 |refl=>exact .inl .refl
 | @step e hx he ih=>
   have he':Ag g e:=he
   have h0:=he'.1;have h1:=he'.2
   rcases ih with ih|ih
   ·by_cases SV:e=(i:Int)
    ·right;rw[SV]at hx;exact hx
    ·left;exact xR.fwd (i:=e.toNat) (by omega) (rR.2 (by omega)) ih
   ·exact .inr ih
variable (hT:cO g= [])
include hT
theorem fc{e x:Int}(he:Ag g e)(hx:fN g x)(h1:(aP g p).gD (bt g e) x)(h2:(aP g p).gD x (bA g e)):x=bt g e\/x=bA g e:=by
 refine afa fun hc=> ?_
 have n1:x≠bt g e:=fun e=>hc (.inl e)
 have n2:x≠bA g e:=fun e=>hc (.inr e)
 obtain⟨a,b,_⟩:=fI h hI he
 have e0:=he.1;have e1:=he.2
 obtain⟨i,rfl⟩:∃i:Nat,e=(i:Int):=⟨e.toNat,by omega⟩
 rcases Tz h hI (i:=i) h1 with c1|c1
 ·rcases Rm h hI (i:=i) h2 with c2|c2
  ·have hm:=ah h.1
   have ht:Re g i=true:=(Fk hm (bs:= []) ⟨ae1,by simp⟩ (by omega)).2 (c1.trans c2)
   have:=(Fl hm (i:=(i:Int))).2 ⟨i,by omega,ht,rfl⟩
   rw[hT]at this
   cases this
  ·exact n1 (HM h hI hx a c2 h1)
 ·exact n2 (HM h hI hx b h2 c1)
theorem Fm{e f:Int}(he:Ag g e)(hf:Ag g f){y X:Rat}(a:Cv (iC g p (bt g e)) (iC g p (bA g e)) y X)(b:Cv (iC g p (bt g f)) (iC g p (bA g f)) y X):(aP g p).gD (bt g e) (bA g f):=by
 obtain⟨u1,u2⟩:=rS h hI he
 obtain⟨w1,w2⟩:=rS h hI hf
 have xa:=ND u1 u2 a
 have xb:=ND w1 w2 b
 have ya:=a.lo
 have yb:=b.hi
 refine(gq h hI (fI h hI he).1 (fI h hI hf).2.1).2 ⟨?_, ?_⟩
 ·have:((iC g p (bt g e)).1:Rat)<=((iC g p (bA g f)).1:Rat):=by grind
  exact_mod_cast this
 ·have:((iC g p (bt g e)).2:Rat)<=((iC g p (bA g f)).2:Rat):=by grind
  exact_mod_cast this
theorem TA{e x:Int}(he:Ag g e)(hx:fN g x)(a:Cv (iC g p (bt g e)) (iC g p (bA g e)) ((iC g p x).2:Rat) ((iC g p x).1:Rat)):x=bt g e\/x=bA g e:=by
 obtain⟨u1,u2⟩:=rS h hI he
 obtain⟨i1,i2,_⟩:=fI h hI he
 have xa:=ND u1 u2 a
 have ya:=a.lo
 have yb:=a.hi
 refine fc h hI hT he hx ((gq h hI i1 hx).2 ⟨?_, ?_⟩) ((gq h hI hx i2).2 ⟨?_, ?_⟩)
 ·exact_mod_cast xa.1
 ·exact_mod_cast ya
 ·exact_mod_cast xa.2
 ·exact_mod_cast yb
theorem yG{a b:Int}(ha:fN g a)(hb:fN g b)(h1:¬(aP g p).gD a b)(h2:¬(aP g p).gD b a):((iC g p a).1<(iC g p b).1/\(iC g p b).2<(iC g p a).2)\/((iC g p b).1<(iC g p a).1/\(iC g p a).2<(iC g p b).2):=by
 rw[gq h hI ha hb]at h1
 rw[gq h hI hb ha]at h2
 show(jy g p false a<jy g p false b/\jy g p true b<jy g p true a)\/(jy g p false b<jy g p false a/\jy g p true a<jy g p true b)
 omega
theorem HN{e f:Int}(he:Ag g e)(hf:Ag g f)(hne:e≠f){y X:Rat}(a:Cv (iC g p (bt g e)) (iC g p (bA g e)) y X)(b:Cv (iC g p (bt g f)) (iC g p (bA g f)) y X)
 (d1:bt g e≠bA g f) (d2:bt g f≠bA g e)
 (i1:¬(aP g p).gD (bt g e) (bt g f)) (i2:¬(aP g p).gD (bt g f) (bt g e)) (j1:¬(aP g p).gD (bA g e) (bA g f)) (j2:¬(aP g p).gD (bA g f) (bA g e))
 (hl:(iC g p (bt g f)).1<(iC g p (bt g e)).1/\(iC g p (bt g e)).2<(iC g p (bt g f)).2):False:=by
 obtain⟨u1,u2⟩:=rS h hI he
 obtain⟨w1,w2⟩:=rS h hI hf
 obtain⟨eu,ev,_⟩:=fI h hI he
 obtain⟨ew,ez,_⟩:=fI h hI hf
 have r1:=Fm h hI hT he hf a b
 have r2:=Fm h hI hT hf he b a
 rcases yG h hI hT ev ez j1 j2 with hz|hz
 rotate_left
 ·exact Rl u1 u2 hl.1 hl.2 hz.1 hz.2 w2 a b
 have ok:=nj h hI
 have F:=eA h hI
 have me:e∈(aP g p).outs (bt g e):=(ok.bI _ _).2 ⟨he,rfl⟩
 have mf:f∈(aP g p).outs (bt g f):=(ok.bI _ _).2 ⟨hf,rfl⟩
 have ne:e∈(aP g p).ins (bA g e):=(ok.cz _ _).2 ⟨he,rfl⟩
 have nf:f∈(aP g p).ins (bA g f):=(ok.cz _ _).2 ⟨hf,rfl⟩
 have l1:=xI ok F ((qc h hI ew eu i2 i1).2 hl) (.inr mf) (.inr me)
 have l2:=xI ok F ((qc h hI ev ez j1 j2).2 hz) (.inl ne) (.inl nf)
 exact mz ok F he hf l2 l1
theorem HO{e f:Int}(he:Ag g e)(hf:Ag g f)(hne:e≠f){y X:Rat}(a:Cv (iC g p (bt g e)) (iC g p (bA g e)) y X)(b:Cv (iC g p (bt g f)) (iC g p (bA g f)) y X):
 ∃v:Int,(v=bt g e\/v=bA g e)/\(v=bt g f\/v=bA g f)/\y=((iC g p v).2:Rat):=by
 obtain⟨u1,u2⟩:=rS h hI he
 obtain⟨w1,w2⟩:=rS h hI hf
 obtain⟨eu,ev,en⟩:=fI h hI he
 obtain⟨ew,ez,fn⟩:=fI h hI hf
 have r1:=Fm h hI hT he hf a b
 have r2:=Fm h hI hT hf he b a
 by_cases c1:bt g e=bA g f
 ·refine⟨bt g e, .inl rfl, .inr c1, ?_⟩
  have k1:=a.lo
  have k2:=b.hi
  rw[<- c1]at k2
  grind
 by_cases c2:bt g f=bA g e
 ·refine⟨bt g f, .inr c2, .inl rfl, ?_⟩
  have k1:=b.lo
  have k2:=a.hi
  rw[<- c2]at k2
  grind
 by_cases c3:bt g e=bt g f
 ·have YP:bA g e≠bA g f:=fun c4=>by
   have e0:=he.1;have e1:=he.2;have f0:=hf.1;have f1:=hf.2
   have:=mI h.1 (i:=e.toNat) (k:=f.toNat) (by omega) (by omega) (afs c3 c4)
   omega
  have j1:¬(aP g p).gD (bA g e) (bA g f):=fun hr=>by
   rcases fc h hI hT hf ev (c3 ▸ Ck h hI he) hr with q|q
   ·exact c2 q.symm
   ·exact YP q
  have j2:¬(aP g p).gD (bA g f) (bA g e):=fun hr=>by
   rcases fc h hI hT he ez (c3 ▸ Ck h hI hf) hr with q|q
   ·exact c1 q.symm
   ·exact YP q.symm
  refine⟨bt g e, .inl rfl, .inl c3, ?_⟩
  rw[<- c3]at b w1 w2
  rcases yG h hI hT ev ez j1 j2 with q|q
  ·exact LM u2 w1 w2 q.1 q.2 a b
  ·exact LM w2 u1 u2 q.1 q.2 b a
 have i1:¬(aP g p).gD (bt g e) (bt g f):=fun hr=>by
  rcases fc h hI hT he ew hr r2 with q|q
  ·exact c3 q.symm
  ·exact c2 q
 have i2:¬(aP g p).gD (bt g f) (bt g e):=fun hr=>by
  rcases fc h hI hT hf eu hr r1 with q|q
  ·exact c3 q
  ·exact c1 q
 by_cases c4:bA g e=bA g f
 ·refine⟨bA g e, .inr rfl, .inr c4, ?_⟩
  rw[<- c4]at b w1 w2
  rcases yG h hI hT eu ew i1 i2 with q|q
  ·exact LN w1 w2 q.1 q.2 u1 b a
  ·exact LN u1 u2 q.1 q.2 w1 a b
 exfalso
 have j1:¬(aP g p).gD (bA g e) (bA g f):=fun hr=>by
  rcases fc h hI hT hf ev r2 hr with q|q
  ·exact c2 q.symm
  ·exact c4 q
 have j2:¬(aP g p).gD (bA g f) (bA g e):=fun hr=>by
  rcases fc h hI hT he ez r1 hr with q|q
  ·exact c1 q.symm
  ·exact c4 q.symm
 rcases yG h hI hT eu ew i1 i2 with q|q
 ·exact HN h hI hT hf he (Ne.symm hne) b a c2 c1 i2 i1 j2 j1 q
 ·exact HN h hI hT he hf hne a b c1 c2 i1 i2 j1 j2 q
end
end Go.Ab
end
