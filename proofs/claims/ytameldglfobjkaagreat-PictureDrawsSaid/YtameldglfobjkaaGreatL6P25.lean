/- A part of the proof. -/
import Derived.Test.YtameldglfobjkaaGreatL6P24
set_option linter.unusedSimpArgs false
set_option linter.unusedVariables false
section
namespace Go.Ab
open Go.Proofs
set_option maxRecDepth 10000
variable {g:Gr} {p:Pl}
theorem S2(hr:aG g p):bu g p≠ []:=by
 have hm:=ah hr.1
 have hn:=aB hm
 obtain⟨k,hk⟩:∃k,g.n.toNat=k+1:=⟨g.n.toNat - 1,by omega⟩
 obtain⟨hi,_,_⟩:=bz hm hr.2.1 (k:=k) (by omega) fun j hj=>hr.2.2 j (by omega)
 obtain⟨A,X,C,hrw,_,_,_,hs⟩:=iJ hm hi.tofL (hr.2.2 k (by omega))
 unfold bu
 rw[hk]
 show(aC _ _ _ _).2.row≠ []
 rw[hs]
 have:=(uT (g:=g) (x:=aq p k) (outs:=bE p (aq p k))).1
 intro e
 have h2:=congrArg List.length e
 simp at h2
 rw[h2.2.1]at this
 simp at this
theorem oL(hr:aG g p):bE p (aq p (g.n.toNat - 1))= []/\aq p (g.n.toNat - 1)∈loose (bu g p):=by
 have hm:=ah hr.1
 have hn:=aB hm
 obtain⟨k,hk⟩:∃k,g.n.toNat=k+1:=⟨g.n.toNat - 1,by omega⟩
 obtain⟨hi,_,_⟩:=bz hm hr.2.1 (k:=k) (by omega) fun j hj=>hr.2.2 j (by omega)
 obtain⟨A,X,C,hrw,_,_,_,hs⟩:=iJ hm hi.tofL (hr.2.2 k (by omega))
 have hL:bu g p=A++aQ g (aq p k) (bE p (aq p k))++C:=by
  unfold bu;rw[hk]
  show(aC _ _ _ _).2.row=_
  rw[hs]
 have Ao:g.n.toNat - 1=k:=by omega
 rw[Ao]
 have iF:=BN hr
 have hx:=aD hr.2.1 (k:=k) (by omega)
 have h0:bE p (aq p k)= []:=by
  refine adl fun h0=> ?_
  have ha:aQ g (aq p k) (bE p (aq p k))=(bE p (aq p k)).map (gM g (aq p k)):=ac7 h0
  obtain⟨i,hi'⟩:=agR _ h0
  have h1:=iF (gM g (aq p k) i) (by rw[hL,ha];simp;exact .inr (.inl ⟨i,hi',rfl⟩))
  obtain⟨e,rfl,_⟩:=ko ((aW hr.2.1 hx.1 hx.2).mem_iff.1 hi')
  simp[gM]at h1
  omega
 refine⟨h0, ?_⟩
 have ha:aQ g (aq p k) (bE p (aq p k))= [(-1,aq p k, -1)]:=ac9 h0
 rw[hL,ha,bY,bY]
 simp[loose]
theorem Qw(hr:aG g p)(hl:¬1<(bu g p).length){v:Int}(hv:v∈loose (bu g p)):v=aq p (g.n.toNat - 1):=by
 have h1:=(oL hr).2
 have h2:(loose (bu g p)).length<=1:=aej Dp (by omega)
 match hL:loose (bu g p),h2 with
 | [],_=>rw[hL]at hv;cases hv
 | [w],_=>
   rw[hL,adu]at hv h1
   rw[hv,h1]
theorem Qx(h:qn g p)(hl:1<(bu g p).length):xP (aj g p) (bK g p) g.n.toNat=true/\(fK (aj g p) (bK g p) (g.n.toNat+1)).row= [(-1,g.n, -1)]:=by
 have hr:=h.run
 have hm:=ah hr.1
 have hn:=aB hm
 have BT:=zU h
 have hQ:=ru hr
 obtain⟨vt,Jl⟩:=iB hr
 obtain⟨WR,hrow⟩:=Zj h (k:=g.n.toNat) (adg _)
 have hG:(aj g p).n=g.n+1:=ac9 hl
 obtain⟨S0,Jn,_⟩:=bz BT hQ (k:=g.n.toNat) (by omega) WR
 have hx:=SZ hr hl
 have hnot:g.n∉(fK (aj g p) (bK g p) g.n.toNat).pl:=by
  rw[Jn]
  have:=BS (cF hQ) (k:=g.n.toNat) (by rw[aI hQ];omega)
  rw[show(bK g p).ord.getD g.n.toNat 0=g.n from hx]at this
  exact this
 have iF:=BN hr
 have hrow:(fK (aj g p) (bK g p) g.n.toNat).row=(bu g p).map (mC g.es.length (bg g p)):=hrow
 have hmem:∀v∈loose (bu g p),(v,g.n)∈bg g p:=fun v hv=>by
  refine adZ _ ?_
  unfold newL
  rw[ac9 hl]
  exact ada.2 ⟨v,hv,rfl⟩
 have KY:∀t∈bu g p,(mC g.es.length (bg g p) t).2.2=g.n:=fun t ht=>by
  obtain⟨j,_,h2,_⟩:=ng (m:=g.es.length) vt (hmem _ (jS ht (iF t ht)))
  rw[jb (iF t ht) h2]
 have Jf:Mid g.n ((bu g p).map (mC g.es.length (bg g p))):=by
  have hne:=S2 hr
  refine⟨?_, ?_,fun t' ht'=> ?_⟩
  ·match hL:bu g p,hne with
   |t::l,_=>exact⟨_,_,rfl,KY t (by rw[hL];simp)⟩
  ·have e:=List.dropLast_concat_getLast hne
   refine⟨(bu g p).dropLast.map (mC g.es.length (bg g p)),mC g.es.length (bg g p) ((bu g p).getLast hne), ?_,KY _ (List.getLast_mem hne)⟩
   conv=>lhs;rw[<- e]
   simp
  ·obtain⟨t,ht,rfl⟩:=ada.1 ht'
   exact .inl (KY t ht)
 have hno:aV g g.n=0:=by
  have:¬0<aV g g.n:=fun h0=>by
   obtain⟨i,hi⟩:=List.exists_mem_of_length_pos h0
   obtain⟨⟨h1,h2⟩,h3⟩:=gA hi
   have:=(cU hm (k:=i.toNat) (by omega)).2
   have h3:(g.es.getD i.toNat (0,0)).2=g.n:=h3
   omega
  omega
 have AQ:((bu g p).map (mC g.es.length (bg g p))).countP (lz g.n)=aV (aj g p) g.n:=by
  have h1:((bu g p).map (mC g.es.length (bg g p))).countP (lz g.n)=((bu g p).map (mC g.es.length (bg g p))).length:=afH.2 fun t' ht'=>by
   obtain⟨t,ht,rfl⟩:=ada.1 ht'
   simp[lz,KY t ht]
  have h2:(dL g p g.n.toNat).filter (fun e=>decide (e.2=g.n))= []:=aez.2 fun e he=>by
   obtain⟨i,hi,hx2,_⟩:=BQ (v:=e.1) (x:=e.2) he
   have:=aD hr.2.1 hi
   simp only[adb];omega
  have h3:(newL g p).filter (fun e=>decide (e.2=g.n))=newL g p:=afk.2 fun e he=>by
   unfold newL at he
   rw[ac9 hl]at he
   obtain⟨v,_,rfl⟩:=ada.1 he
   simp
  have h4:(loose (bu g p)).length=(bu g p).length:=by
   unfold loose
   rw[adn,afk.2]
   intro t ht
   exact ac6 (iF t ht)
  rw[h1,adn,xo,hno,bg,ad8,h2,h3]
  unfold newL
  rw[ac9 hl]
  simp[h4]
 have VO:(fK (aj g p) (bK g p) g.n.toNat).row= []++(bu g p).map (mC g.es.length (bg g p))++ []:=by rw[hrow];simp
 have nil:gv g.n ([]:List It):=fun t ht=>by cases ht
 refine⟨?_, ?_⟩
 ·unfold xP
  rw[hx]
  exact mu BT S0.tofL (by omega) (by omega) hnot VO nil nil Jf AQ
 ·show(aC _ _ _ _).2.row=_
  rw[hx,dR _ VO nil nil Jf,(zV hr hl).1]
  rfl
theorem K0(h:qn g p):∀k,k<(aj g p).n.toNat->xP (aj g p) (bK g p) k=true:=by
 have hn:=aB (ah h.run.1)
 intro k hk
 by_cases hkn:k<g.n.toNat
 ·exact(Zj h (k:=g.n.toNat) (adg _)).1 k hkn
 ·by_cases hl:1<(bu g p).length
  ·have hG:(aj g p).n=g.n+1:=ac9 hl
   obtain rfl:k=g.n.toNat:=by omega
   exact(Qx h hl).1
  ·have hG:(aj g p).n=g.n:=ac7 hl
   omega
theorem jc{f:Edge->Int}{g:Gr}{y:Int} :y∈bZ f g↔(0<=y/\y<g.n)/\aJ f g.es g.es.length y= []:=by
 simp only[bZ,lW,ada,adI,adk,adb]
 have he:∀x:Nat,x<g.n.toNat->(((eR f g).getD x []).length=0↔aJ f g.es g.es.length (x:Int)= []):=by
  intro x hx
  have e:(eR f g).getD x []=aJ f g.es g.es.length (x:Int):=by
   simp[eR,aas,adp hx,oe]
  rw[e,agy]
 constructor
 ·rintro⟨x,⟨hx,h0⟩,rfl⟩
  exact⟨by simp;omega,(he x hx).1 h0⟩
 ·rintro⟨⟨h1,h2⟩,h3⟩
  have e:((y.toNat:Nat):Int)=y:=by omega
  exact⟨y.toNat,⟨by omega,(he _ (by omega)).2 (by rw[e];exact h3)⟩,e⟩
theorem E5{l:List Int}(hd:l.Nodup){s:Int}(h:∀y∈l,y=s):l.length<=1:=by
 match l,hd,h with
 | [],_,_=>simp
 | [_],_,_=>simp
 |a::b::l,hd,h=>
  rw[ad5]at hd
  exact absurd (by rw[h a (by simp),h b (by simp)];simp) hd.1
theorem G7(h:qn g p):(bX (aj g p)).1=0:=by
 have hr:=h.run
 have hm:=ah hr.1
 have hn:=aB hm
 have BT:=zU h
 have hQ:=ru hr
 have Yj:=K0 h
 have hna:=e9 (g:=g) (p:=p)
 obtain⟨vt,Jl⟩:=iB hr
 have hfw:∀i,i<(aj g p).es.length->∃j k,j<k/\k<(aj g p).n.toNat/\tl (aj g p) i=aq (bK g p) j/\hd (aj g p) i=aq (bK g p) k:=fun i hi=>by
  have hh:=(cU BT hi).2
  obtain⟨k,hk,e⟩:=cq hQ hh.1 hh.2
  obtain⟨S0,Jn,_⟩:=bz BT hQ (k:=k) (by omega) fun j hj=>Yj j (by omega)
  obtain⟨t,ht,e1,e2,_⟩:=yf BT S0 (Yj k hk) hi e.symm
  have hin:=S0.tail t ht (by omega)
  rw[Jn]at hin
  obtain⟨j,hj,e3⟩:=take_at (by rw[aI hQ];omega) hin
  exact⟨j,k,hj,hk,by rw[<- e2,e3],e.symm⟩
 have Qy:KI (aj g p)=true:=(zT BT).2 ⟨fun v=>(bT (fun y=>decide (y=v)) (bK g p).ord).toNat,fun i hi=>by
  obtain⟨j,k,hjk,hk,e1,e2⟩:=hfw i hi
  have qy:∀q,q<(aj g p).n.toNat->bT (fun y=>decide (y=aq (bK g p) q)) (bK g p).ord=q:=fun q hq=>
   b9 (d:=0) (by rw[aI hQ];exact hq) (fun i' hi'=>ac5 fun e=>by
    have:=dS hQ (by omega) hq e
    omega) (ac6 rfl)
  simp only
  rw[e1,e2,qy j (by omega),qy k hk]
  omega⟩
 have Qz:¬0<=l7 (aj g p):=fun hl=>by
  have h1:=cT (fun e:Edge=>decide (e.1=e.2)) (aj g p).es
  have h0:decide (0<=bT (fun e:Edge=>decide (e.1=e.2)) (aj g p).es)=true:=ac6 hl
  rw[h0]at h1
  obtain⟨e,he,h2⟩:=adQ.1 h1.symm
  obtain⟨i,hi,rfl⟩:=adr.1 he
  obtain⟨j,k,hjk,hk,e1,e2⟩:=hfw i hi
  have h3:tl (aj g p) i=hd (aj g p) i:=by simpa[tl,hd,aas,acF hi]using h2
  have:=dS hQ (by omega) hk (e1.symm.trans (h3.trans e2))
  omega
 have Pr:¬0<=fC (aj g p):=fun ht=>by
  obtain⟨i,k,hi,hk,hik,e⟩:=(lF _).1 ht
  have hgt:¬0<=fC g:=by
   have:=hr.1
   unfold bX iT at this
   intro h2
   split at this
   ·cases this
   split at this
   ·cases this
   cases this
  have hel:(aj g p).es.length=g.es.length+(bg g p).length:=adi
  have mixed:∀a b,a<g.es.length->b<(bg g p).length->g.es.getD a (0,0)≠(bg g p).getD b (0,0):=fun a b ha hb e=>by
   obtain⟨q0,q1⟩:=Jl _ (az (d:=(0,0)) hb)
   have hz:=(mA hr.2.1 q0.1 q0.2).2 q1
   have:(a:Int)∈b8 g ((bg g p).getD b (0,0)).1:=Qo.2 ⟨⟨by omega,by omega⟩,by rw[Int.toNat_natCast,e]⟩
   rw[hz]at this
   cases this
  by_cases h1:i<g.es.length
  ·by_cases h2:k<g.es.length
   ·rw[yq i h1,yq k h2]at e
    exact hgt ((lF g).2 ⟨i,k,h1,h2,hik,e⟩)
   ·obtain⟨b,rfl⟩:∃b,k=g.es.length+b:=⟨k - g.es.length,by omega⟩
    rw[yq i h1,xm]at e
    exact mixed i b h1 (by omega) e
  ·obtain⟨a,rfl⟩:∃a,i=g.es.length+a:=⟨i - g.es.length,by omega⟩
   by_cases h2:k<g.es.length
   ·rw[yq k h2,xm]at e
    exact mixed k a h2 (by omega) e.symm
   ·obtain⟨b,rfl⟩:∃b,k=g.es.length+b:=⟨k - g.es.length,by omega⟩
    rw[xm,xm]at e
    have e1:∀q,q<(bg g p).length->((bg g p).map (·.1)).getD q 0=((bg g p).getD q (0,0)).1:=fun q hq=>by
     simp[aas,acF hq]
    have:=l9 vt (i:=a) (j:=b) (by simp;omega) (by simp;omega) (by rw[e1 a (by omega),e1 b (by omega),e])
    omega
 have QA:¬1<(bZ (·.2) (aj g p)).length:=fun hb=>by
  obtain⟨s,hs⟩:∃s,∀y∈bZ (·.2) (aj g p),y=s:=by
   refine⟨aq p 0,fun y hy=> ?_⟩
   obtain⟨⟨y0,y1⟩,y2⟩:=sR.1 hy
   rw[xo]at y2
   have yn:y<g.n:=by
    refine adl fun Vk=> ?_
    have hl:1<(bu g p).length:=adl fun hl=>by
     have hG:(aj g p).n=g.n:=ac7 hl
     omega
    have e:y=g.n:=by have hG:(aj g p).n=g.n+1:=ac9 hl;omega
    have Cw:=(oL hr).2
    have:(aq p (g.n.toNat - 1),y)∈(bg g p).filter fun e=>decide (e.2=y):=adI.2 ⟨adZ _ (by
     unfold newL
     rw[ac9 hl]
     exact ada.2 ⟨_,Cw,by rw[e]⟩),by simp⟩
    have:=afC this
    omega
   have h0:=aD hr.2.1 (k:=0) (by omega)
   refine gB hr.1 ⟨y0,yn⟩ h0 (by omega) ?_
   refine adl fun hnz=> ?_
   obtain⟨A,X,C,hrw,_,_,hX,_⟩:=bD hm (wR g).tofL (hr.2.2 0 (by omega)) hnz
   obtain⟨q,X0,e1,_⟩:=hX.fst
   rw[e1]at hrw
   simp at hrw
  have:=E5 gm hs
  omega
 unfold bX iT
 rw[ac7 (by simp[BT]),ac7 Qz,ac7 Pr,ac7 (by rw[EY BT Qy];simp),ac7 QA]
theorem ij(h:qn g p):aG (aj g p) (bK g p):=⟨G7 h,ru h.run,K0 h⟩
theorem QB(h:qn g p):q8 (aj g p)=true:=by
 have hr:=h.run
 have hm:=ah hr.1
 have hn:=aB hm
 have hna:=e9 (g:=g) (p:=p)
 obtain⟨vt,Jl⟩:=iB hr
 unfold q8
 rw[ac6 (G7 h),aeo,adb]
 obtain⟨NY,Iz⟩:=lE hm hr.2.1 (k:=g.n.toNat) (adg _) hr.2.2
 have key:∀y,0<=y/\y<g.n->b8 (aj g p) y= []->¬1<(bu g p).length/\y∈loose (bu g p):=fun y hy hz=>by
  have hs:bE p y= []:=by
   refine adl fun hs=> ?_
   rw[BR hr hy hs]at hz
   exact hs ((mA hr.2.1 hy.1 hy.2).1 hz)
  obtain⟨s1,_⟩:=yu hr hy hs
  have hno:∀x,(y,x)∉bg g p:=fun x hx=>by
   obtain⟨j,_,h2,_⟩:=s1 x hx
   rw[hz]at h2;cases h2
  obtain⟨k,hk,e⟩:=cq hr.2.1 hy.1 hy.2
  obtain⟨hi,_,_⟩:=bz hm hr.2.1 (k:=k) (by omega) fun j hj=>hr.2.2 j (by omega)
  obtain⟨A,X,C,hrw,_,_,_,hs'⟩:=iJ hm hi.tofL (hr.2.2 k hk)
  have hin:y∈loose (fK g p (k+1)).row:=by
   have hrow:(fK g p (k+1)).row=A++aQ g (aq p k) (bE p (aq p k))++C:=by show(aC _ _ _ _).2.row=_;rw[hs']
   rw[hrow,e,hs,bY,bY]
   simp[aQ,loose]
  rcases KZ hr (K:=g.n.toNat) (by omega) (adg _) hin with ⟨i,h1,h2⟩|h2
  ·exact absurd (adR _ (rq h1 h2)) (hno _)
  ·refine⟨fun hl=>hno g.n (adZ _ ?_),h2⟩
   unfold newL
   rw[ac9 hl]
   exact ada.2 ⟨_,h2,rfl⟩
 have le1:(bZ (·.1) (aj g p)).length<=1:=by
  by_cases hl:1<(bu g p).length
  ·refine E5 (s:=g.n) gm fun y hy=> ?_
   obtain⟨hy1,hy2⟩:=jc.1 hy
   refine adl fun hne=> ?_
   have hG:(aj g p).n=g.n+1:=ac9 hl
   exact(key y ⟨hy1.1,by omega⟩ hy2).1 hl
  ·refine E5 (s:=aq p (g.n.toNat - 1)) gm fun y hy=> ?_
   obtain⟨hy1,hy2⟩:=jc.1 hy
   have hG:(aj g p).n=g.n:=ac7 hl
   exact Qw hr hl (key y ⟨hy1.1,by omega⟩ hy2).2
 have ge1:0<(bZ (·.1) (aj g p)).length:=by
  by_cases hl:1<(bu g p).length
  ·have hG:(aj g p).n=g.n+1:=ac9 hl
   exact afC (jc.2 ⟨⟨by omega,by omega⟩,(zV hr hl).2⟩:g.n∈bZ (·.1) (aj g p))
  ·have hw:=aD hr.2.1 (k:=g.n.toNat - 1) (by omega)
   obtain⟨h1,h2⟩:=oL hr
   refine afC (jc.2 ⟨⟨hw.1,by omega⟩,(yu hr hw h1).2 fun e he h3=> ?_⟩:aq p (g.n.toNat - 1)∈bZ (·.1) (aj g p))
   rcases xg (v:=e.1) (x:=e.2) he with ⟨i,h4,_,h5⟩|⟨h4,_⟩
   ·exact(adt.1 NY).2.2 e.1 (ada.2 ⟨_,rq h4 h5,rfl⟩) _ h2 h3
   ·exact hl h4
 omega
end Go.Ab
end
section
set_option maxRecDepth 10000
namespace Go.Ab
open Go.Proofs
def ef(l:List It):List It:=l.filter fun t=>decide (0<=t.1)
theorem kR{a b:List It} :ef (a++b)=ef a++ef b:=by simp[ef]
theorem eX{l:List It}{t:It} :t∈ef l↔t∈l/\0<=t.1:=by simp[ef]
theorem zX{x:Int}{l:List It}(h:gv x l):gv x (ef l):=fun t ht=>h t (eX.1 ht).1
def zD(x:Int)(l:List It):Prop:=∀t∈l,t.2.2=x
theorem jT{g:Gr}{x:Int}{o:List Int}(ho:∀i∈o,0<=i):ef (aQ g x o)=o.map (gM g x):=by
 unfold aQ
 split
 ·rename_i h;subst h;rfl
 ·refine afk.2 fun t ht=> ?_
  obtain⟨i,hi,rfl⟩:=ada.1 ht
  exact ac6 (ho i hi)
theorem Ds{x:Int} :∀ {X Y c d:List It},zD x X->zD x Y->gv x c->gv x d->X++c=Y++d->X=Y/\c=d
 | [], [],c,d,_,_,_,_,e=>⟨rfl,e⟩
 | [],u::Y,c,d,_,hY,hc,_,e=>by
   simp only[List.nil_append]at e
   exact absurd (hY u (by simp)) (hc u (by rw[e];simp))
 |t::X, [],c,d,hX,_,_,hd,e=>by
  simp only[List.nil_append]at e
  exact absurd (hX t (by simp)) (hd t (by rw[<- e];simp))
 |t::X,u::Y,c,d,hX,hY,hc,hd,e=>by
  simp only[List.cons_append,adA]at e
  obtain⟨e1,e2⟩:=Ds (fun s hs=>hX s (by simp[hs])) (fun s hs=>hY s (by simp[hs])) hc hd e.2
  exact⟨by rw[e.1,e1],e2⟩
theorem G8{x:Int} :∀ {a b X Y c d:List It},gv x a->gv x b->zD x X->zD x Y->gv x c->gv x d->X≠ []->Y≠ []->a++X++c=b++Y++d->a=b/\X=Y/\c=d
 |t::a, [],X,u::Y,c,d,ha,_,_,hY,_,_,_,_,e=>by
  simp only[List.cons_append,List.nil_append,adA]at e
  exact absurd (by rw[e.1];exact hY u (by simp)) (ha t (by simp))
 | [],t::b,u::X,Y,c,d,_,hb,hX,_,_,_,_,_,e=>by
   simp only[List.cons_append,List.nil_append,adA]at e
   exact absurd (by rw[<- e.1];exact hX u (by simp)) (hb t (by simp))
 |t::a,u::b,X,Y,c,d,ha,hb,hX,hY,hc,hd,nX,nY,e=>by
  simp only[List.cons_append,adA]at e
  obtain⟨e1,e2,e3⟩:=G8 (fun s hs=>ha s (by simp[hs])) (fun s hs=>hb s (by simp[hs])) hX hY hc hd nX nY e.2
  exact⟨by rw[e.1,e1],e2,e3⟩
 | [], [],X,Y,c,d,_,_,hX,hY,hc,hd,_,_,e=>by
   refine⟨rfl, ?_⟩
   simp only[List.nil_append]at e
   exact Ds hX hY hc hd e
 | [],_::_, [],_,_,_,_,_,_,_,_,_,h,_,_=>absurd rfl h
 |_::_, [],_, [],_,_,_,_,_,_,_,_,_,h,_=>absurd rfl h
theorem G9{g:Gr}(hm:aM g=true){f:Fr}(hi:fL g f){x:Int}(hR:au g f x=true)(hn:aV g x≠0):
 ∃a X c,ef f.row=a++X++c/\gv x a/\gv x c/\zD x X/\X.length=aV g x/\∀o,ef (aC g f x o).2.row=a++ef (aQ g x o)++c:=by
 obtain⟨A,X,C,hr,hA,hC,hX,cX⟩:=bD hm hi hR hn
 have hx:=(aF hR).1
 have hmem:∀t∈X,t∈f.row:=fun t ht=>by rw[hr];simp[ht]
 have hiff:∀t∈X,(0<=t.1↔t.2.2=x):=fun t ht=>by
  have h1:=(hi.it t (hmem t ht)).head hm
  have h2:=hX.al t ht
  omega
 refine⟨ef A,ef X,ef C,by rw[hr,kR,kR],zX hA,zX hC,fun t ht=> ?_, ?_,fun o=> ?_⟩
 ·obtain⟨h1,h2⟩:=eX.1 ht
  exact(hiff t h1).1 h2
 ·rw[<- cX,ef, <- List.countP_eq_length_filter]
  refine afi fun t ht=> ?_
  simp only[lz,adb]
  exact hiff t ht
 ·rw[dR o hr hA hC hX]
  simp only[kR]
theorem E6{g:Gr}(hm:aM g=true){f:Fr}(hi:fL g f){x:Int}(hR:au g f x=true)(hn:aV g x≠0){a X c:List It}(e:ef f.row=a++X++c)(ha:gv x a)(hc:gv x c)(hX:zD x X)(nX:X≠ [])(o:List Int):
 ef (aC g f x o).2.row=a++ef (aQ g x o)++c:=by
 obtain⟨b,Y,d,e',hb,hd,hY,lY,hs⟩:=G9 hm hi hR hn
 have nY:Y≠ []:=fun h=>hn (by rw[<- lY,h];rfl)
 obtain⟨e1,_,e3⟩:=G8 hb ha hY hX hd hc nY nX (e'.symm.trans e)
 rw[hs o,e1,e3]
theorem BU{g:Gr}(hm:aM g=true){f:Fr}(hi:fL g f){x:Int}(h0:0<=x)(h1:x<g.n)(hp:x∉f.pl){a X c:List It}(e:ef f.row=a++X++c)(ha:gv x a)(hc:gv x c)(hX:zD x X)(nX:X≠ [])(hl:X.length=aV g x):au g f x=true:=by
 have hmem:∀j,j<f.row.length->Je g (f.row.getD j (0,0,0)):=fun j hj=>hi.it _ (az hj)
 have AQ:f.row.countP (lz x)=X.length:=by
  have h2:f.row.countP (lz x)=(ef f.row).countP (lz x):=by
   rw[ef,List.countP_filter]
   refine afi fun t ht=> ?_
   have:=(hi.it t ht).head hm
   simp only[lz,adf,adb]
   omega
  have c1:a.countP (lz x)=0:=ae4.2 fun t ht=>by simp[lz,ha t ht]
  have c2:c.countP (lz x)=0:=ae4.2 fun t ht=>by simp[lz,hc t ht]
  have c3:X.countP (lz x)=X.length:=afH.2 fun t ht=>by simp[lz,hX t ht]
  rw[h2,e,aeM,aeM,c1,c2,c3]
  omega
 rw[<- kj hm hi,gh,ac7 (by rintro(h|h|h);omega;omega;exact hp h),jO h0 h1,adf,adb]
 have hN:(aJ (fun e=>e.2) g.es g.es.length x).length=aV g x:=rfl
 rw[hN]
 refine⟨?_, ?_⟩
 ·unfold bH
  rw[ot,pU (adg _),aee,AQ,hl]
 ·rw[adK];right
  rcases gX (row:=f.row) (x:=x) f.row.length with ⟨hs,hno⟩|⟨p,q,n,hs,hab,Ct,hc0,hcl,hpx,hqx,hlo,hhi⟩
  ·have hs':bH f.row x=(-1,0,0):=hs
   rw[hs'];simp[y5]
  ·have hs':bH f.row x=((p:Int),(q:Int),(n:Int)):=hs
   rw[hs']
   simp only[Int.toNat_natCast,y5,adJ]
   rw[<- Bool.not_eq_true,Df Ct]
   rintro⟨j,h2,h3,h4⟩
   simp only[pS,adf,adb]at h4
   have hja:p<j:=by
    refine Nat.lt_of_le_of_ne h2 fun e=> ?_
    subst e;exact h4.1 hpx
   have hjb:j<q - 1:=by
    refine Nat.lt_of_le_of_ne (by omega) fun e=> ?_
    subst e;exact h4.1 hqx
   have hsub:=((By (i:=j+1) (j:=q - 1) (By (i:=p+1) (j:=j) (By (i:=0) (j:=p) (List.nil_sublist _) (by omega) (by omega)) (by omega) (by omega)) (by omega) (by omega)).trans (List.take_sublist _ f.row)).filter fun t=>decide (0<=t.1)
   have hp1:=(hmem p (by omega)).head hm
   have hj1:=(hmem j (by omega)).head hm
   have hq1:=(hmem (q - 1) (by omega)).head hm
   generalize f.row.getD p (0,0,0)=s1 at hsub hp1 hpx
   generalize f.row.getD j (0,0,0)=s2 at hsub hj1 h4
   generalize f.row.getD (q - 1) (0,0,0)=s3 at hsub hq1 hqx
   have hf:([]++ [s1]++ [s2]++ [s3]).filter (fun t=>decide (0<=t.1))= [s1,s2,s3]:=afk.2 fun t ht=>by
    simp only[List.nil_append,List.cons_append,adv,aen,or_false]at ht
    rcases ht with rfl|rfl|rfl
    ·exact ac6 (hp1.1.2 (by omega))
    ·exact ac6 (hj1.1.2 h4.2)
    ·exact ac6 (hq1.1.2 (by omega))
   rw[hf]at hsub
   have hsub: [s1,s2,s3].Sublist (a++(X++c)):=by rw[<- List.append_assoc, <- e];exact hsub
   rw[af1]at hsub
   obtain⟨l1,l',el,k1,k'⟩:=hsub
   rw[af1]at k'
   obtain⟨l2,l3,rfl,k2,k3⟩:=k'
   match l1,el,k1 with
   |t::l1,el,k1=>
    simp only[List.cons_append,adA]at el
    exact ha t (k1.subset (by simp)) (by rw[<- el.1];exact hpx)
   | [],el,_=>
     match l2,el,k2 with
     | [],el,_=>
       simp only[List.nil_append]at el
       exact hc s1 (k3.subset (by rw[<- el];simp)) hpx
     | [t],el,_=>
       simp only[List.nil_append,List.cons_append,adA]at el
       exact hc s3 (k3.subset (by rw[<- el.2];simp)) hqx
     |t::u::l2,el,k2=>
      simp only[List.nil_append,List.cons_append,adA]at el
      exact h4.1 (by rw[el.2.1];exact hX u (k2.subset (by simp)))
end Go.Ab
end
section
namespace Go.Ab
open Go.Proofs
set_option maxRecDepth 10000
def Yk(gone:List Int)(i:Nat):Bool:= !decide ((i:Int)∈gone)
def Wp(gone:List Int)(k:Nat):List Nat:=(List.range k).filter (Yk gone)
def atN(gone:List Int)(k:Nat):Nat:=(Wp gone k).length
def aba(gone:List Int)(es:List Edge)(k:Nat):List Edge:=(Wp gone k).map fun i=>es.getD i (0,0)
def acP(g:Gr)(gone:List Int):Gr:=⟨g.n,aba gone g.es g.es.length⟩
def atZ(gone:List Int)(i:Int):Int:=if i∈gone then -1 else(atN gone i.toNat:Int)
def abb(gone:List Int)(l:List Int):List Int:=(l.filter fun i=>decide (i∉gone)).map (atZ gone)
def acQ(p:Pl)(gone:List Int):Pl:=⟨p.ord,p.outs.map (abb gone)⟩
variable {g:Gr} {p:Pl} {gone:List Int}
def kap(gone:List Int)(t:It):It:=(atZ gone t.1,t.2.1,t.2.2)
def acR(gone:List Int)(l:List It):List It:=(l.filter fun t=>decide (t.1∉gone)).map (kap gone)
theorem gE(hr:aG g p):aV g (aq p 0)=0:=by
 have hm:=ah hr.1
 have hn:=aB hm
 refine adl fun hnz=> ?_
 obtain⟨A,X,C,hrw,_,_,hX,_⟩:=bD hm (wR g).tofL (hr.2.2 0 (by omega)) hnz
 obtain⟨q,X0,e1,_⟩:=hX.fst
 rw[e1]at hrw
 simp at hrw
end Go.Ab
end
section
set_option maxRecDepth 10000
namespace Go.Ab
open Go.Proofs
theorem xq{g:Gr}(hm:aM g=true){f:Fr}(hi:fL g f){x:Int}(hR:au g f x=true)(hn:aV g x≠0)(o:List Int):
 ∃a c,ef f.row=a++ef (aC g f x o).1.1++c/\gv x a/\gv x c/\zD x (ef (aC g f x o).1.1)/\(ef (aC g f x o).1.1).length=aV g x/\ef (aC g f x o).2.row=a++ef (aQ g x o)++c:=by
 obtain⟨A,X,C,hr,hA,hC,hX,hc⟩:=bD hm hi hR hn
 have hx:=(aF hR).1
 have hmem:∀t∈X,t∈f.row:=fun t ht=>by rw[hr];simp[ht]
 have hiff:∀t∈X,(0<=t.1↔t.2.2=x):=fun t ht=>by
  have h1:=(hi.it t (hmem t ht)).head hm
  have h2:=hX.al t ht
  constructor
  ·intro h;rcases h2 with h2|h2
   ·exact h2
   ·exact absurd h2 (h1.1.1 h)
  ·intro h;exact h1.1.2 (by omega)
 rw[dR o hr hA hC hX]
 refine⟨ef A,ef C,by rw[hr,kR,kR],zX hA,zX hC,fun t ht=> ?_, ?_,by simp only[kR]⟩
 ·obtain⟨h1,h2⟩:=eX.1 ht
  exact(hiff t h1).1 h2
 ·rw[<- hc,ef, <- List.countP_eq_length_filter]
  refine afi fun t ht=> ?_
  simp only[lz,adb]
  exact hiff t ht
def dP(g:Gr)(p:Pl)(x:Int):List Int:=(ef ((gC g p g.n.toNat).getD x.toNat [])).map (·.1)
def pZ(g:Gr)(p:Pl)(f:Fr)(x:Int):List Int:=(ef (aC g f x (bE p x)).1.1).map (·.1)
def ud(g:Gr)(p:Pl):Nat->Fr->Prop
 |0,f=>(f.pl.length:Int)=g.n
 |m+1,f=>∃x,au g f x=true/\pZ g p f x=dP g p x/\ud g p m (w9 g p f x)
theorem BW{g:Gr}{p:Pl} :∀ {m:Nat} {f f':Fr},f.row=f'.row->f.pl.Perm f'.pl->ud g p m f->ud g p m f'
 |0,f,f',_,hp,h=>by
  have h:(f.pl.length:Int)=g.n:=h
  show(f'.pl.length:Int)=g.n
  rw[<- hp.length_eq];exact h
 |m+1,f,f',hr,hp,⟨x,h1,h3,h2⟩=>by
  refine⟨x,by rw[<- y8 hr hp];exact h1, ?_,BW ?_ ?_ h2⟩
  ·simp only[pZ,aC,hr]at h3 ⊢;exact h3
  ·simp only[w9,aC,hr]
  ·exact hp.append_right _
theorem s5{g:Gr}(hc:(bX g).1=0){p:Pl}(hp:bq g p):∀ {m:Nat} {f:Fr},Bx g f->(f.pl.length:Int)+(m+1:Nat)=g.n->ud g p (m+1) f->∀ {x:Int},au g f x=true->pZ g p f x=dP g p x/\ud g p m (w9 g p f x)
 |m,f,hi,hl,⟨y,zC,Zm,hcan⟩,x,hR=>by
  have hm:=ah hc
  by_cases hxy:x=y
  ·subst hxy;exact⟨Zm,hcan⟩
  have py:=aW hp (aF zC).1 (aF zC).2.1
  have px:=aW hp (aF hR).1 (aF hR).2.1
  have i2:=kr hm hi zC py
  match m,hl,hcan with
  |0,hl,hcan=>
   exfalso
   have h1:=jQ i2.tofL (by show((f.pl++ [y]).length:Int)=g.n;simp;omega) (x:=x) ⟨(aF hR).1,(aF hR).2.1⟩
   have h2:x∈f.pl++ [y]:=h1
   simp[(aF hR).2.2,hxy]at h2
  |m+1,hl,hcan=>
   obtain⟨h4,h5,h6,h7,h8⟩:=Dg hc hi hxy hR zC px py
   obtain⟨h9,h3⟩:=s5 hc hp i2 (by show(((f.pl++ [y]).length:Nat):Int)+_=_;simp;omega) hcan h5
   refine⟨?_,y,h4, ?_,BW h6.symm ?_ h3⟩
   ·unfold pZ at h9 ⊢;rw[h7];exact h9
   ·unfold pZ at Zm ⊢;rw[h8]at Zm;exact Zm
   show(f.pl++ [y]++ [x]).Perm (f.pl++ [x]++ [y])
   rw[adN,adN]
   exact ag8 _ (List.Perm.swap ..)
theorem yw{g:Gr}{p:Pl}(h:aG g p):∀ {d k:Nat},k+d=g.n.toNat->ud g p d (fK g p k)
 |0,k,hk=>by
  have hn:=aB (ah h.1)
  obtain⟨_,dI,_⟩:=bz (ah h.1) h.2.1 (k:=k) (by omega) fun j hj=>h.2.2 j (by omega)
  show((fK g p k).pl.length:Int)=g.n
  rw[dI,adG,aI h.2.1];omega
 |d+1,k,hk=>⟨aq p k,h.2.2 k (by omega),by
   unfold dP
   rw[wT h.2.1 (adg _) (show k<g.n.toNat by omega)]
   rfl,yw h (k:=k+1) (by omega)⟩
theorem K5{g:Gr}(hc:(bX g).1=0){p:Pl}(hp:bq g p):∀ {m:Nat} {f:Fr},Bx g f->ud g p m f->∀ {i:Nat},i<g.es.length->tl g i∈f.pl->hd g i∉f.pl->∃t∈f.row,t.1=(i:Int)
 |0,f,hi,h,i,hil,_,hh=>by
  have hr:=aU (ah hc) hil
  exact absurd (jQ hi.tofL h (x:=hd g i) hr) hh
 |m+1,f,hi,⟨x,hR,_,h⟩,i,hil,ht,hh=>by
  have hm:=ah hc
  have px:=aW hp (aF hR).1 (aF hR).2.1
  by_cases hx:hd g i=x
  ·obtain⟨t,h1,h2,_⟩:=yf hm hi hR hil hx
   exact⟨t,h1,h2⟩
  ·obtain⟨t,h1,h2⟩:=K5 hc hp (kr hm hi hR px) h hil (ac8.2 (.inl ht)) (fun h1=>by
    rcases ac8.1 h1 with h1|h1
    ·exact hh h1
    ·exact hx (by simpa using h1))
   obtain⟨A,X,C,hr,_,_,_,hs⟩:=iJ hm hi.tofL hR
   rw[hs]at h1
   simp only[ac8]at h1
   rcases h1 with (h1|h1)|h1
   ·exact⟨t,by rw[hr];simp[h1],h2⟩
   ·rcases ow (fun i hi=>px.mem_iff.1 hi) h1 with ⟨h3,_⟩|⟨k,h3,h4,h5,_,h6,_⟩
    ·omega
    ·have:k=i:=by omega
     subst this
     exact absurd (h6 ▸ ht) (aF hR).2.2
   ·exact⟨t,by rw[hr];simp[h1],h2⟩
def bt(g:Gr)(e:Int):Int:=(g.es.getD e.toNat (0,0)).1
def bA(g:Gr)(e:Int):Int:=(g.es.getD e.toNat (0,0)).2
def fN(g:Gr)(x:Int):Prop:=0<=x/\x<g.n
instance {g:Gr} {x:Int} :Decidable (fN g x):=inferInstanceAs (Decidable (0<=x/\x<g.n))
def ry(g:Gr)(p:Pl)(k:Nat)(W D:List Int):Prop:=∃f,Bx g f/\f.pl=D/\W=(ef f.row).map (·.1)/\ud g p k f/\(D.length:Int)+k=g.n/\aq p 0∈D
def QC(g:Gr)(p:Pl)(x:Int):Nat:=((GH g.n.toNat p.ord p.ord.length).getD x.toNat 0).toNat
def aP(g:Gr)(p:Pl):PS:=
 {m:=g.es.length,src:=aq p 0,VE:=aq p (g.n.toNat - 1),tl:=bt g,hd:=bA g,ins:=fun x=>if fN g x then dP g p x else [],outs:=fun x=>if fN g x then bE p x else [],WJ:=QC g p,Row:=ry g p,k0:=g.n.toNat - 1}
theorem gR{g:Gr}{p:Pl}{x:Int}(h:fN g x):(aP g p).ins x=dP g p x:=ac9 h
theorem nh{g:Gr}{p:Pl}{x:Int}(h:¬fN g x):(aP g p).ins x= []:=ac7 h
theorem eo{g:Gr}{p:Pl}{x:Int}(h:fN g x):(aP g p).outs x=bE p x:=ac9 h
theorem oM{g:Gr}{p:Pl}{x:Int}(h:¬fN g x):(aP g p).outs x= []:=ac7 h
theorem aX{f:Edge->Int}{es:List Edge}{x e:Int} :e∈aJ f es es.length x↔(0<=e/\e<es.length)/\f (es.getD e.toNat (0,0))=x:=by
 refine⟨gA,fun ⟨h1,h2⟩=> ?_⟩
 simp only[aJ,ada,adI,adk,adb]
 exact⟨e.toNat,⟨by omega,h2⟩,by simp;omega⟩
section
variable {g:Gr} {p:Pl}
theorem K6(hm:aM g=true)(hp:bq g p){k:Nat}(hk:k<g.n.toNat):QC g p (aq p k)=k:=by
 have hE:=((SP hm).2 hp).1
 have:=EI hE (p:=k) (k:=p.ord.length) (by rw[aI hp];exact hk) (adg _)
 unfold QC
 show((GH _ _ _).getD (p.ord.getD k 0).toNat 0).toNat=k
 rw[this];simp
theorem E7(h:aG g p){e:Int}(he:0<=e/\e<g.es.length){k:Nat}(hk:k<g.n.toNat)(hx:bA g e=aq p k):∃j,j<k/\aq p j=bt g e:=by
 have hm:=ah h.1
 obtain⟨hi,dI,_⟩:=bz hm h.2.1 (k:=k) (by omega) fun j hj=>h.2.2 j (by omega)
 obtain⟨t,h1,h2,h3,_⟩:=yf hm hi (h.2.2 k hk) (i:=e.toNat) (by omega) hx
 have h4:=hi.tail t h1 (by omega)
 rw[h3,dI]at h4
 exact take_at (by rw[aI h.2.1];omega) h4
theorem xu(hm:aM g=true){f:Fr}(hi:fL g f){t:It}(ht:t∈ef f.row):(0<=t.1/\t.1<g.es.length)/\t.2.1=bt g t.1/\t.2.2=bA g t.1:=by
 obtain⟨h1,h2⟩:=eX.1 ht
 rcases hi.it t h1 with h3|h3
 ·omega
 ·exact⟨⟨h3.1,h3.2.1⟩,h3.2.2.1,h3.2.2.2⟩
theorem QD{f:Fr}(hi:Bx g f):((ef f.row).map (·.1)).Nodup:=by
 refine aeI.2 ?_
 have:=hi.once.filter (fun t:It=>decide (0<=t.1))
 refine aeT (fun {s t} hs ht h1=>h1 (eX.1 hs).2) this
theorem S3(hm:aM g=true){f:Fr}(hi:Bx g f){x:Int}(hR:au g f x=true):(pZ g p f x).Nodup/\∀e,e∈pZ g p f x↔(0<=e/\e<g.es.length)/\bA g e=x:=by
 by_cases hn:aV g x=0
 ·have hno:=dO hm hi.tofL (aF hR).1 hn
  have e0:pZ g p f x= []:=by unfold pZ;rw[cH _ hno];rfl
  rw[e0]
  refine⟨ae0,fun e=>⟨fun h=>by(cases h),fun ⟨h1,h2⟩=> ?_⟩⟩
  have:=aX.2 ⟨h1,h2⟩
  have h3:aJ (·.2) g.es g.es.length x= []:=adE hn
  rw[h3]at this;cases this
 ·obtain⟨a,c,e1,ha,hc,hX,hl,_⟩:=xq hm hi.tofL hR hn (bE p x)
  have bR:=QD hi
  have hmem:∀t∈ef (aC g f x (bE p x)).1.1,t∈ef f.row:=fun t ht=>by rw[e1];simp[ht]
  rw[e1,ads,ads,adt]at bR
  have WB:(pZ g p f x).Nodup:=(adt.1 bR.1).2.1
  have hsub:∀e∈pZ g p f x,e∈aJ (·.2) g.es g.es.length x:=fun e he=>by
   obtain⟨t,ht,rfl⟩:=ada.1 he
   obtain⟨h1,_,h3⟩:=xu hm hi.tofL (hmem t ht)
   exact aX.2 ⟨h1,by rw[<- hX t ht,h3];rfl⟩
  have hlen:(aJ (·.2) g.es g.es.length x).length=(pZ g p f x).length:=by
   unfold pZ;rw[adn,hl];rfl
  exact⟨WB,fun e=>⟨fun he=>aX.1 (hsub e he),fun he=>Jd WB hsub hlen e (aX.2 he)⟩⟩
theorem ni(h:aG g p){k:Nat}(hk:k<g.n.toNat):dP g p (aq p k)=pZ g p (fK g p k) (aq p k):=by
 unfold dP
 rw[wT h.2.1 (adg _) hk];rfl
theorem er(h:aG g p){x:Int}(hx:fN g x):(dP g p x).Nodup/\∀e,e∈dP g p x↔(0<=e/\e<g.es.length)/\bA g e=x:=by
 obtain⟨k,hk,rfl⟩:=cq h.2.1 hx.1 hx.2
 have hm:=ah h.1
 obtain⟨hi,_,_⟩:=bz hm h.2.1 (k:=k) (by omega) fun j hj=>h.2.2 j (by omega)
 rw[ni h hk]
 exact S3 hm hi (h.2.2 k hk)
theorem jt(h:aG g p){x:Int}(hx:fN g x):(dP g p x).length=aV g x:=by
 obtain⟨h1,h2⟩:=er h hx
 refine ag0 ?_ ?_
 ·exact lB h1 fun e he=>aX.2 ((h2 e).1 he)
 ·exact lB b7 fun e he=>(h2 e).2 (aX.1 he)
theorem oN(h:aG g p)(hI:q8 g=true){x:Int}(hx:fN g x):bE p x= []↔x=aq p (g.n.toNat - 1):=by
 have hm:=ah h.1
 have hn:=aB hm
 constructor
 ·intro h1
  have hs:=(oL h).1
  have hsi:=aD h.2.1 (k:=g.n.toNat - 1) (by omega)
  have b1:=jc (f:=(·.1)) (g:=g) (y:=x) |>.2 ⟨hx,(mA h.2.1 hx.1 hx.2).2 h1⟩
  have b2:=jc (f:=(·.1)) (g:=g) (y:=aq p (g.n.toNat - 1)) |>.2 ⟨hsi,(mA h.2.1 hsi.1 hsi.2).2 hs⟩
  have hl:(bZ (·.1) g).length=1:=by
   unfold q8 at hI
   simp only[adf,adb]at hI
   exact hI.2
  obtain⟨y,hy⟩:=List.length_eq_one_iff.1 hl
  rw[hy,adu]at b1 b2
  rw[b1,b2]
 ·rintro rfl;exact(oL h).1
theorem Dt(h:aG g p)(hI:q8 g=true){f:Fr}(hi:Bx g f):∀ {d k:Nat},k+d=g.n.toNat->k<g.n.toNat->aq p k∉f.pl->aq p (g.n.toNat - 1)∉f.pl
 |0,k,h1,h2,_=>by omega
 |d+1,k,h1,h2,h3=>by
  have hm:=ah h.1
  have hx:=aD h.2.1 h2
  by_cases hs:bE p (aq p k)= []
  ·rw[(oN h hI hx).1 hs]at h3;exact h3
  ·obtain⟨e,u,he⟩:=jZ hs
   have Cw:e∈b8 g (aq p k):=(aW h.2.1 hx.1 hx.2).mem_iff.1 (by rw[he];simp)
   obtain⟨yL,Cu⟩:=aX.1 Cw
   have hh:=aU hm (i:=e.toNat) (by omega)
   obtain⟨k',hk',e'⟩:=cq h.2.1 hh.1 hh.2
   obtain⟨j,hj,e2⟩:=E7 h yL hk' e'.symm
   have:j=k:=dS h.2.1 (by omega) h2 (e2.trans Cu)
   refine Dt h hI hi (d:=g.n.toNat - k') (k:=k') (by omega) hk' fun h4=> ?_
   have:=hi.low e.toNat (by omega) (e' ▸ h4)
   have h5:tl g e.toNat=aq p k:=Cu
   exact h3 (h5 ▸ this)
 termination_by d=>d
theorem ry.nd{k:Nat}{W D:List Int}(h:ry g p k W D):W.Nodup:=by
 obtain⟨f,hi,_,rfl,_⟩:=h;exact QD hi
theorem ry.mem(h:aG g p){k:Nat}{W D:List Int}(hr:ry g p k W D)(e:Int):e∈W↔(0<=e/\e<g.es.length)/\bt g e∈D/\bA g e∉D:=by
 have hm:=ah h.1
 obtain⟨f,hi,rfl,rfl,hc,_⟩:=hr
 constructor
 ·intro he
  obtain⟨t,ht,rfl⟩:=ada.1 he
  obtain⟨h1,h2,h3⟩:=xu hm hi.tofL ht
  obtain⟨h4,h5⟩:=eX.1 ht
  exact⟨h1,h2 ▸ hi.tail t h4 h5,h3 ▸ hi.head t h4 h5⟩
 ·rintro⟨h1,h2,h3⟩
  obtain⟨t,h4,h5⟩:=K5 h.1 h.2.1 hi hc (i:=e.toNat) (by omega) h2 h3
  exact ada.2 ⟨t,eX.2 ⟨h4,by omega⟩,by omega⟩
theorem ry.next(h:aG g p){k:Nat}{W D:List Int}(hr:ry g p (k+1) W D):∃x A C,W=A++(aP g p).ins x++C/\(aP g p).ins x≠ []:=by
 have hm:=ah h.1
 obtain⟨f,hi,rfl,rfl,⟨x,hR,hg,_⟩,_,hs⟩:=hr
 obtain⟨x0,x1,x2⟩:=aF hR
 have hx:fN g x:=⟨x0,x1⟩
 have hn:aV g x≠0:=fun h0=>by
  have:=gB h.1 (x:=x) (y:=aq p 0) hx (hi.lg _ hs) h0 (gE h)
  exact x2 (this ▸ hs)
 obtain⟨a,c,e1,_,_,_,hl,_⟩:=xq hm hi.tofL hR hn (bE p x)
 refine⟨x,a.map (·.1),c.map (·.1), ?_, ?_⟩
 ·rw[gR hx, <- hg,e1,ads,ads];rfl
 ·rw[gR hx]
  intro h0
  have:=jt h hx
  rw[h0]at this
  exact hn this.symm
theorem ry.step(h:aG g p){k:Nat}{W D A C:List Int}{x:Int}(hr:ry g p k W D)(hW:W=A++(aP g p).ins x++C)(hI:(aP g p).ins x≠ []):∃k',k=k'+1/\ry g p k' (A++(aP g p).outs x++C) (D++ [x]):=by
 have hm:=ah h.1
 have hx:fN g x:=adl fun h0=>hI (nh h0)
 have bR:=hr.nd
 have hmem:=ry.mem h hr
 rw[gR hx]at hW hI
 rw[eo hx]
 obtain⟨i1,i2⟩:=er h hx
 obtain⟨e0,u0,Pg⟩:=jZ hI
 have N4:x∉D:=by
  have h1:=(i2 e0).1 (by rw[Pg];simp)
  have h2:=(hmem e0).1 (by rw[hW,Pg];simp)
  rw[h1.2]at h2;exact h2.2.2
 obtain⟨f,hi,rfl,hWf,hc,hD,hs⟩:=hr
 rw[hWf]at hW bR
 obtain⟨l1,c,e1,e2,e3⟩:=af8.1 hW
 obtain⟨a,X,e4,e5,e6⟩:=af8.1 e2
 have hrow:ef f.row=a++X++c:=by rw[e1,e4]
 rw[hrow,ads,ads,e5,e6,e3]at bR
 have hit:∀t∈a++X++c,(0<=t.1/\t.1<g.es.length)/\t.2.1=bt g t.1/\t.2.2=bA g t.1:=fun t ht=>xu hm hi.tofL (by rw[hrow];exact ht)
 have hX:zD x X:=fun t ht=>by
  have h1:t.1∈dP g p x:=by rw[<- e6];exact aeO ht
  rw[(hit t (by simp[ht])).2.2,((i2 _).1 h1).2]
 have hin:∀t∈a++X++c,t.2.2=x->t.1∈dP g p x:=fun t ht e=>by
  obtain⟨h1,_,h3⟩:=hit t ht
  exact(i2 _).2 ⟨h1,by rw[<- h3,e]⟩
 have ha:gv x a:=fun t ht e=>by
  have h1:=hin t (by simp[ht]) e
  have h2:t.1∈A:=by rw[<- e5];exact aeO ht
  exact(adt.1 (adt.1 bR).1).2.2 _ h2 _ h1 rfl
 have Ul:gv x c:=fun t ht e=>by
  have h1:=hin t (by simp[ht]) e
  have h2:t.1∈C:=by rw[<- e3];exact aeO ht
  exact(adt.1 bR).2.2 _ (ac8.2 (.inr h1)) _ h2 rfl
 have Uj:X.length=aV g x:=by rw[<- jt h hx, <- e6,adn]
 have nX:X≠ []:=fun h0=>hI (by rw[<- e6,h0];rfl)
 have hR:=BU hm hi.tofL hx.1 hx.2 N4 hrow ha Ul hX nX Uj
 have hn:aV g x≠0:=fun h0=>nX (adE (Uj.trans h0))
 have px:=aW h.2.1 hx.1 hx.2
 cases k with
 |zero=>exact absurd (jQ hi.tofL (by omega) hx) N4
 |succ k=>
  refine⟨k,rfl,w9 g p f x,kr hm hi hR px,rfl, ?_,(s5 h.1 h.2.1 hi (by omega) hc hR).2, ?_,ac8.2 (.inl hs)⟩
  ·have:=E6 hm hi.tofL hR hn hrow ha Ul hX nX (bE p x)
   show _=(ef (aC g f x (bE p x)).2.row).map (·.1)
   rw[this,ads,ads,e5,e3,jT (fun i hi=>by
    have:=aX.1 (px.mem_iff.1 hi);exact this.1.1),aeE]
   have e7:((fun t:It=>t.1) ∘ gM g x)=id:=rfl
   rw[e7,agE]
  ·show(((f.pl++ [x]).length:Nat):Int)+_=_
   rw[adi,List.length_singleton];omega
theorem M9(h:aG g p):ry g p (g.n.toNat - 1) (bE p (aq p 0)) [aq p 0]:=by
 have hm:=ah h.1
 have hn:=aB hm
 have hx:=aD h.2.1 (k:=0) (by omega)
 obtain⟨hi,dI,_⟩:=bz hm h.2.1 (k:=1) (by omega) fun j hj=>h.2.2 j (by omega)
 have px:=aW h.2.1 hx.1 hx.2
 have hno:gv (aq p 0) (fK g p 0).row:=fun t ht=>by cases ht
 have hf:fK g p 1=⟨aQ g (aq p 0) (bE p (aq p 0)), [aq p 0]⟩:=by
  show(aC g (fK g p 0) (aq p 0) _).2=_
  rw[cH _ hno]
  show(⟨_++ [], []++ [_]⟩:Fr)=_
  simp
 refine⟨fK g p 1,hi,by rw[hf], ?_,yw h (by omega),by simp;omega,by simp⟩
 rw[hf]
 show _=(ef (aQ g (aq p 0) (bE p (aq p 0)))).map (·.1)
 rw[jT (fun i hi=>(aX.1 (px.mem_iff.1 hi)).1.1),aeE]
 have e7:((fun t:It=>t.1) ∘ gM g (aq p 0))=id:=rfl
 rw[e7,agE]
theorem nj(h:aG g p)(hI:q8 g=true):(aP g p).Ok:=by
 have hm:=ah h.1
 have hn:=aB hm
 have h0:fN g (aq p 0):=aD h.2.1 (by omega)
 exact {
  bI:=fun x e=>by
   show _↔(0<=e/\e<g.es.length)/\bt g e=x
   by_cases hx:fN g x
   ·rw[eo hx,(aW h.2.1 hx.1 hx.2).mem_iff];exact aX
   ·rw[oM hx]
    refine⟨fun h=>by(cases h),fun ⟨h1,h2⟩=>absurd ?_ hx⟩
    rw[<- h2];exact aT hm (i:=e.toNat) (by omega)
  cz:=fun x e=>by
   show _↔(0<=e/\e<g.es.length)/\bA g e=x
   by_cases hx:fN g x
   ·rw[gR hx];exact(er h hx).2 e
   ·rw[nh hx]
    refine⟨fun h=>by(cases h),fun ⟨h1,h2⟩=>absurd ?_ hx⟩
    rw[<- h2];exact aU hm (i:=e.toNat) (by omega)
  wW:=fun x=>by
   by_cases hx:fN g x
   ·rw[eo hx,(aW h.2.1 hx.1 hx.2).nodup_iff];exact b7
   ·rw[oM hx];exact ae0
  Jg:=fun x=>by
   by_cases hx:fN g x
   ·rw[gR hx];exact(er h hx).1
   ·rw[nh hx];exact ae0
  EO:=fun e he=>by
   have he:0<=e/\e<g.es.length:=he
   have hh:=aU hm (i:=e.toNat) (by omega)
   obtain⟨k,hk,e1⟩:=cq h.2.1 hh.1 hh.2
   obtain⟨j,hj,e2⟩:=E7 h he hk e1.symm
   show QC g p (bt g e)<QC g p (bA g e)
   have e3:bA g e=aq p k:=e1.symm
   rw[<- e2,e3,K6 hm h.2.1 hk,K6 hm h.2.1 (by omega)]
   exact hj
  SS:=by
   show ry g p (g.n.toNat - 1) ((aP g p).outs (aq p 0)) [aq p 0]
   rw[eo h0];exact M9 h
  qX:=fun hr=>ry.nd hr
  eW:=fun hr e=>ry.mem h hr e
  qY:=fun hr=>ry.next h hr
  row_step:=fun hr h1 h2=>ry.step h hr h1 h2
  sV:=fun {W D} hr e he=>by
   obtain⟨f,hi,rfl,_,_,hD,_⟩:=hr
   exact jQ hi.tofL (by omega) (aU hm (i:=e.toNat) (by have:=he.1;have:=he.2;have:e<g.es.length:=he.2;omega))
  wX:=fun {k W D} hr=>by obtain⟨f,hi,rfl,_,_,_,hs⟩:=hr;exact hs
  zR:=fun {k W D} hr hs=>by
   obtain⟨f,hi,rfl,_,_,hD,_⟩:=hr
   refine adl fun hk=> ?_
   have:∃k',k'<g.n.toNat/\aq p k'∉f.pl:=by
    refine adl fun hall=> ?_
    have hall:∀k',k'<g.n.toNat->aq p k'∈f.pl:=fun k' hk'=>adl fun h1=>hall ⟨k',hk',h1⟩
    have:=lB (l:=p.ord) (m:=f.pl) (cF h.2.1) fun x hx=>by
     have hx:=cE.1 (h.2.1.2.1.mem_iff.1 hx)
     obtain⟨k',h1,rfl⟩:=cq h.2.1 hx.1 (by omega)
     exact hall k' h1
    rw[aI h.2.1]at this
    omega
   obtain⟨k',h1,h2⟩:=this
   exact Dt h hI hi (d:=g.n.toNat - k') (by omega) h1 h2 hs
  BA:=by
   show(aP g p).ins (aq p 0)= []
   rw[gR h0]
   have:=jt h h0
   rw[gE h]at this
   exact adE this
  wY:=fun x hx=>by
   have MH:fN g x:=adl fun h0=>hx (nh h0)
   rw[eo MH]
   exact oN h hI MH}
end
def eD(d:Dr)(x:Int):Pt:=d.pts.getD x.toNat (0,0)
def ff(d:Dr)(e:Int):List Pt:=d.ls.getD e.toNat []
structure yx (g:Gr) (d:Dr):Prop where
 AA:(bX g).1=0
 np:(d.pts.length:Int)=g.n
 nl:d.ls.length=g.es.length
 Zn:∀q∈d.pts,bC q
 len:∀l∈d.ls,2<=l.length/\l.length<=8
 qx:∀l∈d.ls,∀q∈l,bC q
 fst:∀i,i<g.es.length->(d.ls.getD i []).getD 0 (0,0)=eD d (tl g i)
 GL:∀i,i<g.es.length->(d.ls.getD i []).getD ((d.ls.getD i []).length - 1) (0,0)=eD d (hd g i)
 I2:∀i,i<g.es.length->∀k,k+1<(d.ls.getD i []).length->((d.ls.getD i []).getD k (0,0)).2<((d.ls.getD i []).getD (k+1) (0,0)).2
 alone:∀x z:Nat,x<z->z<d.pts.length->d.pts.getD x (0,0)≠d.pts.getD z (0,0)
 free:∀i x:Nat,i<g.es.length->x<d.pts.length->(x:Int)≠tl g i->(x:Int)≠hd g i->SE (d.ls.getD i []) (d.pts.getD x (0,0))=false
 apart:∀i k:Nat,i<g.es.length->k<i->∀a∈fe (d.ls.getD i []),∀b∈fe (d.ls.getD k []),dH (gW g d i k) a b=false
theorem oO{n:Nat}{f:Nat->Bool}(h:¬0<=bP n f){i:Nat}(hi:i<n):f i=true:=by
 refine adl fun hf=>h ?_
 have h1:=cT (fun i=> !f i) (List.range n)
 have h2:(List.range n).any (fun i=> !f i)=true:=adQ.2 ⟨i,adk.2 hi,by simp[hf]⟩
 rw[h2]at h1
 exact aek h1
theorem Du{p:Pt}(h:nF p=false):bC p:=by
 rw[sD]at h
 simpa using h
theorem s6{l:List Pt}{k:Nat}(h:k+1<l.length):(l.getD k (0,0),l.getD (k+1) (0,0))∈fe l:=by
 unfold fe MC
 exact ada.2 ⟨k,adk.2 (by omega),rfl⟩
theorem VP{g:Gr}{d:Dr}(h:(kG g d).1=0):kG g d=(0,0)/\yx g d:=by
 unfold kG at h ⊢
 split at h
 ·cases h
 rename_i h1
 split at h
 ·cases h
 rename_i h2
 split at h
 ·cases h
 rename_i h3
 split at h
 ·cases h
 rename_i h4
 split at h
 ·cases h
 rename_i h5
 split at h
 ·cases h
 rename_i h6
 split at h
 ·cases h
 rename_i h7
 rw[ac7 h1,ac7 h2,ac7 h3,ac7 h4,ac7 h5,ac7 h6,ac7 h7]
 refine⟨rfl, ?_⟩
 simp only[Bool.not_eq_false]at h1 h2
 simp only[ga,adf,adb]at h1
 simp only[dZ,adf,adJ,adU]at h2
 obtain⟨⟨c1,c2⟩,c3⟩:=h1
 have hb:∀l∈d.ls,2<=l.length/\l.length<=8/\∀q∈l,nF q=false:=fun l hl=>by
  have:=h2.2 l hl
  simp only[jC,adK,adb,not_or,adQ,not_exists,not_and,Bool.not_eq_true]at this
  exact⟨by omega,by omega,this.2⟩
 have he:∀i,i<g.es.length->(d.ls.getD i []).getD 0 (0,0)=eD d (tl g i)/\(d.ls.getD i []).getD ((d.ls.getD i []).length - 1) (0,0)=eD d (hd g i):=fun i hi=>by
  have:=oO h3 hi
  simp only[qT,adf,adb]at this
  exact this
 exact {
  AA:=c1,np:=c2,nl:=c3
  Zn:=fun q hq=>Du (by have:=h2.1 q hq;simpa using this)
  len:=fun l hl=>⟨(hb l hl).1,(hb l hl).2.1⟩
  qx:=fun l hl q hq=>Du ((hb l hl).2.2 q hq)
  fst:=fun i hi=>(he i hi).1
  GL:=fun i hi=>(he i hi).2
  I2:=fun i hi k hk=>by
   have:=oO h4 hi
   simp only[gL,adJ,adU,adb,ahb]at this
   exact this _ (s6 hk)
  alone:=fun x z hx hz e=>by
   have:=oO h5 hz
   simp only[fD,adJ,adL]at this
   refine this ?_
   rw[<- e,aas,acF (by omega)]
   exact adr.2 ⟨x,by simp;omega,by simp⟩
  free:=fun i x hi hx h8 h9=>by
   have:=oO h6 hi
   simp only[kL,oq,ad7,adk,adK,adb,adJ]at this
   rcases this x hx with (h|h)|h
   ·exact absurd h h8
   ·exact absurd h h9
   ·exact h
  apart:=fun i k hi hk a ha b hb'=>by
   have:=oO h7 hi
   simp only[fZ,jm,ad7,adk,adJ]at this
   exact this k hk a ha b hb'}
def jv(d:Dr)(e:Int):Pt:=(ff d e).getD 1 (0,0)
def yy(d:Dr)(x i k:Int):Int:=tm (eD d x) (jv d k) (eD d x) (jv d i)
def mD(d:Dr)(x i k:Int):Prop:=0<yy d x i k
theorem S4{a b c:Pt} :tm a b a c= -tm a c a b:=by unfold tm;grind
theorem BX{d:Dr}{x i k:Int} :yy d x i k= -yy d x k i:=S4
theorem Jp{u1 u2 v1 v2 w1 w2:Int}(hu:0<u2)(hv:0<v2)(hw:0<w2)(h1:0<v1*u2 - v2*u1)(h2:0<w1*v2 - w2*v1):0<w1*u2 - w2*u1:=by
 have e:(v1*u2 - v2*u1)*w2+(w1*v2 - w2*v1)*u2=v2*(w1*u2 - w2*u1):=by grind
 have p1:=afm h1 hw
 have p2:=afm h2 hu
 have p3:0<v2*(w1*u2 - w2*u1):=by omega
 exact Int.pos_of_mul_pos_right p3 hv
section
variable {g:Gr} {d:Dr} (h:yx g d)
include h
theorem iN{e:Int}(h0:0<=e)(h1:e<g.es.length):ff d e∈d.ls:=by
 unfold ff
 exact az (by have:=h.nl;omega)
theorem u6{e x:Int}(h0:0<=e)(h1:e<g.es.length)(hx:bt g e=x):(eD d x).2<(jv d e).2:=by
 have hl:=(h.len _ (iN h h0 h1)).1
 have h2:=h.I2 e.toNat (by omega) 0 (by show 0+1<(ff d e).length;omega)
 have h3:=h.fst e.toNat (by omega)
 have h4:tl g e.toNat=x:=hx
 rw[h3,h4]at h2
 exact h2
theorem Na{x i k j:Int}(hi:0<=i/\i<g.es.length)(hk:0<=k/\k<g.es.length)(hj:0<=j/\j<g.es.length)(xi:bt g i=x)(xk:bt g k=x)(xj:bt g j=x)(h1:mD d x i k)(h2:mD d x k j):mD d x i j:=by
 have u:=u6 h hi.1 hi.2 xi
 have v:=u6 h hk.1 hk.2 xk
 have w:=u6 h hj.1 hj.2 xj
 unfold mD yy tm at*
 exact Jp (u1:=(jv d i).1 - (eD d x).1) (v1:=(jv d k).1 - (eD d x).1) (w1:=(jv d j).1 - (eD d x).1) (by omega) (by omega) (by omega) h1 h2
end
theorem xw{d:Dr}{x i k:Int}(h1:mD d x i k)(h2:mD d x k i):False:=by
 unfold mD at*
 rw[BX]at h2
 omega
theorem QE{p a b:Pt}(hp:bC p)(ha:bC a)(hb:bC b)(ua:p.2<a.2)(ub:p.2<b.2)(h0:tm p a p b=0):fF p a p b=2:=by
 rw[<- KH]
 unfold jk
 have e1:p≠a:=fun e=>by rw[e]at ua;omega
 have e2:p≠b:=fun e=>by rw[e]at ub;omega
 have hA:ai p a p=0:=by unfold ai;grind
 have hB:ai p a b=0:=by unfold ai;unfold tm at h0;grind
 have c0:jh 0 0=0:=by decide
 rw[ac9 ⟨hp,ha,hp,hb⟩,ac7 e1,ac7 e2,hA,hB,c0,ac9 ⟨rfl,rfl⟩]
 have d1:an p a p=0:=by unfold an;grind
 have d2:0<an p a a:=by
  unfold an
  have h1:0<(a.2 - p.2)*(a.2 - p.2):=afm (by omega) (by omega)
  have h2:0<=(a.1 - p.1)*(a.1 - p.1):=by
   rcases agu 0 (a.1 - p.1) with h|h
   ·exact agf h h
   ·exact afJ h h
  omega
 have d3:0<an p a b:=by
  unfold an
  unfold tm at h0
  have hab:0<(a.2 - p.2)*(b.2 - p.2):=afm (by omega) (by omega)
  have e:((b.1 - p.1)*(a.1 - p.1)+(b.2 - p.2)*(a.2 - p.2))*((a.2 - p.2)*(b.2 - p.2))=((a.1 - p.1)*(b.2 - p.2))*((a.1 - p.1)*(b.2 - p.2))+((a.2 - p.2)*(b.2 - p.2))*((a.2 - p.2)*(b.2 - p.2)):=by grind
  have h2:0<=((a.1 - p.1)*(b.2 - p.2))*((a.1 - p.1)*(b.2 - p.2)):=by
   rcases agu 0 ((a.1 - p.1)*(b.2 - p.2)) with h|h
   ·exact agf h h
   ·exact afJ h h
  have h3:=afm hab hab
  have h4:0<((b.1 - p.1)*(a.1 - p.1)+(b.2 - p.2)*(a.2 - p.2))*((a.2 - p.2)*(b.2 - p.2)):=by omega
  exact Int.pos_of_mul_pos_left h4 hab
 rw[d1]
 rw[ac7 (by omega),ac7 (by omega)]
section
variable {g:Gr} {d:Dr} (h:yx g d)
include h
theorem Nb{x i k:Int}(hi:0<=i/\i<g.es.length)(hk:0<=k/\k<g.es.length)(xi:bt g i=x)(xk:bt g k=x)(hne:i≠k):mD d x i k\/mD d x k i:=by
 have key:∀ {i k:Int},(0<=i/\i<g.es.length)->(0<=k/\k<g.es.length)->bt g i=x->bt g k=x->k<i->yy d x i k≠0:=fun {i k} hi hk xi xk hlt e=>by
  have hx:bC (eD d x):=by
   have:=h.fst i.toNat (by omega)
   have e2:tl g i.toNat=x:=xi
   rw[e2]at this
   rw[<- this]
   exact h.qx _ (iN h hi.1 hi.2) _ (az (by have:=(h.len _ (iN h hi.1 hi.2)).1;show 0<(ff d i).length;omega))
  have li:=(h.len _ (iN h hi.1 hi.2)).1
  have lk:=(h.len _ (iN h hk.1 hk.2)).1
  have p1:=s6 (l:=ff d i) (k:=0) (by omega)
  have p2:=s6 (l:=ff d k) (k:=0) (by omega)
  have f1:(ff d i).getD 0 (0,0)=eD d x:=by rw[<- xi];exact h.fst i.toNat (by omega)
  have f2:(ff d k).getD 0 (0,0)=eD d x:=by rw[<- xk];exact h.fst k.toNat (by omega)
  have hb:=h.apart i.toNat k.toNat (by omega) (by omega) _ p1 _ p2
  rw[f1,f2]at hb
  have m2:=QE (p:=eD d x) (a:=jv d i) (b:=jv d k) hx (h.qx _ (iN h hi.1 hi.2) _ (az (by omega))) (h.qx _ (iN h hk.1 hk.2) _ (az (by omega))) (u6 h hi.1 hi.2 xi) (u6 h hk.1 hk.2 xk) (by
   have:yy d x i k=0:=e
   rw[BX]at this
   unfold yy at this
   omega)
  have m3:fF (eD d x) ((ff d i).getD (0+1) (0,0)) (eD d x) ((ff d k).getD (0+1) (0,0))=2:=m2
  unfold dH at hb
  simp only[m3]at hb
  simp at hb
 have e0:=BX (d:=d) (x:=x) (i:=i) (k:=k)
 rcases afy i k with hlt|he|hlt
 ·have:=key hk hi xk xi hlt
  unfold mD
  omega
 ·exact absurd he hne
 ·have:=key hi hk xi xk hlt
  unfold mD
  omega
end
structure Cv (p q:Pt) (y X:Rat):Prop where
 lo:(p.2:Rat)<=y
 hi:y<=(q.2:Rat)
 eq:(X - p.1)*(q.2 - p.2)=(q.1 - p.1)*(y - p.2)
theorem xx{p q r s:Pt}{y X:Rat}(h1:Cv p q y X)(h2:Cv r s y X):((ai p q r:Int):Rat)*(s.2 - r.2)=(r.2 - y)*((tm p q r s:Int):Rat):=by
 have e1:=h1.eq
 have e2:=h2.eq
 unfold ai tm
 push_cast
 grind
theorem He{p q r s:Pt}{y X:Rat}(h1:Cv p q y X)(h2:Cv r s y X):((ai p q s:Int):Rat)*(s.2 - r.2)=(s.2 - y)*((tm p q r s:Int):Rat):=by
 have e1:=h1.eq
 have e2:=h2.eq
 unfold ai tm
 push_cast
 grind
theorem gn{a b:Rat}(ha:a<=0)(hb:0<=b):a*b<=0:=by
 have:=aeA (show 0<= -a by grind) hb
 grind
theorem yz(a:Rat):0<=a*a:=by
 rcases(show 0<=a\/a<=0 from Rat.le_total) with h|h
 ·exact aeA h h
 ·have:=aeA (show 0<= -a by grind) (show 0<= -a by grind)
  grind
theorem K7{p q r s:Pt}{y X:Rat}(h1:Cv p q y X)(h2:Cv r s y X)(hr:r.2<s.2):ai p q r*ai p q s<=0:=by
 have a1:=xx h1 h2
 have a2:=He h1 h2
 have hp:(0:Rat)<s.2 - r.2:=by
  have:(r.2:Rat)<s.2:=by exact_mod_cast hr
  grind
 generalize ((tm p q r s:Int):Rat)=M at a1 a2
 have l1:=h2.lo
 have l2:=h2.hi
 have k:((ai p q r*ai p q s:Int):Rat)<=0:=by
  push_cast
  generalize ((ai p q r:Int):Rat)=A at a1 a2 ⊢
  generalize ((ai p q s:Int):Rat)=B at a1 a2 ⊢
  generalize hD:(s.2:Rat) - r.2=D at*
  have e:(A*B)*(D*D)=(((r.2:Rat) - y)*(s.2 - y))*(M*M):=by grind
  have n1:((r.2:Rat) - y)*(s.2 - y)<=0:=gn (by grind) (by grind)
  have n2:=gn n1 (yz M)
  have dp:0<D*D:=aeJ hp hp
  refine afD.1 fun hn=> ?_
  have:=aeJ hn dp
  grind
 exact_mod_cast k
theorem rz{p q c:Pt}(hu:p.2<q.2)(h:ai p q c=0)(h1:p.2<=c.2)(h2:c.2<=q.2):iz p q c=true:=by
 refine dK.2 ⟨h, ?_, ?_⟩
 ·have e:((p.1 - c.1)*(q.1 - c.1))*((q.2 - p.2)*(q.2 - p.2))= -(((q.1 - p.1)*(q.1 - p.1))*((c.2 - p.2)*(q.2 - c.2))):=by
   unfold ai at h
   grind
  refine cD (s:=q.2 - p.2) (by omega) ?_
  rw[e]
  have:=agf (sq_nonneg (q.1 - p.1)) (agf (show 0<=c.2 - p.2 by omega) (show 0<=q.2 - c.2 by omega))
  omega
 ·exact agA (by omega) (by omega)
theorem Nc{p q c:Pt}(hu:p.2<q.2)(h:iz p q c=true):p.2<=c.2/\c.2<=q.2/\ai p q c=0:=by
 obtain⟨h1,_,h3⟩:=dK.1 h
 refine⟨agx.1 fun hn=> ?_,agx.1 fun hn=> ?_,h1⟩
 ·have:=afm (show 0<p.2 - c.2 by omega) (show 0<q.2 - c.2 by omega)
  omega
 ·have:=afL (show p.2 - c.2<0 by omega) (show q.2 - c.2<0 by omega)
  omega
theorem dr{p q c:Pt}(hu:p.2<q.2)(h:iz p q c=true):Cv p q c.2 c.1:=by
 obtain⟨h1,h2,h3⟩:=Nc hu h
 refine⟨by exact_mod_cast h1,by exact_mod_cast h2, ?_⟩
 have e:(c.1 - p.1)*(q.2 - p.2)=(q.1 - p.1)*(c.2 - p.2):=by unfold ai at h3;grind
 exact_mod_cast e
theorem QF{p q c:Pt}(hu:p.2<q.2)(h:Cv p q c.2 c.1):iz p q c=true:=by
 have e:(c.1 - p.1)*(q.2 - p.2)=(q.1 - p.1)*(c.2 - p.2):=by have:=h.eq;exact_mod_cast this
 have h1:=h.lo
 have h2:=h.hi
 exact rz hu (by unfold ai;grind) (by exact_mod_cast h1) (by exact_mod_cast h2)
theorem QG{l:List (List Int)}{a b:List Int}(ha:a∈l)(hb:b∈l)(hne:a≠b):2<=l.length:=by
 match l,ha,hb with
 | [c],ha,hb=>simp at ha hb;exact absurd (ha.trans hb.symm) hne
 |_::_::_,_,_=>simp
theorem zY{p q r s:Pt}{y X:Rat}(h1:Cv p q y X)(h2:Cv r s y X)(hr:r.2<s.2)(hT:tm p q r s=0):ai p q r=0/\ai p q s=0:=by
 have a1:=xx h1 h2
 have a2:=He h1 h2
 rw[hT]at a1 a2
 have hp:(0:Rat)<s.2 - r.2:=by
  have:(r.2:Rat)<s.2:=by exact_mod_cast hr
  grind
 refine⟨?_, ?_⟩
 ·have:((ai p q r:Int):Rat)=0:=by
   generalize ((ai p q r:Int):Rat)=A at*
   push_cast at a1
   grind
  exact_mod_cast this
 ·have:((ai p q s:Int):Rat)=0:=by
   generalize ((ai p q s:Int):Rat)=A at*
   push_cast at a2
   grind
  exact_mod_cast this
theorem K8{p q:Pt}{y X:Rat}{c:Int}(h:Cv p q y X):((c:Rat)<=y->c<=q.2)/\(y<=(c:Rat)->p.2<=c):=by
 have h1:=h.lo
 have h2:=h.hi
 exact⟨fun h3=>by have:(c:Rat)<=q.2:=by grind
                  exact_mod_cast this,fun h3=>by have:(p.2:Rat)<=c:=by grind
                                                 exact_mod_cast this⟩
theorem QH{p q r s:Pt}{y X:Rat}(hu:p.2<q.2)(hr:r.2<s.2)(h1:Cv p q y X)(h2:Cv r s y X)(hT:tm p q r s=0):∃c,Cx p q r s c/\(c.2:Rat)<=y:=by
 have H6:tm r s p q=0:=by rw[zQ];omega
 have f1:=(zY h1 h2 hr hT).1
 have f2:=(zY h2 h1 hu H6).1
 rcases agu p.2 r.2 with h|h
 ·exact⟨r, .inr (.inr (.inl ⟨rz hu f1 h ((K8 h1).1 h2.lo),rfl⟩)),h2.lo⟩
 ·exact⟨p, .inl ⟨rz hr f2 h ((K8 h2).1 h1.lo),rfl⟩,h1.lo⟩
theorem VQ{p q r s:Pt}{y X:Rat}(hu:p.2<q.2)(hr:r.2<s.2)(h1:Cv p q y X)(h2:Cv r s y X)(hT:tm p q r s=0):∃c,Cx p q r s c/\y<=(c.2:Rat):=by
 have H6:tm r s p q=0:=by rw[zQ];omega
 have f1:=(zY h1 h2 hr hT).2
 have f2:=(zY h2 h1 hu H6).2
 rcases agu q.2 s.2 with h|h
 ·exact⟨q, .inr (.inl ⟨rz hr f2 ((K8 h2).2 h1.hi) h,rfl⟩),h1.hi⟩
 ·exact⟨s, .inr (.inr (.inr ⟨rz hu f1 ((K8 h1).2 h2.hi) h,rfl⟩)),h2.hi⟩
theorem S5{p q r s:Pt}{y X:Rat}(hu:p.2<q.2)(hr:r.2<s.2)(h1:Cv p q y X)(h2:Cv r s y X):1<=c8 p q r s:=by
 by_cases hT:tm p q r s=0
 ·obtain⟨c,hc,_⟩:=QH hu hr h1 h2 hT
  have:0<(K4 p q r s).length:=ae6.2 (List.ne_nil_of_mem (jl.2 ⟨c,hc,rfl⟩))
  unfold c8
  rw[ac9 this]
  omega
 ·rw[kf hT,ac9 ⟨K7 h1 h2 hr,K7 h2 h1 hu⟩]
  omega
theorem Hf{p q r s:Pt}{y z X Z:Rat}(hu:p.2<q.2)(hr:r.2<s.2)(h1:Cv p q y X)(h2:Cv r s y X)(h3:Cv p q z Z)(h4:Cv r s z Z)(hyz:y<z):c8 p q r s=2:=by
 have hT:tm p q r s=0:=by
  have a1:=xx h1 h2
  have a2:=xx h3 h4
  have:((tm p q r s:Int):Rat)=0:=by
   generalize ((tm p q r s:Int):Rat)=M at*
   have:(z - y)*M=0:=by grind
   have:z - y≠0:=by grind
   grind
  exact_mod_cast this
 obtain⟨c,hc,c1⟩:=QH hu hr h1 h2 hT
 obtain⟨e,he,e1⟩:=VQ hu hr h3 h4 hT
 have hne:key c≠key e:=fun h=>by
  have:c.2=e.2:=by unfold key at h;simp at h;exact h.2
  rw[this]at c1
  grind
 have:=QG (jl.2 ⟨c,hc,rfl⟩) (jl.2 ⟨e,he,rfl⟩) hne
 unfold c8
 rw[ac9 (by omega)]
 omega
theorem zZ{p q:Pt}{y X Z:Rat}(hu:p.2<q.2)(h1:Cv p q y X)(h2:Cv p q y Z):X=Z:=by
 have hp:(0:Rat)<q.2 - p.2:=by
  have:(p.2:Rat)<q.2:=by exact_mod_cast hu
  grind
 have e1:=h1.eq
 have e2:=h2.eq
 generalize (q.2:Rat) - p.2=D at*
 have:(X - Z)*D=0:=by grind
 grind
theorem zh{p q:Pt}{y:Rat}(hu:p.2<q.2)(h1:(p.2:Rat)<=y)(h2:y<=q.2):∃X,Cv p q y X:=by
 have hp:(0:Rat)<q.2 - p.2:=by
  have:(p.2:Rat)<q.2:=by exact_mod_cast hu
  grind
 refine⟨p.1+(q.1 - p.1)*(y - p.2) / (q.2 - p.2),h1,h2, ?_⟩
 generalize (q.2:Rat) - p.2=D at*
 grind
def rC(l:List Pt)(y X:Rat):Prop:=∃j,j+1<l.length/\Cv (l.getD j (0,0)) (l.getD (j+1) (0,0)) y X
def S6(l:List Pt):Prop:=∀k,k+1<l.length->(l.getD k (0,0)).2<(l.getD (k+1) (0,0)).2
theorem E8{l:List Pt}(h:S6 l){i:Nat} :∀ {j:Nat},i<j->j<l.length->(l.getD i (0,0)).2<(l.getD j (0,0)).2
 |j+1,hij,hj=>by
  have h1:=h j hj
  rcases adj i j with h2|h2
  ·have:=E8 h h2 (by omega)
   omega
  ·rw[show i=j by omega];exact h1
theorem BY{l:List Pt}(h:S6 l){i j:Nat}(hij:i<=j)(hj:j<l.length):(l.getD i (0,0)).2<=(l.getD j (0,0)).2:=by
 rcases adj i j with h2|h2
 ·exact ahc (E8 h h2 hj)
 ·rw[show i=j by omega];omega
theorem Dv{l:List Pt}(h:S6 l){y X Z:Rat}{i j:Nat}(hij:i<=j)(hj:j+1<l.length)(h1:Cv (l.getD i (0,0)) (l.getD (i+1) (0,0)) y X)(h2:Cv (l.getD j (0,0)) (l.getD (j+1) (0,0)) y Z):X=Z:=by
 rcases adj i j with hlt|hge
 ·have a1:=BY h (show i+1<=j by omega) (by omega)
  have a2:(l.getD j (0,0)).2<=(l.getD (i+1) (0,0)).2:=by
   have k1:=h1.hi
   have k2:=h2.lo
   have:((l.getD j (0,0)).2:Rat)<=(l.getD (i+1) (0,0)).2:=by grind
   exact_mod_cast this
  have hji:j=i+1:=by
   rcases adj (i+1) j with h3|h3
   ·have:=E8 h h3 (by omega);omega
   ·omega
  subst hji
  have u1:=h i (by omega)
  have u2:=h (i+1) (by omega)
  have hy:y=(l.getD (i+1) (0,0)).2:=by
   have k1:=h1.hi
   have k2:=h2.lo
   grind
  rw[hy]at h1 h2
  have c1:=dr u1 (c:=l.getD (i+1) (0,0)) (by rw[fV];exact eV)
  have c2:=dr u2 (c:=l.getD (i+1) (0,0)) eV
  exact(zZ u1 h1 c1).trans (zZ u2 c2 h2)
 ·obtain rfl:i=j:=by omega
  exact zZ (h i hj) h1 h2
theorem jw{l:List Pt}(h:S6 l){y X Z:Rat}(h1:rC l y X)(h2:rC l y Z):X=Z:=by
 obtain⟨i,hi,h1⟩:=h1
 obtain⟨j,hj,h2⟩:=h2
 rcases Nat.le_total i j with hij|hij
 ·exact Dv h hij hj h1 h2
 ·exact(Dv h hij hi h2 h1).symm
theorem s7{l:List Pt}{y:Int}(h0:(l.getD 0 (0,0)).2<=y):∀ {n:Nat},n<l.length->y<(l.getD n (0,0)).2->∃j,j+1<l.length/\(l.getD j (0,0)).2<=y/\y+1<=(l.getD (j+1) (0,0)).2
 |0,_,h=>absurd h0 (by omega)
 |n+1,hn,h=>by
  rcases Int.lt_or_le y (l.getD n (0,0)).2 with h1|h1
  ·exact s7 h0 (by omega) h1
  ·exact⟨n,hn,h1,by omega⟩
theorem VR{l:List Pt}(h:S6 l){y:Int}(hl:2<=l.length)(h0:(l.getD 0 (0,0)).2<=y)(h1:y<=(l.getD (l.length - 1) (0,0)).2):∃X,rC l y X:=by
 rcases Int.lt_or_le y (l.getD (l.length - 1) (0,0)).2 with h2|h2
 ·obtain⟨j,j1,j2,j3⟩:=s7 h0 (by omega) h2
  obtain⟨X,hX⟩:=zh (p:=l.getD j (0,0)) (q:=l.getD (j+1) (0,0)) (y:=(y:Rat)) (by omega) (by exact_mod_cast j2) (by exact_mod_cast (show y<=_ by omega))
  exact⟨X,j,j1,hX⟩
 ·obtain⟨m,hm⟩:∃m,l.length=m+2:=⟨l.length - 2,by omega⟩
  have hy:y=(l.getD (m+1) (0,0)).2:=by rw[hm]at h1 h2;simp only[Nat.add_sub_cancel,show m+2 - 1=m+1 by omega]at h1 h2;omega
  rw[hy]
  exact⟨_,m,by omega,dr (h m (by omega)) (by rw[fV];exact eV)⟩
theorem QI{p q:Pt}{y t X1 X2:Rat}(hu:p.2<q.2)(h1:Cv p q y X1)(h2:Cv p q (y+1) X2)(t1:y<=t)(t2:t<=y+1):Cv p q t (X1+(X2 - X1)*(t - y)):=by
 have e1:=h1.eq
 have e2:=h2.eq
 have l1:=h1.lo
 have l2:=h2.hi
 refine⟨by grind,by grind, ?_⟩
 have:(X2 - X1)*((q.2:Rat) - p.2)=q.1 - p.1:=by grind
 grind
theorem Hg{l m:List Pt}(hl:S6 l)(hm:S6 m)(ll:2<=l.length)(lm:2<=m.length){y:Int}{X1 X2 Z1 Z2:Rat}
 (a1:rC l y X1) (b1:rC m y Z1) (a2:rC l (y+1:Int) X2) (b2:rC m (y+1:Int) Z2) (h1:X1<Z1) (h2:Z2<X2):∃t W:Rat,(y:Rat)<t/\t<(y+1:Int)/\rC l t W/\rC m t W:=by
 have lg:∀ {l:List Pt} {y:Int} {X:Rat},S6 l->rC l y X->(l.getD 0 (0,0)).2<=y/\y<=(l.getD (l.length - 1) (0,0)).2:=fun {l y X} hl h=>by
  obtain⟨j,hj,h⟩:=h
  have k1:=h.lo
  have k2:=h.hi
  have k3:(l.getD j (0,0)).2<=y:=by exact_mod_cast k1
  have k4:y<=(l.getD (j+1) (0,0)).2:=by exact_mod_cast k2
  have k5:=BY hl (afB j) (by omega)
  have k6:=BY hl (show j+1<=l.length - 1 by omega) (by omega)
  omega
 obtain⟨j,j1,j2,j3⟩:=s7 (lg hl a1).1 (n:=l.length - 1) (by omega) (by have:=(lg hl a2).2;omega)
 obtain⟨i,i1,i2,i3⟩:=s7 (lg hm b1).1 (n:=m.length - 1) (by omega) (by have:=(lg hm b2).2;omega)
 have uj:=hl j j1
 have ui:=hm i i1
 have cast:((y+1:Int):Rat)=(y:Rat)+1:=by push_cast;rfl
 obtain⟨x1,c1⟩:=zh (y:=(y:Rat)) uj (by exact_mod_cast j2) (by exact_mod_cast (show y<=_ by omega))
 obtain⟨x2,c2⟩:=zh (y:=((y+1:Int):Rat)) uj (by exact_mod_cast (show _<=y+1 by omega)) (by exact_mod_cast j3)
 obtain⟨z1,d1⟩:=zh (y:=(y:Rat)) ui (by exact_mod_cast i2) (by exact_mod_cast (show y<=_ by omega))
 obtain⟨z2,d2⟩:=zh (y:=((y+1:Int):Rat)) ui (by exact_mod_cast (show _<=y+1 by omega)) (by exact_mod_cast i3)
 obtain rfl:=jw hl a1 ⟨j,j1,c1⟩
 obtain rfl:=jw hl a2 ⟨j,j1,c2⟩
 obtain rfl:=jw hm b1 ⟨i,i1,d1⟩
 obtain rfl:=jw hm b2 ⟨i,i1,d2⟩
 rw[cast]at c2 d2
 obtain⟨u,hu⟩:∃u:Rat,u=(Z1 - X1) / ((Z1 - X1)+(X2 - Z2)):=⟨_,rfl⟩
 have hD:0<(Z1 - X1)+(X2 - Z2):=by grind
 have WS:u*((Z1 - X1)+(X2 - Z2))=Z1 - X1:=by grind
 have u0:0<u:=by
  refine Rat.not_le.1 fun hn=> ?_
  have:=gn hn (agi hD)
  grind
 have u1:u<1:=by
  refine Rat.not_le.1 fun hn=> ?_
  have:=aeA (show 0<=u - 1 by grind) (agi hD)
  grind
 refine⟨y+u,X1+(X2 - X1)*u,by grind,by rw[cast];grind,⟨j,j1, ?_⟩,⟨i,i1, ?_⟩⟩
 ·have:=QI uj c1 c2 (t:=y+u) (by grind) (by grind)
  rwa [show(y:Rat)+u - y=u by grind]at this
 ·have:=QI ui d1 d2 (t:=y+u) (by grind) (by grind)
  rw[show(y:Rat)+u - y=u by grind,show Z1+(Z2 - Z1)*u=X1+(X2 - X1)*u by grind]at this
  exact this
end Go.Ab
end
