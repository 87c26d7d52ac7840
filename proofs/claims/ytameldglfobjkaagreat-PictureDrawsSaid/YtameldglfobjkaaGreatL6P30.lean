/- A part of the proof. -/
import Derived.Test.YtameldglfobjkaaGreatL6P29
set_option linter.unusedSimpArgs false
set_option linter.unusedVariables false
set_option linter.unusedSectionVars false
section
set_option maxRecDepth 10000
namespace Go.Ab
open Go.Proofs
theorem gN:∀ {l:List Int} {i:Nat},l.Nodup->i<l.length->l.idxOf (l.getD i 0)=i
 | [],i,_,h=>by simp at h
 |a::l,0,_,_=>by simp
 |a::l,i+1,hn,h=>by
  obtain⟨h1,h2⟩:=ad5.1 hn
  have hi:i<l.length:=by simpa using h
  have e:(a::l).getD (i+1) 0=l.getD i 0:=rfl
  have hm:l.getD i 0∈l:=az hi
  have hne:(a==l.getD i 0)=false:=by
   rw[beq_eq_false_iff_ne];intro e2;exact h1 (e2 ▸ hm)
  rw[e,List.idxOf_cons,hne,cond_false,gN h2 hi]
theorem ve{l:List Int}{u:Int}(h:u∈l):l.idxOf u<l.length/\l.getD (l.idxOf u) 0=u:=by
 have h1:=agv.2 h
 refine⟨h1, ?_⟩
 rw[aas,acF h1,Option.getD_some]
 exact List.getElem_idxOf h1
theorem Fi{A B:List Int}{u:Int} :(A++B).idxOf u=if u∈A then A.idxOf u else A.length+B.idxOf u:=by
 rw[List.idxOf_append];split<;>omega
section
variable {g:Gr} {p:Pl}
def iq(g:Gr)(p:Pl)(c:Nat):List Int:=(ef (fK g p c).row).map (·.1)
theorem kT(h:aG g p){c:Nat}(hc:c<=g.n.toNat):(iq g p c).Nodup:=by
 obtain⟨hi,_,_⟩:=bz (ah h.1) h.2.1 hc fun j hj=>h.2.2 j (by omega)
 rw[iq,List.Nodup,aeI]
 exact(hi.once.filter _).imp_of_mem fun {s t} hs ht h=>h (eX.1 hs).2
theorem lI(h:aG g p){c:Nat}(hc:c<g.n.toNat):∃A X C,iq g p c=A++X++C/\(∀e∈A,bA g e≠aq p c)/\(∀e∈X,bA g e=aq p c)/\(∀e∈C,bA g e≠aq p c)/\iq g p (c+1)=A++bE p (aq p c)++C:=by
 have hm:=ah h.1
 obtain⟨hi,dI,_⟩:=bz hm h.2.1 (k:=c) (by omega) fun j hj=>h.2.2 j (by omega)
 obtain⟨x0,x1⟩:=aD h.2.1 hc
 have hR:au g (fK g p c) (aq p c)=true:=h.2.2 c hc
 have hpx:=aW h.2.1 x0 x1
 have hab:=jT (g:=g) (x:=aq p c) (o:=bE p (aq p c)) fun i hi=>(aX.1 (hpx.mem_iff.1 hi)).1.1
 have hmap:(ef (aQ g (aq p c) (bE p (aq p c)))).map (·.1)=bE p (aq p c):=by
  rw[hab,aeE]
  have e7:((fun t:It=>t.1) ∘ gM g (aq p c))=id:=rfl
  rw[e7,agE]
 have hd:∀t∈ef (fK g p c).row,bA g t.1=t.2.2:=fun t ht=>(nk (p:=p) hm hi dI ht).2.2
 have Hp:fK g p (c+1)=(aC g (fK g p c) (aq p c) (bE p (aq p c))).2:=rfl
 by_cases hn:aV g (aq p c)=0
 ·have hno:=dO hm hi.tofL x0 hn
  have hrow:(fK g p c).row= []:=by
   rcases hi.src with h|⟨s,hs,hs0⟩
   ·exact h.2
   ·have:=gB h.1 (hi.lg s hs) ⟨x0,x1⟩ hs0 hn
    exact absurd (by rw[<- dI, <- this];exact hs) (yC h.2.1 hc)
  refine⟨[], [], [],by simp[iq,hrow,ef],by simp,by simp,by simp, ?_⟩
  rw[iq,Hp,cH _ hno,hrow]
  simpa using hmap
 ·obtain⟨a,X,b,e,ha,hb,hX,_,hs⟩:=G9 hm hi.tofL hR hn
  refine⟨a.map (·.1),X.map (·.1),b.map (·.1),by rw[iq,e,ads,ads], ?_, ?_, ?_, ?_⟩
  ·intro q hq
   obtain⟨t,ht,rfl⟩:=ada.1 hq
   rw[hd t (by rw[e];simp[ht])];exact ha t ht
  ·intro q hq
   obtain⟨t,ht,rfl⟩:=ada.1 hq
   rw[hd t (by rw[e];simp[ht])];exact hX t ht
  ·intro q hq
   obtain⟨t,ht,rfl⟩:=ada.1 hq
   rw[hd t (by rw[e];simp[ht])];exact hb t ht
  ·rw[iq,Hp,hs,ads,ads,hmap]
theorem HD(h:aG g p):∀ {c:Nat},c<=g.n.toNat->∀e,nL g p c e->e∈iq g p c
 |0,_,e,he=>by have:=he.low;simp at this
 |c+1,hc,e,he=>by
  obtain⟨A,X,C,e1,hA,hX,hC,e2⟩:=lI h (c:=c) (by omega)
  have hnext:=jU h.2.1 (k:=c) (by omega)
  have hl:=he.low
  have ht:=he.top
  rw[hnext,ac8,adu]at hl ht
  rw[e2]
  rcases hl with hl|hl
  ·have:=HD h (c:=c) (by omega) e ⟨he.e0,he.e1,hl,fun h=>ht (.inl h)⟩
   rw[e1,ac8,ac8]at this
   rcases this with (h1|h1)|h1
   ·simp[h1]
   ·exact absurd (hX e h1) fun h=>ht (.inr h)
   ·simp[h1]
  ·obtain⟨x0,x1⟩:=aD h.2.1 (k:=c) (by omega)
   have:e∈bE p (aq p c):=(aW h.2.1 x0 x1).mem_iff.2 (aX.2 ⟨⟨he.e0,he.e1⟩,hl⟩)
   simp[this]
end
def qo(g:Gr)(bs:List Int)(i:Int):Int:=g.n+(bs.idxOf i:Nat)
def mP(g:Gr)(bs:List Int):List Edge:=
 ((List.range g.es.length).map fun i:Nat=>(tl g i,if(i:Int)∈bs then qo g bs i else hd g i))++(List.range bs.length).map fun k:Nat=>(g.n+(k:Int),bA g (bs.getD k 0))
def aO(g:Gr)(bs:List Int):Gr:=⟨g.n+bs.length,mP g bs⟩
structure Cf (g:Gr) (bs:List Int):Prop where
 nd:bs.Nodup
 lg:∀i∈bs,0<=i/\i<g.es.length
section
variable {g:Gr} {bs:List Int}
theorem dV:(aO g bs).es.length=g.es.length+bs.length:=by simp[aO,mP]
theorem de{e:Int}(h0:0<=e)(h1:e<g.es.length):bt (aO g bs) e=bt g e/\bA (aO g bs) e=if e∈bs then qo g bs e else bA g e:=by
 have hl:e.toNat<g.es.length:=by omega
 have:(aO g bs).es.getD e.toNat (0,0)=(tl g e.toNat,if((e.toNat:Nat):Int)∈bs then qo g bs ((e.toNat:Nat):Int) else hd g e.toNat):=by
  simp only[aO,mP]
  rw[aas,adx (by simpa using hl),adm,adp hl]
  rfl
 rw[show((e.toNat:Nat):Int)=e by omega]at this
 exact⟨by unfold bt;rw[this];rfl,by unfold bA;rw[this];rfl⟩
theorem gG{k:Nat}(h:k<bs.length):bt (aO g bs) ((g.es.length+k:Nat):Int)=g.n+(k:Int)/\bA (aO g bs) ((g.es.length+k:Nat):Int)=bA g (bs.getD k 0):=by
 have:(aO g bs).es.getD (g.es.length+k) (0,0)=(g.n+(k:Int),bA g (bs.getD k 0)):=by
  simp only[aO,mP]
  rw[aas,adw (by simp),adn,ae2,af2,adm,adp h]
  rfl
 exact⟨by unfold bt;rw[Int.toNat_natCast,this],by unfold bA;rw[Int.toNat_natCast,this];rfl⟩
def rO(g:Gr)(bs:List Int)(e:Int):Int:=if e<g.es.length then e else bs.getD (e - g.es.length).toNat 0
def zm(g:Gr)(bs:List Int)(u:Int):Int:=if u<g.n then u else bt g (bs.getD (u - g.n).toNat 0)
theorem c7(hb:Cf g bs){i:Int}(hi:i∈bs):g.n<=qo g bs i/\qo g bs i<g.n+bs.length/\zm g bs (qo g bs i)=bt g i/\bs.getD (qo g bs i - g.n).toNat 0=i:=by
 obtain⟨h1,h2⟩:=ve hi
 have e:(qo g bs i - g.n).toNat=bs.idxOf i:=by unfold qo;omega
 refine⟨by unfold qo;omega,by unfold qo;omega, ?_,by rw[e,h2]⟩
 unfold zm
 rw[ac7 (by unfold qo;omega),e,h2]
end
structure HE (g:Gr) (p:Pl) (bs:List Int) (q:Pl):Prop where
 len:q.outs.length=(g.n+bs.length).toNat
 Q5:∀x:Nat,x<g.n.toNat->q.outs.getD x []=p.outs.getD x []
 Q6:∀k:Nat,k<bs.length->q.outs.getD (g.n.toNat+k) []= [((g.es.length+k:Nat):Int)]
 perm:q.ord.Perm (dD (g.n+bs.length).toNat)
 sort:q.ord.Pairwise fun u v=>p.ord.idxOf (zm g bs u)<p.ord.idxOf (zm g bs v)\/zm g bs u=zm g bs v/\u<v
theorem zF{A B:List Int}{u:Int}(h:u∈A):(A++B).idxOf u=A.idxOf u/\A.idxOf u<A.length:=⟨by rw[Fi,ac9 h],agv.2 h⟩
theorem kU{A B:List Int}{u:Int}(hn:(A++B).Nodup)(h:u∈B):(A++B).idxOf u=A.length+B.idxOf u/\B.idxOf u<B.length:=
 ⟨by rw[Fi,ac7 fun ha=>(adt.1 hn).2.2 u ha u h rfl],agv.2 h⟩
theorem Cg{g:Gr}{p:Pl}(h:aG g p){e:Int}(h0:0<=e)(h1:e<g.es.length):p.ord.idxOf (bt g e)<p.ord.idxOf (bA g e):=by
 have hm:=ah h.1
 have bR:=cF h.2.1
 have hl:=aI h.2.1
 obtain⟨k,hk,ek⟩:=cq h.2.1 (aU hm (i:=e.toNat) (by omega)).1 (aU hm (i:=e.toNat) (by omega)).2
 obtain⟨hi,dI,_⟩:=bz hm h.2.1 (k:=k) (by omega) fun j hj=>h.2.2 j (by omega)
 obtain⟨t,ht,e1,e2,_⟩:=yf hm hi (h.2.2 k hk) (i:=e.toNat) (by omega) ek.symm
 have hin:=hi.tail t ht (by omega)
 rw[dI,e2]at hin
 obtain⟨j,j1,j2,j3⟩:=lG hin
 have a1:p.ord.idxOf (tl g e.toNat)=j:=by rw[<- j3];exact gN bR j2
 have a2:p.ord.idxOf (hd g e.toNat)=k:=by rw[<- ek];exact gN bR (by omega)
 show p.ord.idxOf (tl g e.toNat)<p.ord.idxOf (hd g e.toNat)
 omega
def WV(g:Gr)(p:Pl)(bs:List Int)(u v:Int):Prop:=p.ord.idxOf (zm g bs u)<p.ord.idxOf (zm g bs v)\/zm g bs u=zm g bs v/\u<v
def gH(g:Gr)(q:Pl)(k:Nat):Nat:=((q.ord.take k).filter fun u=>decide (u<g.n)).length
section
variable {g:Gr} {p:Pl} {bs:List Int} {q:Pl} (h:aG g p) (hb:Cf g bs) (hq:HE g p bs q)
include h hb hq
theorem Q7:(aO g bs).n.toNat=g.n.toNat+bs.length:=by
 have hn:=aB (ah h.1)
 show(g.n+(bs.length:Int)).toNat=_
 omega
theorem dA{e:Int}(h0:0<=e)(h1:e<(aO g bs).es.length):(e<g.es.length/\rO g bs e=e)\/∃k:Nat,k<bs.length/\e=((g.es.length+k:Nat):Int)/\rO g bs e=bs.getD k 0/\bs.getD k 0∈bs/\bt (aO g bs) e=qo g bs (bs.getD k 0):=by
 rw[dV]at h1
 by_cases hlt:e<g.es.length
 ·exact .inl ⟨hlt,ac9 hlt⟩
 ·refine .inr ⟨(e - g.es.length).toNat,by omega,by omega,by unfold rO;rw[ac7 hlt],az (by omega), ?_⟩
  have hk:(e - g.es.length).toNat<bs.length:=by omega
  have:=(gG (g:=g) hk).1
  rw[show((g.es.length+(e - g.es.length).toNat:Nat):Int)=e by omega]at this
  rw[this]
  unfold qo
  rw[gN hb.nd hk]
theorem kX{u:Int}(hu:u<g.n):zm g bs u=u:=ac9 hu
theorem mH:bq (aO g bs) q:=by
 have hm:=ah h.1
 have hn:=aB hm
 have hN:=Q7 h hb hq
 refine⟨by rw[hq.len];rfl,hq.perm,fun x hx=> ?_⟩
 rw[hN]at hx
 by_cases Gg:x<g.n.toNat
 ·rw[hq.Q5 x Gg]
  have hp:=h.2.1.2.2 x Gg
  refine(aeb (hp.nodup_iff.2 b7) b7).2 fun e=> ?_
  rw[hp.mem_iff]
  show e∈aJ (·.1) g.es g.es.length (x:Int)↔e∈aJ (·.1) (aO g bs).es (aO g bs).es.length (x:Int)
  rw[aX,aX]
  constructor
  ·rintro⟨⟨h0,h1⟩,h2⟩
   exact⟨⟨h0,by rw[dV];omega⟩,(de h0 h1).1.trans h2⟩
  ·rintro⟨⟨h0,h1⟩,h2⟩
   rcases dA h hb hq h0 h1 with ⟨h3,_⟩|⟨k,h3,_,_,h4,h5⟩
   ·exact⟨⟨h0,h3⟩,(de h0 h3).1.symm.trans h2⟩
   ·have:=(c7 hb h4).1
    have h2:bt (aO g bs) e=x:=h2
    omega
 ·obtain⟨k,rfl⟩:∃k,x=g.n.toNat+k:=⟨x - g.n.toNat,by omega⟩
  have hk:k<bs.length:=by omega
  rw[hq.Q6 k hk]
  refine(aeb (by simp) b7).2 fun e=> ?_
  rw[adu]
  show _↔e∈aJ (·.1) (aO g bs).es (aO g bs).es.length ((g.n.toNat+k:Nat):Int)
  rw[aX]
  have hnew:=gG (g:=g) hk
  constructor
  ·rintro rfl
   exact⟨⟨by omega,by rw[dV];omega⟩,by have:bt (aO g bs) ((g.es.length+k:Nat):Int)=((g.n.toNat+k:Nat):Int):=by {rw[hnew.1];omega};exact this⟩
  ·rintro⟨⟨h0,h1⟩,h2⟩
   have h2:bt (aO g bs) e=((g.n.toNat+k:Nat):Int):=h2
   rcases dA h hb hq h0 h1 with ⟨h3,_⟩|⟨j,h3,h6,_,h4,h5⟩
   ·have:=(de (bs:=bs) h0 h3).1
    have:=aT hm (i:=e.toNat) (by omega)
    have e3:bt g e=tl g e.toNat:=rfl
    omega
   ·unfold qo at h5
    rw[gN hb.nd h3]at h5
    have:j=k:=by omega
    rw[h6,this]
theorem Us{e:Int}(h0:0<=e)(h1:e<(aO g bs).es.length):WV g p bs (bt (aO g bs) e) (bA (aO g bs) e):=by
 have hm:=ah h.1
 have tr:=fun (i:Int) (a:0<=i) (b:i<g.es.length)=>show 0<=bt g i/\bt g i<g.n from aT hm (i:=i.toNat) (by omega)
 have hr:=fun (i:Int) (a:0<=i) (b:i<g.es.length)=>show 0<=bA g i/\bA g i<g.n from aU hm (i:=i.toNat) (by omega)
 rcases dA h hb hq h0 h1 with ⟨h3,_⟩|⟨k,h3,h6,_,h4,h5⟩
 ·obtain⟨r1,r2⟩:=de (g:=g) (bs:=bs) h0 h3
  rw[r1,r2]
  have t0:bt g e<g.n:=(tr e h0 h3).2
  by_cases hin:e∈bs
  ·rw[ac9 hin]
   obtain⟨n1,_,n3,_⟩:=c7 hb hin
   exact .inr ⟨by rw[n3];exact kX h hb hq t0,by omega⟩
  ·rw[ac7 hin]
   left
   rw[kX h hb hq t0,kX h hb hq (hr e h0 h3).2]
   exact Cg h h0 h3
 ·rw[h5]
  obtain⟨b0,b1⟩:=hb.lg _ h4
  obtain⟨n1,_,n3,_⟩:=c7 hb h4
  have:=(gG (g:=g) h3).2
  rw[<- h6]at this
  rw[this]
  left
  rw[n3,kX h hb hq (hr _ b0 b1).2]
  exact Cg h b0 b1
theorem Wa{j k:Nat}(hj:j<k)(hk:k<(aO g bs).n.toNat):WV g p bs (aq q j) (aq q k):=by
 have hl:=aI (mH h hb hq)
 have:=aeh.1 hq.sort j k (by omega) (by omega) hj
 rw[aq,aq,aas,aas,acF (by omega),acF (by omega)]
 exact this
theorem xD{u:Int}(h0:0<=u)(h1:u<(aO g bs).n){k:Nat}(hk:k<(aO g bs).n.toNat)(hR:WV g p bs u (aq q k)):u∈q.ord.take k:=by
 obtain⟨j,hj,rfl⟩:=cq (mH h hb hq) h0 h1
 refine yA (adl fun hn=> ?_) (by rw[aI (mH h hb hq)];exact hj)
 by_cases e:j=k
 ·subst e
  unfold WV at hR;omega
 ·have h8:=Wa h hb hq (j:=k) (k:=j) (by omega) hj
  unfold WV at hR h8
  rcases hR with h9|⟨h9,XZ⟩
  ·rcases h8 with h11|⟨h11,_⟩
   ·omega
   ·rw[h11]at h9;omega
  ·rw[h9]at h8;omega
theorem DL{u v:Int}(h0:0<=u)(h1:u<(aO g bs).n){k:Nat}(hk:k<=(aO g bs).n.toNat)(hv:v∈q.ord.take k)(hR:WV g p bs u v):u∈q.ord.take k:=by
 obtain⟨j,j1,j2,rfl⟩:=lG hv
 obtain⟨i,i1,i2,i3⟩:=lG (xD h hb hq h0 h1 (k:=j) (by omega) hR)
 rw[<- i3]
 exact yA (by omega) i2
theorem JV:(q.ord.filter fun u=>decide (u<g.n))=p.ord:=by
 have hn:=aB (ah h.1)
 have hN:=Q7 h hb hq
 have bR:=cF h.2.1
 have hl:=aI h.2.1
 refine MY (R:=fun u v=>p.ord.idxOf u<p.ord.idxOf v) ?_ (fun a b h1 h2=>by omega) ?_ ?_
 ·refine(aeb ((cF (mH h hb hq)).filter _) bR).2 fun u=> ?_
  rw[adI,hq.perm.mem_iff,h.2.1.2.1.mem_iff,cE,cE,adb]
  have e:(g.n+(bs.length:Int)).toNat=g.n.toNat+bs.length:=hN
  omega
 ·refine(hq.sort.filter _).imp_of_mem fun {u v} hu hv hR=> ?_
  have hu:=aek (adI.1 hu).2
  have hv:=aek (adI.1 hv).2
  rw[kX h hb hq hu,kX h hb hq hv]at hR
  omega
 ·rw[aeh]
  intro i j hi hj hij
  have a1:=gN bR hi
  have a2:=gN bR hj
  rw[aas,acF hi,Option.getD_some]at a1
  rw[aas,acF hj,Option.getD_some]at a2
  omega
theorem Af(k:Nat):((q.ord.take k).filter fun u=>decide (u<g.n))=p.ord.take (gH g q k):=by
 have hpre:((q.ord.take k).filter fun u=>decide (u<g.n))<+:(q.ord.filter fun u=>decide (u<g.n)):=(List.take_prefix k q.ord).filter _
 rw[JV h hb hq]at hpre
 exact List.prefix_iff_eq_take.1 hpre
theorem nv{u:Int}(hu:u<g.n)(k:Nat):u∈q.ord.take k↔u∈p.ord.take (gH g q k):=by
 rw[<- Af h hb hq k,adI]
 simp[hu]
theorem LF(k:Nat):gH g q k<=g.n.toNat:=by
 have h1:((q.ord.take k).filter fun u=>decide (u<g.n)).length=(p.ord.take (gH g q k)).length:=by rw[Af h hb hq k]
 have h2:gH g q k=((q.ord.take k).filter fun u=>decide (u<g.n)).length:=rfl
 have hl:=aI h.2.1
 rw[adG]at h1
 omega
theorem Ch{k:Nat}(hk:k<(aO g bs).n.toNat)(hx:g.n<=aq q k):gH g q (k+1)=gH g q k:=by
 unfold gH
 rw[jU (mH h hb hq) hk,ad8]
 simp[show ¬aq q k<g.n by omega]
theorem oT{k:Nat}(hk:k<(aO g bs).n.toNat)(hx:aq q k<g.n):gH g q (k+1)=gH g q k+1/\gH g q k<g.n.toNat/\aq p (gH g q k)=aq q k:=by
 have e1:gH g q (k+1)=gH g q k+1:=by
  unfold gH
  rw[jU (mH h hb hq) hk,ad8]
  simp[hx]
 have hc:=LF h hb hq (k+1)
 refine⟨e1,by omega, ?_⟩
 have e2:=Af h hb hq (k+1)
 rw[jU (mH h hb hq) hk,ad8,Af h hb hq k,e1,jU h.2.1 (by omega)]at e2
 have:=List.append_cancel_left e2
 simpa[hx]using this.symm
theorem Q8{k:Nat}(hk:k<=(aO g bs).n.toNat){e:Int}(he:nL (aO g bs) q k e):nL g p (gH g q k) (rO g bs e):=by
 have hm:=ah h.1
 have hn:=aB hm
 have tr:=fun (i:Int) (a:0<=i) (b:i<g.es.length)=>show 0<=bt g i/\bt g i<g.n from aT hm (i:=i.toNat) (by omega)
 have hr:=fun (i:Int) (a:0<=i) (b:i<g.es.length)=>show 0<=bA g i/\bA g i<g.n from aU hm (i:=i.toNat) (by omega)
 have hGn:(aO g bs).n=g.n+bs.length:=rfl
 have nE:=he.low
 have CN:=he.top
 rcases dA h hb hq he.e0 he.e1 with ⟨h3,h4⟩|⟨j,h3,h6,h7,h4,h5⟩
 ·obtain⟨r1,r2⟩:=de (g:=g) (bs:=bs) he.e0 h3
  rw[h4]
  rw[r1]at nE
  rw[r2]at CN
  refine⟨he.e0,h3,(nv h hb hq (tr e he.e0 h3).2 k).1 nE,fun hc=> ?_⟩
  have hin:=(nv h hb hq (hr e he.e0 h3).2 k).2 hc
  by_cases j9:e∈bs
  ·rw[ac9 j9]at CN
   obtain⟨n1,n2,n3,_⟩:=c7 hb j9
   refine CN (DL h hb hq (by omega) (by omega) hk hin (.inl ?_))
   rw[n3,kX h hb hq (hr e he.e0 h3).2]
   exact Cg h he.e0 h3
  ·rw[ac7 j9]at CN
   exact CN hin
 ·rw[h7]
  obtain⟨b0,b1⟩:=hb.lg _ h4
  obtain⟨n1,n2,n3,_⟩:=c7 hb h4
  have hd2:=(gG (g:=g) h3).2
  rw[<- h6]at hd2
  rw[hd2]at CN
  rw[h5]at nE
  have QN:=tr _ b0 b1
  refine⟨b0,b1,(nv h hb hq QN.2 k).1 (DL h hb hq QN.1 (by have:=QN.2;omega) hk nE (.inr ⟨?_, ?_⟩)),fun hc=>CN ((nv h hb hq (hr _ b0 b1).2 k).2 hc)⟩
  ·rw[n3];exact kX h hb hq QN.2
  ·have:=QN.2;omega
theorem gI{k:Nat}(hk:k<(aO g bs).n.toNat)(hx:aq q k<g.n){e:Int}(he:nL (aO g bs) q k e):bA g (rO g bs e)=aq q k↔bA (aO g bs) e=aq q k:=by
 have hm:=ah h.1
 have hn:=aB hm
 have hr:=fun (i:Int) (a:0<=i) (b:i<g.es.length)=>show 0<=bA g i/\bA g i<g.n from aU hm (i:=i.toNat) (by omega)
 have hGn:(aO g bs).n=g.n+bs.length:=rfl
 rcases dA h hb hq he.e0 he.e1 with ⟨h3,h4⟩|⟨j,h3,h6,h7,h4,h5⟩
 ·obtain⟨r1,r2⟩:=de (g:=g) (bs:=bs) he.e0 h3
  rw[h4,r2]
  by_cases j9:e∈bs
  ·rw[ac9 j9]
   obtain⟨n1,n2,n3,_⟩:=c7 hb j9
   constructor
   ·intro e2
    have CN:=he.top
    rw[r2,ac9 j9]at CN
    refine absurd (xD h hb hq (by omega) (by omega) hk (.inl ?_)) CN
    rw[n3,kX h hb hq hx, <- e2]
    exact Cg h he.e0 h3
   ·intro e2;omega
  ·rw[ac7 j9]
 ·have hd2:=(gG (g:=g) h3).2
  rw[<- h6]at hd2
  rw[h7,hd2]
theorem HF:Ho (aO g bs) q fun k a b=>(iq g p (gH g q k)).idxOf (rO g bs a)<(iq g p (gH g q k)).idxOf (rO g bs b):=by
 have hm:=ah h.1
 have hn:=aB hm
 have hGn:(aO g bs).n=g.n+bs.length:=rfl
 have zG:=mH h hb hq
 have mem:=fun (k:Nat) (hk:k<=(aO g bs).n.toNat) (e:Int) (he:nL (aO g bs) q k e)=>HD h (LF h hb hq k) _ (Q8 h hb hq hk he)
 have only:=fun (k:Nat) (hk:k<(aO g bs).n.toNat) (hx:g.n<=aq q k) (e:Int) (he:nL (aO g bs) q k e) (hd:bA (aO g bs) e=aq q k)=>show e∈bs/\qo g bs e=aq q k/\rO g bs e=e by
  rcases dA h hb hq he.e0 he.e1 with ⟨h3,h4⟩|⟨j,h3,h6,h7,h4,h5⟩
  ·have r2:=(de (g:=g) (bs:=bs) he.e0 h3).2
   rw[hd]at r2
   by_cases j9:e∈bs
   ·rw[ac9 j9]at r2
    exact⟨j9,r2.symm,h4⟩
   ·rw[ac7 j9]at r2
    have h8:bA g e<g.n:=(aU hm (i:=e.toNat) (by have:=he.e0;omega)).2
    omega
  ·have hd2:=(gG (g:=g) h3).2
   rw[<- h6,hd]at hd2
   obtain⟨b0,b1⟩:=hb.lg _ h4
   have h8:bA g (bs.getD j 0)<g.n:=(aU hm (i:=(bs.getD j 0).toNat) (by omega)).2
   omega
 have same:=fun (k:Nat) (hk:k<(aO g bs).n.toNat) (hx:g.n<=aq q k) (e e':Int) (he:nL (aO g bs) q k e) (he':nL (aO g bs) q k e') (hd:bA (aO g bs) e=aq q k) (hd':bA (aO g bs) e'=aq q k)=>show e=e' by
  obtain⟨a1,a2,_⟩:=only k hk hx e he hd
  obtain⟨b1,b2,_⟩:=only k hk hx e' he' hd'
  have a3:=(c7 hb a1).2.2.2
  have b3:=(c7 hb b1).2.2.2
  rw[a2]at a3
  rw[b2]at b3
  rw[<- a3,b3]
 have Wb:=fun (k:Nat) (hk:k<(aO g bs).n.toNat) (hx:aq q k<g.n)=>show bE q (aq q k)=bE p (aq q k) from hq.Q5 _ (by have:=(aD zG hk).1;omega)
 have ZD:=fun (v e:Int) (h0:0<=v) (h1:v<g.n) (he:e∈bE p v)=>show rO g bs e=e by
  have:=(aX.1 ((aW h.2.1 h0 h1).mem_iff.1 he)).1.2
  exact ac9 this
 have mQ:=fun (k:Nat) (hk:k<(aO g bs).n.toNat) (hx:g.n<=aq q k) (c:Int) (hc:c∈bE q (aq q k))=>show rO g bs c=bs.getD (aq q k - g.n).toNat 0 by
  obtain⟨x0,x1⟩:=aD zG hk
  have hj:(aq q k - g.n).toNat<bs.length:=by omega
  have:=hq.Q6 _ hj
  have e:bE q (aq q k)= [((g.es.length+(aq q k - g.n).toNat:Nat):Int)]:=by
   rw[<- this];unfold bE;congr 1;omega
  rw[e,adu]at hc
  subst hc
  unfold rO
  rw[ac7 (by omega)]
  congr 1;omega
 refine⟨fun e e0 e1 k hk ek=> ?_,fun k hk a b c ha hb' hc ea ec r1 r2=> ?_,fun k hk a b ha hb' na nb r=> ?_,fun k hk a b c ha hb' na eb hc r=> ?_,fun k hk a b c ha hb' na eb hc r=> ?_,fun k hk=> ?_⟩
 ·have tR:=Us h hb hq e0 e1
  rw[<- ek]at tR
  have BT:0<=bt (aO g bs) e/\bt (aO g bs) e<(aO g bs).n:=by
   rcases dA h hb hq e0 e1 with ⟨h3,h4⟩|⟨j,h3,h6,h7,h4,h5⟩
   ·rw[(de (g:=g) (bs:=bs) e0 h3).1]
    have h8:0<=bt g e/\bt g e<g.n:=aT hm (i:=e.toNat) (by omega)
    omega
   ·obtain⟨n1,n2,_⟩:=c7 hb h4
    omega
  exact xD h hb hq BT.1 BT.2 hk tR
 ·by_cases hx:aq q k<g.n
  ·obtain⟨c1,c2,c3⟩:=oT h hb hq hk hx
   obtain⟨A,X,C,e1,hA,hX,hC,_⟩:=lI h c2
   have bR:=kT h (c:=gH g q k) (by omega)
   have ma:=mem k (by omega) a ha
   have mb:=mem k (by omega) b hb'
   have mc:=mem k (by omega) c hc
   have da:=(gI h hb hq hk hx ha).2 ea
   have dc:=(gI h hb hq hk hx hc).2 ec
   refine(gI h hb hq hk hx hb').1 ?_
   rw[c3]at hA hX hC
   rw[e1]at ma mb mc r1 r2 bR
   have ha2:rO g bs a∈X:=by
    rcases ac8.1 ma with h1|h1
    ·rcases ac8.1 h1 with h1|h1
     ·exact absurd da (hA _ h1)
     ·exact h1
    ·exact absurd da (hC _ h1)
   have Pq:rO g bs c∈X:=by
    rcases ac8.1 mc with h1|h1
    ·rcases ac8.1 h1 with h1|h1
     ·exact absurd dc (hA _ h1)
     ·exact h1
    ·exact absurd dc (hC _ h1)
   rw[adN]at r1 r2 mb bR
   have ndX:(X++C).Nodup:=(adt.1 bR).2.1
   obtain⟨i1,_⟩:=kU (A:=A) (B:=X++C) bR (adR C ha2)
   obtain⟨i2,_⟩:=kU (A:=A) (B:=X++C) bR (adR C Pq)
   obtain⟨i3,i4⟩:=zF (A:=X) (B:=C) Pq
   rcases ac8.1 mb with h1|h1
   ·obtain⟨i5,i6⟩:=zF (A:=A) (B:=X++C) h1
    omega
   ·rcases ac8.1 h1 with h2|h2
    ·exact hX _ h2
    ·obtain⟨i5,_⟩:=kU (A:=A) (B:=X++C) bR h1
     obtain⟨i7,_⟩:=kU (A:=X) (B:=C) ndX h2
     omega
  ·have:=same k hk (by omega) a c ha hc ea ec
   subst this
   omega
 ·by_cases hx:aq q k<g.n
  ·obtain⟨c1,c2,c3⟩:=oT h hb hq hk hx
   obtain⟨A,X,C,e1,hA,hX,hC,e2⟩:=lI h c2
   have bR:=kT h (c:=gH g q k) (by omega)
   have ji:=kT h (c:=gH g q k+1) (by omega)
   have ma:=mem k (by omega) a ha
   have mb:=mem k (by omega) b hb'
   have da:=fun e=>na ((gI h hb hq hk hx ha).1 e)
   have db:=fun e=>nb ((gI h hb hq hk hx hb').1 e)
   rw[c1,e2]
   rw[c3]at hA hX hC
   rw[e2]at ji
   rw[e1]at ma mb r bR
   rw[adN]at r ma mb bR ji ⊢
   have ZE:(X++C).Nodup:=(adt.1 bR).2.1
   have WW:=(adt.1 ji).2.1
   have sp:∀u,u∈A++(X++C)->bA g u≠aq q k->u∈A\/u∈C:=fun u hu hne=>by
    rcases ac8.1 hu with h1|h1
    ·exact .inl h1
    ·rcases ac8.1 h1 with h2|h2
     ·exact absurd (hX _ h2) hne
     ·exact .inr h2
   rcases sp _ ma da with h1|h1<;>rcases sp _ mb db with h2|h2
   ·rw[(zF h1).1,(zF h2).1]at r ⊢
    exact r
   ·have i1:=zF (B:=bE p (aq p (gH g q k))++C) h1
    have i2:=kU ji (adZ _ h2)
    omega
   ·have i1:=zF (B:=X++C) h2
    have i2:=kU bR (adZ X h1)
    omega
   ·have i1:=kU bR (adZ X h1)
    have i2:=kU bR (adZ X h2)
    have i3:=kU ZE h1
    have i4:=kU ZE h2
    have j1:=kU ji (adZ (bE p (aq p (gH g q k))) h1)
    have j2:=kU ji (adZ (bE p (aq p (gH g q k))) h2)
    have j3:=kU WW h1
    have j4:=kU WW h2
    omega
  ·rw[Ch h hb hq hk (by omega)];exact r
 ·by_cases hx:aq q k<g.n
  ·obtain⟨c1,c2,c3⟩:=oT h hb hq hk hx
   obtain⟨A,X,C,e1,hA,hX,hC,e2⟩:=lI h c2
   have bR:=kT h (c:=gH g q k) (by omega)
   have ji:=kT h (c:=gH g q k+1) (by omega)
   have ma:=mem k (by omega) a ha
   have mb:=mem k (by omega) b hb'
   have da:=fun e=>na ((gI h hb hq hk hx ha).1 e)
   have db:=(gI h hb hq hk hx hb').2 eb
   rw[Wb k hk hx]at hc
   rw[ZD _ c (aD zG hk).1 hx hc]
   rw[c1,e2]
   rw[c3]at hA hX hC ⊢
   rw[e2]at ji
   rw[e1]at ma mb r bR
   rw[adN]at r ma mb bR ji ⊢
   rw[c3]at ji
   have ZE:(X++C).Nodup:=(adt.1 bR).2.1
   have hb2:rO g bs b∈X:=by
    rcases ac8.1 mb with h1|h1
    ·exact absurd db (hA _ h1)
    ·rcases ac8.1 h1 with h1|h1
     ·exact h1
     ·exact absurd db (hC _ h1)
   have i2:=kU bR (adR C hb2)
   have i3:=zF (B:=C) hb2
   have j2:=kU ji (adR C hc)
   rcases ac8.1 ma with h1|h1
   ·have j1:=zF (B:=bE p (aq q k)++C) h1
    omega
   ·rcases ac8.1 h1 with h2|h2
    ·exact absurd (hX _ h2) da
    ·have i1:=kU bR h1
     have i4:=kU ZE h2
     omega
  ·have hx:g.n<=aq q k:=by omega
   obtain⟨a1,a2,a3⟩:=only k hk hx b hb' eb
   have a4:=(c7 hb a1).2.2.2
   rw[a2]at a4
   rw[Ch h hb hq hk hx,mQ k hk hx c hc,a4, <- a3]
   exact r
 ·by_cases hx:aq q k<g.n
  ·obtain⟨c1,c2,c3⟩:=oT h hb hq hk hx
   obtain⟨A,X,C,e1,hA,hX,hC,e2⟩:=lI h c2
   have bR:=kT h (c:=gH g q k) (by omega)
   have ji:=kT h (c:=gH g q k+1) (by omega)
   have ma:=mem k (by omega) a ha
   have mb:=mem k (by omega) b hb'
   have da:=fun e=>na ((gI h hb hq hk hx ha).1 e)
   have db:=(gI h hb hq hk hx hb').2 eb
   rw[Wb k hk hx]at hc
   rw[ZD _ c (aD zG hk).1 hx hc]
   rw[c1,e2]
   rw[c3]at hA hX hC ⊢
   rw[e2]at ji
   rw[e1]at ma mb r bR
   rw[adN]at r ma mb bR ji ⊢
   rw[c3]at ji
   have WW:=(adt.1 ji).2.1
   have hb2:rO g bs b∈X:=by
    rcases ac8.1 mb with h1|h1
    ·exact absurd db (hA _ h1)
    ·rcases ac8.1 h1 with h1|h1
     ·exact h1
     ·exact absurd db (hC _ h1)
   have i2:=kU bR (adR C hb2)
   have j2:=kU ji (adR C hc)
   have j3:=zF (B:=C) hc
   rcases ac8.1 ma with h1|h1
   ·have i1:=zF (B:=X++C) h1
    omega
   ·rcases ac8.1 h1 with h2|h2
    ·exact absurd (hX _ h2) da
    ·have j1:=kU ji (adZ (bE p (aq q k)) h2)
     have j4:=kU WW h2
     omega
  ·have hx:g.n<=aq q k:=by omega
   obtain⟨a1,a2,a3⟩:=only k hk hx b hb' eb
   have a4:=(c7 hb a1).2.2.2
   rw[a2]at a4
   rw[Ch h hb hq hk hx,mQ k hk hx c hc,a4, <- a3]
   exact r
 ·by_cases hx:aq q k<g.n
  ·obtain⟨c1,c2,c3⟩:=oT h hb hq hk hx
   obtain⟨A,X,C,_,_,_,_,e2⟩:=lI h c2
   have ji:=kT h (c:=gH g q k+1) (by omega)
   rw[Wb k hk hx,c1,e2]
   rw[e2,adN]at ji
   rw[adN]
   rw[c3]at ji ⊢
   have WW:=(adt.1 ji).2.1
   have nd3:=(adt.1 WW).1
   rw[aeh]
   intro i j hi hj hij
   have m1:(bE p (aq q k))[i]∈bE p (aq q k):=ad2 hi
   have m2:(bE p (aq q k))[j]∈bE p (aq q k):=ad2 hj
   rw[ZD _ _ (aD zG hk).1 hx m1,ZD _ _ (aD zG hk).1 hx m2]
   have j1:=kU ji (adR C m1)
   have j2:=kU ji (adR C m2)
   have j3:=zF (B:=C) m1
   have j4:=zF (B:=C) m2
   have a1:=gN nd3 hi
   have a2:=gN nd3 hj
   rw[aas,acF hi,Option.getD_some]at a1
   rw[aas,acF hj,Option.getD_some]at a2
   omega
  ·have hx:g.n<=aq q k:=by omega
   obtain⟨x0,x1⟩:=aD zG hk
   have hj:(aq q k - g.n).toNat<bs.length:=by omega
   have:=hq.Q6 _ hj
   have e:bE q (aq q k)= [((g.es.length+(aq q k - g.n).toNat:Nat):Int)]:=by
    rw[<- this];unfold bE;congr 1;omega
   rw[e]
   exact List.pairwise_singleton ..
theorem Q9(hG:(bX (aO g bs)).1=0):aG (aO g bs) q:=Dz hG (mH h hb hq) (HF h hb hq)
end
theorem Tq{G:Gr}(hm:aM G=true)(φ:Int->Nat)(up:∀i,i<G.es.length->φ (tl G i)<φ (hd G i))(tw:∀i k,i<G.es.length->k<G.es.length->i≠k->G.es.getD i (0,0)≠G.es.getD k (0,0))(s:Int)
 (src:∀y,0<=y->y<G.n->(∀i,i<G.es.length->hd G i≠y)->y=s):(bX G).1=0:=by
 have Qy:KI G=true:=(zT hm).2 ⟨φ,up⟩
 have Qz:¬0<=l7 G:=fun hl=>by
  have h1:=cT (fun e:Edge=>decide (e.1=e.2)) G.es
  have h0:decide (0<=bT (fun e:Edge=>decide (e.1=e.2)) G.es)=true:=ac6 hl
  rw[h0]at h1
  obtain⟨e,he,h2⟩:=adQ.1 h1.symm
  obtain⟨i,hi,rfl⟩:=adr.1 he
  have h3:tl G i=hd G i:=by simpa[tl,hd,aas,acF hi]using h2
  have:=up i hi
  rw[h3]at this
  omega
 have Pr:¬0<=fC G:=fun ht=>by
  obtain⟨i,k,hi,hk,hik,e⟩:=(lF _).1 ht
  exact tw i k hi hk hik e
 have QA:¬1<(bZ (·.2) G).length:=fun hb=>by
  have hs:∀y∈bZ (·.2) G,y=s:=fun y hy=>by
   obtain⟨⟨y0,y1⟩,y2⟩:=sR.1 hy
   refine src y y0 y1 fun i hi e=> ?_
   have:=sO (g:=G) (e:=(i:Int)) (by omega) (by omega)
   rw[Int.toNat_natCast,show(G.es.getD i (0,0)).2=y from e]at this
   omega
  have:=E5 gm hs
  omega
 unfold bX iT
 rw[ac7 (by simp[hm]),ac7 Qz,ac7 Pr,ac7 (by rw[EY hm Qy];simp),ac7 QA]
theorem mI{g:Gr}(h:(bX g).1=0){i k:Nat}(hi:i<g.es.length)(hk:k<g.es.length)(e:g.es.getD i (0,0)=g.es.getD k (0,0)):i=k:=by
 refine adl fun hik=> ?_
 have hgt:¬0<=fC g:=by
  unfold bX iT at h
  intro h2
  split at h
  ·cases h
  split at h
  ·cases h
  cases h
 exact hgt ((lF g).2 ⟨i,k,hi,hk,hik,e⟩)
section
variable {g:Gr} {p:Pl} {bs:List Int} {q:Pl} (h:aG g p) (hb:Cf g bs) (hq:HE g p bs q) (hs1:g.n+bs.length<=64) (hs2:g.es.length+bs.length<=128)
include h hb hq hs1 hs2
theorem Tr:aM (aO g bs)=true:=by
 have hm:=ah h.1
 have hn:=aB hm
 have hGn:(aO g bs).n=g.n+bs.length:=rfl
 simp only[aM,adf,adb,adJ,adU]
 refine⟨⟨⟨by omega,by omega⟩,by rw[dV];omega⟩,fun e he=> ?_⟩
 simp only[uE,AY,adK,adb,not_or]
 obtain⟨i,hi,rfl⟩:=adr.1 he
 have e0:(aO g bs).es.getD i (0,0)=(aO g bs).es[i]:=by rw[aas,acF hi];rfl
 have et:((aO g bs).es[i]).1=bt (aO g bs) (i:Int):=by unfold bt;rw[Int.toNat_natCast,e0]
 have eh:((aO g bs).es[i]).2=bA (aO g bs) (i:Int):=by unfold bA;rw[Int.toNat_natCast,e0]
 rw[et,eh]
 rcases dA h hb hq (e:=(i:Int)) (by omega) (by omega) with ⟨h3,h4⟩|⟨j,h3,h6,h7,h4,h5⟩
 ·obtain⟨r1,r2⟩:=de (g:=g) (bs:=bs) (e:=(i:Int)) (by omega) h3
  have t0:0<=bt g i/\bt g i<g.n:=aT hm (i:=i) (by omega)
  have d0:0<=bA g i/\bA g i<g.n:=aU hm (i:=i) (by omega)
  rw[r1,r2]
  by_cases j9:(i:Int)∈bs
  ·rw[ac9 j9]
   obtain⟨n1,n2,_⟩:=c7 hb j9
   omega
  ·rw[ac7 j9];omega
 ·obtain⟨b0,b1⟩:=hb.lg _ h4
  obtain⟨n1,n2,_⟩:=c7 hb h4
  have d0:0<=bA g (bs.getD j 0)/\bA g (bs.getD j 0)<g.n:=aU hm (i:=(bs.getD j 0).toNat) (by omega)
  have hd2:=(gG (g:=g) h3).2
  rw[<- h6]at hd2
  rw[h5,hd2]
  omega
theorem Wc{i k:Int}(WX:0<=i)(hi1:i<(aO g bs).es.length)(Ay:0<=k)(Ao:k<(aO g bs).es.length)(e1:bt (aO g bs) i=bt (aO g bs) k)(e2:bA (aO g bs) i=bA (aO g bs) k):i=k:=by
 have hm:=ah h.1
 have tr:=fun (i:Int) (a:0<=i) (b:i<g.es.length)=>show 0<=bt g i/\bt g i<g.n from aT hm (i:=i.toNat) (by omega)
 have hr:=fun (i:Int) (a:0<=i) (b:i<g.es.length)=>show 0<=bA g i/\bA g i<g.n from aU hm (i:=i.toNat) (by omega)
 rcases dA h hb hq WX hi1 with ⟨h3,h4⟩|⟨j,h3,h6,h7,h4,h5⟩
 ·obtain⟨r1,r2⟩:=de (g:=g) (bs:=bs) WX h3
  have t0:=tr i WX h3
  rcases dA h hb hq Ay Ao with ⟨g3,g4⟩|⟨j',g3,g6,g7,g4,g5⟩
  ·obtain⟨s1,s2⟩:=de (g:=g) (bs:=bs) Ay g3
   rw[r1,s1]at e1
   rw[r2,s2]at e2
   by_cases WY:i∈bs
   ·by_cases hbk:k∈bs
    ·rw[ac9 WY,ac9 hbk]at e2
     have a1:=(c7 hb WY).2.2.2
     have a2:=(c7 hb hbk).2.2.2
     rw[e2]at a1
     rw[<- a1,a2]
    ·rw[ac9 WY,ac7 hbk]at e2
     have:=(c7 hb WY).1
     have:=hr k Ay g3
     omega
   ·by_cases hbk:k∈bs
    ·rw[ac7 WY,ac9 hbk]at e2
     have:=(c7 hb hbk).1
     have:=hr i WX h3
     omega
    ·rw[ac7 WY,ac7 hbk]at e2
     have:=mI h.1 (i:=i.toNat) (k:=k.toNat) (by omega) (by omega) (afr e1 e2)
     omega
  ·have:=(c7 hb g4).1
   omega
 ·rcases dA h hb hq Ay Ao with ⟨g3,g4⟩|⟨j',g3,g6,g7,g4,g5⟩
  ·have:=(c7 hb h4).1
   have:=(de (g:=g) (bs:=bs) Ay g3).1
   have:=tr k Ay g3
   omega
  ·rw[h5,g5]at e1
   have a1:=gN hb.nd h3
   have a2:=gN hb.nd g3
   unfold qo at e1
   have:j=j':=by omega
   rw[h6,g6,this]
theorem HG:(bX (aO g bs)).1=0:=by
 have hm:=ah h.1
 have hn:=aB hm
 have BT:=Tr h hb hq hs1 hs2
 have hGn:(aO g bs).n=g.n+bs.length:=rfl
 have zG:=mH h hb hq
 have YL:=cF zG
 have L0:=aI zG
 refine Tq BT (fun v=>q.ord.idxOf v) (fun i hi=> ?_) (fun i k hi hk hik e=>hik ?_) (aq p 0) (fun y y0 y1 hy=> ?_)
 ·have hR:=Us h hb hq (e:=(i:Int)) (by omega) (by omega)
  have e1:bt (aO g bs) (i:Int)=tl (aO g bs) i:=rfl
  have e2:bA (aO g bs) (i:Int)=hd (aO g bs) i:=rfl
  rw[e1,e2]at hR
  obtain⟨t0,t1⟩:=aT BT hi
  obtain⟨d0,d1⟩:=aU BT hi
  obtain⟨k,hk,ek⟩:=cq zG d0 d1
  rw[<- ek]at hR
  obtain⟨j,j1,j2,j3⟩:=lG (xD h hb hq t0 t1 hk hR)
  have a1:q.ord.idxOf (tl (aO g bs) i)=j:=by rw[<- j3];exact gN YL j2
  have a2:q.ord.idxOf (hd (aO g bs) i)=k:=by rw[<- ek];exact gN YL (by omega)
  omega
 ·have e1:bt (aO g bs) (i:Int)=bt (aO g bs) (k:Int):=by unfold bt;simp only[Int.toNat_natCast];rw[e]
  have e2:bA (aO g bs) (i:Int)=bA (aO g bs) (k:Int):=by unfold bA;simp only[Int.toNat_natCast];rw[e]
  have:=Wc h hb hq hs1 hs2 (i:=(i:Int)) (k:=(k:Int)) (by omega) (by omega) (by omega) (by omega) e1 e2
  omega
 ·have Vk:y<g.n:=by
   refine adl fun Vk=> ?_
   have hj:(y - g.n).toNat<bs.length:=by omega
   have hin:bs.getD (y - g.n).toNat 0∈bs:=az hj
   obtain⟨b0,b1⟩:=hb.lg _ hin
   have r2:=(de (g:=g) (bs:=bs) b0 b1).2
   rw[ac9 hin]at r2
   unfold qo at r2
   rw[gN hb.nd hj]at r2
   refine hy (bs.getD (y - g.n).toNat 0).toNat (by rw[dV];omega) ?_
   have:hd (aO g bs) (bs.getD (y - g.n).toNat 0).toNat=bA (aO g bs) (bs.getD (y - g.n).toNat 0):=rfl
   rw[this,r2];omega
  have h0:=aD h.2.1 (k:=0) (by omega)
  have hz:aV g y=0:=by
   refine adl fun hnz=> ?_
   obtain⟨e,he⟩:∃e,e∈aJ (·.2) g.es g.es.length y:=by
    cases hc:aJ (·.2) g.es g.es.length y with
    |nil=>exact absurd (by unfold aV;rw[hc];rfl) hnz
    |cons e l=>exact⟨e,by simp⟩
   obtain⟨⟨e0,e1⟩,e2⟩:=aX.1 he
   have e2:bA g e=y:=e2
   have r2:=(de (g:=g) (bs:=bs) e0 e1).2
   by_cases j9:e∈bs
   ·obtain⟨i1,i2⟩:=ve j9
    have hd2:=(gG (g:=g) i1).2
    rw[i2,e2]at hd2
    exact hy (g.es.length+bs.idxOf e) (by rw[dV];omega) hd2
   ·rw[ac7 j9,e2]at r2
    exact hy e.toNat (by rw[dV];omega) r2
  refine gB h.1 ⟨y0,Vk⟩ h0 hz ?_
  refine adl fun hnz=> ?_
  obtain⟨A,X,C,hrw,_,_,hX,_⟩:=bD hm (wR g).tofL (h.2.2 0 (by omega)) hnz
  obtain⟨q,X0,e1,_⟩:=hX.fst
  rw[e1]at hrw
  simp at hrw
theorem LG:aG (aO g bs) q:=Q9 h hb hq (HG h hb hq hs1 hs2)
theorem Wd(hI:q8 g=true):q8 (aO g bs)=true:=by
 have hm:=ah h.1
 have hn:=aB hm
 have hGn:(aO g bs).n=g.n+bs.length:=rfl
 have hN:=Q7 h hb hq
 have zG:=mH h hb hq
 unfold q8 at hI ⊢
 rw[adf,adb,adb]at hI
 rw[ac6 (HG h hb hq hs1 hs2),aeo,adb]
 have key:∀y,y∈bZ (·.1) (aO g bs)↔y∈bZ (·.1) g:=fun y=>by
  rw[jc,jc]
  constructor
  ·rintro⟨⟨y0,y1⟩,y2⟩
   by_cases Vk:y<g.n
   ·refine⟨⟨y0,Vk⟩,ae7.2 fun e he=> ?_⟩
    obtain⟨⟨e0,e1⟩,e2⟩:=aX.1 he
    have:e∈aJ (·.1) (aO g bs).es (aO g bs).es.length y:=aX.2 ⟨⟨e0,by rw[dV];omega⟩,((de (g:=g) (bs:=bs) e0 e1).1.trans e2)⟩
    rw[y2]at this;cases this
   ·exfalso
    have hj:(y - g.n).toNat<bs.length:=by omega
    have WB:=(gG (g:=g) hj).1
    have:((g.es.length+(y - g.n).toNat:Nat):Int)∈aJ (·.1) (aO g bs).es (aO g bs).es.length y:=aX.2 ⟨⟨by omega,by rw[dV];omega⟩,by have:bt (aO g bs) ((g.es.length+(y - g.n).toNat:Nat):Int)=y:=by {rw[WB];omega};exact this⟩
    rw[y2]at this;cases this
  ·rintro⟨⟨y0,y1⟩,y2⟩
   refine⟨⟨y0,by omega⟩,ae7.2 fun e he=> ?_⟩
   obtain⟨⟨e0,e1⟩,e2⟩:=aX.1 he
   have e2:bt (aO g bs) e=y:=e2
   rcases dA h hb hq e0 e1 with ⟨h3,h4⟩|⟨j,h3,h6,h7,h4,h5⟩
   ·have:e∈aJ (·.1) g.es g.es.length y:=aX.2 ⟨⟨e0,h3⟩,((de (g:=g) (bs:=bs) e0 h3).1.symm.trans e2)⟩
    rw[y2]at this;cases this
   ·have:=(c7 hb h4).1
    omega
 have hp:(bZ (·.1) (aO g bs)).Perm (bZ (·.1) g):=(aeb gm gm).2 key
 rw[hp.length_eq]
 exact hI.2
end
theorem Nx{l:List Int}(hn:l.Nodup):l.Pairwise fun a b=>l.idxOf a<l.idxOf b:=by
 rw[aeh]
 intro i j hi hj hij
 have e1:=gN (i:=i) hn hi
 have e2:=gN (i:=j) hn hj
 rw[aas,acF hi,Option.getD_some]at e1
 rw[aas,acF hj,Option.getD_some]at e2
 omega
theorem Ra{g:Gr}{p:Pl}(hr:aG g p){k:Nat}(hk:k<g.n.toNat):∃a c,iq g p k=a++dP g p (aq p k)++c:=by
 have mY:=hr.2.1
 have hm:=ah hr.1
 obtain⟨hi,_,_⟩:=bz hm mY (k:=k) (by omega) fun j hj=>hr.2.2 j (by omega)
 have hR:au g (fK g p k) (aq p k)=true:=hr.2.2 k (by omega)
 have pE:=aD mY (k:=k) (by omega)
 by_cases hn0:aV g (aq p k)=0
 ·have:=jt hr ⟨pE.1,pE.2⟩
  rw[hn0]at this
  rw[adE this]
  exact⟨iq g p k, [],by simp⟩
 ·obtain⟨a,c,h1,_⟩:=xq hm hi.tofL hR hn0 (bE p (aq p k))
  refine⟨a.map (·.1),c.map (·.1), ?_⟩
  rw[ni hr hk]
  unfold iq pZ
  rw[h1,ads,ads]
theorem JW{g:Gr}{p:Pl}(hr:aG g p){k:Nat}(hk:k<g.n.toNat):(dP g p (aq p k)).Pairwise fun a b=>(iq g p k).idxOf a<(iq g p k).idxOf b:=by
 obtain⟨a,c,e⟩:=Ra hr hk
 have:=Nx (kT hr (c:=k) (by omega))
 generalize iq g p k=W at*
 rw[e,aef,aef]at this
 rw[e]
 exact this.1.2.1
theorem Ts{g:Gr}{p:Pl}{bs:List Int}{q:Pl}(h:aG g p)(hb:Cf g bs)(hq:HE g p bs q)(hs1:g.n+bs.length<=64)(hs2:g.es.length+bs.length<=128){x:Int}(hx:fN g x):
 (dP (aO g bs) q x).map (rO g bs)=dP g p x:=by
 have hR:=LG h hb hq hs1 hs2
 have hm:=ah h.1
 have hGn:(aO g bs).n=g.n+bs.length:=rfl
 have x0:=hx.1;have x1:=hx.2
 have Ut:fN (aO g bs) x:=⟨hx.1,by omega⟩
 obtain⟨k,hk,ek⟩:=cq hR.2.1 Ut.1 Ut.2
 obtain⟨_,o2,o3⟩:=oT h hb hq (k:=k) (by omega) (by omega)
 rw[ek]at o3
 have p1:=Ur hR (HF h hb hq) (k:=k) (by omega)
 have p2:=JW h (k:=gH g q k) o2
 rw[ek]at p1
 rw[o3]at p2
 obtain⟨n1,m1⟩:=er hR Ut
 obtain⟨n2,m2⟩:=er h hx
 have p1':((dP (aO g bs) q x).map (rO g bs)).Pairwise fun a b=>(iq g p (gH g q k)).idxOf a<(iq g p (gH g q k)).idxOf b:=by
  rw[aeI];exact p1
 refine agw (le:=fun a b=>(iq g p (gH g q k)).idxOf a<(iq g p (gH g q k)).idxOf b) (fun a b _ _ h1 h2=>by omega) p1' p2 ((aeb (p1'.imp fun hab e=>by rw[e]at hab;omega) n2).2 fun e=> ?_)
 rw[m2,ada]
 constructor
 ·rintro⟨e,he,rfl⟩
  obtain⟨⟨e0,e1⟩,e2⟩:=(m1 e).1 he
  rcases dA h hb hq e0 e1 with ⟨h3,h4⟩|⟨j,h3,h6,h7,h4,h5⟩
  ·rw[(de (g:=g) (bs:=bs) e0 h3).2]at e2
   split at e2
   ·rename_i hin
    have:=(c7 hb hin).1
    omega
   ·rw[h4];exact⟨⟨e0,h3⟩,e2⟩
  ·have hd2:=(gG (g:=g) h3).2
   rw[<- h6,e2]at hd2
   rw[h7]
   exact⟨hb.lg _ h4,hd2.symm⟩
 ·rintro⟨⟨e0,e1⟩,e2⟩
  by_cases hin:e∈bs
  ·obtain⟨k1,k2⟩:=ve hin
   refine⟨((g.es.length+bs.idxOf e:Nat):Int),(m1 _).2 ⟨⟨by omega,by rw[dV];omega⟩, ?_⟩, ?_⟩
   ·rw[(gG (g:=g) k1).2,k2];exact e2
   ·unfold rO
    rw[ac7 (by omega),show(((g.es.length+bs.idxOf e:Nat):Int) - g.es.length).toNat=bs.idxOf e by omega,k2]
  ·refine⟨e,(m1 _).2 ⟨⟨e0,by rw[dV];omega⟩, ?_⟩, ?_⟩
   ·rw[(de (g:=g) (bs:=bs) e0 e1).2,ac7 hin];exact e2
   ·unfold rO
    rw[ac9 e1]
theorem LH{m:Nat}{N:List Edge} :∀ {l:List It},((ef l).map (·.1)).Sublist ((ef (l.map (mC m N))).map (·.1))
 | []=>agB _
 |t::l=>by
  have ih:=LH (m:=m) (N:=N) (l:=l)
  unfold ef at*
  rw[adC]
  by_cases h:0<=t.1
  ·rw[kE h,agW (by simpa using h),agW (by simpa using h),adC,adC]
   exact ih.cons_cons _
  ·rw[List.filter_cons_of_neg (by simpa using h),aeD]
   split
   ·rw[adC];exact ih.cons _
   ·exact ih
theorem Tt{g:Gr}{p:Pl}(h:qn g p){x:Int}(hx:fN g x):(dP g p x).Sublist (dP (aj g p) (bK g p) x):=by
 have hr:=h.run
 have hn:=e9 (g:=g) (p:=p)
 obtain⟨k,hk,rfl⟩:=cq hr.2.1 hx.1 hx.2
 have e2:=ni (ij h) (k:=k) (by omega)
 rw[zW hr (by omega)]at e2
 rw[ni hr (by omega),e2]
 have e3:=Q3 h (k:=k) (by omega)
 unfold cB at e3
 rw[zW hr (by omega)]at e3
 unfold pZ
 rw[e3]
 exact LH
def vf(g:Gr)(bs:List Int)(k:Nat)(v:Int):List Int:=((List.range k).filter fun j=>bt g (bs.getD j 0)=v).map fun j:Nat=>g.n+(j:Int)
def gJ(g:Gr)(bs:List Int)(k:Nat)(ord:List Int):List Int:=ord.flatMap fun v=>v::vf g bs k v
def mQ(g:Gr)(k:Nat):List (List Int):=(List.range k).map fun j:Nat=> [((g.es.length+j:Nat):Int)]
def HH(g:Gr)(p:Pl)(bs:List Int):Pl:=⟨gJ g bs bs.length p.ord,p.outs++mQ g bs.length⟩
theorem HI{g:Gr}{bs:List Int}{k:Nat}(v:Int):vf g bs (k+1) v=vf g bs k v++if bt g (bs.getD k 0)=v then [g.n+(k:Int)] else []:=by
 unfold vf
 rw[adV,ad8,ads]
 congr 1
 by_cases h:bt g (bs.getD k 0)=v
 ·rw[ac9 h,aeD,ac9 (ac6 h)];rfl
 ·rw[ac7 h,aeD,ac7 (by rw[ac5 h];decide)];rfl
theorem j5{g:Gr}{bs:List Int}{k:Nat}{v u:Int} :u∈vf g bs k v↔∃j:Nat,j<k/\bt g (bs.getD j 0)=v/\u=g.n+(j:Int):=by
 simp only[vf,ada,adI,adk,adb]
 constructor
 ·rintro⟨j,⟨h1,h2⟩,rfl⟩;exact⟨j,h1,h2,rfl⟩
 ·rintro⟨j,h1,h2,rfl⟩;exact⟨j,⟨h1,h2⟩,rfl⟩
theorem HJ{g:Gr}{bs:List Int}{k:Nat}{a b:List Int} :gJ g bs k (a++b)=gJ g bs k a++gJ g bs k b:=by simp[gJ]
theorem lJ{g:Gr}{bs:List Int}{k:Nat}{v:Int}{b:List Int} :gJ g bs k (v::b)=v::(vf g bs k v++gJ g bs k b):=by simp[gJ]
theorem DM{g:Gr}{bs:List Int}{a:List Int} :gJ g bs 0 a=a:=by
 induction a with
 |nil=>rfl
 |cons v a ih=>rw[lJ,ih];rfl
theorem Ci{g:Gr}{bs:List Int}{k:Nat}{a:List Int}(h:bt g (bs.getD k 0)∉a):gJ g bs (k+1) a=gJ g bs k a:=by
 induction a with
 |nil=>rfl
 |cons v a ih=>
  rw[lJ,lJ,ih fun e=>h (adv.2 (.inr e)),HI,ac7 fun e=>h (adv.2 (.inl e)),ad4]
theorem HK{g:Gr}{bs:List Int}{k:Nat}{a:List Int}{u:Int} :u∈gJ g bs k a↔∃v∈a,u=v\/u∈vf g bs k v:=by simp[gJ]
theorem DN{g:Gr}{bs:List Int}{k:Nat}{ord:List Int}(bR:ord.Nodup)(hr:∀u∈ord,u<g.n)(ht:bt g (bs.getD k 0)∈ord):
 ∃A B,gJ g bs k ord=A++bt g (bs.getD k 0)::(vf g bs k (bt g (bs.getD k 0))++B)/\gJ g bs (k+1) ord=A++bt g (bs.getD k 0)::(vf g bs k (bt g (bs.getD k 0))++(g.n+(k:Int))::B)/\bt g (bs.getD k 0)∉A/\∀u r,B=u::r->u<g.n:=by
 obtain⟨o1,o2,e⟩:=aeW ht
 have ji:=bR
 rw[e,adt]at ji
 obtain⟨_,n2,n3⟩:=ji
 obtain⟨n4,_⟩:=ad5.1 n2
 have n5:bt g (bs.getD k 0)∉o1:=fun h=>n3 _ h _ (by simp) rfl
 refine⟨gJ g bs k o1,gJ g bs k o2, ?_, ?_,fun h=> ?_,fun u r hB=> ?_⟩
 ·rw[congrArg (gJ g bs k) e,HJ,lJ]
 ·rw[congrArg (gJ g bs (k+1)) e,HJ,lJ,Ci n5,Ci n4,HI,ac9 rfl];simp
 ·obtain⟨v,hv,h1|h1⟩:=HK.1 h
  ·exact n5 (h1 ▸ hv)
  ·obtain⟨j,_,_,h2⟩:=j5.1 h1
   have:=hr _ ht
   omega
 ·cases o2 with
  |nil=>simp[gJ]at hB
  |cons w o2=>
   rw[lJ]at hB
   cases hB
   exact hr _ (by rw[e];simp)
theorem Cj{bs:List Int}{k j:Nat}(h:j<k):(bs.take k).getD j 0=bs.getD j 0:=by
 rw[aas,aas,afU h]
theorem xE{bs:List Int}{k:Nat}(h:k<bs.length):bs.take (k+1)=bs.take k++ [bs.getD k 0]:=by
 rw[ad1,acF h,aas,acF h];rfl
theorem Nz{g:Gr}{bs:List Int}(hb:Cf g bs){k:Nat}(hk:k<bs.length){i:Nat}(hi:bs.getD k 0=i):
 i<g.es.length/\(mP g (bs.take k)).getD i (0,0)=(tl g i,hd g i)/\mP g (bs.take (k+1))=(mP g (bs.take k)++ [(g.n+(k:Int),hd g i)]).set i (tl g i,g.n+(k:Int)):=by
 have hil:i<g.es.length:=by have:=hb.lg _ (az (d:=0) hk);omega
 have hlt:(bs.take k).length=k:=by simp;omega
 have NA:(bs.take (k+1)).length=k+1:=by simp;omega
 have hni:(i:Int)∉bs.take k:=fun hm=>by
  have bR:=hb.nd
  rw[<- List.take_append_drop (k+1) bs,xE hk,hi]at bR
  have:=(adt.1 (adt.1 bR).1).2.2 _ hm _ (adu.2 rfl)
  exact this rfl
 refine⟨hil, ?_, ?_⟩
 ·unfold mP
  rw[aas,adx (by simpa using hil),adm,adp hil,Option.map_some,Option.getD_some,ac7 hni]
 ·unfold mP
  rw[hlt,NA,adN,List.set_append_left _ _ (by simpa using hil),adV (n:=k),ads,adC,adO]
  have hd2:bA g ((bs.take (k+1)).getD k 0)=hd g i:=by rw[Cj (by omega),hi];rfl
  rw[hd2]
  congr 1
  ·refine adY fun j=> ?_
   rw[aea]
   by_cases hj:j<g.es.length
   ·rw[adm,adp hj,adm,adp hj]
    simp only[Option.map_some,adn,ae2]
    by_cases e:i=j
    ·subst e
     have hin:(i:Int)∈bs.take (k+1):=by rw[xE hk,hi];simp
     rw[ac9 rfl,ac9 hj,ac9 hin]
     unfold qo
     rw[xE hk,hi,Fi,ac7 hni,hlt]
     simp
    ·rw[ac7 e,xE hk,hi]
     by_cases hm:(j:Int)∈bs.take k
     ·rw[ac9 hm,ac9 (by simp[hm])]
      unfold qo
      rw[Fi,ac9 hm]
     ·rw[ac7 hm,ac7 (by simp[hm];omega)]
   ·rw[ac7 (by omega),ado (by simpa using hj),ado (by simpa using hj)]
  ·congr 1
   refine ae5 fun j hj=> ?_
   rw[adk]at hj
   rw[Cj hj,Cj (by omega)]
theorem NB{g:Gr} :mP g []=g.es:=by
 unfold mP
 simp only[List.length_nil,List.range_zero,adO,ad4,aen,if_false]
 refine adY fun j=> ?_
 by_cases hj:j<g.es.length
 ·rw[adm,adp hj,Option.map_some,acF hj]
  simp only[tl,hd,aas,acF hj,Option.getD_some]
 ·rw[ado (by simpa using hj),ado (by omega)]
section
variable {g:Gr} {p:Pl} {bs:List Int} (h:aG g p) (hb:Cf g bs)
include h hb
theorem Tu:(gJ g bs bs.length p.ord).Nodup/\∀u,u∈gJ g bs bs.length p.ord↔0<=u/\u<g.n+bs.length:=by
 have hm:=ah h.1
 have hn:=aB hm
 have bR:=cF h.2.1
 have hr:∀u∈p.ord,0<=u/\u<g.n:=fun u hu=>by
  have:=h.2.1.2.1.mem_iff.1 hu
  simp only[dD,ada,adk]at this
  obtain⟨k,hk,e⟩:=this
  have e:(k:Int)=u:=e
  omega
 have hown:∀v,(vf g bs bs.length v).Nodup:=fun v=>by
  unfold vf
  refine aex _ (fun a b hab=> ?_) ((afV).filter _)
  intro e;apply hab;omega
 constructor
 ·unfold gJ
  rw[List.Nodup,ag9]
  refine⟨fun v hv=>ad5.2 ⟨fun hh=> ?_,hown v⟩, ?_⟩
  ·obtain⟨j,_,_,e⟩:=j5.1 hh
   have:=(hr v hv).2
   omega
  ·refine aeT (fun {a b} ha hb' hne=> ?_) bR
   intro u hu u' xN euu
   subst euu
   rcases adv.1 hu with rfl|hu
   ·rcases adv.1 xN with rfl|xN
    ·exact hne rfl
    ·obtain⟨j,_,_,e⟩:=j5.1 xN
     have:=(hr u ha).2
     omega
   ·obtain⟨j,_,j2,e⟩:=j5.1 hu
    rcases adv.1 xN with rfl|xN
    ·have:=(hr u hb').2
     omega
    ·obtain⟨l,_,l2,e'⟩:=j5.1 xN
     obtain rfl:j=l:=by omega
     exact hne (j2.symm.trans l2)
 ·intro u
  rw[HK]
  constructor
  ·rintro⟨v,hv,rfl|hu⟩
   ·have:=hr u hv;omega
   ·obtain⟨j,j1,_,e⟩:=j5.1 hu
    omega
  ·rintro⟨h0,h1⟩
   by_cases hlt:u<g.n
   ·obtain⟨l,hl,e⟩:=cq h.2.1 h0 hlt
    exact⟨u,by rw[<- e,aq,aas,acF (by rw[aI h.2.1];exact hl)];exact ad2 _, .inl rfl⟩
   ·have hk:(u - g.n).toNat<bs.length:=by omega
    have Cr:=hb.lg _ (az (d:=0) hk)
    have ht:=aT hm (i:=(bs.getD (u - g.n).toNat 0).toNat) (by omega)
    obtain⟨l,hl,e⟩:=cq h.2.1 ht.1 ht.2
    refine⟨bt g (bs.getD (u - g.n).toNat 0), ?_, .inr (j5.2 ⟨(u - g.n).toNat,hk,rfl,by omega⟩)⟩
    show tl g (bs.getD (u - g.n).toNat 0).toNat∈p.ord
    rw[<- e,aq,aas,acF (by rw[aI h.2.1];exact hl)];exact ad2 _
theorem Fj:HE g p bs (HH g p bs):=by
 have hm:=ah h.1
 have hn:=aB hm
 have dI:=h.2.1.1
 have bR:=cF h.2.1
 obtain⟨n1,n2⟩:=Tu h hb
 refine⟨?_,fun x hx=> ?_,fun k hk=> ?_, ?_, ?_⟩
 ·show(p.outs++mQ g bs.length).length=_
  rw[adi,dI,mQ,adn,ae2];omega
 ·show(p.outs++mQ g bs.length).getD x []=_
  rw[aas,adx (by omega), <- List.getD_eq_getElem?_getD]
 ·show(p.outs++mQ g bs.length).getD (g.n.toNat+k) []=_
  rw[aas,adw (by omega),dI,af2,mQ,adm,adp hk];rfl
 ·refine(aeb n1 ?_).2 fun u=> ?_
  ·unfold dD
   exact aex _ (fun a b hab=>by intro e;apply hab;exact afo e) afV
  ·show u∈gJ g bs bs.length p.ord↔_
   rw[n2]
   simp only[dD,ada,adk]
   constructor
   ·rintro⟨h0,h1⟩;exact⟨u.toNat,by omega,by show((u.toNat:Nat):Int)=u;omega⟩
   ·rintro⟨k,hk,e⟩
    have e:(k:Int)=u:=e
    omega
 ·have hr:∀u∈p.ord,u<g.n:=fun u hu=>by
   have:=h.2.1.2.1.mem_iff.1 hu
   simp only[dD,ada,adk]at this
   obtain⟨k,hk,e⟩:=this
   have e:(k:Int)=u:=e
   omega
  have gK:∀v∈p.ord,∀u∈v::vf g bs bs.length v,zm g bs u=v:=fun v hv u hu=>by
   rcases adv.1 hu with rfl|hu
   ·exact ac9 (hr u hv)
   ·obtain⟨j,j1,j2,rfl⟩:=j5.1 hu
    unfold zm
    rw[ac7 (by omega),show(g.n+(j:Int) - g.n).toNat=j by omega]
    exact j2
  show(gJ g bs bs.length p.ord).Pairwise _
  unfold gJ
  rw[ag9]
  refine⟨fun v hv=> ?_, ?_⟩
  ·refine aeT (R:=fun a b=>a<b) (fun {a b} ha hb' hab=> .inr ⟨(gK v hv a ha).trans (gK v hv b hb').symm,hab⟩) (aeV.2 ⟨fun u hu=> ?_, ?_⟩)
   ·obtain⟨j,_,_,rfl⟩:=j5.1 hu
    have:=hr v hv
    omega
   ·unfold vf
    refine aex _ (fun a b hab=> ?_) (List.pairwise_lt_range.filter _)
    omega
  ·refine aeT (R:=fun a b=>p.ord.idxOf a<p.ord.idxOf b) (fun {a b} ha hb' hab=> ?_) ?_
   ·intro u hu v hv
    rw[gK a ha u hu,gK b hb' v hv]
    exact .inl hab
   ·rw[aeh]
    intro i j hi hj hij
    have e1:=gN bR hi
    have e2:=gN bR hj
    rw[aas,acF hi,Option.getD_some]at e1
    rw[aas,acF hj,Option.getD_some]at e2
    omega
end
end Go.Ab
end
section
set_option maxHeartbeats 8000000
set_option maxRecDepth 20000
namespace Go.Ab
attribute [local congr] ACall.congr gd.congr Ny.congr vcOps.congr
open Go.Proofs
theorem JX(g:Gr)(hm:aM g=true)(both:Bool)(c:Nat->Bool)(F:Nat)(i0:Int)(hF:∀i:Nat,i<g.es.length->Spec Tryz.prog F (Args [eN i, .ptr 10001 0]) [(10001, .rob [eN i0])] (eB (c i)) [(10001, .rob [eN i0])])(a0:List Nat)(h0:N6 g both c a0):
 Spec Tryz.prog 149 (Args [eG g, .ref 10000,eB both, .fn F [] [.ptr 10001 0]]) [(10000, .own 208 1 (a0.map rU)),(10001, .box [eN i0])] (.tup []) [(10000, .own 208 1 ((JH g both c).map rU)),(10001, .box [eN i0])]:=by
 have hn:=aB hm
 obtain⟨M,hM⟩:=Td (g:=g) (by omega) both c
 (refine T.h [] [] [] Tryz.func149 rfl rfl (by kernel_rfl) fun X hX hP hC aA bB=> ?_)
 repeat' (first|refine Rn.p ?_|((first|refine Rs.p ?_|with_reducible intro K hK|(refine hK _ ?_;clear hK K));try simp only[go_sem,simprocAttr]))
 refine ag (fun s:List Nat × Bool=>N6 g both c s.1/\(s.2=false->s.1=JH g both c)) (fun s=>⟨[(1, .ref 10000),(2,eB both),(3, .fn F [] [.ptr 10001 0]),(4, .ptr 4 0),(8,eB s.2)], [(10000, .own 208 1 (s.1.map rU)),(10001, .box [eN i0]),(4, .box [eN g.n, .d (sE g.es)])]⟩) (fun s=>2*(M - B8 s.1)+(if s.2=true then 1 else 0)) (a0,true) ⟨h0,by simp⟩ ?_ ?_
 ·refine Le.of ?_ ?_<;>simp[go_sem,simprocAttr]
 rintro⟨a,more⟩ ⟨hG,zu⟩
 simp only at hG zu ⊢
 cases more with
 |false=>
  have:=zu rfl
  subst this
  repeat' (first|refine Rn.p ?_|((first|refine Rs.p ?_|with_reducible intro K hK|(refine hK _ ?_;clear hK K));try simp only[go_sem,simprocAttr]))
 |true=>
 repeat' (first|refine Rn.p ?_|((first|refine Rs.p ?_|with_reducible intro K hK|(refine hK _ ?_;clear hK K));try simp only[go_sem,simprocAttr]))
 refine ag (fun k:Nat=>k<=g.es.length) (fun k=>⟨[(1, .ref 10000),(2,eB both),(3, .fn F [] [.ptr 10001 0]),(4, .ptr 4 0),(8,eB (cn g both c a k).2),(15, .d (sE g.es)),(16,eN g.es.length),(17,eN k)], [(10000, .own 208 1 ((cn g both c a k).1.map rU)),(10001, .box [eN i0]),(4, .box [eN g.n, .d (sE g.es)])]⟩) (fun k=>g.es.length - k) 0 (by omega) ?_ ?_
 ·refine Le.of ?_ ?_<;>simp[go_sem,simprocAttr,cn]
 rintro k hk
 rcases adj k g.es.length with hlt|hge
 rotate_left
 ·have hb:decide ((k:Int)<(g.es.length:Int))=false:=ac5 (by omega)
  obtain rfl:k=g.es.length:=by omega
  obtain⟨i1,_⟩:=lH hm hG (adg g.es.length)
  have YM:=JJ hm hG
  have LB:=mE (g:=g) (both:=both) (c:=c) (a:=a) (k:=g.es.length)
  have hdone:=Np hm hG
  have H9:=hM _ i1
  generalize cn g both c a g.es.length=R at*
  repeat' (first|refine Rn.p ?_|((first|refine Rs.p ?_|with_reducible intro K hK|(refine hK _ ?_;clear hK K));try simp only[go_sem,simprocAttr,hb]))
  refine⟨(R.1,R.2),⟨i1,fun hf=> ?_⟩, ?_, ?_⟩
  ·rw[(LB hf).1];exact hdone hf
  ·refine Le.of ?_ ?_<;>simp[go_sem,simprocAttr,hb]
  ·cases hR2:R.2 with
   |true=>have:=YM hR2;simp;omega
   |false=>rw[(LB hR2).1];simp
 have hb:decide ((k:Int)<(g.es.length:Int))=true:=ac6 (by omega)
 obtain⟨ZF,_⟩:=lH hm hG (k:=k) (by omega)
 obtain⟨ht,hh⟩:=cU hm hlt
 have YN:=hF k hlt
 have Uu:=ZF.len
 have NA:=ZF.lt (by omega)
 obtain⟨x,hx⟩:∃x:Nat,(g.es.getD k (0,0)).1=x:=⟨(g.es.getD k (0,0)).1.toNat,by omega⟩
 obtain⟨y,hy⟩:∃y:Nat,(g.es.getD k (0,0)).2=y:=⟨(g.es.getD k (0,0)).2.toNat,by omega⟩
 have htl:(tl g k).toNat=x:=by show((g.es.getD k (0,0)).1).toNat=x;rw[hx];rfl
 have VK:(hd g k).toNat=y:=by show((g.es.getD k (0,0)).2).toNat=y;rw[hy];rfl
 have dw:cn g both c a (k+1)=if c k=true then((((cn g both c a k).1.set x ((cn g both c a k).1.getD x 0 ||| (cn g both c a k).1.getD y 0)).set y (if both=true then(cn g both c a k).1.getD x 0 ||| (cn g both c a k).1.getD y 0 else(cn g both c a k).1.getD y 0)),(cn g both c a k).2||(decide ((cn g both c a k).1.getD x 0 ||| (cn g both c a k).1.getD y 0≠(cn g both c a k).1.getD x 0)||decide ((if both=true then(cn g both c a k).1.getD x 0 ||| (cn g both c a k).1.getD y 0 else(cn g both c a k).1.getD y 0)≠(cn g both c a k).1.getD y 0))) else cn g both c a k:=by
  simp only[cn,htl,VK]
 generalize cn g both c a k=R at ZF Uu NA dw
 obtain⟨A,m1⟩:=R
 simp only at ZF Uu NA dw ⊢
 have YE:=NA x
 have hly:=NA y
 cases hc:c k with
 |false=>
  rw[hc]at YN dw
  repeat' (first|refine Rn.p ?_|((first|refine Rs.p ?_|with_reducible intro K hK|(refine hK _ ?_;clear hK K)|(refine bw [(10001,10001)] (YN) ?_ ?_;(focus(simp[go_sem,simprocAttr,hb,hx,hy];done))));try simp only[go_sem,simprocAttr,hb,hx,hy])|with_reducible (apply And.intro)|omega)
  refine⟨k+1,by omega, ?_,by omega⟩
  rw[dw]
  refine Le.of ?_ ?_<;>simp[go_sem,simprocAttr,hb,hx,hy]
 |true=>
  rw[hc]at YN dw
  rw[ac9 rfl]at dw
  have n1:=neU (a:=A.getD x 0 ||| A.getD y 0) (b:=A.getD x 0)
  have n2:=neU (a:=if both=true then A.getD x 0 ||| A.getD y 0 else A.getD y 0) (b:=A.getD y 0)
  have YK:A.getD x 0 ||| A.getD y 0<18446744073709551616:=Nat.or_lt_two_pow (n:=64) YE hly
  have Iz:(A.set x (A.getD x 0 ||| A.getD y 0)).length=A.length:=adP ..
  generalize OB:A.getD x 0 ||| A.getD y 0=t at n1 n2 dw YK Iz
  generalize hd1:decide (t≠A.getD x 0)=d1 at n1 dw
  cases both with
  |true=>
   rw[ac9 rfl]at n2 dw
   generalize hd2:decide (t≠A.getD y 0)=d2 at n2 dw
   clear hd1 hd2
   cases m1<;>cases d1<;>cases d2<;>simp only[afp,afn,aeK,afd]at dw
   all_goals(repeat' (first|refine Rn.p ?_|((first|refine Rs.p ?_|with_reducible intro K hK|(refine hK _ ?_;clear hK K)|(refine bw [(10001,10001)] (YN) ?_ ?_;(focus(simp[go_sem,simprocAttr,hb,hx,hy,OB,n1,n2,Uu,yE,adP];done))));try simp only[go_sem,simprocAttr,hb,hx,hy,OB,n1,n2,Uu,yE,adP])|with_reducible (first|apply And.intro|refine oD (by kernel_rfl) ?_)|omega))
   all_goals(refine⟨k+1,by omega, ?_,by omega⟩)
   all_goals(rw[dw])
   all_goals(refine Le.of ?_ ?_<;>simp[go_sem,simprocAttr,hb,hx,hy,OB,n1,n2,Uu,yE,adP])
  |false=>
   rw[ac7 (by simp)]at n2 dw
   have hd2:decide (A.getD y 0≠A.getD y 0)=false:=ac5 fun h=>h rfl
   rw[hd2]at n2 dw
   clear hd1
   cases m1<;>cases d1<;>simp only[afp,afn,aeK,afd]at dw
   all_goals(repeat' (first|refine Rn.p ?_|((first|refine Rs.p ?_|with_reducible intro K hK|(refine hK _ ?_;clear hK K)|(refine bw [(10001,10001)] (YN) ?_ ?_;(focus(simp[go_sem,simprocAttr,hb,hx,hy,OB,n1,n2,Uu,yE,adP];done))));try simp only[go_sem,simprocAttr,hb,hx,hy,OB,n1,n2,Uu,yE,adP])|with_reducible (first|apply And.intro|refine oD (by kernel_rfl) ?_)|omega))
   all_goals(refine⟨k+1,by omega, ?_,by omega⟩)
   all_goals(rw[dw])
   all_goals(refine Le.of ?_ ?_<;>simp[go_sem,simprocAttr,hb,hx,hy,OB,n1,n2,Uu,yE,adP])
theorem Rb(i k:Int):Spec Tryz.prog 150 (Args [eN k, .ptr 10001 0]) [(10001, .rob [eN i])] (eB (!decide (k=i))) [(10001, .rob [eN i])]:=by
 (refine T.h [] [] [.t 3] Tryz.func150 rfl rfl (by kernel_rfl) fun X hX hP hC aA bB=> ?_)
 repeat' (first|refine Rn.p ?_|((first|refine Rs.p ?_|with_reducible intro K hK|(refine hK _ ?_;clear hK K));try simp only[go_sem,simprocAttr]))
def xF(i:Nat)(k:Nat):Bool:= !decide ((k:Int)=(i:Int))
noncomputable def Rc (g:Gr) (i:Nat):Bool:=((JH g false (xF i)).getD (tl g i).toNat 0).testBit (hd g i).toNat
noncomputable def Ih (g:Gr) (k:Nat):List Int:=((List.range k).filter fun i=>Rc g i).map fun i:Nat=>(i:Int)
noncomputable def cO (g:Gr):List Int:=if aM g=true then Ih g g.es.length else []
theorem Re{g:Gr}{k:Nat} :Ih g (k+1)=if Rc g k=true then Ih g k++ [(k:Int)] else Ih g k:=by
 unfold Ih
 rw[adV,ad8,ads]
 cases h:Rc g k with
 |true=>rw[ac9 rfl,aeD,ac9 h];rfl
 |false=>rw[ac7 (by simp),aeD,ac7 (by rw[h];decide)];simp
theorem LI{g:Gr}{k:Nat} :(Ih g k).length<=k:=by
 unfold Ih
 rw[adn]
 exact aej (aeH _ _) (by simp)
theorem LJ(g:Gr)(hl:g.es.length<=9223372036854775807):Spec Tryz.prog 102 (Args [eG g]) [] (.d (sI (cO g))) []:=by
 have hE:=JK g hl
 (refine T.h [200,34,33] [] [.t 2] Tryz.func102 rfl rfl (by kernel_rfl) fun X hX hP hC aA bB=> ?_)
 repeat' (first|(show cR _ (.seq (.region 1 _ _) _) _ _;(refine dQ hX 2 200 (.own 3 1 []) ?_ ?_ (by decide) ⟨3,1,by decide, .inl rfl⟩ ?_;(iterate 2 (focus(simp only[go_sem,simprocAttr];done)));simp only[go_sem,simprocAttr]))|refine Rn.p ?_|((first|refine Rs.p ?_|with_reducible intro K hK|(refine hK _ ?_;clear hK K));try simp only[go_sem,simprocAttr]))
 have hm0:aM g=false->cO g= []:=fun h=>by unfold cO;rw[h];rfl
 cases hm:aM g with
 |false=>
  have hU:nr g= []:=by unfold nr;rw[hm];rfl
  rw[hU]at hE
  rw[hm0 hm]
  cases Ia:g.es with
  |nil=>
   refine ag (fun k:Nat=>k=0) (fun _=>⟨[(1, .ptr 1 0),(2, .ref 200),(7, .d (sE [])),(8,eN 0),(9,eN 0)], [(1, .box [eN g.n, .d (sE [])]),(200, .own 3 1 [])]⟩) (fun _=>0) 0 rfl ?_ ?_
   ·refine Le.of ?_ ?_<;>simp[go_sem,simprocAttr,Ia]
   rintro k rfl
   repeat' (first|refine Rn.p ?_|((first|refine Rs.p ?_|with_reducible intro K hK|(refine hK _ ?_;clear hK K));try simp only[go_sem,simprocAttr]))
  |cons q r=>
   have hq:g.es.length=r.length+1:=by rw[Ia];rfl
   have hb:decide ((0:Int)<((r.length+1:Nat):Int))=true:=ac6 (by omega)
   refine ag (fun k:Nat=>k=0) (fun _=>⟨[(1, .ptr 1 0),(2, .ref 200),(7, .d (sE g.es)),(8,eN ((r.length+1:Nat):Int)),(9,eN 0)], [(1, .box [eN g.n, .d (sE g.es)]),(200, .own 3 1 [])]⟩) (fun _=>0) 0 rfl ?_ ?_
   ·refine Le.of ?_ ?_<;>simp[go_sem,simprocAttr,Ia]
   rintro k rfl
   repeat' (first|refine Rn.p ?_|((first|refine Rs.p ?_|with_reducible intro K hK|(refine hK _ ?_;clear hK K)|(refine fu 15 (hE) ?_ (by first|exact tV|exact tW|exact tY|exact wO) rfl (by decide) ?_;(focus(simp only[go_sem,simprocAttr,hb];done))));try simp only[go_sem,simprocAttr,hb])|with_reducible (apply And.intro)|omega)
 |true=>
  have hn:=aB hm
  have he:(nr g).length=g.n.toNat:=by unfold nr;rw[ac9 hm];exact B9
  have hb0:decide ((g.n.toNat:Int)=0)=false:=ac5 (by omega)
  have hT:cO g=Ih g g.es.length:=ac9 hm
  rw[hT]
  have hG:=fun i:Nat=>JX g hm false (xF i) 150 (i:Int) (fun k _=>Rb (i:Int) (k:Int)) (nr g) (Nt hm)
  generalize nr g=U at hE he hG
  refine ag (fun k:Nat=>k<=g.es.length) (fun k=>⟨[(1, .ptr 1 0),(2, .ref 200),(7, .d (sE g.es)),(8,eN g.es.length),(9,eN k)], [(1, .box [eN g.n, .d (sE g.es)]),(200, .own 3 1 ((Ih g k).map rI))]⟩) (fun k=>g.es.length - k) 0 (by omega) ?_ ?_
  ·refine Le.of ?_ ?_<;>simp[go_sem,simprocAttr,Ih]
  rintro k hk
  rcases adj k g.es.length with hlt|hge
  rotate_left
  ·have hb:decide ((k:Int)<(g.es.length:Int))=false:=ac5 (by omega)
   obtain rfl:k=g.es.length:=by omega
   repeat' (first|refine Rn.p ?_|((first|refine Rs.p ?_|with_reducible intro K hK|(refine hK _ ?_;clear hK K));try simp only[go_sem,simprocAttr,hb]))
  have hb:decide ((k:Int)<(g.es.length:Int))=true:=ac6 (by omega)
  have hGk:=hG k
  have dw:=Re (g:=g) (k:=k)
  have Eh:=LI (g:=g) (k:=k)
  obtain⟨ht,hh⟩:=cU hm hlt
  obtain⟨x,hx⟩:∃x:Nat,(g.es.getD k (0,0)).1=x:=⟨(g.es.getD k (0,0)).1.toNat,by omega⟩
  obtain⟨y,hy⟩:∃y:Nat,(g.es.getD k (0,0)).2=y:=⟨(g.es.getD k (0,0)).2.toNat,by omega⟩
  rw[hx]at ht
  rw[hy]at hh
  have H6:Rc g k=((JH g false (xF k)).getD x 0).testBit y:=by
   unfold Rc
   rw[show(tl g k).toNat=x by show((g.es.getD k (0,0)).1).toNat=x;rw[hx];rfl,show(hd g k).toNat=y by show((g.es.getD k (0,0)).2).toNat=y;rw[hy];rfl]
  have hrl:(JH g false (xF k)).length=g.n.toNat:=z7
  have hH:=Nq ((JH g false (xF k)).getD x 0) (by
   rw[JI (by omega)]
   exact afb Ta (Nat.pow_le_pow_right (by decide) (show g.n.toNat<=64 by omega))) (y:Int)
  rw[show(decide ((0:Int)<=(y:Int))&&decide ((y:Int)<64)&&((JH g false (xF k)).getD x 0).testBit ((y:Int)).toNat)=Rc g k by
   rw[H6,ac6 (show(0:Int)<=(y:Int) by omega),ac6 (show(y:Int)<64 by omega)];rfl]at hH
  generalize JH g false (xF k)=R at hGk hrl hH
  generalize Ih g k=O at dw Eh
  cases hB:Rc g k with
  |true=>
   rw[hB]at hH
   rw[hB,ac9 rfl]at dw
   repeat' (first|(show cR _ (.region 10 _ _) _ _;(refine uC hX 2 34 200 (by simp only[go_sem,simprocAttr,hb,hb0,he,hx,hy,hrl]) rfl (by first|exact .inl rfl|exact .inr rfl) (by decide) ?_;simp only[go_sem,simprocAttr,hb,hb0,he,hx,hy,hrl]))|refine Rn.p ?_|((first|refine Rs.p ?_|with_reducible intro K hK|(refine hK _ ?_;clear hK K)|(refine fu 15 (hE) ?_ (by first|exact tV|exact tW|exact tY|exact wO) rfl (by decide) ?_;(focus(simp only[go_sem,simprocAttr,hb,hb0,he,hx,hy,hrl];done)))|(refine aS [(10000,15),(10001,3)] (hGk) ?_ ?_;(focus(simp[go_sem,simprocAttr,hb,hb0,he,hx,hy,hrl];done)))|refine aa (hH) rfl ?_);try simp only[go_sem,simprocAttr,hb,hb0,he,hx,hy,hrl])|with_reducible (first|apply And.intro|refine oD (by kernel_rfl) ?_)|omega)
   refine⟨k+1,by omega, ?_,by omega⟩
   rw[dw]
   refine Le.of ?_ ?_<;>simp[go_sem,simprocAttr,hb,hb0,he,hx,hy,hrl,rI]
  |false=>
   rw[hB]at hH
   rw[hB,ac7 (by simp)]at dw
   repeat' (first|refine Rn.p ?_|((first|refine Rs.p ?_|with_reducible intro K hK|(refine hK _ ?_;clear hK K)|(refine fu 15 (hE) ?_ (by first|exact tV|exact tW|exact tY|exact wO) rfl (by decide) ?_;(focus(simp only[go_sem,simprocAttr,hb,hb0,he,hx,hy,hrl];done)))|(refine aS [(10000,15),(10001,3)] (hGk) ?_ ?_;(focus(simp[go_sem,simprocAttr,hb,hb0,he,hx,hy,hrl];done)))|refine aa (hH) rfl ?_);try simp only[go_sem,simprocAttr,hb,hb0,he,hx,hy,hrl])|with_reducible (first|apply And.intro|refine oD (by kernel_rfl) ?_)|omega)
   refine⟨k+1,by omega, ?_,by omega⟩
   rw[dw]
   refine Le.of ?_ ?_<;>simp[go_sem,simprocAttr,hb,hb0,he,hx,hy,hrl]
end Go.Ab
end
section
set_option maxRecDepth 10000
namespace Go.Ab
open Go.Proofs
def WZ(g:Gr)(both:Bool)(c:Nat->Bool)(a:List Bool):Nat->List Bool
 |0=>a
 |k+1=>if c k&&((WZ g both c a k).getD (tl g k).toNat false||both&&(WZ g both c a k).getD (hd g k).toNat false) then
   ((WZ g both c a k).set (hd g k).toNat true).set (tl g k).toNat (((WZ g both c a k).set (hd g k).toNat true).getD (tl g k).toNat false||both) else WZ g both c a k
def Y7(g:Gr)(both:Bool)(c:Nat->Bool)(a:List Bool):Nat->List Bool
 |0=>a
 |r+1=>WZ g both c (Y7 g both c a r) g.es.length
section
variable {g:Gr} (hm:aM g=true) {both:Bool} {c:Nat->Bool}
include hm
def acY(a:List Bool):Nat:=a.countP id
end
end Go.Ab
end
section
set_option maxHeartbeats 8000000
set_option maxRecDepth 20000
namespace Go.Ab
attribute [local congr] ACall.congr gd.congr Ny.congr vcOps.congr
open Go.Proofs
def abn(n x:Nat):List Bool:=(List.replicate n false).set x true
theorem xR.congr{g:Gr}{both:Bool}{c c':Nat->Bool}(h:∀k,k<g.es.length->c k=c' k){x y:Nat}(hr:xR g both c x y):xR g both c' x y:=by
 induction hr with
 |refl=>exact .refl
 | @fwd i a b _ ih=>exact .fwd a (by rw[<- h i a];exact b) ih
 | @Tb i a b d _ ih=>exact .Tb a (by rw[<- h i a];exact b) d ih
def acZ(m i:Nat):List Bool:=(qj m m).set i false
end Go.Ab
end
section
set_option maxRecDepth 10000
namespace Go.Ab
open Go.Proofs
section
variable {g:Gr} {bs:List Int} (hm:aM g=true) (hb:Cf g bs)
include hm hb
theorem xG{i:Nat}(hi:i<g.es.length):tl (aO g bs) i=tl g i/\hd (aO g bs) i=if(i:Int)∈bs then qo g bs i else hd g i:=by
 have:=de (g:=g) (bs:=bs) (e:=(i:Int)) (by omega) (by omega)
 exact this
theorem xH{k:Nat}(hk:k<bs.length):tl (aO g bs) (g.es.length+k)=g.n+(k:Int)/\hd (aO g bs) (g.es.length+k)=hd g (bs.getD k 0).toNat:=by
 have:=gG (g:=g) (bs:=bs) hk
 exact this
theorem We{c c':Nat->Bool}(h1:∀i:Nat,i<g.es.length->c' i=true->(i:Int)∉bs->c i=true)(h2:∀k:Nat,k<bs.length->c' (g.es.length+k)=true->c (bs.getD k 0).toNat=true){u w:Nat}(hu:u<g.n.toNat)(h:xR (aO g bs) false c' u w):xR g false c u (zm g bs w).toNat:=by
 have hn:=aB hm
 induction h with
 |refl=>
  have:(zm g bs (u:Int)).toNat=u:=by unfold zm;rw[ac9 (by omega)];omega
  rw[this]
  exact .refl
 |Tb _ _ hf=>cases hf
 | @fwd i hi V3 _ ih=>
   rw[dV]at hi
   rcases adj i g.es.length with hil|N0
   ·obtain⟨e1,e2⟩:=xG hm hb hil
    have t:=aT hm hil
    have d:=aU hm hil
    have q1:(zm g bs (((tl (aO g bs) i).toNat:Nat):Int)).toNat=(tl g i).toNat:=by rw[e1];unfold zm;rw[ac9 (by omega)];omega
    rw[q1]at ih
    by_cases hin:(i:Int)∈bs
    ·obtain⟨n1,n2,n3,n4⟩:=c7 hb hin
     rw[e2,ac9 hin,show(((qo g bs (i:Int)).toNat:Nat):Int)=qo g bs (i:Int) by omega,n3]
     exact ih
    ·rw[e2,ac7 hin]
     have q2:(zm g bs (((hd g i).toNat:Nat):Int)).toNat=(hd g i).toNat:=by unfold zm;rw[ac9 (by omega)];omega
     rw[q2]
     exact .fwd hil (h1 i hil V3 hin) ih
   ·obtain⟨k,rfl⟩:∃k,i=g.es.length+k:=⟨i - g.es.length,by omega⟩
    have hk:k<bs.length:=by omega
    obtain⟨e1,e2⟩:=xH hm hb hk
    have hr:=hb.lg _ (az (d:=0) hk)
    have hil:(bs.getD k 0).toNat<g.es.length:=by omega
    have t:=aT hm hil
    have d:=aU hm hil
    have q1:(zm g bs (((tl (aO g bs) (g.es.length+k)).toNat:Nat):Int)).toNat=(tl g (bs.getD k 0).toNat).toNat:=by
     rw[e1];unfold zm;rw[ac7 (by omega),show((((g.n+(k:Int)).toNat:Nat):Int) - g.n).toNat=k by omega];rfl
    rw[q1]at ih
    have q2:(zm g bs (((hd g (bs.getD k 0).toNat).toNat:Nat):Int)).toNat=(hd g (bs.getD k 0).toNat).toNat:=by unfold zm;rw[ac9 (by omega)];omega
    rw[e2,q2]
    exact .fwd hil (h2 k hk V3) ih
theorem Fk{i:Nat}(hi:i<g.es.length):Rc g i=true↔xR g false (xF i) (tl g i).toNat (hd g i).toNat:=by
 have t:=aT hm hi
 have d:=aU hm hi
 unfold Rc
 rw[JI (by omega),Lm]
 exact⟨fun h=>h.2,fun h=>⟨by omega,h⟩⟩
end
theorem rR{i k:Nat} :xF i k=true↔k≠i:=by
 unfold xF
 rw[adJ,adL]
 omega
theorem Fl{g:Gr}(hm:aM g=true){i:Int} :i∈cO g↔∃k:Nat,k<g.es.length/\Rc g k=true/\i=(k:Int):=by
 unfold cO
 rw[ac9 hm]
 simp only[Ih,ada,adI,adk]
 constructor
 ·rintro⟨j,⟨h1,h2⟩,rfl⟩;exact⟨j,h1,h2,rfl⟩
 ·rintro⟨j,h1,h2,rfl⟩;exact⟨j,⟨h1,h2⟩,rfl⟩
theorem Tv{g:Gr} :Cf g (cO g):=by
 unfold cO
 split
 ·refine⟨?_,fun i hi=> ?_⟩
  ·unfold Ih
   exact aex _ (fun a b hab=>by omega) (List.nodup_range.filter _)
  ·simp only[Ih,ada,adI,adk]at hi
   obtain⟨j,⟨h1,_⟩,rfl⟩:=hi
   omega
 ·exact⟨ae0,by simp⟩
theorem Rg{g:Gr}(hm:aM g=true)(hmR:aM (aO g (cO g))=true):cO (aO g (cO g))= []:=by
 have hn:=aB hm
 have hb:=Tv (g:=g)
 refine ae7.2 fun e he=> ?_
 obtain⟨i,hi,ht,rfl⟩:=(Fl hmR).1 he
 have hbR:Cf (aO g (cO g)) []:=⟨ae0,by simp⟩
 rw[Fk hmR hbR hi]at ht
 rw[dV]at hi
 rcases adj i g.es.length with hil|N0
 ·obtain⟨e1,e2⟩:=xG hm hb hil
  have t:=aT hm hil
  have d:=aU hm hil
  by_cases hin:(i:Int)∈cO g
  ·obtain⟨n1,n2,n3,n4⟩:=c7 hb hin
   rw[e2,ac9 hin,e1]at ht
   generalize hw:(qo g (cO g) (i:Int)).toNat=w at ht
   cases ht with
   |refl=>omega
   |Tb _ _ hf=>cases hf
   | @fwd j hj hcj _=>
     have hji:=rR.1 hcj
     rw[dV]at hj
     rcases adj j g.es.length with hjl|WE
     ·have dj:=aU hm hjl
      have f2:=(xG hm hb hjl).2
      by_cases hjn:(j:Int)∈cO g
      ·obtain⟨m1,m2,m3,m4⟩:=c7 hb hjn
       rw[f2,ac9 hjn]at hw
       have:qo g (cO g) (i:Int)=qo g (cO g) (j:Int):=by omega
       rw[this,m4]at n4
       omega
      ·rw[f2,ac7 hjn]at hw
       omega
     ·obtain⟨k,rfl⟩:∃k,j=g.es.length+k:=⟨j - g.es.length,by omega⟩
      have hk:k<(cO g).length:=by omega
      have f2:=(xH hm hb hk).2
      have hr:=hb.lg _ (az (d:=0) hk)
      have dj:=aU hm (i:=((cO g).getD k 0).toNat) (by omega)
      rw[f2]at hw
      omega
  ·refine hin ((Fl hm).2 ⟨i,hil,(Fk hm hb hil).2 ?_,rfl⟩)
   rw[e1,e2,ac7 hin]at ht
   have:=We hm hb (c:=xF i) (fun j _ hj _=>hj) (fun k hk _=>rR.2 fun e=>hin ?_) (by omega) ht
   ·rw[show(zm g (cO g) (((hd g i).toNat:Nat):Int)).toNat=(hd g i).toNat by unfold zm;rw[ac9 (by omega)];omega]at this
    exact this
   ·have hr:=hb.lg _ (az (d:=0) hk)
    have:=az (d:=0) hk
    rw[show(cO g).getD k 0=(i:Int) by omega]at this
    exact this
 ·obtain⟨k,rfl⟩:∃k,i=g.es.length+k:=⟨i - g.es.length,by omega⟩
  have hk:k<(cO g).length:=by omega
  obtain⟨e1,e2⟩:=xH hm hb hk
  have hr:=hb.lg _ (az (d:=0) hk)
  have d:=aU hm (i:=((cO g).getD k 0).toNat) (by omega)
  rw[e1,e2]at ht
  have key:∀w,xR (aO g (cO g)) false (xF (g.es.length+k)) (g.n+(k:Int)).toNat w->w=(g.n+(k:Int)).toNat:=fun w hw=>by
   induction hw with
   |refl=>rfl
   |Tb _ _ hf=>cases hf
   | @fwd j hj hcj _ ih=>
     exfalso
     have hji:=rR.1 hcj
     rw[dV]at hj
     rcases adj j g.es.length with hjl|WE
     ·have tj:=aT hm hjl
      rw[(xG hm hb hjl).1]at ih
      omega
     ·obtain⟨k',rfl⟩:∃k',j=g.es.length+k':=⟨j - g.es.length,by omega⟩
      rw[(xH hm hb (by omega)).1]at ih
      omega
  have:=key _ ht
  omega
end Go.Ab
end
