/- A part of the proof. -/
import Derived.RangeFuncBox
import Derived.RangeFuncLeaves
import Derived.Shelf.Abstract
import Derived.WalkKit
import Derived.OwnWalkIn
import Derived.TacticsInMore
import Derived.LoopNIn
import Derived.LoopIn
import Derived.Test.YtameldglfobjkaaGreatL6P28
set_option linter.unusedSimpArgs false
set_option linter.unusedVariables false
set_option linter.unusedSectionVars false
section
set_option maxRecDepth 10000
namespace Go.Ab
open Go.Proofs
def zj(g:Gr)(e:Int):Prop:=0<=e/\e<g.es.length
section
variable {g:Gr} {d:Dr} (h:yx g d)
include h
theorem dU{e:Int}(he:zj g e):S6 (ff d e):=by
 have h0:=he.1;have h1:=he.2
 exact h.I2 e.toNat (by omega)
theorem jx{e:Int}(he:zj g e):2<=(ff d e).length:=(h.len _ (iN h he.1 he.2)).1
theorem tg{e:Int}(he:zj g e):(ff d e).getD 0 (0,0)=eD d (bt g e):=by
 have h0:=he.1;have h1:=he.2
 exact h.fst e.toNat (by omega)
theorem z8{e:Int}(he:zj g e):(ff d e).getD ((ff d e).length - 1) (0,0)=eD d (bA g e):=by
 have h0:=he.1;have h1:=he.2
 exact h.GL e.toNat (by omega)
theorem V7{e:Int}(he:zj g e):(eD d (bt g e)).2<(eD d (bA g e)).2:=by
 have:=E8 (dU h he) (i:=0) (j:=(ff d e).length - 1) (by have:=jx h he;omega) (by have:=jx h he;omega)
 rwa [tg h he,z8 h he]at this
theorem V8{e:Int}(he:zj g e):rC (ff d e) (eD d (bt g e)).2 (eD d (bt g e)).1:=by
 have hl:=jx h he
 refine⟨0,by omega, ?_⟩
 have:=dU h he 0 (by omega)
 rw[<- tg h he]
 exact dr this eV
theorem Fb{e:Int}(he:zj g e):rC (ff d e) (eD d (bA g e)).2 (eD d (bA g e)).1:=by
 have hl:=jx h he
 obtain⟨m,hm⟩:∃m,(ff d e).length=m+2:=⟨(ff d e).length - 2,by omega⟩
 refine⟨m,by omega, ?_⟩
 have:=dU h he m (by omega)
 rw[<- z8 h he,hm,show m+2 - 1=m+1 by omega]
 exact dr this (by rw[fV];exact eV)
theorem nt{e y:Int}{X:Rat}(he:zj g e)(hX:rC (ff d e) y X):(eD d (bt g e)).2<=y/\y<=(eD d (bA g e)).2:=by
 obtain⟨j,hj,hc⟩:=hX
 have k1:=hc.lo
 have k2:=hc.hi
 have k3:((ff d e).getD j (0,0)).2<=y:=by exact_mod_cast k1
 have k4:y<=((ff d e).getD (j+1) (0,0)).2:=by exact_mod_cast k2
 have k5:=BY (dU h he) (afB j) (by omega)
 have k6:=BY (dU h he) (show j+1<=(ff d e).length - 1 by omega) (by omega)
 rw[tg h he]at k5
 rw[z8 h he]at k6
 omega
theorem Ca{e y:Int}(he:zj g e)(h0:(eD d (bt g e)).2<=y)(h1:y<=(eD d (bA g e)).2):∃X,rC (ff d e) y X:=
 VR (dU h he) (jx h he) (by rw[tg h he];exact h0) (by rw[z8 h he];exact h1)
theorem th{e:Int}(he:zj g e){j:Nat}(hj:j<(ff d e).length):bC ((ff d e).getD j (0,0)):=h.qx _ (iN h he.1 he.2) _ (az hj)
theorem Hu{i k:Int}(hi:zj g i)(hk:zj g k)(hlt:k<i){t X:Rat}(a:rC (ff d i) t X)(b:rC (ff d k) t X):
 ∃v:Int,(v=bt g i\/v=bA g i)/\(v=bt g k\/v=bA g k)/\t=((eD d v).2:Int):=by
 obtain⟨j,hj,ca⟩:=a
 obtain⟨m,hm,cb⟩:=b
 have i0:=hi.1;have i1:=hi.2;have k0:=hk.1;have k1:=hk.2
 have uj:=dU h hi j hj
 have um:=dU h hk m hm
 have hb:=h.apart i.toNat k.toNat (by omega) (by omega) _ (s6 (l:=ff d i) hj) _ (s6 (l:=ff d k) hm)
 have hM:=S5 uj um ca cb
 have hV:fF ((ff d i).getD j (0,0)) ((ff d i).getD (j+1) (0,0)) ((ff d k).getD m (0,0)) ((ff d k).getD (m+1) (0,0))=c8 ((ff d i).getD j (0,0)) ((ff d i).getD (j+1) (0,0)) ((ff d k).getD m (0,0)) ((ff d k).getD (m+1) (0,0)):=by
  rw[jX,ac9 ⟨th h hi (by omega),th h hi hj,th h hk (by omega),th h hk hm⟩]
 unfold dH at hb
 simp only[hV,aep,adL,aeS,afE,adQ,adf]at hb
 obtain⟨hb1,hb2⟩:=hb
 rcases hb2 with hb2|⟨p,hp,o1,o2⟩
 ·omega
 ·unfold gW uN at hp
  simp only[List.take_succ_cons,List.take_zero,ada,adI,adv,aen,or_false,MF,adK,adb]at hp
  obtain⟨v,⟨v1,v2⟩,rfl⟩:=hp
  have o1':iz ((ff d i).getD j (0,0)) ((ff d i).getD (j+1) (0,0)) (eD d v)=true:=by unfold nG at o1;rw[adf]at o1;exact o1.2
  have o2':iz ((ff d k).getD m (0,0)) ((ff d k).getD (m+1) (0,0)) (eD d v)=true:=by unfold nG at o2;rw[adf]at o2;exact o2.2
  have da:=dr uj o1'
  have db:=dr um o2'
  refine⟨v,v1,v2, ?_⟩
  rcases(show t<((eD d v).2:Int)\/t=((eD d v).2:Int)\/((eD d v).2:Int)<t by grind) with hlt|he|hlt
  ·have:=Hf uj um ca cb da db hlt;omega
  ·exact he
  ·have:=Hf uj um da db ca cb hlt;omega
theorem Aa{i k:Int}(hi:zj g i)(hk:zj g k)(hne:i≠k){t X:Rat}(a:rC (ff d i) t X)(b:rC (ff d k) t X):
 ∃v:Int,(v=bt g i\/v=bA g i)/\(v=bt g k\/v=bA g k)/\t=((eD d v).2:Int):=by
 rcases Int.lt_or_gt_of_ne hne with hlt|hlt
 ·obtain⟨v,v1,v2,v3⟩:=Hu h hk hi hlt b a
  exact⟨v,v2,v1,v3⟩
 ·exact Hu h hi hk hlt a b
theorem Q0{y c:Int}{t:Rat}(h1:(y:Rat)<t)(h2:t<((y+1:Int):Rat))(e:t=(c:Rat)):False:=by
 rw[e]at h1 h2
 have h3:y<c:=by exact_mod_cast h1
 have h4:c<y+1:=by exact_mod_cast h2
 omega
theorem DF{i k:Int}(hi:zj g i)(hk:zj g k)(hne:i≠k){y:Int}{X Z:Rat}(a:rC (ff d i) y X)(b:rC (ff d k) y Z)(hlt:X<Z):
 ∀n:Nat,∀X2 Z2:Rat,rC (ff d i) (y+n:Int) X2->rC (ff d k) (y+n:Int) Z2->X2<=Z2/\(X2=Z2->y+n=(eD d (bA g i)).2)
 |0,X2,Z2,a2,b2=>by
  rw[show y+((0:Nat):Int)=y by omega]at a2 b2
  obtain rfl:=jw (dU h hi) a a2
  obtain rfl:=jw (dU h hk) b b2
  exact⟨agi hlt,fun e=>by grind⟩
 |n+1,X2,Z2,a2,b2=>by
  have ra:=nt h hi a
  have rb:=nt h hk b
  have ra2:=nt h hi a2
  have rb2:=nt h hk b2
  have e1:y+((n+1:Nat):Int)=y+n+1:=by omega
  rw[e1]at a2 b2 ra2 rb2 ⊢
  obtain⟨X1,a1⟩:=Ca h hi (y:=y+n) (by omega) (by omega)
  obtain⟨Z1,b1⟩:=Ca h hk (y:=y+n) (by omega) (by omega)
  have ih:=DF hi hk hne a b hlt n X1 Z1 a1 b1
  have hs:X1<Z1:=by
   have hle:=ih.1
   rcases(show X1<Z1\/X1=Z1 by grind) with h1|h1
   ·exact h1
   ·have:=ih.2 h1;omega
  refine⟨afD.1 fun hgt=> ?_,fun e=> ?_⟩
  ·obtain⟨t,W,t1,t2,w1,w2⟩:=Hg (dU h hi) (dU h hk) (jx h hi) (jx h hk) a1 b1 a2 b2 hs hgt
   obtain⟨v,_,_,v3⟩:=Aa h hi hk hne w1 w2
   exact Q0 h t1 t2 v3
  ·rw[<- e]at b2
   obtain⟨v,v1,_,v3⟩:=Aa h hi hk hne a2 b2
   have v4:y+n+1=(eD d v).2:=by exact_mod_cast v3
   rcases v1 with rfl|rfl
   ·omega
   ·exact v4
theorem DG{i k:Int}(hi:zj g i)(hk:zj g k)(hne:i≠k){y:Int}{X Z:Rat}(a:rC (ff d i) y X)(b:rC (ff d k) y Z)(hlt:X<Z):
 ∀n:Nat,∀X2 Z2:Rat,rC (ff d i) (y - n:Int) X2->rC (ff d k) (y - n:Int) Z2->X2<=Z2/\(X2=Z2->y - n=(eD d (bt g i)).2)
 |0,X2,Z2,a2,b2=>by
  rw[show y - ((0:Nat):Int)=y by omega]at a2 b2
  obtain rfl:=jw (dU h hi) a a2
  obtain rfl:=jw (dU h hk) b b2
  exact⟨agi hlt,fun e=>by grind⟩
 |n+1,X2,Z2,a2,b2=>by
  have ra:=nt h hi a
  have rb:=nt h hk b
  have ra2:=nt h hi a2
  have rb2:=nt h hk b2
  obtain⟨w,hw⟩:∃w:Int,y - ((n+1:Nat):Int)=w:=⟨_,rfl⟩
  have e1:y - (n:Int)=w+1:=by omega
  rw[hw]at a2 b2 ra2 rb2 ⊢
  obtain⟨X1,a1⟩:=Ca h hi (y:=y - n) (by omega) (by omega)
  obtain⟨Z1,b1⟩:=Ca h hk (y:=y - n) (by omega) (by omega)
  have ih:=DG hi hk hne a b hlt n X1 Z1 a1 b1
  have hs:X1<Z1:=by
   have hle:=ih.1
   rcases(show X1<Z1\/X1=Z1 by grind) with h1|h1
   ·exact h1
   ·have:=ih.2 h1;omega
  rw[e1]at a1 b1
  refine⟨afD.1 fun hgt=> ?_,fun e=> ?_⟩
  ·obtain⟨t,W,t1,t2,w1,w2⟩:=Hg (dU h hk) (dU h hi) (jx h hk) (jx h hi) b2 a2 b1 a1 hgt hs
   obtain⟨v,_,_,v3⟩:=Aa h hi hk hne w2 w1
   exact Q0 h t1 t2 v3
  ·rw[<- e]at b2
   obtain⟨v,v1,_,v3⟩:=Aa h hi hk hne a2 b2
   have v4:w=(eD d v).2:=by exact_mod_cast v3
   rcases v1 with rfl|rfl
   ·exact v4
   ·omega
theorem rN{i k:Int}(hi:zj g i)(hk:zj g k){y z:Int}{X Z X2 Z2:Rat}(a:rC (ff d i) y X)(b:rC (ff d k) y Z)(hlt:X<Z)(a2:rC (ff d i) z X2)(b2:rC (ff d k) z Z2):X2<=Z2:=by
 have hne:i≠k:=fun e=>by
  subst e
  have:=jw (dU h hi) a b
  grind
 rcases agu y z with hyz|hyz
 ·obtain⟨n,hn⟩:∃n:Nat,z=y+n:=⟨(z - y).toNat,by omega⟩
  subst hn
  exact(DF h hi hk hne a b hlt n X2 Z2 a2 b2).1
 ·obtain⟨n,hn⟩:∃n:Nat,z=y - n:=⟨(y - z).toNat,by omega⟩
  subst hn
  exact(DG h hi hk hne a b hlt n X2 Z2 a2 b2).1
theorem Fe{e v:Int}(he:zj g e)(hv:fN g v)(n1:v≠bt g e)(n2:v≠bA g e):¬rC (ff d e) (eD d v).2 (eD d v).1:=by
 rintro⟨j,hj,hc⟩
 have h0:=he.1;have h1:=he.2;have v0:=hv.1;have v1:=hv.2
 have hnp:=h.np
 have hf:=h.free e.toNat v.toNat (by omega) (by omega) (by rw[afj v0];exact n1) (by rw[afj v0];exact n2)
 unfold SE at hf
 rw[adU]at hf
 refine hf _ (s6 (l:=ff d e) hj) ?_
 have Cs:=QF (dU h he j hj) hc
 have hP:bC (eD d v):=h.Zn _ (az (by omega))
 show nG ((ff d e).getD j (0,0)) ((ff d e).getD (j+1) (0,0)) (eD d v)=true
 unfold nG
 rw[Cs,ac6 ⟨th h he (by omega),th h he hj,hP⟩]
 rfl
end
def LQ(d:Dr)(i k:Int):Prop:=∃(y:Int) (X Z:Rat),rC (ff d i) y X/\rC (ff d k) y Z/\X<Z
section
variable {g:Gr} {d:Dr} {p:Pl} (h:yx g d) (hp:ug g d p)
include hp
theorem ug.ok:bq g p:=⟨hp.len,hp.perm,hp.outs⟩
theorem ug.lt{j k:Nat}(hj:j<k)(hk:k<g.n.toNat):JM d (aq p j) (aq p k):=by
 have hl:=aI hp.ok
 have:=aeh.1 hp.sort j k (by omega) (by omega) hj
 rw[aq,aq,aas,aas,acF (by omega),acF (by omega)]
 exact this
include h
theorem Hv{v:Int}(hv:fN g v){k:Nat}(hn:v∉p.ord.take k):∃l,k<=l/\l<g.n.toNat/\aq p l=v:=by
 obtain⟨l,hl,e⟩:=cq hp.ok hv.1 hv.2
 refine⟨l,agn fun hlt=>hn ?_,hl,e⟩
 rw[<- e];exact yA hlt (by rw[aI hp.ok];exact hl)
theorem mF{k:Nat}(hk:k<g.n.toNat){a:Int}(ha:nL g p k a):zj g a/\(∃X,rC (ff d a) (eD d (aq p k)).2 X)/\aq p k≠bt g a:=by
 have hm:=ah h.AA
 have he:zj g a:=⟨ha.e0,ha.e1⟩
 have ht:fN g (bt g a):=aT hm (i:=a.toNat) (by have:=ha.e0;have:=ha.e1;omega)
 have hh:fN g (bA g a):=aU hm (i:=a.toNat) (by have:=ha.e0;have:=ha.e1;omega)
 obtain⟨j,j1,_,j3⟩:=lG ha.low
 obtain⟨l,l1,l2,l3⟩:=Hv h hp hh ha.top
 have c1:=hp.lt j1 hk
 rw[j3]at c1
 have c2:(eD d (aq p k)).2<=(eD d (bA g a)).2:=by
  rcases adj k l with h1|h1
  ·have:=hp.lt h1 l2
   rw[l3]at this
   unfold JM at this
   omega
  ·rw[<- l3,show l=k by omega];omega
 refine⟨he,Ca h he (by unfold JM at c1;omega) c2,fun e=>yC hp.ok hk (e ▸ ha.low)⟩
theorem xC{k:Nat}(hk:k<g.n.toNat){c:Int}(hc:c∈bE p (aq p k)):zj g c/\rC (ff d c) (eD d (aq p k)).2 (eD d (aq p k)).1:=by
 obtain⟨x0,x1⟩:=aD hp.ok hk
 obtain⟨⟨i0,i1⟩,i2⟩:=aX.1 ((aW hp.ok x0 x1).mem_iff.1 hc)
 refine⟨⟨i0,i1⟩, ?_⟩
 have:=V8 h (e:=c) ⟨i0,i1⟩
 rwa [show bt g c=aq p k from i2]at this
theorem Hw:Ho g p fun _=>LQ d:=by
 have hm:=ah h.AA
 refine⟨fun e e0 e1 k hk ek=> ?_,fun k hk a b c ha hb hc ea ec r1 r2=> ?_,fun k hk a c ha hc na nc r=>r,fun k hk a b c ha hb na eb hc r=> ?_,fun k hk a b c ha hb na eb hc r=> ?_,fun k hk=> ?_⟩
 ·have u1:=V7 h (e:=e) ⟨e0,e1⟩
  refine adl fun hn=> ?_
  obtain⟨l,l1,l2,l3⟩:=Hv h hp (aT hm (i:=e.toNat) (by omega)) hn
  have l3:aq p l=bt g e:=l3
  rcases adj k l with h1|h1
  ·have:=hp.lt h1 l2
   rw[l3,ek]at this
   unfold JM at this;omega
  ·rw[<- l3, <- ek,show l=k by omega]at u1
   omega
 ·obtain⟨ia,_,_⟩:=mF h hp hk ha
  obtain⟨ib,⟨X,hX⟩,nb⟩:=mF h hp hk hb
  obtain⟨ic,_,_⟩:=mF h hp hk hc
  refine adl fun hn=>Fe h ib (aD hp.ok hk) nb (Ne.symm hn) ?_
  obtain⟨y1,X1,Z1,a1,b1,l1⟩:=r1
  obtain⟨y2,X2,Z2,a2,b2,l2⟩:=r2
  have ta:=Fb h ia
  have tc:=Fb h ic
  rw[ea]at ta
  rw[ec]at tc
  have q1:=rN h ia ib a1 b1 l1 ta hX
  have q2:=rN h ib ic a2 b2 l2 hX tc
  have:X=((eD d (aq p k)).1:Int):=by grind
  rwa [this]at hX
 ·obtain⟨ia,⟨X,hX⟩,nb⟩:=mF h hp hk ha
  obtain⟨ib,_,_⟩:=mF h hp hk hb
  obtain⟨y1,X1,Z1,a1,b1,l1⟩:=r
  have tb:=Fb h ib
  rw[eb]at tb
  have q1:=rN h ia ib a1 b1 l1 hX tb
  have q2:X≠((eD d (aq p k)).1:Int):=fun e=>Fe h ia (aD hp.ok hk) nb (Ne.symm na) (e ▸ hX)
  exact⟨_,_,_,hX,(xC h hp hk hc).2,by grind⟩
 ·obtain⟨ia,⟨X,hX⟩,nb⟩:=mF h hp hk ha
  obtain⟨ib,_,_⟩:=mF h hp hk hb
  obtain⟨y1,X1,Z1,b1,a1,l1⟩:=r
  have tb:=Fb h ib
  rw[eb]at tb
  have q1:=rN h ib ia b1 a1 l1 tb hX
  have q2:X≠((eD d (aq p k)).1:Int):=fun e=>Fe h ia (aD hp.ok hk) nb (Ne.symm na) (e ▸ hX)
  exact⟨_,_,_,(xC h hp hk hc).2,hX,by grind⟩
 ·obtain⟨x0,x1⟩:=aD hp.ok hk
  have hs:=hp.Lo (aq p k).toNat (by omega)
  rw[show(((aq p k).toNat:Nat):Int)=aq p k by omega]at hs
  refine aeT (R:=mD d (aq p k)) (fun {i c} hi hc r=> ?_) hs
  have hit:bt g i=aq p k:=(aX.1 ((aW hp.ok x0 x1).mem_iff.1 hi)).2
  have hct:bt g c=aq p k:=(aX.1 ((aW hp.ok x0 x1).mem_iff.1 hc)).2
  have ii:=(xC h hp hk hi).1
  have ic:=(xC h hp hk hc).1
  have u1:=u6 h ii.1 ii.2 hit
  have u2:=u6 h ic.1 ic.2 hct
  have f1:=tg h ii
  have f2:=tg h ic
  rw[hit]at f1
  rw[hct]at f2
  have n1:=jx h ii
  have n2:=jx h ic
  unfold mD yy tm at r
  have hA:(ff d i).getD 1 (0,0)=jv d i:=rfl
  have hB:(ff d c).getD 1 (0,0)=jv d c:=rfl
  generalize eD d (aq p k)=P at*
  generalize jv d i=A at*
  generalize jv d c=B at*
  obtain⟨y,hy⟩:∃y,y=min A.2 B.2:=⟨_,rfl⟩
  obtain⟨X,hX⟩:=zh (p:=P) (q:=A) (y:=(y:Rat)) u1 (by exact_mod_cast (show P.2<=y by omega)) (by exact_mod_cast (show y<=A.2 by omega))
  obtain⟨Z,hZ⟩:=zh (p:=P) (q:=B) (y:=(y:Rat)) u2 (by exact_mod_cast (show P.2<=y by omega)) (by exact_mod_cast (show y<=B.2 by omega))
  refine⟨y,X,Z,⟨0,by omega, ?_⟩,⟨0,by omega, ?_⟩, ?_⟩
  ·rw[f1];rw[<- hA]at hX;exact hX
  ·rw[f2];rw[<- hB]at hZ;exact hZ
  ·have p1:(0:Rat)<(A.2:Rat) - P.2:=by
    have:(P.2:Rat)<A.2:=by exact_mod_cast u1
    grind
   have p2:(0:Rat)<(B.2:Rat) - P.2:=by
    have:(P.2:Rat)<B.2:=by exact_mod_cast u2
    grind
   have p3:(0:Rat)<(y:Rat) - P.2:=by
    have:(P.2:Rat)<y:=by exact_mod_cast (show P.2<y by omega)
    grind
   have p4:(0:Rat)<((B.1:Rat) - P.1)*(A.2 - P.2) - (B.2 - P.2)*(A.1 - P.1):=by exact_mod_cast r
   have e1:=hX.eq
   have e2:=hZ.eq
   have e:(Z - X)*(((A.2:Rat) - P.2)*(B.2 - P.2))=((y:Rat) - P.2)*(((B.1:Rat) - P.1)*(A.2 - P.2) - (B.2 - P.2)*(A.1 - P.1)):=by grind
   have q1:=aeJ p3 p4
   have q2:=aeJ p1 p2
   refine Rat.not_le.1 fun hn=> ?_
   have:=gn (show Z - X<=0 by grind) (agi q2)
   grind
theorem Hy:aG g p:=Dz h.AA hp.ok (Hw h hp)
end
def Yy(f:Pt->Pt)(d:Dr):Dr:=⟨d.pts.map f,d.ls.map fun l=>l.map f⟩
structure Aff (f:Pt->Pt):Prop where
 x:∃c e:Int,c≠0/\∀a,(f a).1=c*a.1+e
 y:∃c e:Int,0<c/\∀a,(f a).2=c*a.2+e
section
variable {f:Pt->Pt} (A:Aff f)
include A
def acW(f:Pt->Pt)(l:List Int):List Int:=key (f (l.getD 0 0,l.getD 1 0))
end
theorem Ac{p:Pt}(h:bC p):nF p=false:=by rw[sD,ac6 h];rfl
section
variable {f:Pt->Pt} (A:Aff f) {g:Gr} {d:Dr} (hP:yx g d) (i1:∀q∈d.pts,bC (f q)) (i2:∀l∈d.ls,∀q∈l,bC (f q))
include A hP i1 i2
end
def acX(by_ p:Pt):Pt:=(3*p.1+by_.1,5*p.2+by_.2)
def Yz(p:Pt):Pt:=(-p.1,p.2)
def YA(l:List Int):Nat->List (List Int × Int)
 |0=> []
 |j+1=>zo (YA l j) [l.getD j 0] (gO (YA l j) [l.getD j 0]+1)
theorem Te{ak:List (List Int × Int)}{k:List Int}{v:Int}(hn:(ak.map (·.1)).Nodup)(h:(k,v)∈ak):gO ak k=v:=by
 unfold gO
 cases hf:cA ak k with
 |none=>exact absurd rfl (lR hf _ h)
 |some i=>
  obtain⟨p,hp,e⟩:=fQ hf
  obtain⟨j,hj,e2⟩:=adr.1 h
  have hi:=(adh.1 hp).1
  have:i=j:=by
   have h1:(ak.map (·.1))[i]'(by simpa using hi)=(ak.map (·.1))[j]'(by simpa using hj):=by
    rw[afY,afY,e2]
    have:=(adh.1 hp).2
    rw[this,e]
   exact(agl hn).1 h1
  subst this
  simp only[hp,Option.map_some,Option.getD_some]
  have h2:=(adh.1 hp).2
  rw[e2]at h2
  rw[<- h2]
theorem Nv{ak:List (List Int × Int)}{k:List Int}(h:∀p∈ak,p.1≠k):gO ak k=0:=by
 unfold gO
 cases hf:cA ak k with
 |none=>rfl
 |some i=>
  obtain⟨p,hp,e⟩:=fQ hf
  exact absurd e (h p (adM hp))
theorem qb{ak:List (List Int × Int)}{i:Nat}{v:Int} :(mL ak i v).map (·.1)=ak.map (·.1):=by
 refine adY fun j=> ?_
 rw[adm,adm,mL,aff]
 cases ak[j]? with
 |none=>rfl
 |some p=>by_cases h:i=j<;>simp[h]
theorem Hz{ak:List (List Int × Int)}{i:Nat}{v:Int}{p:List Int × Int}(h:p∈mL ak i v):p∈ak\/p.2=v:=by
 obtain⟨j,hj,e⟩:=adr.1 h
 have h1:(mL ak i v)[j]? =some p:=by rw[acF hj,e]
 rw[mL,aff]at h1
 cases hq:ak[j]? with
 |none=>rw[hq]at h1;simp at h1
 |some q=>
  rw[hq]at h1
  by_cases hij:i=j
  ·simp[hij]at h1;right;rw[<- h1]
  ·simp[hij]at h1;left;rw[<- h1];exact adM hq
structure HA (ak:List (List Int × Int)) (j:Nat) (S:Int->Prop):Prop where
 nd:(ak.map (·.1)).Nodup
 mem:∀k,k∈ak.map (·.1)↔∃x,S x/\k= [x]
 lg:∀p∈ak,1<=p.2/\p.2<=j
theorem HA.val{ak:List (List Int × Int)}{j:Nat}{S:Int->Prop}(h:HA ak j S)(x:Int):0<=gO ak [x]/\gO ak [x]<=j/\(S x->1<=gO ak [x]):=by
 by_cases hx:S x
 ·have:=(h.mem [x]).2 ⟨x,hx,rfl⟩
  obtain⟨p,hp,e⟩:=ada.1 this
  have hr:=h.lg p hp
  have hv:gO ak [x]=p.2:=Te h.nd (by rw[<- e];exact hp)
  rw[hv]
  exact⟨by omega,hr.2,fun _=>hr.1⟩
 ·have:gO ak [x]=0:=Nv fun p hp e=>by
   obtain⟨y,hy,e2⟩:=(h.mem p.1).1 (ada.2 ⟨p,hp,rfl⟩)
   rw[e]at e2
   have:x=y:=by injection e2
   subst this;exact hx hy
  rw[this]
  exact⟨by omega,by omega,fun h=>absurd h hx⟩
theorem HA.step{ak:List (List Int × Int)}{j:Nat}{S:Int->Prop}(h:HA ak j S)(x:Int):HA (zo ak [x] (gO ak [x]+1)) (j+1) (fun y=>S y\/y=x):=by
 obtain⟨v1,v2,v3⟩:=h.val x
 unfold zo eH jF
 cases hf:cA ak [x]with
 |some i=>
  simp only
  obtain⟨p,hp,e⟩:=fQ hf
  have hx:S x:=by
   obtain⟨y,hy,e2⟩:=(h.mem p.1).1 (ada.2 ⟨p,adM hp,rfl⟩)
   rw[e]at e2
   have:x=y:=by injection e2
   subst this;exact hy
  refine⟨by rw[qb];exact h.nd,fun k=> ?_,fun q hq=> ?_⟩
  ·rw[qb,h.mem]
   constructor
   ·rintro⟨y,hy,e⟩;exact⟨y, .inl hy,e⟩
   ·rintro⟨y,hy|hy,e⟩
    ·exact⟨y,hy,e⟩
    ·subst hy;exact⟨y,hx, ‹k= [y]›⟩
  ·rcases Hz hq with h1|h1
   ·have:=h.lg q h1;omega
   ·omega
 |none=>
  simp only
  have hnk:([x]:List Int)∉ak.map (·.1):=fun hm=>by
   obtain⟨p,hp,e⟩:=ada.1 hm
   exact lR hf p hp e
  refine⟨?_,fun k=> ?_,fun q hq=> ?_⟩
  ·rw[qb,ads,adt]
   exact⟨h.nd,by simp,fun a ha b hb e=>by
    simp only[adC,adO,adu]at hb
    subst hb;subst e;exact hnk ha⟩
  ·rw[qb,ads,ac8,h.mem]
   simp only[adC,adO,adu]
   constructor
   ·rintro(⟨y,hy,e⟩|e)
    ·exact⟨y, .inl hy,e⟩
    ·exact⟨x, .inr rfl,e⟩
   ·rintro⟨y,hy|rfl,e⟩
    ·exact .inl ⟨y,hy,e⟩
    ·exact .inr e
  ·rcases Hz hq with h1|h1
   ·rw[ac8,adu]at h1
    rcases h1 with h1|rfl
    ·have:=h.lg q h1;omega
    ·
     exfalso
     obtain⟨i,hi,e⟩:=adr.1 hq
     have h2:(mL (ak++ [([x],0)]) ak.length (gO ak [x]+1))[i]? =some ([x],0):=by rw[acF hi,e]
     rw[mL,aff]at h2
     by_cases hie:ak.length=i
     ·subst hie;simp at h2;omega
     ·simp only[hie,if_false]at h2
      rcases adj i ak.length with h3|h3
      ·rw[adx h3]at h2
       have h4:(([x],0):List Int × Int)∈ak:=by
        simp at h2;exact adM h2
       exact hnk (ada.2 ⟨_,h4,rfl⟩)
      ·rw[ado (by simp;omega)]at h2;simp at h2
   ·omega
section
variable {g:Gr} {p:Pl} (hrun:aG g p) (hI:q8 g=true) (h0:0<g.es.length) (YB:g.es.length<=60)
include hrun hI h0 YB
end
end Go.Ab
end
section
namespace Go.Ab
set_option maxRecDepth 10000
set_option linter.unusedSectionVars false
variable {P:PS}
section
variable (h:P.Ok)
include h
theorem Tf{j:Nat}(hj:j<P.m){x:Int}(hx:x∈(P.st j).D):x∈(P.st (j+1)).D:=by
 obtain⟨B,hB,hc⟩:=mX h hj
 rcases hc with ⟨A',h1,h2,h3⟩|⟨h1,h3⟩
 ·rw[h3];exact ac8.2 (.inl hx)
 ·rw[h3];exact hx
theorem JR{j:Nat}{x:Int} :∀ {d:Nat},j+d<=P.m->x∈(P.st j).D->x∈(P.st (j+d)).D
 |0,_,hx=>hx
 |d+1,hj,hx=>Tf h (j:=j+d) (by omega) (JR (d:=d) (by omega) hx)
theorem YC{i j:Nat}(hij:i<=j)(hj:j<=P.m){x:Int}(hx:x∈(P.st i).D):x∈(P.st j).D:=by
 obtain⟨d,rfl⟩:=afz hij
 exact JR h hj hx
theorem Ff{j:Nat}(hj:j<P.m):P.tl (P.sh j)∈(P.st j).D:=by
 obtain⟨B,hB⟩:=js h hj
 obtain⟨k,hr⟩:=pV h (aga hj)
 exact((h.eW hr (P.sh j)).1 (by rw[hB];simp)).2.1
theorem V9{j:Nat}(hj:j<=P.m){e:Int}(he:P.E e)(hh:P.hd e∈(P.st j).D):P.tl e∈(P.st j).D:=by
 have h1:e∈P.xQ j:=((P.inv h j hj).sh e).2 ⟨he, .inr hh⟩
 obtain⟨i,hi,e1⟩:=PS.wZ.1 h1
 have:=Ff h (j:=i) (by omega)
 rw[e1]at this
 exact YC h (aga hi) hj this
theorem YD{j:Nat}(hj:j<=P.m){x y:Int}(hr:P.gD x y)(hy:y∈(P.st j).D):x∈(P.st j).D:=by
 induction hr with
 |refl=>exact hy
 |step _ he ih=>exact ih (V9 h hj he hy)
end
def PS.Zy(P:PS)(a b:Int):Prop:=∃j,j<=P.m/\a∈(P.st j).D/\b∉(P.st j).D
def PS.Th(P:PS)(L R:Int->Int)(a b:Int):Prop:=∃u e f v,P.outs a=u++ [e]/\P.outs b=f::v/\P.Lp L R (R e) (L f)
section
variable (h:P.Ok) {L R:Int->Int} {f0 f1:Int} {low:Int->Int} (F:P.fM L R f0 f1 low)
include h F
theorem Q1{x e e':Int}(hx:x≠P.src)(he:e∈P.outs x)(he':e'∈P.outs x){i t k:Nat}(hi:P.sh i=e)(hk:P.sh k=e')(hkm:k<P.m)(h1:i<=t)(h2:t<=k):P.gD x (P.tl (P.sh t)):=by
 obtain⟨hE,ht⟩:=(h.bI x e).1 he
 obtain⟨hE',ht'⟩:=(h.bI x e').1 he'
 have N4:x∈(P.st i).D:=by have:=Ff h (j:=i) (by omega);rwa [hi,ht]at this
 obtain⟨q,A',B,h3,h4,h5,h6,h7,h8,h9⟩:=s9 h F hx (show i<=P.m by omega) N4
 obtain⟨v,w,hv⟩:=aeW he'
 have hB:(P.st (q+1)).B=v++e'::(w++B):=by rw[h9,hv];simp
 obtain⟨Z,hZ,hZ2⟩:=BD h F hkm (show q<k by omega) hB (fun z hz=>((h.bI x z).1 (by rw[hv];simp[hz])).2) ht' hk (t:=t) (by omega) h2
 by_cases Db:t=k
 ·subst Db;rw[hk,ht'];exact .refl
 ·cases Z with
  |nil=>
   exfalso
   obtain⟨B2,CI⟩:=js h (show t<P.m by omega)
   rw[hZ]at CI
   have:P.sh t=e':=by simpa using(af4 CI).1.symm
   exact Db (yj h (by omega) hkm (this.trans hk.symm))
  |cons z Z=>
   obtain⟨B2,CI⟩:=js h (show t<P.m by omega)
   rw[hZ]at CI
   have:P.sh t=z:=(af4 CI).1.symm
   rw[this]
   exact hZ2 z (by simp)
theorem Ad{a e:Int}(he:e∈P.outs a){y:Int}(hr:P.gD (P.hd e) y):P.gD a y:=by
 obtain⟨hE,ht⟩:=(h.bI a e).1 he
 have:P.gD a (P.tl e):=by rw[ht];exact .refl
 exact(PS.gD.step this hE).trans hr
theorem Nw{a b:Int}(ha:a≠P.src)(hb:b≠P.src)(hab:¬P.gD a b)(hba:¬P.gD b a)(Zz:P.outs a≠ [])(Kl:P.outs b≠ []):P.Th L R a b\/P.Th L R b a:=by
 obtain⟨u,e,hu⟩:=iA Zz
 obtain⟨e',u',xN⟩:=jZ Zz
 obtain⟨v,f',hv⟩:=iA Kl
 obtain⟨f,v',NT⟩:=jZ Kl
 have m1:e∈P.outs a:=by rw[hu];simp
 have m2:e'∈P.outs a:=by rw[xN];simp
 have m3:f'∈P.outs b:=by rw[hv];simp
 have m4:f∈P.outs b:=by rw[NT];simp
 obtain⟨E1,t1⟩:=(h.bI a e).1 m1
 obtain⟨E2,t2⟩:=(h.bI a e').1 m2
 obtain⟨E3,t3⟩:=(h.bI b f').1 m3
 obtain⟨E4,t4⟩:=(h.bI b f).1 m4
 have hne:a≠b:=fun e1=>hab (e1 ▸ .refl)
 have c1:P.Lp L R (R e) (L f)\/P.Lp L R (R f) (L e):=by
  rcases Dl h F E1 E4 (fun e1=>hne (by rw[<- t1, <- t4,e1])) with g|g|g|g
  ·rw[t4]at g;exact absurd (Ad h F m1 g) hab
  ·rw[t1]at g;exact absurd (Ad h F m4 g) hba
  ·exact .inl g
  ·exact .inr g
 have c2:P.Lp L R (R e') (L f')\/P.Lp L R (R f') (L e'):=by
  rcases Dl h F E2 E3 (fun e1=>hne (by rw[<- t2, <- t3,e1])) with g|g|g|g
  ·rw[t3]at g;exact absurd (Ad h F m2 g) hab
  ·rw[t2]at g;exact absurd (Ad h F m3 g) hba
  ·exact .inl g
  ·exact .inr g
 rcases c1 with c1|c1
 ·exact .inl ⟨u,e,f,v',hu,NT,c1⟩
 rcases c2 with c2|c2
 rotate_left
 ·exact .inr ⟨v,f',e',u',hv,xN,c2⟩
 exfalso
 obtain⟨p1,q1,r1,r2,r3,r4⟩:=oy h F E4 E1 c1
 obtain⟨p2,q2,s1,s2,s3,s4⟩:=oy h F E2 E3 c2
 rcases adj p1 p2 with h1|h1
 ·have:=Q1 h F hb m4 m3 r3 s4 s2 (t:=p2) (by omega) (by omega)
  rw[s3,t2]at this;exact hba this
 ·have:=Q1 h F ha m2 m1 s3 r4 r2 (t:=p1) (by omega) (by omega)
  rw[r3,t4]at this;exact hab this
theorem Q2{a b:Int}(hl:P.Th L R b a):∃p q e f,p<q/\q<P.m/\e∈P.outs b/\f∈P.outs a/\P.sh p=e/\P.sh q=f/\∃v,P.outs a=f::v:=by
 obtain⟨u,e,f,v,hu,hv,hp⟩:=hl
 have m1:e∈P.outs b:=by rw[hu];simp
 have m2:f∈P.outs a:=by rw[hv];simp
 obtain⟨i,j,h1,h2,h3,h4⟩:=oy h F ((h.bI b e).1 m1).1 ((h.bI a f).1 m2).1 hp
 exact⟨i,j,e,f,h1,h2,m1,m2,h3,h4,v,hv⟩
theorem Ae{a b:Int}(ha:a≠P.src)(hb:P.Zy a b)(hl:P.Th L R b a):False:=by
 obtain⟨p,q,e,f,h1,h2,h3,h4,h5,h6,v,hv⟩:=Q2 h F hl
 obtain⟨j,hj,g1,g2⟩:=hb
 obtain⟨i,A',B,k1,k2,k3,k4,k5,k6,k7⟩:=s9 h F ha hj g1
 have hs:P.sh (i+1)=f:=by unfold PS.sh;rw[k7,hv];rfl
 have hq:q=i+1:=by
  by_cases hi:i+1<P.m
  ·exact yj h h2 hi (h6.trans hs.symm)
  ·exfalso
   have he:i+1=P.m:=by omega
   have:=S7 h F
   rw[<- he,k7,hv]at this
   simp at this
 have ht:=Ff h (j:=p) (by omega)
 rw[h5,((h.bI b e).1 h3).2]at ht
 exact g2 (YC h (by omega) hj ht)
theorem Lt{a b:Int}(ha:a≠P.src)(hb:b≠P.src)(hab:¬P.gD a b)(hba:¬P.gD b a)(Zz:P.outs a≠ [])(Kl:P.outs b≠ [])(WU:P.Zy a b):P.Th L R a b:=by
 rcases Nw h F ha hb hab hba Zz Kl with h1|h1
 ·exact h1
 ·exact absurd h1 (Ae h F ha WU)
theorem Fg{a b:Int}(hr:P.gD a b)(hb:P.Zy b a):False:=by
 obtain⟨j,hj,h1,h2⟩:=hb
 exact h2 (YD h hj hr h1)
end
end Go.Ab
end
section
set_option maxRecDepth 10000
namespace Go.Ab
open Go.Proofs
section
variable {g:Gr} {p:Pl} (h:aG g p)
include h
theorem DH{f:Fr}(hi:Bx g f){A C:List Int}{x:Int}(hW:(ef f.row).map (·.1)=A++(aP g p).ins x++C)(hI:(aP g p).ins x≠ [])(N4:x∉f.pl):
 au g f x=true/\fN g x/\aV g x≠0/\∃a X c,ef f.row=a++X++c/\a.map (·.1)=A/\X.map (·.1)=(aP g p).ins x/\c.map (·.1)=C/\gv x a/\gv x c/\zD x X/\X≠ []:=by
 have hm:=ah h.1
 have hx:fN g x:=adl fun h0=>hI (nh h0)
 have bR:((ef f.row).map (·.1)).Nodup:=QD hi
 rw[gR hx]at hW hI ⊢
 obtain⟨i1,i2⟩:=er h hx
 rw[hW]at bR
 obtain⟨l1,c,e1,e2,e3⟩:=af8.1 hW
 obtain⟨a,X,e4,e5,e6⟩:=af8.1 e2
 have hrow:ef f.row=a++X++c:=by rw[e1,e4]
 have hit:∀t∈a++X++c,(0<=t.1/\t.1<g.es.length)/\t.2.1=bt g t.1/\t.2.2=bA g t.1:=fun t ht=>xu hm hi.tofL (by rw[hrow];exact ht)
 have hX:zD x X:=fun t ht=>by
  have h1:t.1∈dP g p x:=by rw[<- e6];exact aeO ht
  rw[(hit t (by simp[ht])).2.2,((i2 _).1 h1).2]
 have hin:∀t∈a++X++c,t.2.2=x->t.1∈dP g p x:=fun t ht e=>by
  obtain⟨h1,_,h3⟩:=hit t ht
  exact(i2 _).2 ⟨h1,by rw[<- h3,e]⟩
 have ha:gv x a:=fun t ht e=>by
  have h1:=hin t (by simp[ht]) e
  have h2:t.1∈A:=by rw[<- e5];exact aeO ht
  exact(adt.1 (adt.1 bR).1).2.2 _ h2 _ h1 rfl
 have Ul:gv x c:=fun t ht e=>by
  have h1:=hin t (by simp[ht]) e
  have h2:t.1∈C:=by rw[<- e3];exact aeO ht
  exact(adt.1 bR).2.2 _ (ac8.2 (.inr h1)) _ h2 rfl
 have Uj:X.length=aV g x:=by rw[<- jt h hx, <- e6,adn]
 have nX:X≠ []:=fun h0=>hI (by rw[<- e6,h0];rfl)
 have hR:=BU hm hi.tofL hx.1 hx.2 N4 hrow ha Ul hX nX Uj
 have hn:aV g x≠0:=fun h0=>nX (adE (Uj.trans h0))
 exact⟨hR,hx,hn,a,X,c,hrow,e5,e6,e3,ha,Ul,hX,nX⟩
theorem JS{f:Fr}(hi:Bx g f){k:Nat}(hc:ud g p (k+1) f)(hlen:(f.pl.length:Int)+(k+1:Nat)=g.n){A C:List Int}{x:Int}(hW:(ef f.row).map (·.1)=A++(aP g p).ins x++C)(hI:(aP g p).ins x≠ [])(N4:x∉f.pl)(hs:aq p 0∈f.pl)
 (hno:∀z,(aP g p).ins z≠ []->¬(aP g p).ins z<:+:A):ee g f false=x:=by
 have hm:=ah h.1
 obtain⟨hR,hx,hn,a,X,c,hrow,e5,e6,e3,ha,Ul,hX,nX⟩:=DH h hi hW hI N4
 unfold ee kz
 simp only[aec,if_false]
 cases hf:f.row.find? (fun t=>au g f t.2.2) with
 |none=>
  exfalso
  obtain⟨t,X',rfl⟩:∃t X',X=t::X':=by
   cases X with
   |nil=>exact absurd rfl nX
   |cons t X'=>exact⟨t,X',rfl⟩
  have h1:t∈f.row:=(eX.1 (by rw[hrow];simp)).1
  have h2:=List.find?_eq_none.1 hf t h1
  rw[hX t (by simp)]at h2
  exact h2 hR
 |some t=>
  show t.2.2=x
  obtain⟨ht,l,r,hlr,hl⟩:=List.find?_eq_some_iff_append.1 hf
  refine adl fun hzx=> ?_
  have hz:=aF ht
  have QN:0<=t.1:=by
   have:=(hi.it t (by rw[hlr];simp)).head hm
   exact this.1.2 (by omega)
  have hed:ef f.row=ef l++t::ef r:=by rw[hlr,kR];simp[ef,QN]
  have YE:∀s∈ef l,s.2.2≠x:=fun s hs e=>by
   have:=hl s (eX.1 hs).1
   rw[e,hR]at this;cases this
  have RT:t∈a:=by
   have he:ef l++t::ef r=a++(X++c):=by rw[<- hed,hrow,adN]
   rcases ae8.1 he with ⟨q,h1,h2⟩|⟨q,h1,h2⟩
   ·cases q with
    |nil=>
     exfalso
     cases X with
     |nil=>exact nX rfl
     |cons u X'=>
      have:t=u:=by simpa using(af4 h2).1
      exact hzx (this ▸ hX u (by simp))
    |cons u q=>
     have:t=u:=(af4 h2).1
     rw[h1,this];simp
   ·cases q with
    |nil=>
     exfalso
     cases X with
     |nil=>exact nX rfl
     |cons u X'=>
      have:u=t:=by simpa using(af4 h2).1
      exact hzx (this ▸ hX u (by simp))
    |cons u q=>
     exfalso
     cases X with
     |nil=>exact nX rfl
     |cons u' X'=>
      have:u'=u:=(af4 h2).1
      exact YE u (by rw[h1];simp) (this ▸ hX u' (by simp))
  have hnz:aV g t.2.2≠0:=fun h0=>by
   have:=gB h.1 (x:=t.2.2) (y:=aq p 0) ⟨hz.1,hz.2.1⟩ (hi.lg _ hs) h0 (gE h)
   exact hz.2.2 (this ▸ hs)
  obtain⟨b,d,g1,g2,g3,g4,g5,_⟩:=xq hm hi.tofL ht hnz (bE p t.2.2)
  have Ss:(ef (aC g f t.2.2 (bE p t.2.2)).1.1).map (·.1)=(aP g p).ins t.2.2:=by
   rw[gR ⟨hz.1,hz.2.1⟩];exact(s5 h.1 h.2.1 hi hlen hc ht).1
  generalize ef (aC g f t.2.2 (bE p t.2.2)).1.1=Y at g1 g4 g5 Ss
  have nY:Y≠ []:=fun h0=>hnz (by rw[<- g5,h0];rfl)
  have hYa:Y<:+:a:=by
   have he:b++(Y++d)=a++(X++c):=by rw[<- List.append_assoc, <- g1,hrow,adN]
   rcases ae8.1 he with ⟨q,h1,h2⟩|⟨q,h1,h2⟩
   ·rcases ae8.1 h2 with ⟨q2,h3,h4⟩|⟨q2,h3,h4⟩
    ·exact⟨b,q2,by rw[h1,h3,adN]⟩
    ·cases q2 with
     |nil=>exact⟨b, [],by rw[h1,h3];simp⟩
     |cons u q2=>
      exfalso
      cases X with
      |nil=>exact nX rfl
      |cons u' X'=>
       have e1:u'=u:=(af4 h4).1
       have h5:=g4 u (by rw[h3];simp)
       exact hzx (by rw[<- h5, <- e1];exact hX u' (by simp))
   ·exfalso
    exact g2 t (by rw[h1];simp[RT]) rfl
  refine hno t.2.2 (fun h0=>nY (by rw[<- Ss]at h0;simpa using h0)) ?_
  rw[<- Ss, <- e5]
  obtain⟨u,v,huv⟩:=hYa
  exact⟨u.map (·.1),v.map (·.1),by rw[<- huv];simp⟩
theorem DI:∀ {k:Nat},k<=g.n.toNat->ud g p (g.n.toNat - k) (aY g p false k)
 |0,_=>yw h (k:=0) (by omega)
 |k+1,hk=>by
  have ih:=DI (k:=k) (by omega)
  obtain⟨h1,h2,_,_⟩:=gZ h false (k:=k) (by omega)
  have hR:=(pW h false (k:=k) (by omega)).1
  rw[show g.n.toNat - k=(g.n.toNat - (k+1))+1 by omega]at ih
  exact(s5 h.1 h.2.1 h1 (by omega) ih hR).2
variable (hI:q8 g=true)
include hI
theorem Cb:∀ {j:Nat},j<=g.es.length->∃k,1<=k/\k<=g.n.toNat/\(aY g p false k).pl=((aP g p).st j).D/\(ef (aY g p false k).row).map (·.1)=((aP g p).st j).A++((aP g p).st j).B
 |0,_=>by
  have hm:=ah h.1
  have hn:=aB hm
  have hq:=sY h false
  have h0:=aD h.2.1 (k:=0) (by omega)
  have NX:=aD hq.2.1 (k:=0) (by omega)
  have he:aq (⟨iL g p false,p.outs⟩:Pl) 0=aq p 0:=gB h.1 NX h0 (gE hq) (gE h)
  have hp:ee g (aY g p false 0) false=aq p 0:=by
   rw[<- he]
   show _=(iL g p false).getD 0 0
   rw[iL,aas,adm,adp (by omega)];rfl
  have hw:aY g p false 1=fK g p 1:=by
   show w9 g p (aY g p false 0) (ee g (aY g p false 0) false)=_
   rw[hp];rfl
  refine⟨1,by omega,by omega, ?_, ?_⟩
  ·rw[hw];rfl
  ·have:=QT h (by omega)
   unfold WK at this
   rw[hw,this]
   show _= []++(aP g p).outs (aq p 0)
   rw[eo h0];rfl
 |j+1,hj=>by
  have hm:=ah h.1
  obtain⟨k,k1,k2,k3,k4⟩:=Cb (j:=j) (by omega)
  have hok:=nj h hI
  obtain⟨B,hB,hc⟩:=mX hok (j:=j) (by show j<g.es.length;omega)
  rcases hc with ⟨A',h1,h2,h3⟩|⟨h1,h3⟩
  rotate_left
  ·refine⟨k,k1,k2,by rw[h3];exact k3, ?_⟩
   rw[h3,k4,hB];simp
  obtain⟨i1,i2,_,_⟩:=gZ h false (k:=k) k2
  have hinv:=(aP g p).inv hok j (by show j<=g.es.length;omega)
  have hW:(ef (aY g p false k).row).map (·.1)=A'++(aP g p).ins ((aP g p).hd ((aP g p).sh j))++B:=by rw[k4,hB, <- h1];simp
  have N4:(aP g p).hd ((aP g p).sh j)∉(aY g p false k).pl:=by
   rw[k3]
   obtain⟨r,hr⟩:=pV hok (j:=j) (by show j<=g.es.length;omega)
   exact((hok.eW hr ((aP g p).sh j)).1 (by rw[hB];simp)).2.2
  obtain⟨hR,hx,hn,a,X,c,hrow,e5,e6,e3,ha,Ul,hX,nX⟩:=DH h i1 hW h2 N4
  have hkn:k<g.n.toNat:=by
   refine adl fun hge=>N4 ?_
   exact jQ i1.tofL (by omega) hx
  have hcmp:=DI h (k:=k) k2
  rw[show g.n.toNat - k=(g.n.toNat - k - 1)+1 by omega]at hcmp
  have hsrc:aq p 0∈(aY g p false k).pl:=by
   rw[k3]
   obtain⟨r,hr⟩:=pV hok (j:=j) (by show j<=g.es.length;omega)
   exact hok.wX hr
  have hpk:=JS h i1 hcmp (by omega) hW h2 N4 hsrc fun z hz hA=>hinv.no z hz (by
   obtain⟨u,w,ZA⟩:=hA
   rcases aft ((aP g p).ins ((aP g p).hd ((aP g p).sh j))) with g0|⟨I',b,g0⟩
   ·exact absurd g0 h2
   ·rw[g0,agh, <- List.append_assoc]at h1
    have h5:=(afX h1 rfl).1
    exact⟨u,w++I',by rw[h5, <- ZA];simp⟩)
  have px:=aW h.2.1 hx.1 hx.2
  refine⟨k+1,by omega,by omega, ?_, ?_⟩
  ·show(aY g p false k).pl++ [ee g (aY g p false k) false]=_
   rw[hpk,k3,h3]
  ·show(ef (aC g (aY g p false k) (ee g (aY g p false k) false) (bE p (ee g (aY g p false k) false))).2.row).map (·.1)=_
   rw[hpk,E6 hm i1.tofL hR hn hrow ha Ul hX nX (bE p _),h3,ads,ads,e5,e3,jT (fun i hi=>by
    have:=aX.1 (px.mem_iff.1 hi);exact this.1.1),aeE,eo hx]
   have e7:((fun t:It=>t.1) ∘ gM g ((aP g p).hd ((aP g p).sh j)))=id:=rfl
   rw[e7,agE,adN]
end
theorem Ti{g:Gr}{p:Pl}(h:aG g p)(x:Int):(aP g (cZ p)).ins x=((aP g p).ins x).reverse:=by
 by_cases hx:fN g x
 ·obtain⟨k,hk,rfl⟩:=cq h.2.1 hx.1 hx.2
  rw[gR hx,gR hx,ni h hk]
  have h2:=ni (xd h) hk
  have e1:aq (cZ p) k=aq p k:=rfl
  rw[e1]at h2
  rw[h2]
  have g1:pZ g p (fK g p k) (aq p k)=(ef (cB g p k)).map (·.1):=rfl
  have g2:pZ g (cZ p) (fK g (cZ p) k) (aq p k)=(ef (cB g (cZ p) k)).map (·.1):=rfl
  rw[g1,g2,Ql h hk]
  unfold ef
  rw[List.filter_reverse,List.map_reverse]
 ·rw[nh hx,nh hx];rfl
theorem HB{g:Gr}{p:Pl}(x:Int):(aP g (cZ p)).outs x=((aP g p).outs x).reverse:=by
 by_cases hx:fN g x
 ·rw[eo hx,eo hx,pY]
 ·rw[oM hx,oM hx];rfl
theorem zk{P Q:PS}{L R:Int->Int}{f0 f1:Int}{low:Int->Int}(h1:∀x,P.outs x=Q.outs x)(h2:∀x,P.ins x=Q.ins x)(h3:P.src=Q.src)(F:P.fM L R f0 f1 low):Q.fM L R f0 f1 low:=
 {ne:=F.ne
  kQ:=fun {x u a b v} e=>F.kQ ((h1 x).trans e)
  uV:=fun {x u a b v} e=>F.uV ((h2 x).trans e)
  fst:=fun {x a u b v} e1 e2=>F.fst ((h2 x).trans e1) ((h1 x).trans e2)
  GL:=fun {x a u b v} e1 e2=>F.GL ((h2 x).trans e1) ((h1 x).trans e2)
  s0:=fun {b v} e=>F.s0 ((h1 _).trans (h3 ▸ e))
  s1:=fun {b v} e=>F.s1 ((h1 _).trans (h3 ▸ e))
  new:=fun {x u a b v} e=>F.new ((h1 x).trans e)
  new1:=fun {x u a b v u' a' b' v'} e1 e2 e3=>F.new1 ((h1 x).trans e1) ((h1 x).trans e2) e3}
theorem DJ{g:Gr}{p:Pl}(h:aG g p)(hI:q8 g=true):(aP g p).fM (Rf g (cZ p)) (Lf g (cZ p)) (cN g (cZ p)) 0 (loF g (cZ p)):=by
 have F:=eA (xd h) hI
 have ok:=nj h hI
 have F1:(aP g p).Di.fM (Lf g (cZ p)) (Rf g (cZ p)) 0 (cN g (cZ p)) (loF g (cZ p)):=zk HB (Ti h) rfl F
 exact zk (P:=(aP g p).Di.Di) (fun x=>agk _) (fun x=>agk _) rfl (F1.Di ok.Di)
def jy(g:Gr)(p:Pl)(rev:Bool)(v:Int):Int:=(gl g p rev g.n.toNat).getD v.toNat 0
theorem Lu{P Q:PS}{A B:Int->Int}{x y:Int}(hm:P.m=Q.m)(hp:P.Lp A B x y):Q.Lp A B x y:=by
 induction hp with
 |refl=>exact .refl
 | @step e _ he ih=>exact .step ih ⟨he.1,by have:=he.2;rw[hm]at this;exact this⟩
theorem Lv{P Q:PS}{A B:Int->Int}{x y:Int}(hm:P.m=Q.m)(hp:P.Lp A B x y):Q.Lp B A y x:=by
 induction hp with
 |refl=>exact .refl
 | @step e _ he ih=>exact PS.Lp.trans (PS.Lp.step (L:=B) (R:=A) (e:=e) .refl ⟨he.1,by have:=he.2;rw[hm]at this;exact this⟩) ih
section
variable {g:Gr} {p:Pl} (h:aG g p)
include h
theorem oS(rev:Bool){v:Int}(hv:fN g v):∃i:Nat,i<g.n.toNat/\(iL g p rev).getD i 0=v/\jy g p rev v=i:=by
 have hm:v∈iL g p rev:=(M5 h rev).mem_iff.2 (cE.2 (by have:=hv.1;have:=hv.2;omega))
 obtain⟨i,hi,e⟩:=adr.1 hm
 have hl:(iL g p rev).length=g.n.toNat:=GY
 have e2:(iL g p rev).getD i 0=v:=by rw[aas,acF hi];exact e
 refine⟨i,by omega,e2, ?_⟩
 have:=KT h rev (k:=g.n.toNat) (adg _) i (by omega)
 rw[e2]at this
 exact this
theorem nu(rev:Bool){a b:Int}(ha:fN g a)(hb:fN g b)(e:jy g p rev a=jy g p rev b):a=b:=by
 obtain⟨i,h1,h2,h3⟩:=oS h rev ha
 obtain⟨j,g1,g2,g3⟩:=oS h rev hb
 have:i=j:=by omega
 rw[<- h2, <- g2,this]
variable (hI:q8 g=true)
include hI
theorem YF{v:Int}(hv:fN g v):v∈((aP g p).st (aP g p).m).D:=by
 have ok:=nj h hI
 by_cases hs:v=aq p 0
 ·have:=JR ok (j:=0) (x:=v) (d:=(aP g p).m) (by omega) (by
   show v∈ [aq p 0]
   rw[hs];simp)
  rwa [adT]at this
 ·have hn:aV g v≠0:=fun h0=>hs (gB h.1 hv (aD h.2.1 (by have:=aB (ah h.1);omega)) h0 (gE h))
  have hl:=jt h hv
  obtain⟨a,u,hu⟩:=jZ (l:=dP g p v) (fun h0=>by rw[h0]at hl;exact hn hl.symm)
  obtain⟨h1,h2⟩:=(ok.cz v a).1 (by rw[gR hv,hu];simp)
  have:=B0 ok (eA h hI) h1
  rwa [h2]at this
theorem mG{a b:Int}(ha:fN g a)(hb:fN g b)(hlt:jy g p false a<jy g p false b):(aP g p).Zy a b:=by
 have ok:=nj h hI
 have hn:=aB (ah h.1)
 obtain⟨ia,a1,a2,a3⟩:=oS h false ha
 obtain⟨ib,b1,b2,b3⟩:=oS h false hb
 have dI:∀k,k<=g.n.toNat->(aY g p false k).pl=(iL g p false).take k:=fun k hk=>by
  rw[ET,iL, <- List.map_take,List.take_range,agq hk]
 have hl:(iL g p false).length=g.n.toNat:=GY
 have bR:(iL g p false).Nodup:=cF (sY h false).2.1
 have hidx:∀i k,i<g.n.toNat->k<=g.n.toNat->(iL g p false).getD i 0∈(iL g p false).take k->i<k:=fun i k hi hk hm=>by
  obtain⟨j,hj,e⟩:=adr.1 hm
  rw[adG]at hj
  rw[af9,aas,acF (by omega)]at e
  have:=(agl bR).1 e
  omega
 by_cases hs:a=aq p 0
 ·refine⟨0,afB _, ?_,fun hb2=> ?_⟩
  ·show a∈ [aq p 0]
   rw[hs];simp
  ·have hb2:b∈ [aq p 0]:=hb2
   have:b=a:=by rw[hs];simpa using hb2
   rw[this]at hlt;omega
 ·obtain⟨i,A',B,k1,k2,k3,k4,k5,k6,k7⟩:=s9 ok (eA h hI) (show a≠(aP g p).src from hs) (adg _) (YF h hI ha)
  refine⟨i+1,k1,by rw[k7];simp,fun hb2=> ?_⟩
  obtain⟨k,g1,g2,g3,_⟩:=Cb h hI (j:=i+1) k1
  obtain⟨k',Xs,Y5,TW,_⟩:=Cb h hI (j:=i) (aga k1)
  have hlk:=(gZ h false (k:=k) g2).2.1
  have YG:=(gZ h false (k:=k') Y5).2.1
  rw[g3,k7]at hlk
  rw[TW]at YG
  have hkk:k=k'+1:=by rw[<- hlk, <- YG];simp
  have hia:¬ia<k':=fun hc=>k2 (by
   rw[<- TW,dI k' Y5, <- a2]
   rw[aas,acF (by omega)]
   exact adr.2 ⟨ia,by rw[adG];omega,by rw[af9];rfl⟩)
  have hib:=hidx ib k b1 g2 (by rw[b2, <- dI k g2,g3];exact hb2)
  omega
theorem Lw:∀ {k:Nat},k<g.n.toNat->(aP g p).gD (aq p 0) (aq p k):=by
 intro k
 induction k using Nat.strongRecOn with
 |_ k ih=>
  intro hk
  by_cases h0:k=0
  ·subst h0;exact .refl
  ·have hx:=aD h.2.1 hk
   have hn:aV g (aq p k)≠0:=fun h1=>by
    have:=gB h.1 hx (aD h.2.1 (k:=0) (by omega)) h1 (gE h)
    exact h0 (dS h.2.1 hk (by omega) this)
   have hl:=jt h hx
   obtain⟨a,u,hu⟩:=jZ (l:=dP g p (aq p k)) (fun h1=>by rw[h1]at hl;exact hn hl.symm)
   obtain⟨j,hj,et⟩:=B5 h hk (a:=a) (by rw[hu];simp)
   obtain⟨h1,h2⟩:=((nj h hI).cz (aq p k) a).1 (by rw[gR hx,hu];simp)
   have:=ih j hj (by omega)
   have et':(aP g p).tl a=aq p j:=et
   rw[<- et']at this
   rw[<- h2]
   exact .step this h1
theorem Lx:∀ {d k:Nat},k+d+1=g.n.toNat->(aP g p).gD (aq p k) (aq p (g.n.toNat - 1)):=by
 intro d
 induction d using Nat.strongRecOn with
 |_ d ih=>
  intro k hk
  by_cases h0:d=0
  ·obtain rfl:k=g.n.toNat - 1:=by omega
   exact .refl
  ·have hx:=aD h.2.1 (show k<g.n.toNat by omega)
   have hO:bE p (aq p k)≠ []:=fun h1=>by
    have:=(oN h hI hx).1 h1
    have:=dS h.2.1 (show k<g.n.toNat by omega) (by omega) this
    omega
   obtain⟨e,v,hv⟩:=jZ hO
   have he:=S8 h (show k<g.n.toNat by omega) (e:=e) (by rw[hv];simp)
   have hh:=aU (ah h.1) (i:=e.toNat) (by omega)
   obtain⟨k',hk',e2⟩:=cq h.2.1 hh.1 hh.2
   have e2:aq p k'=bA g e:=e2
   obtain⟨j,hj,e3⟩:=E7 h he.1 hk' e2.symm
   have:j=k:=dS h.2.1 (show j<g.n.toNat by omega) (by omega) (e3.trans he.2)
   have h1:=ih (g.n.toNat - 1 - k') (by omega) (k:=k') (by omega)
   rw[e2]at h1
   have h2:(aP g p).gD (aq p k) ((aP g p).hd e):= .step (by show(aP g p).gD (aq p k) (bt g e);rw[he.2];exact .refl) he.1
   exact h2.trans h1
theorem Cc{a b:Int}(ha:fN g a)(hb:fN g b)(hab:¬(aP g p).gD a b)(hba:¬(aP g p).gD b a):a≠aq p 0/\b≠aq p 0/\bE p a≠ []/\bE p b≠ []:=by
 obtain⟨i,hi,rfl⟩:=cq h.2.1 ha.1 ha.2
 obtain⟨j,hj,rfl⟩:=cq h.2.1 hb.1 hb.2
 refine⟨fun e=>hab (by rw[e];exact Lw h hI hj),fun e=>hba (by rw[e];exact Lw h hI hi),fun e=>hba ?_,fun e=>hab ?_⟩
 ·rw[(oN h hI ha).1 e];exact Lx h hI (d:=g.n.toNat - 1 - j) (by omega)
 ·rw[(oN h hI hb).1 e];exact Lx h hI (d:=g.n.toNat - 1 - i) (by omega)
theorem HC{a b:Int}(ha:fN g a)(hb:fN g b)(hab:¬(aP g p).gD a b)(hba:¬(aP g p).gD b a)(hlt:jy g p true a<jy g p true b):(aP g p).Th (Rf g (cZ p)) (Lf g (cZ p)) b a:=by
 have hm:=xd h
 have hx:∀v,jy g (cZ p) false v=jy g p true v:=fun v=>by
  unfold jy
  have:=BK h true (k:=g.n.toNat) (adg _)
  simp only[aet]at this
  rw[this]
 have WU:=mG hm hI ha hb (by rw[hx,hx];exact hlt)
 have hR:∀ {x y:Int},(aP g (cZ p)).gD x y->(aP g p).gD x y:=fun hr=>by
  have:=Fa.1 hr
  exact Fa.2 (Lu (P:=aP g (cZ p)) (Q:=aP g p) rfl this)
 obtain⟨n1,n2,n3,n4⟩:=Cc h hI ha hb hab hba
 have hl:(aP g (cZ p)).Th (Lf g (cZ p)) (Rf g (cZ p)) a b:=Lt (nj hm hI) (eA hm hI) n1 n2 (fun hr=>hab (hR hr)) (fun hr=>hba (hR hr)) (by rw[eo ha,pY];simpa using n3) (by rw[eo hb,pY];simpa using n4) WU
 obtain⟨u,e,f,v,h1,h2,h3⟩:=hl
 rw[HB]at h1 h2
 refine⟨v.reverse,f,e,u.reverse, ?_, ?_,Lv (P:=aP g (cZ p)) (Q:=aP g p) rfl h3⟩
 ·have:=congrArg List.reverse h2;simpa using this
 ·have:=congrArg List.reverse h1;simpa using this
theorem gq{a b:Int}(ha:fN g a)(hb:fN g b):(aP g p).gD a b↔jy g p false a<=jy g p false b/\jy g p true a<=jy g p true b:=by
 have ok:=nj h hI
 have hm:=xd h
 have hx:∀v,jy g (cZ p) false v=jy g p true v:=fun v=>by
  unfold jy
  have:=BK h true (k:=g.n.toNat) (adg _)
  simp only[aet]at this
  rw[this]
 constructor
 ·intro hr
  refine⟨?_, ?_⟩
  ·refine adl fun hc=> ?_
   exact Fg ok (eA h hI) hr (mG h hI hb ha (by omega))
  ·refine adl fun hc=> ?_
   have tQ:(aP g (cZ p)).gD a b:=Fa.2 (Lu (P:=aP g p) (Q:=aP g (cZ p)) rfl (Fa.1 hr))
   exact Fg (nj hm hI) (eA hm hI) tQ (mG hm hI hb ha (by rw[hx,hx];omega))
 ·rintro⟨h1,h2⟩
  by_cases hab:a=b
  ·subst hab;exact .refl
  refine ae9 fun RR=> ?_
  have l1:jy g p false a<jy g p false b:=by
   have:jy g p false a≠jy g p false b:=fun e=>hab (nu h false ha hb e)
   omega
  have l2:jy g p true a<jy g p true b:=by
   have:jy g p true a≠jy g p true b:=fun e=>hab (nu h true ha hb e)
   omega
  have WU:=mG h hI ha hb l1
  by_cases hba:(aP g p).gD b a
  ·exact Fg ok (eA h hI) hba WU
  ·exact Ae ok (DJ h hI) (Cc h hI ha hb RR hba).1 WU (HC h hI ha hb RR hba l2)
theorem qc{a b:Int}(ha:fN g a)(hb:fN g b)(hab:¬(aP g p).gD a b)(hba:¬(aP g p).gD b a):(aP g p).Th (Lf g p) (Rf g p) a b↔jy g p false a<jy g p false b/\jy g p true b<jy g p true a:=by
 have ok:=nj h hI
 have hne:a≠b:=fun e=>hab (e ▸ .refl)
 obtain⟨n1,n2,n3,n4⟩:=Cc h hI ha hb hab hba
 constructor
 ·intro hl
  have l1:jy g p false a<jy g p false b:=by
   refine adl fun hc=> ?_
   have:jy g p false a≠jy g p false b:=fun e=>hne (nu h false ha hb e)
   exact Ae ok (eA h hI) n2 (mG h hI hb ha (by omega)) hl
  refine⟨l1, ?_⟩
  refine adl fun hc=> ?_
  have:jy g p true a≠jy g p true b:=fun e=>hne (nu h true ha hb e)
  exact Ae ok (DJ h hI) n1 (mG h hI ha hb l1) (HC h hI ha hb hab hba (by omega))
 ·rintro⟨l1,_⟩
  exact Lt ok (eA h hI) n1 n2 hab hba (by rw[eo ha];exact n3) (by rw[eo hb];exact n4) (mG h hI ha hb l1)
end
end Go.Ab
end
section
namespace Go.Ab
open Go.Proofs Go.RowKit Go.Shelf
attribute [local go_sem] Oper.semAt_some
attribute [local congr] ACall.congr gd.congr Ny.congr vcOps.congr
set_option maxHeartbeats 4000000
theorem YH{W:World}{z:Nat->Nat}{p:Value}{x:D}(h:Rd W z p (.pt [x])):∃b off v,p= .pointer (some ⟨b,off,none⟩)/\W.cell? ⟨b,off,none⟩=some v/\Rd W z v x:=by
 cases h with
 |pt b off cells vs hz hc hr=>exact⟨b,off,vs 0,rfl,by simpa using hc 0 (by simp),hr 0 x rfl⟩
theorem abl{W:World}{z:Nat->Nat}{v:Value}{sz:Nat}{rows:List (List D)}(h:Rd W z v (.sl sz rows)):(∃p,v= .slice p 0 0/\rows= [])\/∃(b off cap:Nat) (vs:Nat->Value),v= .slice (some ⟨b,off,none⟩) rows.length cap/\rows.length<=cap/\(∀r∈rows,r.length=sz)/\
 (∀k,k<rows.length*sz->W.cell? ⟨b,off+k,none⟩=some (vs k))/\∀(i j:Nat) (r:List D) (x:D),rows[i]? =some r->r[j]? =some x->Rd W z (vs (i*sz+j)) x:=by
 cases h with
 |nil p sz=>exact .inl ⟨p,rfl,rfl⟩
 |sl b off n cap sz rows vs hn hsz hz hcap hc hr=>subst hn;exact .inr ⟨b,off,cap,vs,rfl,hcap,hsz,hc,hr⟩
set_option maxRecDepth 100000 in
set_option maxHeartbeats 4000000 in
theorem Tj(rows:List (List D))(h3:∀r∈rows,r.length=3)(hl:rows.length<=1000000):O4 Tryz.prog 95 3 rows:=by
 intro l p J W hJ h0
 obtain⟨z0,DZ,_⟩:=hJ 0 W h0
 obtain⟨B,o,v0,rfl,TV,Sb⟩:=YH DZ
 have hc:∀k W1,J k W1->∃pp cap,W1.cell? ⟨B,o,none⟩=some (.slice pp rows.length cap)/\(k<rows.length->∃b1 o1,pp=some ⟨b1,o1,none⟩/\∃u0 u1 u2:Value,
  W1.cell? ⟨b1,o1+(rows.length - 1 - k)*3,none⟩=some u0/\W1.cell? ⟨b1,o1+(rows.length - 1 - k)*3+1,none⟩=some u1/\W1.cell? ⟨b1,o1+(rows.length - 1 - k)*3+2,none⟩=some u2/\
  YieldAt Fence.wide 3 Tryz.prog l #[.int .i64 ((rows.length - 1 - k:Nat):Int), .agg #[u0,u1,u2]] W1 fun e W2=>e= .returned (.bool true)/\J (k+1) W2):=by
  intro k W1 hk
  obtain⟨z,hp,hy⟩:=hJ k W1 hk
  obtain⟨B',o',v,e,hv,hr⟩:=YH hp
  cases e
  rcases abl hr with ⟨pp,rfl,rfl⟩|⟨b,off,cap,vs,rfl,hcap,hsz,hcs,xO⟩
  ·exact⟨pp,0,hv,fun h=>absurd h (by simp)⟩
  ·refine⟨_,cap,hv,fun cM=>⟨b,off,rfl,vs ((rows.length - 1 - k)*3),vs ((rows.length - 1 - k)*3+1),vs ((rows.length - 1 - k)*3+2), ?_, ?_, ?_, ?_⟩⟩
   ·exact hcs ((rows.length - 1 - k)*3) (by omega)
   ·exact hcs ((rows.length - 1 - k)*3+1) (by omega)
   ·exact hcs ((rows.length - 1 - k)*3+2) (by omega)
   ·have hlt:rows.length - 1 - k<rows.length:=by omega
    refine hy cM [vs ((rows.length - 1 - k)*3),vs ((rows.length - 1 - k)*3+1),vs ((rows.length - 1 - k)*3+2)] rfl fun i u x hu hx=> ?_
    have hx':∃r,rows[rows.length - 1 - k]? =some r/\r[i]? =some x:=⟨rows[rows.length - 1 - k],acF hlt,by rw[aas,acF hlt]at hx;exact hx⟩
    obtain⟨r,uu,tQ⟩:=hx'
    have:=xO (rows.length - 1 - k) i r x uu tQ
    match i,hu with
    |0,hu=>cases hu;exact this
    |1,hu=>cases hu;exact this
    |2,hu=>cases hu;exact this
 clear hJ DZ Sb TV
 refine callsIn_of_wp Tryz.func95 rfl trivial ?_ rfl
 simp only[Tryz.ntmps95,aed,List.length_cons,List.length_nil,Nat.reduceAdd,Nat.reduceSub,afx,Array.replicate_zero,afK,afA,List.nil_append,List.cons_append]
 obtain⟨pp0,Xr,hc0,_⟩:=hc 0 W h0
 have hw:wrap64 ((rows.length:Int) - 1)=(rows.length:Int) - 1:=by unfold wrap64;omega
 gi_wp2
 gi_loopw [3] (fun i wr=>∃k:Nat,k<=rows.length/\i= .int .i64 ((rows.length:Int) - 1 - k)/\J k wr) (fun i _=>(Go.RowKit.intOf i+1).toNat)
 case atStart=>exact⟨0,afB _,by simp,h0⟩
 case round=>
  obtain⟨k,hk,rfl,XL⟩:=hrel
  obtain⟨pp,cap,hcx,LB⟩:=hc k wr XL
  by_cases hlt:k<rows.length
  ·obtain⟨b1,o1,rfl,u0,u1,u2,g0,g1,g2,fn,tmps,assign,body,hy,hR⟩:=LB hlt
   have hi:((rows.length - 1 - k:Nat):Int)=(rows.length:Int) - 1 - k:=by omega
   rw[hi]at hy
   have hi2:((rows.length:Int) - 1 - k).toNat=rows.length - 1 - k:=by omega
   have hi3:0<=(rows.length:Int) - 1 - k:=by omega
   have Zp:wrap64 ((rows.length:Int) - 1 - k - 1)=(rows.length:Int) - 1 - k - 1:=by unfold wrap64;omega
   gi_wp2
   refine hR.mono ?_
   rintro e W3 ⟨rfl,hJ3⟩
   gi_wp2
   go_roundw
   case rel=>exact⟨k+1,by omega,by congr 1;omega,hJ3⟩
   case measure=>simp[Go.RowKit.intOf];omega
  ·obtain rfl:k=rows.length:=by omega
   gi_wp2
   go_end0
   exact⟨⟨_,rfl⟩,XL⟩
end Go.Ab
end
section
namespace Go.Ab
open Go.Proofs
set_option maxRecDepth 10000
variable {g:Gr} {p:Pl}
theorem Q3(h:qn g p){k:Nat}(hk:k<g.n.toNat):cB (aj g p) (bK g p) k=(cB g p k).map (mC g.es.length (bg g p)):=by
 have hr:=h.run
 have mY:=hr.2.1
 have hm:=ah hr.1
 have BT:=zU h
 have hQ:=ru hr
 obtain⟨vt,Jl⟩:=iB hr
 have hnG:=e9 (g:=g) (p:=p)
 obtain⟨WR,hrow⟩:=Zj h (k:=k) (by omega)
 obtain⟨hi,_,_⟩:=bz hm mY (k:=k) (by omega) fun j hj=>hr.2.2 j (by omega)
 obtain⟨S0,Jn,_⟩:=bz BT hQ (k:=k) (by omega) WR
 have hR:au g (fK g p k) (aq p k)=true:=hr.2.2 k (by omega)
 have pE:=zW hr (k:=k) (by omega)
 have hx:=aD mY (k:=k) (by omega)
 obtain⟨NY,Iz⟩:=lE hm mY (k:=k) (by omega) fun j hj=>hr.2.2 j (by omega)
 have hlr:(loose (fK g p k).row).Nodup:=(adt.1 NY).2.1
 have hnot:aq p k∉(fK (aj g p) (bK g p) k).pl:=by
  rw[Jn, <- pE]
  exact BS (cF hQ) (by rw[aI hQ];omega)
 have Jo:=zf hr (k:=k) (by omega)
 have bR:=xo (g:=g) (p:=p) (x:=aq p k)
 have VM:=Dq hr hx
 have hin:∀v,(v,aq p k)∈bg g p->v∈loose (cB g p k):=fun v hv=>by
  rcases xg hv with ⟨i,h1,h2,h3⟩|⟨_,h2,_⟩
  ·have:=dS mY (by omega) h1 h2
   subst this;exact h3
  ·omega
 have hout:∀v,v∈loose (cB g p k)->(v,aq p k)∈bg g p:=fun v hv=>adR _ (rq (by omega) hv)
 have GA:cB g p k=(aC g (fK g p k) (aq p k) (bE p (aq p k))).1.1:=rfl
 have hgG:cB (aj g p) (bK g p) k=(aC (aj g p) (fK (aj g p) (bK g p) k) (aq p k) (bE (bK g p) (aq p k))).1.1:=by
  rw[<- pE];rfl
 rw[hgG]
 generalize aq p k=x at*
 by_cases hn:aV g x=0
 ·have hno:=dO hm hi.tofL hx.1 hn
  rw[cH _ hno]at GA
  have S1:aV (aj g p) x=0:=by rw[bR,hn,Jo,GA];rfl
  have VN:=dO BT S0.tofL hx.1 S1
  rw[cH _ VN,GA]
  rfl
 ·obtain⟨A,X,C,hrw,nA,nC,hX,cX⟩:=bD hm hi.tofL hR hn
  rw[dR _ hrw nA nC hX]at GA
  simp only at GA
  rw[GA]at hin hout Jo
  have hXm:∀t∈X,t∈(fK g p k).row:=fun t ht=>by rw[hrw];simp[ht]
  have hAm:∀t∈A,t∈(fK g p k).row:=fun t ht=>by rw[hrw];simp[ht]
  have hCm:∀t∈C,t∈(fK g p k).row:=fun t ht=>by rw[hrw];simp[ht]
  have hit:∀t∈X,(t.1<0↔¬t.2.2=x):=fun t ht=>by
   have h1:=(hi.it t (hXm t ht)).head hm
   have h2:=hX.al t ht
   omega
  rw[hrw,bY,bY,adt,adt]at hlr
  have Zk:gv x (A.map (mC g.es.length (bg g p))):=fun t' ht'=>by
   obtain⟨t,ht,rfl⟩:=ada.1 ht'
   by_cases h0:0<=t.1
   ·rw[kE h0];exact nA t ht
   ·rcases oz (m:=g.es.length) vt t.2.1 with ⟨h1,_⟩|⟨y,h1⟩
    ·rw[q9 h1];exact nA t ht
    ·obtain⟨j,_,h2,_⟩:=ng (m:=g.es.length) vt h1
     rw[jb (by omega) h2]
     intro e
     have e:y=x:=e
     subst e
     exact hlr.1.2.2 _ (jS ht (by omega)) _ (hin _ h1) rfl
  have Zl:gv x (C.map (mC g.es.length (bg g p))):=fun t' ht'=>by
   obtain⟨t,ht,rfl⟩:=ada.1 ht'
   by_cases h0:0<=t.1
   ·rw[kE h0];exact nC t ht
   ·rcases oz (m:=g.es.length) vt t.2.1 with ⟨h1,_⟩|⟨y,h1⟩
    ·rw[q9 h1];exact nC t ht
    ·obtain⟨j,_,h2,_⟩:=ng (m:=g.es.length) vt h1
     rw[jb (by omega) h2]
     intro e
     have e:y=x:=e
     subst e
     exact hlr.2.2 _ (adZ _ (hin _ h1)) _ (jS ht (by omega)) rfl
  have KY:∀t∈X,(mC g.es.length (bg g p) t).2.2=x:=fun t ht=>by
   by_cases h0:0<=t.1
   ·rw[kE h0]
    have:=hit t ht
    omega
   ·obtain⟨j,_,h2,_⟩:=ng (m:=g.es.length) vt (hout _ (jS ht (by omega)))
    rw[jb (by omega) h2]
  have Jf:Mid x (X.map (mC g.es.length (bg g p))):=by
   obtain⟨q,X0,e1,_⟩:=hX.fst
   obtain⟨X1,q',e2,_⟩:=hX.GL
   refine⟨⟨mC g.es.length (bg g p) q,X0.map (mC g.es.length (bg g p)),by rw[e1];rfl,KY q (by rw[e1];simp)⟩,⟨X1.map (mC g.es.length (bg g p)),mC g.es.length (bg g p) q',by rw[e2];simp,KY q' (by rw[e2];simp)⟩,fun t' ht'=> ?_⟩
   obtain⟨t,ht,rfl⟩:=ada.1 ht'
   exact .inl (KY t ht)
  have AQ:(X.map (mC g.es.length (bg g p))).countP (lz x)=aV (aj g p) x:=by
   have h1:(X.map (mC g.es.length (bg g p))).countP (lz x)=(X.map (mC g.es.length (bg g p))).length:=afH.2 fun t' ht'=>by
    obtain⟨t,ht,rfl⟩:=ada.1 ht'
    simp[lz,KY t ht]
   rw[h1,adn,bR,Jo, <- cX,zg hit]
  have VO:(fK (aj g p) (bK g p) k).row=A.map (mC g.es.length (bg g p))++X.map (mC g.es.length (bg g p))++C.map (mC g.es.length (bg g p)):=by rw[hrow,hrw];simp
  rw[dR _ VO Zk Zl Jf,GA]
def Cd(g:Gr)(p:Pl)(v:Nat):List Int:=(p.outs.getD v []).map (fun i=>2*i)++(((gC g p g.n.toNat).getD v []).reverse.filter fun t=> !decide (t.1= -1)).map fun t=>2*t.1+1
def gr(g:Gr)(p:Pl):List (List Int):=(List.range p.outs.length).map (Cd g p)
theorem Tl(hr:aG g p){k:Nat}(hk:k<g.n.toNat):∀t∈cB g p k,Je g t:=by
 have mY:=hr.2.1
 have hm:=ah hr.1
 obtain⟨hi,_,_⟩:=bz hm mY (k:=k) (by omega) fun j hj=>hr.2.2 j (by omega)
 have hR:au g (fK g p k) (aq p k)=true:=hr.2.2 k (by omega)
 have hx:=aD mY (k:=k) (by omega)
 unfold cB
 by_cases hn:aV g (aq p k)=0
 ·rw[cH _ (dO hm hi.tofL hx.1 hn)]
  intro t ht;cases ht
 ·obtain⟨A,X,C,hrw,nA,nC,hX,cX⟩:=bD hm hi.tofL hR hn
  rw[dR _ hrw nA nC hX]
  intro t ht
  exact hi.it t (by rw[hrw];simp[show t∈X from ht])
end Go.Ab
end
section
set_option maxHeartbeats 16000000
set_option maxRecDepth 20000
namespace Go.Ab
attribute [local congr] ACall.congr gd.congr Ny.congr vcOps.congr
open Go.Proofs
theorem CM(jD:List It):Spec Tryz.prog 48 (Args [.d (sT jD)]) [] (.fn 95 [] [.d (.pt [.sl 3 (jD.map rT)])]) []:=by
 (refine T.h [] [] [.t 2] Tryz.func48 rfl rfl (by kernel_rfl) fun X hX hP hC aA bB=> ?_)
 repeat' (first|refine Rn.p ?_|((first|refine Rs.p ?_|with_reducible intro K hK|(refine hK _ ?_;clear hK K));try simp only[go_sem,simprocAttr]))
section
variable {g:Gr} {p:Pl}
theorem LC(hr:aG g p){x:Nat}(hx:x<g.n.toNat):((gC g p g.n.toNat).getD x []).length<=10000/\∀t∈(gC g p g.n.toNat).getD x [],t.1= -1\/(0<=t.1/\t.1<g.es.length):=by
 have mY:=hr.2.1
 have hm:=ah hr.1
 have hn:=aB hm
 obtain⟨k,hk,ek⟩:=cq mY (x:=(x:Int)) (by omega) (by omega)
 have e1:=wT mY (k:=g.n.toNat) (adg _) hk
 rw[ek,Int.toNat_natCast]at e1
 rw[e1]
 refine⟨?_,fun t ht=> ?_⟩
 ·obtain⟨hi,_,hrl⟩:=bz hm mY (k:=k) (by omega) fun j hj=>hr.2.2 j (by omega)
  have hR:au g (fK g p k) (aq p k)=true:=hr.2.2 k (by omega)
  have hmul:k*(g.es.length+1)<=64*129:=afQ (by omega) (by omega)
  have hx:=aD mY (k:=k) (by omega)
  unfold cB
  by_cases hn0:aV g (aq p k)=0
  ·rw[cH _ (dO hm hi.tofL hx.1 hn0)];simp
  ·obtain⟨A,X,C,hrw,nA,nC,hX,cX⟩:=bD hm hi.tofL hR hn0
   rw[dR _ hrw nA nC hX]
   rw[hrw]at hrl
   simp only[adi]at hrl
   show X.length<=_
   omega
 ·rcases Tl hr hk t ht with ⟨h0,_⟩|⟨h0,h1,_⟩
  ·exact .inl h0
  ·exact .inr ⟨h0,h1⟩
theorem Fh(hr:aG g p){x:Nat}(hx:x<g.n.toNat):(p.outs.getD x []).length<=g.es.length/\∀i∈p.outs.getD x [],0<=i/\i<g.es.length:=by
 have mY:=hr.2.1
 have hl:=wS mY (x:=(x:Int)) (by omega) (by omega)
 have hp:=aW mY (x:=(x:Int)) (by omega) (by omega)
 unfold bE at hl hp
 rw[Int.toNat_natCast]at hl hp
 exact⟨hl,fun i hi=>(gA (hp.mem_iff.1 hi)).1⟩
end
def JT(jD:List It)(k:Nat):List Int:=((jD.reverse.take k).filter fun t=> !decide (t.1= -1)).map fun t=>2*t.1+1
theorem Tm{jD:List It} :JT jD jD.length=(jD.reverse.filter fun t=> !decide (t.1= -1)).map fun t=>2*t.1+1:=by
 unfold JT
 rw[adB (by simp)]
theorem Q4{jD:List It}{k:Nat}(hk:k<jD.length):JT jD (k+1)=JT jD k++(if(jD.getD (jD.length - 1 - k) (0,0,0)).1= -1 then [] else [2*(jD.getD (jD.length - 1 - k) (0,0,0)).1+1]):=by
 unfold JT
 have hk':k<jD.reverse.length:=by simpa using hk
 rw[ad1,acF hk',ad8,ads]
 congr 1
 rw[List.getElem_reverse,aas,acF (by omega)]
 simp only[Option.toList_some,Option.getD_some,aeD,List.filter_nil]
 split<;>rename_i h
 ·rw[ac7 (by simpa using h)];rfl
 ·rw[ac9 (by simpa using h)];rfl
theorem LD{jD:List It}{k:Nat} :(JT jD k).length<=jD.length:=by
 unfold JT
 rw[adn]
 have h1:=aeH (fun t:It=> !decide (t.1= -1)) (jD.reverse.take k)
 have h2:(jD.reverse.take k).length<=jD.length:=by rw[adG,aeP];omega
 omega
theorem tq{g:Gr}{p:Pl} :(gr g p).length=p.outs.length:=by simp[gr]
theorem JU{g:Gr}{p:Pl}{k:Nat}(hk:k<p.outs.length):(gr g p).take (k+1)=(gr g p).take k++ [Cd g p k]:=by
 rw[ad1,acF (by rw[tq];exact hk)]
 simp[gr]
theorem DK(g:Gr)(hl:g.es.length<=1000)(p:Pl)(hr:aG g p):Spec Tryz.prog 12 (Args [eG g,ePl p]) [] (.tup [.d (.sl 1 (vI (gr g p))),eN 0]) []:=by
 have hb:(true=true)↔(bX g).1=0/\bq g p:=⟨fun _=>⟨hr.1,hr.2.1⟩,fun _=>rfl⟩
 have mY:=hr.2.1
 have hm:=ah hr.1
 have hn:=aB hm
 have hlen:=mY.1
 have hall:∀l∈p.outs,l.length<=g.es.length:=fun l hm=>by
  obtain⟨i,hi,rfl⟩:=ae3 hm
  have:=(Fh hr (x:=i) (by omega)).1
  rwa [aas,acF hi]at this
 have hPL:uc p:=by
  have:=aI mY
  exact⟨by omega,by omega,fun l hm=>by have:=hall l hm;omega⟩
 have ZB:=ig g hl p hPL true hb
 rw[p9 hb hr]at ZB
 simp only at ZB
 have hel:=qW (g:=g) (p:=p) (k:=g.n.toNat)
 have SU:=fun x hx=>LC hr (x:=x) hx
 have Wx:=fun x hx=>Fh hr (x:=x) hx
 have htV:∀x,Cd g p x=(p.outs.getD x []).map (fun i=>2*i)++JT ((gC g p g.n.toNat).getD x []) ((gC g p g.n.toNat).getD x []).length:=fun x=>by rw[Tm];rfl
 generalize gC g p g.n.toNat=ends at ZB hel SU htV
 (refine T.h [] [] [.t 4, .t 5] Tryz.func12 rfl rfl (by kernel_rfl) fun X hX hP hC aA bB=> ?_)
 repeat' (first|(show cR _ (.seq (.region 5 _ _) _) _ _;(refine dQ hX 9 300 (.tip 25 1 []) ?_ ?_ (by decide) ⟨25,1,by decide, .inr rfl⟩ ?_;(iterate 2 (focus(simp only[go_sem,simprocAttr];done)));simp only[go_sem,simprocAttr]))|refine Rn.p ?_|((first|refine Rs.p ?_|with_reducible intro K hK|(refine hK _ ?_;clear hK K)|refine aa (ZB) rfl ?_);try simp only[go_sem,simprocAttr]))
 refine ag (fun k:Nat=>k<=p.outs.length) (fun k=>⟨[(6, .d (.sl 1 (vT ends))),(9, .ref 300),(28, .d (.sl 1 (vI p.outs))),(29,eN p.outs.length),(30,eN k)], [(300, .tip 25 1 (vI ((gr g p).take k)))]⟩) (fun k=>p.outs.length - k) 0 (by omega) ?_ ?_
 ·refine Le.of ?_ ?_<;>simp[go_sem,simprocAttr,vI_length,vI]
 rintro k hk
 rcases adj k p.outs.length with hlt|hge
 ·have hb1:decide ((k:Int)<(p.outs.length:Int))=true:=ac6 (by omega)
  have RX:=fun d=>jr (ls:=p.outs) hlt d
  have Ie:=fun d=>wu (ls:=ends) (k:=k) (by omega) d
  have dw:=JU (g:=g) hlt
  have htl:((gr g p).take k).length=k:=by rw[adG,tq];omega
  have YI:=Wx k (by omega)
  have YJ:=SU k (by omega)
  have Tn:=htV k
  have Uq:∀l1 l2,vI (l1++ [l2])=vI l1++ [[sI l2]]:=fun l1 l2=>by simp[vI]
  generalize p.outs.getD k []=o at RX YI Tn
  generalize ends.getD k []=jD at Ie YJ Tn
  generalize H6:(gr g p).take (k+1)=T2 at dw
  generalize (gr g p).take k=T1 at dw htl
  repeat' (first|(show cR _ (.seq (.region 9 _ _) _) _ _;(refine jj hX 12 0 401 (.tip 3 1 []) rfl rfl rfl (by simp only[go_sem,simprocAttr,vI_length,vT_length,hb1,RX,Ie]) (by decide) (by simp[go_sem,simprocAttr,vI_length,vT_length,hb1,RX,Ie]) ⟨3,1,by decide, .inr rfl⟩ ?_;simp only[List.set_cons_zero,List.set_cons_succ,go_sem,simprocAttr,vI_length,vT_length,hb1,RX,Ie]))|refine Rn.p ?_|((first|refine Rs.p ?_|with_reducible intro K hK|(refine hK _ ?_;clear hK K));try simp only[go_sem,simprocAttr,vI_length,vT_length,hb1,RX,Ie])|with_reducible (apply And.intro)|omega)
  refine ag (fun j:Nat=>j<=o.length) (fun j=>⟨[(6, .d (.sl 1 (vT ends))),(9, .ref 300),(28, .d (.sl 1 (vI p.outs))),(29,eN p.outs.length),(30,eN k),(10,eN k),(12, .ptr 12 0),(35, .d (sI o)),(36,eN o.length),(37,eN j)], [(300, .tip 25 1 (vI T1)),(12, .box [.ref 401]),(401, .tip 3 1 (((o.take j).map fun i=>2*i).map rI))]⟩) (fun j=>o.length - j) 0 (by omega) ?_ ?_
  ·refine Le.of ?_ ?_<;>simp[go_sem,simprocAttr,vI_length,vT_length,hb1,RX,Ie]
  rintro j hj
  rcases adj j o.length with hjl|WE
  ·have hb2:decide ((j:Int)<(o.length:Int))=true:=ac6 (by omega)
   have hq:=az (d:=0) hjl
   have ZC:(o.take j).length=j:=by rw[adG];omega
   have Wy:o.take (j+1)=o.take j++ [o.getD j 0]:=by
    rw[ad1,acF hjl,aas,acF hjl];rfl
   have hi2:=YI.2 _ hq
   generalize hP2:o.take (j+1)=P2 at Wy
   generalize o.take j=P1 at Wy ZC
   generalize Wv:o.getD j 0=i at Wy hi2
   repeat' (first|(show cR _ (.region 13 _ _) _ _;(refine dY hX 12 0 45 401 rfl rfl rfl (by first|exact .inl rfl|exact .inr rfl) (by decide) (by decide) ?_;simp only[List.set_cons_zero,List.set_cons_succ,go_sem,simprocAttr,vI_length,vT_length,hb1,hb2,RX,Ie,Wv,ZC,adn]))|refine Rn.p ?_|((first|refine Rs.p ?_|with_reducible intro K hK|(refine hK _ ?_;clear hK K));try simp only[go_sem,simprocAttr,vI_length,vT_length,hb1,hb2,RX,Ie,Wv,ZC,adn])|with_reducible (apply And.intro)|omega)
   refine⟨j+1,by omega, ?_,by omega⟩
   rw[hP2,Wy]
   refine Le.of ?_ ?_<;>simp[go_sem,simprocAttr,vI_length,vT_length,hb1,hb2,RX,Ie,Wv,ZC,adn,rI]
  have hb2:decide ((j:Int)<(o.length:Int))=false:=ac5 (by omega)
  obtain rfl:j=o.length:=by omega
  rw[aee]
  have hBw:=CM jD
  repeat' (first|refine Rn.p ?_|((first|refine Rs.p ?_|with_reducible intro K hK|(refine hK _ ?_;clear hK K)|refine aa (hBw) rfl ?_);try simp only[go_sem,simprocAttr,vI_length,vT_length,hb1,hb2,RX,Ie])|with_reducible (apply And.intro)|omega)
  have Vw:∀j,(jD.map rT).getD j []=if j<jD.length then rT (jD.getD j (0,0,0)) else []:=fun j=>by
   simp only[aas,adm]
   split
   ·rename_i h;rw[acF h];rfl
   ·rename_i h;rw[ado (by omega)];rfl
  have hrl:(jD.map rT).length=jD.length:=adn ..
  refine O5 hX (gf:=95) (sz:=3) (rows:=jD.map rT) (by rw[hP];exact Tj _ (fun r hr=>by obtain⟨t,_,rfl⟩:=ada.1 hr;rfl) (by rw[hrl];omega)) (by rw[hP];exact⟨_,_,Tryz.func95,rfl,rfl⟩) rfl (fun r hr=>by obtain⟨t,_,rfl⟩:=ada.1 hr;rfl)
   (asN [(10000,12),(10001,401)]) [(12, .box [.ref 401]),(401, .tip 3 1 ((o.map fun i=>2*i).map rI))] [(10000, .box [.ref 10001]),(10001, .tip 3 1 ((o.map fun i=>2*i).map rI))] [(12, .ptr 10000 0)]
   (fun j=> [(10000, .box [.ref 402]),(402, .tip 3 1 (((o.map fun i=>2*i)++JT jD j).map rI))])
   (fun j=>⟨[(16, .ptr 16 0),(12, .ptr 10000 0)], [(16, .box [eN (jD.getD (jD.length - 1 - j) (0,0,0)).1,eN (jD.getD (jD.length - 1 - j) (0,0,0)).2.1,eN (jD.getD (jD.length - 1 - j) (0,0,0)).2.2]),(10000, .box [.ref 402]),(402, .tip 3 1 (((o.map fun i=>2*i)++JT jD j).map rI))]⟩) ?_ ?_ ?_ ?_ ?_ ?_ ?_ ?_ ?_
  ·refine⟨by simp[asN,AObj.ren,AV.rens,AV.ren],by simp[nodupM,look],by simp[nodupM,look],by simp[AObj.isNest],by simp[AObj.isNest],fun l l' h h' e=> ?_,by simp[look,asN],by simp[AObj.ro],by simp[AObj.ro],by simp[AV.ids,AV.idss],by simp[AObj.ids,AV.idss,AV.ids,look]⟩
   have mem:∀l,(look [(10000,AObj.box [AV.ref 10001]),(10001,AObj.tip 3 1 ((o.map fun i=>2*i).map rI))] l≠none\/look [(10000,AObj.box [AV.ref 402]),(402,AObj.tip 3 1 (((o.map fun i=>2*i)++JT jD (jD.map rT).length).map rI))] l≠none)->l=10000\/l=10001\/l=402:=fun l hl=>by
    simp only[look]at hl
    by_cases e1:10000=l
    ·exact .inl e1.symm
    ·by_cases e2:10001=l
     ·exact .inr (.inl e2.symm)
     ·by_cases e3:402=l
      ·exact .inr (.inr e3.symm)
      ·rw[ac7 e1,ac7 e2,ac7 e1,ac7 e3]at hl
       exact absurd rfl (hl.elim id id)
   rcases mem l h with rfl|rfl|rfl<;>rcases mem l' h' with rfl|rfl|rfl<;>first|rfl|(simp[asN]at e)
  ·simp[look]
  ·simp
  ·intro q
   simp only[get]
   by_cases e:12=q
   ·subst e;left;simp[AV.ren,asN]
   ·right;rw[ac7 e]
  ·intro q l hl
   simp only[get]at hl
   by_cases e:12=q
   ·rw[ac9 e]at hl
    simp only[AV.ids,adu]at hl
    subst hl
    rw[bJ (by omega)];simp[look]
   ·rw[ac7 e]at hl;simp[AV.ids]at hl
  ·intro X' Jf a w hr
   refine Rel.le ?_ (Rel.mvB Jf hr 10000 0 10001 402 rfl rfl rfl (.inr rfl) (by decide) (by decide))
   have hb0:JT jD 0= []:=by simp[JT]
   refine Le.of ?_ ?_<;>simp[go_sem,simprocAttr,hb0]
  ·intro j hj X' Jf Ub hC'
   have abm:Xc X' Tryz.prog (T.cfg [] []):=⟨Jf,by rw[hC',hC],by rw[Ub,hP],by rw[Ub,hP];exact hP ▸ aA⟩
   rw[hrl]at hj ⊢
   have CV:=Vw (jD.length - 1 - j)
   rw[ac9 (by omega)]at CV
   rw[CV]
   generalize jD.getD (jD.length - 1 - j) (0,0,0)=t
   repeat' (first|refine Rn.p ?_|((first|refine Rs.p ?_|with_reducible intro K hK|(refine hK _ ?_;clear hK K));try simp only[go_sem,simprocAttr,rT]))
   refine⟨fun Y hY a w hr=>Rel.le ?_ hr⟩
   refine Le.of ?_ ?_<;>simp[go_sem,simprocAttr,rT]
  ·intro j hj X' Jf Ub hC'
   have abm:Xc X' Tryz.prog (T.cfg [] []):=⟨Jf,by rw[hC',hC],by rw[Ub,hP],by rw[Ub,hP];exact hP ▸ aA⟩
   rw[hrl]at hj
   have Tp:=Q4 hj
   have Ct:=LD (jD:=jD) (k:=j)
   have Sx:=YJ.2 _ (az (d:=(0,0,0)) (show jD.length - 1 - j<jD.length by omega))
   generalize jD.getD (jD.length - 1 - j) (0,0,0)=t at*
   generalize JT jD (j+1)=B2 at*
   generalize JT jD j=B1 at*
   by_cases ht:t.1= -1
   ·have hb3:decide (t.1= -1)=true:=ac6 ht
    rw[ac9 ht,ad4]at Tp
    subst Tp
    repeat' (first|refine Rn.p ?_|((first|refine Rs.p ?_|with_reducible intro K hK|(refine hK _ ?_;clear hK K));try simp only[go_sem,simprocAttr,adn,adi,hb3]))
    refine⟨fun Y hY a w hr=>Rel.le ?_ hr⟩
    refine Le.of ?_ ?_<;>simp[go_sem,simprocAttr,adn,adi,hb3]
   ·have hb3:decide (t.1= -1)=false:=ac5 ht
    rw[ac7 ht]at Tp
    subst Tp
    repeat' (first|refine Rn.p ?_|((first|refine Rs.p ?_|with_reducible intro K hK|(refine hK _ ?_;clear hK K));try simp only[go_sem,simprocAttr,adn,adi,hb3])|with_reducible (apply And.intro)|omega)
    refine⟨fun Y hY a w hr=>Rel.le ?_ (Rel.mvB hY hr 10000 0 63 402 rfl rfl rfl (.inr rfl) (by decide) (by decide))⟩
    refine Le.of ?_ ?_<;>simp[go_sem,simprocAttr,adn,adi,hb3,rI]
  ·rw[hrl, <- Tn]
   have YK:(Cd g p k).length<=20000:=by
    rw[Tn,adi,adn]
    have:=LD (jD:=jD) (k:=jD.length)
    omega
   generalize Cd g p k=tv at*
   simp only[go_sem,simprocAttr,vI_length,vT_length,hb1,killM,renM,asN,AObj.ren,AV.rens,AV.ren,Uq]
   repeat' (first|(show cR _ (.region 19 _ _) _ _;(refine uC hX 9 67 300 (by simp only[go_sem,simprocAttr,vI_length,vT_length,hb1,killM,renM,asN,AObj.ren,AV.rens,AV.ren,Uq]) rfl (by first|exact .inl rfl|exact .inr rfl) (by decide) ?_;simp only[go_sem,simprocAttr,vI_length,vT_length,hb1,killM,renM,asN,AObj.ren,AV.rens,AV.ren,Uq]))|refine Rn.p ?_|((first|refine Rs.p ?_|with_reducible intro K hK|(refine hK _ ?_;clear hK K));try simp only[go_sem,simprocAttr,vI_length,vT_length,hb1,killM,renM,asN,AObj.ren,AV.rens,AV.ren,Uq])|with_reducible (apply And.intro)|omega)
   refine⟨k+1,by omega, ?_,by omega⟩
   rw[H6,dw]
   refine Le.of ?_ ?_<;>simp[go_sem,simprocAttr,vI_length,vT_length,hb1,killM,renM,asN,AObj.ren,AV.rens,AV.ren,Uq]
 ·have hb1:decide ((k:Int)<(p.outs.length:Int))=false:=ac5 (by omega)
  obtain rfl:k=p.outs.length:=by omega
  rw[adB (Nat.le_of_eq tq)]
  repeat' (first|refine Rn.p ?_|((first|refine Rs.p ?_|with_reducible intro K hK|(refine hK _ ?_;clear hK K));try simp only[go_sem,simprocAttr,hb1]))
end Go.Ab
end
section
set_option maxRecDepth 10000
namespace Go.Ab
open Go.Proofs
section
variable {g:Gr} {p:Pl} (hrun:aG g p) (hI:q8 g=true) (h0:0<g.es.length) (YB:g.es.length<=60)
include hrun hI h0 YB
end
theorem Ce{g:Gr}{p:Pl}(hr:aG g p){v:Nat}(hv:v<g.n.toNat):Cd g p v=(p.outs.getD v []).map (fun i=>2*i)++(dP g p (v:Int)).reverse.map fun i=>2*i+1:=by
 unfold Cd dP
 rw[Int.toNat_natCast]
 congr 1
 have h1:=(LC hr hv).2
 generalize (gC g p g.n.toNat).getD v []=l at h1
 rw[<- List.map_reverse,aeE]
 have e:(ef l).reverse=l.reverse.filter fun t=> !decide (t.1= -1):=by
  unfold ef
  rw[List.filter_reverse]
  congr 1
  refine agC fun t ht=> ?_
  rcases h1 t ht with h2|h2
  ·rw[ac5 (by omega),ac6 h2];rfl
  ·rw[ac6 h2.1,ac5 (by omega)];rfl
 rw[e]
 rfl
section
variable {g:Gr} {p:Pl} (hrun:aG g p) (hI:q8 g=true) (h0:0<g.es.length) (YB:g.es.length<=60)
include hrun hI h0 YB
end
theorem Ur{g:Gr}{p:Pl}(hr:aG g p){L:Nat->Int->Int->Prop}(hL:Ho g p L){k:Nat}(hk:k<g.n.toNat):(dP g p (aq p k)).Pairwise (L k):=by
 have mY:=hr.2.1
 have hm:=ah hr.1
 obtain⟨hi,_,_⟩:=bz hm mY (k:=k) (by omega) fun j hj=>hr.2.2 j (by omega)
 obtain⟨_,ih2,_⟩:=BZ hr.1 mY hL (k:=k) (by omega)
 have hR:au g (fK g p k) (aq p k)=true:=hr.2.2 k (by omega)
 have pE:=aD mY (k:=k) (by omega)
 rw[ni hr hk]
 unfold pZ
 by_cases hn0:aV g (aq p k)=0
 ·rw[cH _ (dO hm hi.tofL pE.1 hn0)];simp[ef]
 ·obtain⟨A,X,C,hrw,nA,nC,hX,cX⟩:=bD hm hi.tofL hR hn0
  rw[dR _ hrw nA nC hX]
  show((ef X).map (·.1)).Pairwise _
  rw[hrw,kR,kR,aef,aef]at ih2
  rw[aeI]
  exact ih2.1.2.1
section
variable {g:Gr} {d:Dr} {p q:Pl} (h:yx g d) (h':yx g (Yy Yz d)) (hp:ug g d p) (hq:ug g (Yy Yz d) q)
include h h' hp hq
end
end Go.Ab
end
