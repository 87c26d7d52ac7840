/- A part of the proof. -/
import Derived.Test.YtameldglfobjkaaGreatL6P12
set_option linter.unusedSimpArgs false
set_option linter.unusedVariables false
section
set_option maxHeartbeats 8000000
set_option maxRecDepth 10000
namespace Go.Ab
attribute [local congr] ACall.congr gd.congr Hd.congr Ny.congr vcOps.congr
open Go.Proofs
theorem Ex(a b c:Pt):ai a b c=tm a b a c:=by unfold ai tm;grind
theorem sH(n:Int):jh n 0=0↔n=0:=by unfold jh;split<;>(try split)<;>omega
theorem yW{u v:Int} :(min u v<=0/\0<=max u v)↔u*v<=0:=by
 rcases afz u 0 with hu|hu|hu<;>rcases afz v 0 with hv|hv|hv
 ·have:=afM hu hv;omega
 ·subst hv;simp;omega
 ·have:=afN hu hv;omega
 ·subst hu;simp;omega
 ·subst hu;simp;omega
 ·subst hu;simp;omega
 ·have:=afO hu hv;omega
 ·subst hv;simp;omega
 ·have:=afn hu hv;omega
theorem sq_nonneg(s:Int):0<=s*s:=by
 rcases agv 0 s with h|h
 ·exact agh h h
 ·exact afK h h
theorem SE{u1 u2 v1 v2:Int}(h:u1*v2=u2*v1):(u1*v1<=0/\u2*v2<=0)↔u1*v1+u2*v2<=0:=by
 constructor
 ·omega
 ·intro hs
  have key:(u1*v1)*(u2*v2)=(u1*v2)*(u1*v2):=by grind
  have h0:=sq_nonneg (u1*v2)
  rw[<- key]at h0
  constructor
  ·refine agy.1 fun hp=> ?_
   have:=afO hp (show u2*v2<0 by omega)
   omega
  ·refine agy.1 fun hp=> ?_
   have:=afN (show u1*v1<0 by omega) hp
   omega
theorem within_iff(a b n:Int):sy a b n=decide ((a - n)*(b - n)<=0):=by
 rw[ad1]
 simp only[sy,adg,ade]
 rw[<- yW]
 omega
theorem Vq(a b c:Pt):iz a b c=(decide (ai a b c=0)&&decide ((a.1 - c.1)*(b.1 - c.1)+(a.2 - c.2)*(b.2 - c.2)<=0)):=by
 unfold iz sd
 rw[<- Ex,within_iff,within_iff]
 by_cases h:ai a b c=0
 ·have h':(a.1 - c.1)*(b.2 - c.2)=(a.2 - c.2)*(b.1 - c.1):=by unfold ai at h;grind
  rw[ad1]
  simp only[sH,h,decide_true,aep,adg,ade]
  exact SE h'
 ·simp[sH,h]
theorem Ue(a b c:Pt):nH a b c=nG a b c:=by unfold nH nG;rw[Vq]
theorem PF(a b c d:Pt)(h:¬(bC a/\bC b/\bC c/\bC d)):Spec Tryz.prog 124 (Args [eP a,eP b,eP c,eP d]) [] (eN 0) []:=by
 (refine T.h [] [] [.t 8] Tryz.func124 rfl rfl (by kernel_rfl) fun X hX hP hC aA bB=> ?_)
 repeat' (first|refine Rn.p ?_|((first|refine Rs.p ?_|refine Hd.mk ?_|(refine dN (PE a b c d (by assumption)) ?_ rfl ?_;(focus(simp only[go_sem,simprocAttr];done))));try simp only[go_sem,simprocAttr]))
theorem MA{a b c d:Pt}(h:¬(bC a/\bC b/\bC c/\bC d)):fF a b c d=0:=by rw[fF,ac8 h]
theorem MB(a b c d:Pt):Spec Tryz.prog 124 (Args [eP a,eP b,eP c,eP d]) [] (eN (fF a b c d)) []:=by
 by_cases h:bC a/\bC b/\bC c/\bC d
 ·exact SD a b c d h.1 h.2.1 h.2.2.1 h.2.2.2
 ·rw[MA h];exact PF a b c d h
def key(p:Pt):List Int:= [p.1,p.2]
theorem key_inj{p q:Pt} :key p=key q↔p=q:=by simp[key,Prod.ext_iff]
theorem vX{x:List Int}{p:Pt}{ks:List (List Int)} :x∈CE p ks↔x=key p\/x∈ks:=by
 unfold CE
 split
 ·rename_i h
  constructor
  ·exact .inr
  ·rintro(rfl|h')
   ·exact h
   ·exact h'
 ·simp[key,or_comm]
theorem pM{p:Pt}{ks:List (List Int)}(h:ks.Nodup):(CE p ks).Nodup:=by
 unfold CE
 split
 ·exact h
 ·rename_i hn
  rw[adu]
  exact⟨h,by simp,fun a ha b hb=>by simp at hb;subst hb;exact fun e=>hn (e ▸ ha)⟩
theorem og(a b c d:Pt):(K4 a b c d).Nodup:=by
 have h1:(K1 a b c d).Nodup:=by unfold K1;split;exact pM ae1;exact ae1
 have h2:(K2 a b c d).Nodup:=by unfold K2;split;exact pM h1;exact h1
 have h3:(K3 a b c d).Nodup:=by unfold K3;split;exact pM h2;exact h2
 unfold K4;split;exact pM h3;exact h3
def Cx(a b c d p:Pt):Prop:=(iz c d a=true/\p=a)\/(iz c d b=true/\p=b)\/(iz a b c=true/\p=c)\/(iz a b d=true/\p=d)
theorem jl{a b c d:Pt}{x:List Int} :x∈K4 a b c d↔∃p,Cx a b c d p/\x=key p:=by
 have h1:x∈K1 a b c d↔iz c d a=true/\x=key a:=by unfold K1;split<;>simp_all[vX]
 have h2:x∈K2 a b c d↔(iz c d b=true/\x=key b)\/x∈K1 a b c d:=by unfold K2;split<;>simp_all[vX]
 have h3:x∈K3 a b c d↔(iz a b c=true/\x=key c)\/x∈K2 a b c d:=by unfold K3;split<;>simp_all[vX]
 have h4:x∈K4 a b c d↔(iz a b d=true/\x=key d)\/x∈K3 a b c d:=by unfold K4;split<;>simp_all[vX]
 rw[h4,h3,h2,h1]
 unfold Cx
 constructor
 ·rintro(⟨h,rfl⟩|⟨h,rfl⟩|⟨h,rfl⟩|⟨h,rfl⟩)
  ·exact⟨d, .inr (.inr (.inr ⟨h,rfl⟩)),rfl⟩
  ·exact⟨c, .inr (.inr (.inl ⟨h,rfl⟩)),rfl⟩
  ·exact⟨b, .inr (.inl ⟨h,rfl⟩),rfl⟩
  ·exact⟨a, .inl ⟨h,rfl⟩,rfl⟩
 ·rintro⟨p,(⟨h,rfl⟩|⟨h,rfl⟩|⟨h,rfl⟩|⟨h,rfl⟩),rfl⟩
  ·exact .inr (.inr (.inr ⟨h,rfl⟩))
  ·exact .inr (.inr (.inl ⟨h,rfl⟩))
  ·exact .inr (.inl ⟨h,rfl⟩)
  ·exact .inl ⟨h,rfl⟩
theorem vY{a b c d:Pt}(h:∀p,¬Cx a b c d p):(K4 a b c d).length=0:=by
 rw[agz,ae8]
 intro x hx
 obtain⟨p,hp,_⟩:=jl.1 hx
 exact h p hp
theorem IN{a b c d p:Pt}(h:Cx a b c d p)(h1:∀q,Cx a b c d q->q=p):(K4 a b c d).length=1:=by
 have e:(K4 a b c d).Perm [key p]:=(aec (og a b c d) (by simp)).2 fun x=>by
  rw[jl]
  constructor
  ·rintro⟨q,hq,rfl⟩;rw[h1 q hq];simp
  ·intro hx;simp at hx;exact⟨p,h,hx⟩
 exact e.length_eq
theorem Vr{a b c d p q:Pt}(h:Cx a b c d p)(h1:Cx a b c d q)(hn:p≠q):2<=(K4 a b c d).length:=by
 have:=List.Nodup.length_le_of_subset (l₁:= [key p,key q]) (l₂:=K4 a b c d) (by simp[key_inj,hn]) (by
  intro x hx
  simp at hx
  rcases hx with rfl|rfl
  ·exact jl.2 ⟨p,h,rfl⟩
  ·exact jl.2 ⟨q,h1,rfl⟩)
 simpa using this
theorem Ey{a b c:Pt} :sd a b c=0↔ai a b c=0:=by unfold sd;rw[sH,Ex]
theorem dK{a b c:Pt} :iz a b c=true↔ai a b c=0/\(a.1 - c.1)*(b.1 - c.1)<=0/\(a.2 - c.2)*(b.2 - c.2)<=0:=by
 unfold iz
 rw[within_iff,within_iff]
 simp only[adg,ade,Ey,and_assoc]
theorem cD{x s:Int}(hs:s≠0)(h:x*(s*s)<=0):x<=0:=by
 have h1:=sq_nonneg s
 have h2:s*s≠0:=afH hs hs
 refine agy.1 fun hp=> ?_
 have:=afn hp (show 0<s*s by omega)
 omega
theorem c9{x s:Int}(h:x<=0):x*(s*s)<=0:=agB h (sq_nonneg s)
theorem KF{a b c d:Pt}(h0:ai c d a=0):tm a b c d*(c.1 - a.1)=ai a b c*(d.1 - c.1):=by unfold ai at*;unfold tm;grind
theorem PG{a b c d:Pt}(h0:ai c d a=0):tm a b c d*(d.1 - a.1)=ai a b d*(d.1 - c.1):=by unfold ai at*;unfold tm;grind
theorem KG{a b c d:Pt}(h0:ai c d a=0):tm a b c d*(c.2 - a.2)=ai a b c*(d.2 - c.2):=by unfold ai at*;unfold tm;grind
theorem PI{a b c d:Pt}(h0:ai c d a=0):tm a b c d*(d.2 - a.2)=ai a b d*(d.2 - c.2):=by unfold ai at*;unfold tm;grind
theorem Uf{t p q u v w:Int}(h1:t*p=u*w)(h2:t*q=v*w):(p*q)*(t*t)=(u*v)*(w*w):=by grind
theorem vZ{a b c d:Pt}(hT:tm a b c d≠0):iz c d a=true↔ai c d a=0/\ai a b c*ai a b d<=0:=by
 rw[dK]
 refine and_congr_right fun h0=> ?_
 have e1:=Uf (KF (b:=b) h0) (PG (b:=b) h0)
 have e2:=Uf (KG (b:=b) h0) (PI (b:=b) h0)
 constructor
 ·rintro⟨h1,h2⟩
  by_cases hx:d.1 - c.1=0
  ·have hy:d.2 - c.2≠0:=fun hy=>hT (by unfold tm;simp[hx,hy])
   exact cD hy (e2 ▸ c9 h2)
  ·exact cD hx (e1 ▸ c9 h1)
 ·intro h
  exact⟨cD hT (e1 ▸ c9 h),cD hT (e2 ▸ c9 h)⟩
theorem Ez(a b c d:Pt):tm b a c d= - tm a b c d:=by unfold tm;grind
theorem zQ(a b c d:Pt):tm c d a b= - tm a b c d:=by unfold tm;grind
theorem Be(a b c d:Pt):tm a b d c= - tm a b c d:=by unfold tm;grind
theorem fH(a b c:Pt):ai b a c= - ai a b c:=by unfold ai;grind
theorem k9(a b c d:Pt):ai a b d - ai a b c=tm a b c d:=by unfold ai tm;grind
theorem mg(a b c d:Pt):ai c d a - ai c d b=tm a b c d:=by unfold ai tm;grind
theorem fV(a b c:Pt):iz b a c=iz a b c:=by
 rw[ad1,dK,dK,fH,ahf (b.1 - c.1),ahf (b.2 - c.2)]
 simp
theorem IP{a b c d:Pt}(hT:tm a b c d≠0):iz c d b=true↔ai c d b=0/\ai a b c*ai a b d<=0:=by
 rw[vZ (a:=b) (b:=a) (by rw[Ez];omega),fH a b c,fH a b d,ag0]
theorem IQ{a b c d:Pt}(hT:tm a b c d≠0):iz a b c=true↔ai a b c=0/\ai c d a*ai c d b<=0:=by
 rw[vZ (a:=c) (b:=d) (c:=a) (d:=b) (by rw[zQ];omega)]
theorem IS{a b c d:Pt}(hT:tm a b c d≠0):iz a b d=true↔ai a b d=0/\ai c d a*ai c d b<=0:=by
 rw[vZ (a:=d) (b:=c) (c:=a) (d:=b) (by rw[zQ,Be];omega),fH c d a,fH c d b,ag0]
theorem sJ{a b c d:Pt}(hT:tm a b c d≠0)(h1:ai c d a=0)(h2:ai a b c=0):a=c:=by
 have k1:=KF (b:=b) h1
 have k2:=KG (b:=b) h1
 rw[h2,Int.zero_mul]at k1 k2
 have e1:=(afx.1 k1).resolve_left hT
 have e2:=(afx.1 k2).resolve_left hT
 exact afs (by omega) (by omega)
theorem v7(u v:Int):jh u 0*jh v 0<0↔u*v<0:=by
 unfold jh
 rcases afz u 0 with hu|hu|hu<;>rcases afz v 0 with hv|hv|hv
 ·have:=afM hu hv;simp[hu,hv];omega
 ·subst hv;simp
 ·have:=afN hu hv;simp[hu,hv,show ¬v<0 by omega,this]
 ·subst hu;simp
 ·subst hu;simp
 ·subst hu;simp
 ·have:=afO hu hv;simp[hu,hv,show ¬u<0 by omega,this]
 ·subst hv;simp
 ·have:=afn hu hv;simp[hu,hv,show ¬u<0 by omega,show ¬v<0 by omega];omega
theorem MC(u v:Int):jh u 0*jh v 0<=0↔u*v<=0:=by
 unfold jh
 rcases afz u 0 with hu|hu|hu<;>rcases afz v 0 with hv|hv|hv
 ·have:=afM hu hv;simp[hu,hv];omega
 ·subst hv;simp
 ·have:=afN hu hv;simp[hu,hv,show ¬v<0 by omega];omega
 ·subst hu;simp
 ·subst hu;simp
 ·subst hu;simp
 ·have:=afO hu hv;simp[hu,hv,show ¬u<0 by omega];omega
 ·subst hv;simp
 ·have:=afn hu hv;simp[hu,hv,show ¬u<0 by omega,show ¬v<0 by omega];omega
theorem sK(a b c:Pt):sd a b c=jh (ai a b c) 0:=by rw[Ex];rfl
def c8(a b c d:Pt):Int:=if 0<(K4 a b c d).length then min ((K4 a b c d).length:Int) 2 else if sd a b c*sd a b d<0/\sd c d a*sd c d b<0 then 1 else 0
theorem kf{a b c d:Pt}(hT:tm a b c d≠0):c8 a b c d=if ai a b c*ai a b d<=0/\ai c d a*ai c d b<=0 then 1 else 0:=by
 have oa:=vZ hT
 have ob:=IP hT
 have oc:=IQ hT
 have od:=IS hT
 have d1:=k9 a b c d
 have d2:=mg a b c d
 have one:∀p q,Cx a b c d p->Cx a b c d q->q=p:=by
  have ab:iz c d a=true->iz c d b=true->False:=fun h1 h2=>by have:=oa.1 h1;have:=ob.1 h2;omega
  have cd:iz a b c=true->iz a b d=true->False:=fun h1 h2=>by have:=oc.1 h1;have:=od.1 h2;omega
  have ac:iz c d a=true->iz a b c=true->a=c:=fun h1 h2=>sJ hT (oa.1 h1).1 (oc.1 h2).1
  have ad:iz c d a=true->iz a b d=true->a=d:=fun h1 h2=>sJ (c:=d) (d:=c) (by rw[Be];omega) (by rw[fH,(oa.1 h1).1];rfl) (od.1 h2).1
  have bc:iz c d b=true->iz a b c=true->b=c:=fun h1 h2=>sJ (a:=b) (b:=a) (d:=d) (by rw[Ez];omega) (ob.1 h1).1 (by rw[fH,(oc.1 h2).1];rfl)
  have bd:iz c d b=true->iz a b d=true->b=d:=fun h1 h2=>sJ (a:=b) (b:=a) (c:=d) (d:=c) (by rw[Ez,Be];omega) (by rw[fH,(ob.1 h1).1];rfl) (by rw[fH,(od.1 h2).1];rfl)
  rintro p q (⟨h1,rfl⟩|⟨h1,rfl⟩|⟨h1,rfl⟩|⟨h1,rfl⟩) (⟨h2,rfl⟩|⟨h2,rfl⟩|⟨h2,rfl⟩|⟨h2,rfl⟩)
  ·rfl
  ·exact(ab h1 h2).elim
  ·exact(ac h1 h2).symm
  ·exact(ad h1 h2).symm
  ·exact(ab h2 h1).elim
  ·rfl
  ·exact(bc h1 h2).symm
  ·exact(bd h1 h2).symm
  ·exact ac h2 h1
  ·exact bc h2 h1
  ·rfl
  ·exact(cd h1 h2).elim
  ·exact ad h2 h1
  ·exact bd h2 h1
  ·exact(cd h2 h1).elim
  ·rfl
 unfold c8
 simp only[sK,v7]
 by_cases hc:∃p,Cx a b c d p
 ·obtain⟨p,hp⟩:=hc
  rw[IN hp fun q hq=>one p q hp hq]
  have:ai a b c*ai a b d<=0/\ai c d a*ai c d b<=0:=by
   rcases hp with ⟨h,_⟩|⟨h,_⟩|⟨h,_⟩|⟨h,_⟩
   ·have:=oa.1 h;exact⟨this.2,by rw[this.1];simp⟩
   ·have:=ob.1 h;exact⟨this.2,by rw[this.1];simp⟩
   ·have:=oc.1 h;exact⟨by rw[this.1];simp,this.2⟩
   ·have:=od.1 h;exact⟨by rw[this.1];simp,this.2⟩
  rw[ada this];rfl
 ·have hn:∀p,¬Cx a b c d p:=fun p hp=>hc ⟨p,hp⟩
  rw[vY hn]
  simp only[agQ,if_false]
  by_cases h:ai a b c*ai a b d<=0/\ai c d a*ai c d b<=0
  ·rw[ada h,ada]
   have n1:ai a b c*ai a b d≠0:=fun h0=>by
    rcases afx.1 h0 with h0|h0
    ·exact hn c (.inr (.inr (.inl ⟨oc.2 ⟨h0,h.2⟩,rfl⟩)))
    ·exact hn d (.inr (.inr (.inr ⟨od.2 ⟨h0,h.2⟩,rfl⟩)))
   have n2:ai c d a*ai c d b≠0:=fun h0=>by
    rcases afx.1 h0 with h0|h0
    ·exact hn a (.inl ⟨oa.2 ⟨h0,h.1⟩,rfl⟩)
    ·exact hn b (.inr (.inl ⟨ob.2 ⟨h0,h.1⟩,rfl⟩))
   omega
  ·rw[ac8 h,ac8 (by omega)]
section
variable {a b:Pt}
theorem IT{p r:Pt}(hp:ai a b p=0)(hr:ai a b r=0):an a b b*(p.1 - r.1)=(an a b p - an a b r)*(b.1 - a.1):=by unfold ai at*;unfold an;grind
theorem IU{p r:Pt}(hp:ai a b p=0)(hr:ai a b r=0):an a b b*(p.2 - r.2)=(an a b p - an a b r)*(b.2 - a.2):=by unfold ai at*;unfold an;grind
theorem oh(hab:a≠b):0<an a b b:=by
 unfold an
 have h1:=sq_nonneg (b.1 - a.1)
 have h2:=sq_nonneg (b.2 - a.2)
 by_cases hx:b.1 - a.1=0
 ·have hy:b.2 - a.2≠0:=fun hy=>hab (afs (by omega) (by omega))
  have:=afH hy hy
  omega
 ·have:=afH hx hx
  omega
theorem v8:an a b a=0:=by unfold an;simp
theorem pN:ai a b a=0:=by unfold ai;grind
theorem x6:ai a b b=0:=by unfold ai;grind
theorem Gs(hab:a≠b){p r:Pt}(hp:ai a b p=0)(hr:ai a b r=0)(h:an a b p=an a b r):p=r:=by
 have hN:=oh hab
 have h1:=IT hp hr
 have h2:=IU hp hr
 rw[h,Int.sub_self,Int.zero_mul]at h1 h2
 have e1:=(afx.1 h1).resolve_left (by omega)
 have e2:=(afx.1 h2).resolve_left (by omega)
 exact afs (by omega) (by omega)
theorem x7(hab:a≠b){p q r:Pt}(hp:ai a b p=0)(hq:ai a b q=0)(hr:ai a b r=0):ai p q r=0:=by
 have h1:(b.1 - a.1)*ai p q r=0:=by unfold ai at*;grind
 have h2:(b.2 - a.2)*ai p q r=0:=by unfold ai at*;grind
 by_cases h:ai p q r=0
 ·exact h
 ·have e1:=(afx.1 h1).resolve_right h
  have e2:=(afx.1 h2).resolve_right h
  exact absurd (afs (by omega) (by omega)) hab
theorem PJ{N x y u v w:Int}(h1:N*x=u*w)(h2:N*y=v*w):(x*y)*(N*N)=(u*v)*(w*w):=by grind
theorem pO(hab:a≠b){p q r:Pt}(hp:ai a b p=0)(hq:ai a b q=0)(hr:ai a b r=0):iz p q r=true↔min (an a b p) (an a b q)<=an a b r/\an a b r<=max (an a b p) (an a b q):=by
 have hN:=oh hab
 have e1:=PJ (IT hp hr) (IT hq hr)
 have e2:=PJ (IU hp hr) (IU hq hr)
 have e3:(min (an a b p) (an a b q)<=an a b r/\an a b r<=max (an a b p) (an a b q))↔(an a b p - an a b r)*(an a b q - an a b r)<=0:=by
  rw[<- yW];omega
 rw[dK,e3]
 constructor
 ·rintro⟨_,h1,h2⟩
  by_cases hx:b.1 - a.1=0
  ·have hy:b.2 - a.2≠0:=fun hy=>hab (afs (by omega) (by omega))
   exact cD hy (e2 ▸ c9 h2)
  ·exact cD hx (e1 ▸ c9 h1)
 ·intro h
  exact⟨x7 hab hp hq hr,cD (by omega) (e1 ▸ c9 h),cD (by omega) (e2 ▸ c9 h)⟩
end
theorem uL{a b c d:Pt}(hab:a≠b)(hcd:c≠d)(hc:ai a b c=0)(hd:ai a b d=0):
 c8 a b c d=if min (an a b b) (max (an a b c) (an a b d))<max (an a b a) (min (an a b c) (an a b d)) then 0
  else if max (an a b a) (min (an a b c) (an a b d))=min (an a b b) (max (an a b c) (an a b d)) then 1 else 2:=by
 have hN:=oh hab
 have h0:=v8 (a:=a) (b:=b)
 have oa:=pO hab hc hd pN
 have ob:=pO hab hc hd x6
 have oc:=pO hab pN x6 hc
 have od:=pO hab pN x6 hd
 have hne:an a b c≠an a b d:=fun h=>hcd (Gs hab hc hd h)
 have on:∀p,Cx a b c d p->ai a b p=0/\max (an a b a) (min (an a b c) (an a b d))<=an a b p/\an a b p<=min (an a b b) (max (an a b c) (an a b d)):=by
  rintro p (⟨h,rfl⟩|⟨h,rfl⟩|⟨h,rfl⟩|⟨h,rfl⟩)
  ·have:=oa.1 h;exact⟨pN,by omega⟩
  ·have:=ob.1 h;exact⟨x6,by omega⟩
  ·have:=oc.1 h;exact⟨hc,by omega⟩
  ·have:=od.1 h;exact⟨hd,by omega⟩
 have hz:¬(sd a b c*sd a b d<0/\sd c d a*sd c d b<0):=by
  have:sd a b c=0:=Ey.2 hc
  rw[this];simp
 by_cases hlt:min (an a b b) (max (an a b c) (an a b d))<max (an a b a) (min (an a b c) (an a b d))
 ·unfold c8
  rw[vY fun p hp=>by have:=on p hp;omega,ac8 (by simp),ac8 hz,ada hlt]
 ·rw[ac8 hlt]
  have lo:∃p,Cx a b c d p/\an a b p=max (an a b a) (min (an a b c) (an a b d)):=by
   by_cases h1:min (an a b c) (an a b d)<=an a b a
   ·exact⟨a, .inl ⟨oa.2 (by omega),rfl⟩,by omega⟩
   ·by_cases h2:an a b c<=an a b d
    ·exact⟨c, .inr (.inr (.inl ⟨oc.2 (by omega),rfl⟩)),by omega⟩
    ·exact⟨d, .inr (.inr (.inr ⟨od.2 (by omega),rfl⟩)),by omega⟩
  have hi:∃p,Cx a b c d p/\an a b p=min (an a b b) (max (an a b c) (an a b d)):=by
   by_cases h1:an a b b<=max (an a b c) (an a b d)
   ·exact⟨b, .inr (.inl ⟨ob.2 (by omega),rfl⟩),by omega⟩
   ·by_cases h2:an a b c<=an a b d
    ·exact⟨d, .inr (.inr (.inr ⟨od.2 (by omega),rfl⟩)),by omega⟩
    ·exact⟨c, .inr (.inr (.inl ⟨oc.2 (by omega),rfl⟩)),by omega⟩
  obtain⟨p,hp,hp1⟩:=lo
  obtain⟨q,hq,hq1⟩:=hi
  by_cases heq:max (an a b a) (min (an a b c) (an a b d))=min (an a b b) (max (an a b c) (an a b d))
  ·unfold c8
   rw[ada heq,IN hp fun r hr=>by
    have h1:=on r hr
    exact Gs hab h1.1 (on p hp).1 (by omega)]
   rfl
  ·have h2:=Vr hp hq (fun e=>by subst e;omega)
   unfold c8
   rw[ac8 heq,ada (by omega)]
   omega
theorem KH{a c:Pt} :iz a a c=true↔c=a:=by
 rw[dK]
 constructor
 ·rintro⟨_,h1,h2⟩
  have e1:a.1 - c.1=0:=by
   by_cases h:a.1 - c.1=0
   ·exact h
   ·have:=afH h h;have:=sq_nonneg (a.1 - c.1);omega
  have e2:a.2 - c.2=0:=by
   by_cases h:a.2 - c.2=0
   ·exact h
   ·have:=afH h h;have:=sq_nonneg (a.2 - c.2);omega
  exact afs (by omega) (by omega)
 ·rintro rfl
  exact⟨by unfold ai;grind,by simp,by simp⟩
theorem eV{a d:Pt} :iz a d a=true:=by rw[dK];exact⟨pN,by simp,by simp⟩
theorem Bf{a c d:Pt} :c8 a a c d=if iz c d a=true then 1 else 0:=by
 have hz:sd a a c=0:=Ey.2 (by unfold ai;grind)
 have on:∀p,Cx a a c d p->iz c d a=true/\p=a:=by
  rintro p (⟨h,rfl⟩|⟨h,rfl⟩|⟨h,rfl⟩|⟨h,rfl⟩)
  ·exact⟨h,rfl⟩
  ·exact⟨h,rfl⟩
  ·have:=KH.1 h;subst this;exact⟨eV,rfl⟩
  ·have:=KH.1 h;subst this;exact⟨by rw[fV];exact eV,rfl⟩
 unfold c8
 by_cases h:iz c d a=true
 ·rw[IN (p:=a) (.inl ⟨h,rfl⟩) fun q hq=>(on q hq).2,ada h];rfl
 ·rw[vY fun p hp=>h (on p hp).1,ac8 h]
  simp[hz]
theorem Bg(a b c d:Pt):c8 c d a b=c8 a b c d:=by
 have e:(K4 c d a b).Perm (K4 a b c d):=(aec (og _ _ _ _) (og _ _ _ _)).2 fun x=>by
  rw[jl,jl]
  refine exists_congr fun p=>and_congr_left fun _=> ?_
  unfold Cx
  grind
 unfold c8
 rw[e.length_eq]
 congr 1
 simp only[and_comm]
theorem IV(a b c d:Pt):c8 b a c d=c8 a b c d:=by
 have e:(K4 b a c d).Perm (K4 a b c d):=(aec (og _ _ _ _) (og _ _ _ _)).2 fun x=>by
  rw[jl,jl]
  refine exists_congr fun p=>and_congr_left fun _=> ?_
  unfold Cx
  rw[fV a b c,fV a b d]
  grind
 unfold c8
 rw[e.length_eq]
 simp only[sK,v7,fH a b,ag0,ahf (ai c d b)]
theorem Gt{a b c:Pt} :c8 a b c c=if iz a b c=true then 1 else 0:=by rw[<- Bg,Bf]
theorem jX(a b c d:Pt):fF a b c d=if bC a/\bC b/\bC c/\bC d then c8 a b c d else 0:=rfl
theorem KI(a b c d:Pt):jk a b c d=fF a b c d:=by
 rw[jX]
 unfold jk
 split
 ·rename_i hin
  have Cs:∀x y z:Pt,bC x->bC y->bC z->nH x y z=iz x y z:=fun x y z h1 h2 h3=>by rw[Ue,nG,ac7 ⟨h1,h2,h3⟩,aep]
  rw[Cs c d a hin.2.2.1 hin.2.2.2 hin.1,Cs a b c hin.1 hin.2.1 hin.2.2.1]
  split
  ·rename_i hab;subst hab;rw[Bf]
  ·rename_i hab
   split
   ·rename_i hcd;subst hcd;rw[Gt]
   ·rename_i hcd
    simp only[sH,MC]
    by_cases hT:tm a b c d=0
    ·have d1:=k9 a b c d
     split
     ·rename_i hz;rw[uL hab hcd hz.1 hz.2]
     ·rename_i hz
      have hne:ai a b c≠0:=by omega
      have PK:∀p,iz c d p=true->p=a\/p=b->False:=fun p hp h=>by
       have h1:=(dK.1 hp).1
       have d2:=mg a b c d
       have h2:ai c d a=0/\ai c d b=0:=by rcases h with rfl|rfl<;>omega
       exact hne (x7 hcd h2.1 h2.2 pN)
      have hn:∀p,¬Cx a b c d p:=by
       rintro p (⟨h,rfl⟩|⟨h,rfl⟩|⟨h,rfl⟩|⟨h,rfl⟩)
       ·exact PK _ h (.inl rfl)
       ·exact PK _ h (.inr rfl)
       ·exact hne (dK.1 h).1
       ·have:=(dK.1 h).1;omega
      have hq:ai a b d=ai a b c:=by omega
      have hp:=sq_nonneg (ai a b c)
      have Wx:=afH hne hne
      unfold c8
      rw[vY hn]
      simp only[sK,v7,agQ,if_false]
      rw[ac8 (fun h=>by have h:=h.1;rw[hq]at h;omega),ac8 (fun h=>by have h:=h.1;rw[hq]at h;omega)]
    ·rw[kf hT,ac8]
     have d1:=k9 a b c d
     omega
 ·rfl
abbrev Pc:=Pt × Pt
def rQ(q:Pc):List D:= [.sc (.int .i64 q.1.1), .sc (.int .i64 q.1.2), .sc (.int .i64 q.2.1), .sc (.int .i64 q.2.2)]
def eQ(q:Pc):AV:= .agg [.d (.sc (.int .i64 q.1.1)), .d (.sc (.int .i64 q.1.2)), .d (.sc (.int .i64 q.2.1)), .d (.sc (.int .i64 q.2.2))]
def sQ(qs:List Pc):D:= .sl 4 (qs.map rQ)
def sP(ps:List Pt):D:= .sl 2 (ps.map rP)
def vP(ls:List (List Pt)):List (List D):=ls.map fun l=> [sP l]
def sLn(ls:List (List Pt)):D:= .sl 1 (vP ls)
def eLn(l:List Pt):AV:= .d (sP l)
theorem getD_rQ(ps:List Pc)(i:Nat):(ps.map rQ).getD i [.sc (.int .i64 0), .sc (.int .i64 0), .sc (.int .i64 0), .sc (.int .i64 0)]=rQ (ps.getD i ((0,0),(0,0))):=by
 simp only[aas,adn]
 cases ps[i]? <;>rfl
theorem rQ_eq(q:Pc):rQ q= [.sc (.int .i64 q.1.1), .sc (.int .i64 q.1.2), .sc (.int .i64 q.2.1), .sc (.int .i64 q.2.2)]:=rfl
theorem vP_length(ls:List (List Pt)):(vP ls).length=ls.length:=by simp[vP]
theorem vP_getD(ls:List (List Pt))(i:Nat):(vP ls).getD i [.sl 2 []]= [sP (ls.getD i [])]:=by
 simp only[vP,aas,adn]
 cases ls[i]? <;>rfl
attribute [go_sem] getD_rQ rQ_eq eQ sQ sP sLn eLn vP_length vP_getD
theorem az{α:Type}{l:List α}{m:Nat}{d:α}(h:m<l.length):l.getD m d∈l:=by
 rw[aas,acF h];exact ad3 h
theorem qk{m:List (Nat × AObj)}(hR:cC m)(f:Nat)(caps:List AV)(g:Pc->Bool)(ps:List Pc)(hf:∀p∈ps,Spec Tryz.prog f (Args (eQ p::caps)) m (eB (g p)) m)(hl:ps.length<=9223372036854775807):
 Spec Tryz.prog 168 (Args [.d (sQ ps), .fn f [] caps]) m (eN (bT g ps)) m:=by
 (refine T.hS [] [] [.t 4] hR Tryz.func168 rfl rfl (by kernel_rfl) fun X hX hP hC aA bB=> ?_)
 repeat' (first|refine Rn.p ?_|((first|refine Rs.p ?_|refine Hd.mk ?_);try simp only[go_sem,simprocAttr]))
 refine ag (fun k:Nat=>k<=ps.length/\∀j,j<k->g (ps.getD j ((0,0),(0,0)))=false) (fun k=>⟨[(0, .d (sQ ps)),(1, .fn f [] caps),(7,eN ps.length),(8,eN k)],m⟩) (fun k=>ps.length - k) 0 (by simp) ?_ ?_
 ·(refine⟨bS ?_,fun _ _ h=>h⟩;simp[go_sem,simprocAttr])
 rintro k ⟨hk,hg⟩
 rcases adk k ps.length with hlt|hge
 ·have hb:decide ((k:Int)<(ps.length:Int))=true:=ac7 (by omega)
  have hf':=hf (ps.getD k ((0,0),(0,0))) (az hlt)
  repeat' (first|refine Rn.p ?_|((first|refine Rs.p ?_|refine Hd.mk ?_|(first|(refine aR hR (hf') ?_ rfl rfl ?_;(focus(first|exact fun p hp=>aL (cC.nd hR) hp|(simp[go_sem,simprocAttr,hb];done))))|(refine aR hR (hf') ?_ ?_ rfl ?_;(focus(first|exact fun p hp=>aL (cC.nd hR) hp|(simp[go_sem,simprocAttr,hb];done)));(focus(simp[go_sem,simprocAttr,hb];done)))));try simp only[go_sem,simprocAttr,hb])|with_reducible (first|apply And.intro|(intro h;try simp only[go_sem,simprocAttr,hb]at h))|omega)
  ·exact(b9 (by omega) hg h).symm
  ·exact cu hR
  ·refine⟨k+1,⟨by omega,fun j hj=> ?_⟩, ?_,by omega⟩
   ·by_cases hjk:j=k
    ·subst hjk;exact h
    ·exact hg j (by omega)
   ·(refine⟨bS ?_,fun _ _ h=>h⟩;simp[go_sem,simprocAttr,hb])
 ·have hb:decide ((k:Int)<(ps.length:Int))=false:=ac6 (by omega)
  repeat' (first|refine Rn.p ?_|((first|refine Rs.p ?_|refine Hd.mk ?_);try simp only[go_sem,simprocAttr,hb])|with_reducible (apply And.intro))
  ·exact(bL ((0,0),(0,0)) fun j hj=>hg j (by omega)).symm
  ·exact cu hR
theorem mh{m:List (Nat × AObj)}(hR:cC m)(f:Nat)(caps:List AV)(g:Pc->Bool)(ps:List Pc)(hf:∀p∈ps,Spec Tryz.prog f (Args (eQ p::caps)) m (eB (g p)) m)(hl:ps.length<=9223372036854775807):
 Spec Tryz.prog 118 (Args [.d (sQ ps), .fn f [] caps]) m (eB (ps.any g)) m:=by
 (refine T.hS [] [] [.t 4] hR Tryz.func118 rfl rfl (by kernel_rfl) fun X hX hP hC aA bB=> ?_)
 repeat' (first|refine Rn.p ?_|((first|refine Rs.p ?_|refine Hd.mk ?_|(first|(refine aR hR (qk hR f caps g ps hf hl) ?_ rfl rfl ?_;(focus(first|exact fun p hp=>aL (cC.nd hR) hp|(simp[go_sem,simprocAttr];done))))|(refine aR hR (qk hR f caps g ps hf hl) ?_ ?_ rfl ?_;(focus(first|exact fun p hp=>aL (cC.nd hR) hp|(simp[go_sem,simprocAttr];done)));(focus(simp[go_sem,simprocAttr];done)))));try simp only[go_sem,simprocAttr])|with_reducible (apply And.intro))
 ·exact cT g ps
 ·exact cu hR
theorem om{m:List (Nat × AObj)}(hR:cC m)(f:Nat)(caps:List AV)(g:Pt->Bool)(ps:List Pt)(hf:∀p∈ps,Spec Tryz.prog f (Args (eP p::caps)) m (eB (g p)) m)(hl:ps.length<=9223372036854775807):
 Spec Tryz.prog 172 (Args [.d (sP ps), .fn f [] caps]) m (eN (bT g ps)) m:=by
 (refine T.hS [] [] [.t 4] hR Tryz.func172 rfl rfl (by kernel_rfl) fun X hX hP hC aA bB=> ?_)
 repeat' (first|refine Rn.p ?_|((first|refine Rs.p ?_|refine Hd.mk ?_);try simp only[go_sem,simprocAttr]))
 refine ag (fun k:Nat=>k<=ps.length/\∀j,j<k->g (ps.getD j (0,0))=false) (fun k=>⟨[(0, .d (sP ps)),(1, .fn f [] caps),(7,eN ps.length),(8,eN k)],m⟩) (fun k=>ps.length - k) 0 (by simp) ?_ ?_
 ·(refine⟨bS ?_,fun _ _ h=>h⟩;simp[go_sem,simprocAttr])
 rintro k ⟨hk,hg⟩
 rcases adk k ps.length with hlt|hge
 ·have hb:decide ((k:Int)<(ps.length:Int))=true:=ac7 (by omega)
  have hf':=hf (ps.getD k (0,0)) (az hlt)
  repeat' (first|refine Rn.p ?_|((first|refine Rs.p ?_|refine Hd.mk ?_|(first|(refine aR hR (hf') ?_ rfl rfl ?_;(focus(first|exact fun p hp=>aL (cC.nd hR) hp|(simp[go_sem,simprocAttr,hb];done))))|(refine aR hR (hf') ?_ ?_ rfl ?_;(focus(first|exact fun p hp=>aL (cC.nd hR) hp|(simp[go_sem,simprocAttr,hb];done)));(focus(simp[go_sem,simprocAttr,hb];done)))));try simp only[go_sem,simprocAttr,hb])|with_reducible (first|apply And.intro|(intro h;try simp only[go_sem,simprocAttr,hb]at h))|omega)
  ·exact(b9 (by omega) hg h).symm
  ·exact cu hR
  ·refine⟨k+1,⟨by omega,fun j hj=> ?_⟩, ?_,by omega⟩
   ·by_cases hjk:j=k
    ·subst hjk;exact h
    ·exact hg j (by omega)
   ·(refine⟨bS ?_,fun _ _ h=>h⟩;simp[go_sem,simprocAttr,hb])
 ·have hb:decide ((k:Int)<(ps.length:Int))=false:=ac6 (by omega)
  repeat' (first|refine Rn.p ?_|((first|refine Rs.p ?_|refine Hd.mk ?_);try simp only[go_sem,simprocAttr,hb])|with_reducible (apply And.intro))
  ·exact(bL (0,0) fun j hj=>hg j (by omega)).symm
  ·exact cu hR
theorem tG{m:List (Nat × AObj)}(hR:cC m)(f:Nat)(caps:List AV)(g:Pt->Bool)(ps:List Pt)(hf:∀p∈ps,Spec Tryz.prog f (Args (eP p::caps)) m (eB (g p)) m)(hl:ps.length<=9223372036854775807):
 Spec Tryz.prog 127 (Args [.d (sP ps), .fn f [] caps]) m (eB (ps.any g)) m:=by
 (refine T.hS [] [] [.t 4] hR Tryz.func127 rfl rfl (by kernel_rfl) fun X hX hP hC aA bB=> ?_)
 repeat' (first|refine Rn.p ?_|((first|refine Rs.p ?_|refine Hd.mk ?_|(first|(refine aR hR (om hR f caps g ps hf hl) ?_ rfl rfl ?_;(focus(first|exact fun p hp=>aL (cC.nd hR) hp|(simp[go_sem,simprocAttr];done))))|(refine aR hR (om hR f caps g ps hf hl) ?_ ?_ rfl ?_;(focus(first|exact fun p hp=>aL (cC.nd hR) hp|(simp[go_sem,simprocAttr];done)));(focus(simp[go_sem,simprocAttr];done)))));try simp only[go_sem,simprocAttr])|with_reducible (apply And.intro))
 ·exact cT g ps
 ·exact cu hR
theorem oo{m:List (Nat × AObj)}(hR:cC m)(f:Nat)(caps:List AV)(g:List Pt->Bool)(ps:List (List Pt))(hf:∀p∈ps,Spec Tryz.prog f (Args (eLn p::caps)) m (eB (g p)) m)(hl:ps.length<=9223372036854775807):
 Spec Tryz.prog 167 (Args [.d (sLn ps), .fn f [] caps]) m (eN (bT g ps)) m:=by
 (refine T.hS [] [] [.t 4] hR Tryz.func167 rfl rfl (by kernel_rfl) fun X hX hP hC aA bB=> ?_)
 repeat' (first|refine Rn.p ?_|((first|refine Rs.p ?_|refine Hd.mk ?_);try simp only[go_sem,simprocAttr]))
 refine ag (fun k:Nat=>k<=ps.length/\∀j,j<k->g (ps.getD j [])=false) (fun k=>⟨[(0, .d (sLn ps)),(1, .fn f [] caps),(7,eN ps.length),(8,eN k)],m⟩) (fun k=>ps.length - k) 0 (by simp) ?_ ?_
 ·(refine⟨bS ?_,fun _ _ h=>h⟩;simp[go_sem,simprocAttr])
 rintro k ⟨hk,hg⟩
 rcases adk k ps.length with hlt|hge
 ·have hb:decide ((k:Int)<(ps.length:Int))=true:=ac7 (by omega)
  have hf':=hf (ps.getD k []) (az hlt)
  repeat' (first|refine Rn.p ?_|((first|refine Rs.p ?_|refine Hd.mk ?_|(first|(refine aR hR (hf') ?_ rfl rfl ?_;(focus(first|exact fun p hp=>aL (cC.nd hR) hp|(simp[go_sem,simprocAttr,hb];done))))|(refine aR hR (hf') ?_ ?_ rfl ?_;(focus(first|exact fun p hp=>aL (cC.nd hR) hp|(simp[go_sem,simprocAttr,hb];done)));(focus(simp[go_sem,simprocAttr,hb];done)))));try simp only[go_sem,simprocAttr,hb])|with_reducible (first|apply And.intro|(intro h;try simp only[go_sem,simprocAttr,hb]at h))|omega)
  ·exact(b9 (by omega) hg h).symm
  ·exact cu hR
  ·refine⟨k+1,⟨by omega,fun j hj=> ?_⟩, ?_,by omega⟩
   ·by_cases hjk:j=k
    ·subst hjk;exact h
    ·exact hg j (by omega)
   ·(refine⟨bS ?_,fun _ _ h=>h⟩;simp[go_sem,simprocAttr,hb])
 ·have hb:decide ((k:Int)<(ps.length:Int))=false:=ac6 (by omega)
  repeat' (first|refine Rn.p ?_|((first|refine Rs.p ?_|refine Hd.mk ?_);try simp only[go_sem,simprocAttr,hb])|with_reducible (apply And.intro))
  ·exact(bL [] fun j hj=>hg j (by omega)).symm
  ·exact cu hR
theorem tH{m:List (Nat × AObj)}(hR:cC m)(f:Nat)(caps:List AV)(g:List Pt->Bool)(ps:List (List Pt))(hf:∀p∈ps,Spec Tryz.prog f (Args (eLn p::caps)) m (eB (g p)) m)(hl:ps.length<=9223372036854775807):
 Spec Tryz.prog 116 (Args [.d (sLn ps), .fn f [] caps]) m (eB (ps.any g)) m:=by
 (refine T.hS [] [] [.t 4] hR Tryz.func116 rfl rfl (by kernel_rfl) fun X hX hP hC aA bB=> ?_)
 repeat' (first|refine Rn.p ?_|((first|refine Rs.p ?_|refine Hd.mk ?_|(first|(refine aR hR (oo hR f caps g ps hf hl) ?_ rfl rfl ?_;(focus(first|exact fun p hp=>aL (cC.nd hR) hp|(simp[go_sem,simprocAttr];done))))|(refine aR hR (oo hR f caps g ps hf hl) ?_ ?_ rfl ?_;(focus(first|exact fun p hp=>aL (cC.nd hR) hp|(simp[go_sem,simprocAttr];done)));(focus(simp[go_sem,simprocAttr];done)))));try simp only[go_sem,simprocAttr])|with_reducible (apply And.intro))
 ·exact cT g ps
 ·exact cu hR
structure Dr where
 pts:List Pt
 ls:List (List Pt)
def eDr(d:Dr):AV:= .agg [.d (sP d.pts), .d (sLn d.ls)]
def lkO(g:Gr)(d:Dr):AObj:= .rob [eN g.n, .d (sE g.es), .d (sP d.pts), .d (sLn d.ls)]
theorem EA(g:Gr)(d:Dr):cC [(10000,lkO g d)]:=⟨by simp[lkO,AObj.ro],by simp[nodupM,look],by simp,by simp[lkO,AObj.ids,AV.ids,AV.idss,eN]⟩
attribute [go_sem] eDr lkO
def MD(l:List Pt)(k:Nat):List Pc:=(List.range k).map fun i=>(l.getD i (0,0),l.getD (i+1) (0,0))
def fe(l:List Pt):List Pc:=MD l (l.length - 1)
theorem PL{l:List Pt}{k:Nat} :MD l (k+1)=MD l k++ [(l.getD k (0,0),l.getD (k+1) (0,0))]:=by simp[MD,adW]
theorem uM{l:List Pt}{k:Nat} :(MD l k).length=k:=by simp[MD]
theorem fW{l:List Pt} :(fe l).length=l.length - 1:=uM
theorem mV(l:List Pt)(h1:1<=l.length)(hl:l.length<=1000000):Spec Tryz.prog 119 (Args [.d (sP l)]) [] (.d (sQ (fe l))) []:=by
 (refine T.h [] [] [.t 2] Tryz.func119 rfl rfl (by kernel_rfl) fun X hX hP hC aA bB=> ?_)
 repeat' (first|refine Rn.p ?_|((first|refine Rs.p ?_|refine Hd.mk ?_);try simp only[go_sem,simprocAttr])|with_reducible (apply And.intro)|omega)
 (refine dQ hX 2 22 (.tip 176 4 []) (by simp only[go_sem,simprocAttr]) (by simp only[go_sem,simprocAttr]) (by decide) ⟨176,4,by decide, .inr rfl⟩ ?_;simp only[go_sem,simprocAttr])
 refine ag (fun k:Nat=>k<=l.length - 1) (fun k=>⟨[(0, .d (sP l)),(6,eN (l.length - 1:Nat)),(7,eN k),(2, .ref 22)], [(22, .tip 176 4 ((MD l k).map rQ))]⟩) (fun k=>l.length - 1 - k) 0 (by omega) ?_ ?_
 ·refine Le.of ?_ ?_<;>simp[go_sem,simprocAttr,MD]
 rintro k hk
 rcases adk k (l.length - 1) with hlt|hge
 ·have hb:decide ((k:Int)<((l.length - 1:Nat):Int))=true:=ac7 (by omega)
  repeat' (first|refine Rn.p ?_|((first|refine Rs.p ?_|refine Hd.mk ?_);try simp only[go_sem,simprocAttr,hb,uM])|with_reducible (first|apply And.intro|refine oD (by kernel_rfl) ?_)|omega)
  refine⟨k+1,by omega, ?_,by omega⟩
  refine Le.of ?_ ?_<;>simp[go_sem,simprocAttr,hb,uM,PL,rQ]
 ·have hb:decide ((k:Int)<((l.length - 1:Nat):Int))=false:=ac6 (by omega)
  obtain rfl:k=l.length - 1:=by omega
  repeat' (first|refine Rn.p ?_|((first|refine Rs.p ?_|refine Hd.mk ?_);try simp only[go_sem,simprocAttr,hb]))
  rfl
def robPt(p:Pt):List (Nat × AObj):= [(10000, .rob [eN p.1,eN p.2])]
theorem PM(p:Pt):cC (robPt p):=⟨by simp[robPt,AObj.ro],by simp[robPt,nodupM,look],by simp[robPt],by simp[robPt,AObj.ids,AV.ids,AV.idss,eN]⟩
attribute [go_sem] robPt
theorem ME(q:Pc)(p:Pt):Spec Tryz.prog 170 (Args [eQ q, .ptr 10000 0]) (robPt p) (eB (nG q.1 q.2 p)) (robPt p):=by
 unfold robPt
 (refine T.h [] [] [.t 3] Tryz.func170 rfl rfl (by kernel_rfl) fun X hX hP hC aA bB=> ?_)
 repeat' (first|refine Rn.p ?_|((first|refine Rs.p ?_|refine Hd.mk ?_|refine aa (Eu q.1 q.2 p) rfl ?_);try simp only[go_sem,simprocAttr]))
def SF(l:List Pt)(p:Pt):Bool:=(fe l).any fun q=>nG q.1 q.2 p
theorem MF(l:List Pt)(p:Pt)(h1:1<=l.length)(hl:l.length<=1000000):Spec Tryz.prog 122 (Args [.d (sP l),eP p]) [] (eB (SF l p)) []:=by
 have hl':(fe l).length<=9223372036854775807:=by rw[fW];omega
 (refine T.h [] [] [.t 4] Tryz.func122 rfl rfl (by kernel_rfl) fun X hX hP hC aA bB=> ?_)
 repeat' (first|refine Rn.p ?_|((first|refine Rs.p ?_|refine Hd.mk ?_|refine aa (mV l h1 hl) rfl ?_|(refine bw [(10000,3)] (mh (PM p) _ _ (fun q=>nG q.1 q.2 p) (fe l) (fun q _=>ME q p) hl') ?_ ?_;(focus(simp[go_sem,simprocAttr];done))));try simp only[go_sem,simprocAttr]))
 rfl
theorem Gu(q:Pc):Spec Tryz.prog 120 (Args [eQ q]) [] (eB (decide (q.2.2<=q.1.2))) []:=by
 (refine T.h [] [] [.t 2] Tryz.func120 rfl rfl (by kernel_rfl) fun X hX hP hC aA bB=> ?_)
 repeat' (first|refine Rn.p ?_|((first|refine Rs.p ?_|refine Hd.mk ?_);try simp only[go_sem,simprocAttr]))
def gL(l:List Pt):Bool:= !(fe l).any fun q=>decide (q.2.2<=q.1.2)
structure x8 (g:Gr) (d:Dr):Prop where
 may:aM g=true
 np:(d.pts.length:Int)=g.n
 nl:d.ls.length=g.es.length
 lg:∀l∈d.ls,2<=l.length/\l.length<=8
theorem x8.line{g:Gr}{d:Dr}(h:x8 g d){i:Nat}(hi:i<g.es.length):2<=(d.ls.getD i []).length/\(d.ls.getD i []).length<=8:=h.lg _ (az (by rw[h.nl];exact hi))
theorem IW(g:Gr)(d:Dr)(h:x8 g d)(i:Nat)(hi:i<g.es.length):Spec Tryz.prog 69 (Args [.ptr 10000 0,eN i]) [(10000,lkO g d)] (eB (gL (d.ls.getD i []))) [(10000,lkO g d)]:=by
 have hn:=aB h.may
 have hnl:=h.nl
 obtain⟨h2,h8⟩:=h.line hi
 have h1:1<=(d.ls.getD i []).length:=by omega
 have hl:(d.ls.getD i []).length<=1000000:=by omega
 have hl':(fe (d.ls.getD i [])).length<=9223372036854775807:=by rw[fW];omega
 unfold lkO
 (refine T.h [] [] [.t 4] Tryz.func69 rfl rfl (by kernel_rfl) fun X hX hP hC aA bB=> ?_)
 repeat' (first|refine Rn.p ?_|((first|refine Rs.p ?_|refine Hd.mk ?_|refine aa (mV (d.ls.getD i []) h1 hl) rfl ?_|refine aa (mh cC.nil _ [] (fun q=>decide (q.2.2<=q.1.2)) (fe (d.ls.getD i [])) (fun q _=>Gu q) hl') rfl ?_);try simp only[go_sem,simprocAttr])|with_reducible (apply And.intro)|omega)
 rfl
def qT(g:Gr)(d:Dr)(i:Nat):Bool:=decide ((d.ls.getD i []).getD 0 (0,0)=d.pts.getD (g.es.getD i (0,0)).1.toNat (0,0))&&decide ((d.ls.getD i []).getD ((d.ls.getD i []).length - 1) (0,0)=d.pts.getD (g.es.getD i (0,0)).2.toNat (0,0))
theorem IX(g:Gr)(d:Dr)(h:x8 g d)(i:Nat)(hi:i<g.es.length):Spec Tryz.prog 68 (Args [.ptr 10000 0,eN i]) [(10000,lkO g d)] (eB (qT g d i)) [(10000,lkO g d)]:=by
 have hn:=aB h.may
 have hnp:=h.np
 have hnl:=h.nl
 obtain⟨h2,h8⟩:=h.line hi
 obtain⟨⟨Ph,yL⟩,Cu,yM⟩:=cU h.may hi
 have htn:(((d.ls.getD i []).length:Int) - 1).toNat=(d.ls.getD i []).length - 1:=by omega
 unfold lkO
 (refine T.h [] [] [.t 4] Tryz.func68 rfl rfl (by kernel_rfl) fun X hX hP hC aA bB=> ?_)
 repeat' (first|refine Rn.p ?_|((first|refine Rs.p ?_|refine Hd.mk ?_);try simp only[go_sem,simprocAttr,qK,htn])|with_reducible (first|apply And.intro|refine oD (by kernel_rfl) ?_|(intro h;try simp only[go_sem,simprocAttr,qK,htn]at h))|omega)
 ·have h0:(d.ls.getD i []).getD 0 (0,0)=d.pts.getD (g.es.getD i (0,0)).1.toNat (0,0):=by assumption
  simp only[qT,h0,decide_true,aep]
 ·have h0:¬(d.ls.getD i []).getD 0 (0,0)=d.pts.getD (g.es.getD i (0,0)).1.toNat (0,0):=by assumption
  simp only[qT,h0,decide_false,agc]
def Vs(l:List Pt)(x:Pt):Int:=bT (fun y=>decide (x=y)) l
theorem PN(l:List Pt)(x:Pt):decide (0<=Vs l x)=decide (x∈l):=by
 unfold Vs;rw[cT,ad1];simp[-Prod.exists, -Prod.forall]
theorem Gv(ps:List Pt)(x:Pt)(hl:ps.length<=9223372036854775807):
 Spec Tryz.prog 169 (Args [.d (sP ps),eP x]) [] (eN (Vs ps x)) []:=by
 (refine T.h [] [] [.t 4] Tryz.func169 rfl rfl (by kernel_rfl) fun X hX hP hC aA bB=> ?_)
 repeat' (first|refine Rn.p ?_|((first|refine Rs.p ?_|refine Hd.mk ?_);try simp only[go_sem,simprocAttr]))
 refine ag (fun k:Nat=>k<=ps.length/\∀j,j<k->decide (x=ps.getD j (0,0))=false) (fun k=>⟨[(0, .d (sP ps)),(3, .ptr 3 0),(7,eN ps.length),(8,eN k)], [(3, .box [eN x.1,eN x.2])]⟩) (fun k=>ps.length - k) 0 (by simp) ?_ ?_
 ·(refine Le.of ?_ ?_<;>simp[go_sem,simprocAttr])
 rintro k ⟨hk,hg⟩
 repeat' (first|refine Rn.p ?_|((first|refine Rs.p ?_|refine Hd.mk ?_);try simp only[go_sem,simprocAttr,qK])|with_reducible (first|apply And.intro|refine oD (by kernel_rfl) ?_|(intro h;try simp only[go_sem,simprocAttr,qK]at h))|omega)
 ·exact(b9 (d:=(0,0)) (by omega) hg (by simpa using h)).symm
 ·refine⟨k+1,⟨by omega,fun j hj=> ?_⟩, ?_,by omega⟩
  ·by_cases hjk:j=k
   ·subst hjk;exact h
   ·simpa using hg j (by omega)
  ·(refine Le.of ?_ ?_<;>simp[go_sem,simprocAttr,qK])
 ·exact(bL (0,0) fun j hj=>hg j (by omega)).symm
theorem Bh(ps:List Pt)(x:Pt)(hl:ps.length<=9223372036854775807):
 Spec Tryz.prog 121 (Args [.d (sP ps),eP x]) [] (eB (decide (x∈ps))) []:=by
 rw[<- PN]
 (refine T.h [] [] [.t 4] Tryz.func121 rfl rfl (by kernel_rfl) fun X hX hP hC aA bB=> ?_)
 repeat' (first|refine Rn.p ?_|((first|refine Rs.p ?_|refine Hd.mk ?_|refine aa (Gv ps x hl) rfl ?_);try simp only[go_sem,simprocAttr]))
def fD(d:Dr)(x:Nat):Bool:= !decide (d.pts.getD x (0,0)∈d.pts.take x)
theorem IY(g:Gr)(d:Dr)(h:x8 g d)(x:Nat)(hx:x<d.pts.length):Spec Tryz.prog 70 (Args [.ptr 10000 0,eN x]) [(10000,lkO g d)] (eB (fD d x)) [(10000,lkO g d)]:=by
 have hn:=aB h.may
 have hnp:=h.np
 have hl:(d.pts.take x).length<=9223372036854775807:=by rw[adH];omega
 unfold lkO
 (refine T.h [] [] [.t 4] Tryz.func70 rfl rfl (by kernel_rfl) fun X hX hP hC aA bB=> ?_)
 repeat' (first|refine Rn.p ?_|((first|refine Rs.p ?_|refine Hd.mk ?_|refine aa (Bh (d.pts.take x) (d.pts.getD x (0,0)) hl) rfl ?_);try simp only[go_sem,simprocAttr, <- List.map_take])|with_reducible (first|apply And.intro|refine oD (by kernel_rfl) ?_)|omega)
 rfl
def oq(g:Gr)(d:Dr)(i k:Nat):Bool:=(List.range k).all fun x=>decide ((x:Int)=(g.es.getD i (0,0)).1)||decide ((x:Int)=(g.es.getD i (0,0)).2)|| !SF (d.ls.getD i []) (d.pts.getD x (0,0))
def kL(g:Gr)(d:Dr)(i:Nat):Bool:=oq g d i d.pts.length
theorem Bi{g:Gr}{d:Dr}{i k:Nat} :oq g d i (k+1)=(oq g d i k&&(decide ((k:Int)=(g.es.getD i (0,0)).1)||decide ((k:Int)=(g.es.getD i (0,0)).2)|| !SF (d.ls.getD i []) (d.pts.getD k (0,0)))):=by
 simp[oq,adW]
theorem we{n k:Nat}{f:Nat->Bool}(hk:k<n)(h:f k=false):(List.range n).all f=false:=by
 rw[List.all_eq_false];exact⟨k,adl.2 hk,by simp[h]⟩
theorem free_spec(g:Gr)(d:Dr)(h:x8 g d)(i:Nat)(hi:i<g.es.length):Spec Tryz.prog 71 (Args [.ptr 10000 0,eN i]) [(10000,lkO g d)] (eB (kL g d i)) [(10000,lkO g d)]:=by
 have hn:=aB h.may
 have hnp:=h.np
 have hnl:=h.nl
 obtain⟨h2,h8⟩:=h.line hi
 have h1:1<=(d.ls.getD i []).length:=by omega
 have hl:(d.ls.getD i []).length<=1000000:=by omega
 unfold lkO
 (refine T.h [] [] [.t 4] Tryz.func71 rfl rfl (by kernel_rfl) fun X hX hP hC aA bB=> ?_)
 repeat' (first|refine Rn.p ?_|((first|refine Rs.p ?_|refine Hd.mk ?_);try simp only[go_sem,simprocAttr])|with_reducible (apply And.intro)|omega)
 refine ag (fun k:Nat=>k<=d.pts.length/\oq g d i k=true) (fun k=>⟨[(0, .ptr 10000 0),(1,eN i),(5, .ptr 5 0),(20, .d (sP d.pts)),(21,eN d.pts.length),(22,eN k)], [(5, .box [eN (g.es.getD i (0,0)).1,eN (g.es.getD i (0,0)).2]),(10000,lkO g d)]⟩) (fun k=>d.pts.length - k) 0 (by simp[oq]) ?_ ?_
 ·(refine Le.of ?_ ?_<;>simp[go_sem,simprocAttr])
 rintro k ⟨hk,hf⟩
 rcases adk k d.pts.length with hlt|hge
 ·have hb:decide ((k:Int)<(d.pts.length:Int))=true:=ac7 (by omega)
  have dw:=Bi (g:=g) (d:=d) (i:=i) (k:=k)
  rw[hf,aep]at dw
  repeat' (first|refine Rn.p ?_|((first|refine Rs.p ?_|refine Hd.mk ?_|refine aa (MF (d.ls.getD i []) (d.pts.getD k (0,0)) h1 hl) rfl ?_);try simp only[go_sem,simprocAttr,hb])|with_reducible (first|apply And.intro|refine oD (by kernel_rfl) ?_|(intro h;try simp only[go_sem,simprocAttr,hb]at h))|omega)
  ·rw[kL,oq]
   refine(we hlt ?_).symm
   simp only[*,decide_false,afq,aeL,aeu]
  all_goals(
   refine⟨k+1,⟨by omega, ?_⟩, ?_,by omega⟩
   ·rw[dw];simp only[*,decide_true,afe,afo,aft]
   ·(refine Le.of ?_ ?_<;>simp[go_sem,simprocAttr,hb]))
 ·have hb:decide ((k:Int)<(d.pts.length:Int))=false:=ac6 (by omega)
  obtain rfl:k=d.pts.length:=by omega
  repeat' (first|refine Rn.p ?_|((first|refine Rs.p ?_|refine Hd.mk ?_);try simp only[go_sem,simprocAttr,hb]))
  ·exact hf.symm
def MG(e:Edge)(x:Int):Bool:=decide (x=e.1)||decide (x=e.2)
def uN(g:Gr)(d:Dr)(i k:Nat)(m:Nat):List Pt:=(([(g.es.getD i (0,0)).1,(g.es.getD i (0,0)).2].take m).filter (MG (g.es.getD k (0,0)))).map fun x=>d.pts.getD x.toNat (0,0)
def gW(g:Gr)(d:Dr)(i k:Nat):List Pt:=uN g d i k 2
theorem PO{g:Gr}{d:Dr}{i k:Nat} :(gW g d i k).length<=2:=by
 unfold gW uN
 rw[ado]
 exact aek (aeI _ _) (by simp)
theorem PR{g:Gr}{d:Dr}{i k m:Nat} :(uN g d i k m).length<=2:=by
 unfold uN
 rw[ado]
 refine aek (aeI _ _) ?_
 rw[adH];simp;omega
theorem Vt{g:Gr}{d:Dr}{i k:Nat} :uN g d i k 1=uN g d i k 0++if(g.es.getD i (0,0)).1=(g.es.getD k (0,0)).1\/(g.es.getD i (0,0)).1=(g.es.getD k (0,0)).2 then [d.pts.getD (g.es.getD i (0,0)).1.toNat (0,0)] else []:=by
 simp only[uN,List.take_succ_cons,List.take_zero,List.filter_nil,adP,List.nil_append,aeE,MG,adL,ade]
 split<;>rfl
theorem Vu{g:Gr}{d:Dr}{i k:Nat} :uN g d i k 2=uN g d i k 1++if(g.es.getD i (0,0)).2=(g.es.getD k (0,0)).1\/(g.es.getD i (0,0)).2=(g.es.getD k (0,0)).2 then [d.pts.getD (g.es.getD i (0,0)).2.toNat (0,0)] else []:=by
 simp only[uN,List.take_succ_cons,List.take_zero,List.filter_nil,adP,List.nil_append,aeE,MG,adL,ade]
 split<;>split<;>rfl
theorem yX(g:Gr)(d:Dr)(h:x8 g d)(i k:Nat)(hi:i<g.es.length)(hk:k<g.es.length):Spec Tryz.prog 123 (Args [.ptr 10000 0,eN i,eN k]) [(10000,lkO g d)] (.d (sP (gW g d i k))) [(10000,lkO g d)]:=by
 have hn:=aB h.may
 have hnp:=h.np
 obtain⟨⟨Ph,yL⟩,Cu,yM⟩:=cU h.may hi
 obtain⟨⟨Ay,Ao⟩,hk2,WI⟩:=cU h.may hk
 unfold lkO
 (refine T.h [] [] [.t 6] Tryz.func123 rfl rfl (by kernel_rfl) fun X hX hP hC aA bB=> ?_)
 repeat' (first|refine Rn.p ?_|((first|refine Rs.p ?_|refine Hd.mk ?_);try simp only[go_sem,simprocAttr])|with_reducible (first|apply And.intro|refine oD (by kernel_rfl) ?_)|omega)
 (refine dQ hX 6 55 (.tip 54 2 []) (by simp only[go_sem,simprocAttr]) (by simp only[go_sem,simprocAttr]) (by decide) ⟨54,2,by decide, .inr rfl⟩ ?_;simp only[go_sem,simprocAttr])
 refine ag (fun m:Nat=>m<=2) (fun m=>⟨[(0, .ptr 10000 0),(8, .ptr 8 0),(31, .agg [eN (g.es.getD i (0,0)).1,eN (g.es.getD i (0,0)).2]),(32,eN m),(6, .ref 55)], [(55, .tip 54 2 ((uN g d i k m).map rP)),(8, .box [eN (g.es.getD k (0,0)).1,eN (g.es.getD k (0,0)).2]),(10000,lkO g d)]⟩) (fun m=>2 - m) 0 (by omega) ?_ ?_
 ·refine Le.of ?_ ?_<;>simp[go_sem,simprocAttr,uN]
 rintro m hm
 have hlen:=PR (g:=g) (d:=d) (i:=i) (k:=k) (m:=m)
 match m,hm with
 |0,_=>
  have hx:=Vt (g:=g) (d:=d) (i:=i) (k:=k)
  repeat' (first|refine Rn.p ?_|((first|refine Rs.p ?_|refine Hd.mk ?_);try simp only[go_sem,simprocAttr])|with_reducible (first|apply And.intro|(intro h;try simp only[go_sem,simprocAttr]at h))|omega)
  all_goals(refine⟨1,by omega, ?_,by omega⟩;first|rw[ada (by omega)]at hx|rw[ac8 (by omega)]at hx)
  all_goals(refine Le.of ?_ ?_<;>simp[go_sem,simprocAttr,hx,rP])
 |1,_=>
  have hx:=Vu (g:=g) (d:=d) (i:=i) (k:=k)
  repeat' (first|refine Rn.p ?_|((first|refine Rs.p ?_|refine Hd.mk ?_);try simp only[go_sem,simprocAttr])|with_reducible (first|apply And.intro|(intro h;try simp only[go_sem,simprocAttr]at h))|omega)
  all_goals(refine⟨2,by omega, ?_,by omega⟩;first|rw[ada (by omega)]at hx|rw[ac8 (by omega)]at hx)
  all_goals(refine Le.of ?_ ?_<;>simp[go_sem,simprocAttr,hx,rP])
 |2,_=>
  repeat' (first|refine Rn.p ?_|((first|refine Rs.p ?_|refine Hd.mk ?_);try simp only[go_sem,simprocAttr]))
  rfl
 |m+3,hm=>omega
theorem wg{α:Type}{f:α->Bool}{xs:List α}(d:α){k:Nat}(h1:k<xs.length)(h:(xs.take k).all f=true)(he:f (xs.getD k d)=true):(xs.take (k+1)).all f=true:=by
 rw[ad2,List.all_append,h,acF h1]
 simp only[aas,acF h1,Option.getD_some]at he
 simp[he]
theorem mW{α:Type}{f:α->Bool}{xs:List α}{d:α}{k:Nat}(h1:k<xs.length)(he:f (xs.getD k d)=false):xs.all f=false:=by
 rw[List.all_eq_false]
 exact⟨_,az h1,by rw[he];simp⟩
def robQ2(a b:Pc):List (Nat × AObj):= [(10000, .rob [eN a.1.1,eN a.1.2,eN a.2.1,eN a.2.2]),(10001, .rob [eN b.1.1,eN b.1.2,eN b.2.1,eN b.2.2])]
theorem PU(a b:Pc):cC (robQ2 a b):=⟨by simp[robQ2,AObj.ro],by simp[robQ2,nodupM,look],by simp[robQ2],by simp[robQ2,AObj.ids,AV.ids,AV.idss,eN]⟩
attribute [go_sem] robQ2
theorem Gw(a b:Pc)(p:Pt):Spec Tryz.prog 125 (Args [eP p, .ptr 10000 0, .ptr 10001 0]) (robQ2 a b) (eB (nG a.1 a.2 p&&nG b.1 b.2 p)) (robQ2 a b):=by
 unfold robQ2
 (refine T.h [] [] [.t 4] Tryz.func125 rfl rfl (by kernel_rfl) fun X hX hP hC aA bB=> ?_)
 repeat' (first|refine Rn.p ?_|((first|refine Rs.p ?_|refine Hd.mk ?_|refine aa (Eu a.1 a.2 p) rfl ?_|refine aa (Eu b.1 b.2 p) rfl ?_);try simp only[go_sem,simprocAttr])|with_reducible (first|apply And.intro|(intro h;try simp only[go_sem,simprocAttr]at h)))
 all_goals simp[*]
def dH(es:List Pt)(a b:Pc):Bool:=decide (1<fF a.1 a.2 b.1 b.2)||(decide (fF a.1 a.2 b.1 b.2=1)&& !es.any fun p=>nG a.1 a.2 p&&nG b.1 b.2 p)
def jm(g:Gr)(d:Dr)(i m:Nat):Bool:=(List.range m).all fun k=>(fe (d.ls.getD i [])).all fun a=>(fe (d.ls.getD k [])).all fun b=> !dH (gW g d i k) a b
def fZ(g:Gr)(d:Dr)(i:Nat):Bool:=jm g d i i
theorem yY{g:Gr}{d:Dr}{i m:Nat} :jm g d i (m+1)=(jm g d i m&&(fe (d.ls.getD i [])).all fun a=>(fe (d.ls.getD m [])).all fun b=> !dH (gW g d i m) a b):=by
 simp[jm,adW]
theorem Gx(g:Gr)(d:Dr)(hD:x8 g d)(i:Nat)(hi:i<g.es.length):Spec Tryz.prog 72 (Args [.ptr 10000 0,eN i]) [(10000,lkO g d)] (eB (fZ g d i)) [(10000,lkO g d)]:=by
 have hn:=aB hD.may
 have hnp:=hD.np
 have hnl:=hD.nl
 obtain⟨h2,h8⟩:=hD.line hi
 have h1:1<=(d.ls.getD i []).length:=by omega
 have hl:(d.ls.getD i []).length<=1000000:=by omega
 have dI:(fe (d.ls.getD i [])).length=(d.ls.getD i []).length - 1:=fW
 unfold lkO
 (refine T.h [] [] [.t 4] Tryz.func72 rfl rfl (by kernel_rfl) fun X hX hP hC aA bB=> ?_)
 repeat' (first|refine Rn.p ?_|((first|refine Rs.p ?_|refine Hd.mk ?_);try simp only[go_sem,simprocAttr]))
 refine ag (fun k:Nat=>k<=i/\jm g d i k=true) (fun k=>⟨[(0, .ptr 10000 0),(1,eN i),(13,eN i),(14,eN k)], [(10000,lkO g d)]⟩) (fun k=>i - k) 0 (by simp[jm]) ?_ ?_
 ·(refine Le.of ?_ ?_<;>simp[go_sem,simprocAttr])
 rintro k ⟨hk,hf⟩
 rcases adk k i with hlt|hge
 ·have hb:decide ((k:Int)<(i:Int))=true:=ac7 (by omega)
  have cM:k<g.es.length:=by omega
  obtain⟨NV,h8'⟩:=hD.line cM
  have CO:1<=(d.ls.getD k []).length:=by omega
  have hl':(d.ls.getD k []).length<=1000000:=by omega
  have tD:(fe (d.ls.getD k [])).length=(d.ls.getD k []).length - 1:=fW
  have hcl:(gW g d i k).length<=9223372036854775807:=by have:=PO (g:=g) (d:=d) (i:=i) (k:=k);omega
  have dw:=yY (g:=g) (d:=d) (i:=i) (m:=k)
  rw[hf,aep]at dw
  repeat' (first|refine Rn.p ?_|((first|refine Rs.p ?_|refine Hd.mk ?_|(first|(refine aR (EA g d) (yX g d hD i k hi cM) ?_ rfl rfl ?_;(focus(first|exact fun p hp=>aL (cC.nd (EA g d)) hp|(simp[go_sem,simprocAttr,hb];done))))|(refine aR (EA g d) (yX g d hD i k hi cM) ?_ ?_ rfl ?_;(focus(first|exact fun p hp=>aL (cC.nd (EA g d)) hp|(simp[go_sem,simprocAttr,hb];done)));(focus(simp[go_sem,simprocAttr,hb];done))))|refine aa (mV (d.ls.getD i []) h1 hl) rfl ?_);try simp only[go_sem,simprocAttr,hb])|with_reducible (apply And.intro)|omega)
  refine ag (fun s:Nat=>s<=(fe (d.ls.getD i [])).length/\((fe (d.ls.getD i [])).take s).all (fun a=>(fe (d.ls.getD k [])).all fun b=> !dH (gW g d i k) a b)=true) (fun s=>⟨[(0, .ptr 10000 0),(1,eN i),(13,eN i),(14,eN k),(5,eN k),(6, .d (sP (gW g d i k))),(29, .d (sQ (fe (d.ls.getD i [])))),(30,eN (fe (d.ls.getD i [])).length),(31,eN s)], [(10000,lkO g d)]⟩) (fun s=>(fe (d.ls.getD i [])).length - s) 0 (by simp) ?_ ?_
  ·(refine⟨bS ?_,fun _ _ h=>h⟩;simp[go_sem,simprocAttr,hb])
  rintro s ⟨hs,hsa⟩
  rcases adk s (fe (d.ls.getD i [])).length with CR|Ws
  ·have hb1:decide ((s:Int)<((fe (d.ls.getD i [])).length:Int))=true:=ac7 (by omega)
   obtain⟨a,ha⟩:∃a,a=(fe (d.ls.getD i [])).getD s ((0,0),(0,0)):=⟨_,rfl⟩
   repeat' (first|refine Rn.p ?_|((first|refine Rs.p ?_|refine Hd.mk ?_|refine aa (mV (d.ls.getD k []) CO hl') rfl ?_);try simp only[go_sem,simprocAttr,hb1, <- ha])|with_reducible (apply And.intro)|omega)
   refine ag (fun t:Nat=>t<=(fe (d.ls.getD k [])).length/\((fe (d.ls.getD k [])).take t).all (fun b=> !dH (gW g d i k) a b)=true) (fun t=>⟨[(0, .ptr 10000 0),(1,eN i),(13,eN i),(14,eN k),(5,eN k),(6, .d (sP (gW g d i k))),(29, .d (sQ (fe (d.ls.getD i [])))),(30,eN (fe (d.ls.getD i [])).length),(31,eN s),(8, .ptr 8 0),(43, .d (sQ (fe (d.ls.getD k [])))),(44,eN (fe (d.ls.getD k [])).length),(45,eN t)], [(8, .box [eN a.1.1,eN a.1.2,eN a.2.1,eN a.2.2]),(10000,lkO g d)]⟩) (fun t=>(fe (d.ls.getD k [])).length - t) 0 (by simp) ?_ ?_
   ·(refine Le.of ?_ ?_<;>simp[go_sem,simprocAttr,hb1, <- ha])
   rintro t ⟨ht,RU⟩
   rcases adk t (fe (d.ls.getD k [])).length with htl|htg
   ·have hb2:decide ((t:Int)<((fe (d.ls.getD k [])).length:Int))=true:=ac7 (by omega)
    obtain⟨b,Ug⟩:∃b,b=(fe (d.ls.getD k [])).getD t ((0,0),(0,0)):=⟨_,rfl⟩
    have uz:dH (gW g d i k) a b=(decide (1<fF a.1 a.2 b.1 b.2)||(decide (fF a.1 a.2 b.1 b.2=1)&& !(gW g d i k).any fun p=>nG a.1 a.2 p&&nG b.1 b.2 p)):=rfl
    have hno:dH (gW g d i k) a b=true->fZ g d i=false:=fun hb=>we hlt (mW (d:=((0,0),(0,0))) CR (by rw[<- ha];exact mW (d:=((0,0),(0,0))) htl (by rw[<- Ug,hb];rfl)))
    repeat' (first|refine Rn.p ?_|((first|refine Rs.p ?_|refine Hd.mk ?_|refine aa (MB a.1 a.2 b.1 b.2) rfl ?_|(refine bw [(10000,8),(10001,10)] (tG (PU a b) _ _ (fun p=>nG a.1 a.2 p&&nG b.1 b.2 p) (gW g d i k) (fun p _=>Gw a b p) hcl) ?_ ?_;(focus(simp[go_sem,simprocAttr,hb2, <- Ug];done))));try simp only[go_sem,simprocAttr,hb2, <- Ug])|with_reducible (first|apply And.intro|(intro h;try simp only[go_sem,simprocAttr,hb2, <- Ug]at h))|omega)
    all_goals first
     |(refine(hno ?_).symm;rw[uz];simp only[ade,adL,adg,adK];first|exact .inl (by assumption)|exact .inr ⟨by assumption,by assumption⟩)
     |(have SG:dH (gW g d i k) a b=false:=(by rw[uz];simp only[aeq,adM,aeT,afF];first|exact⟨by omega, .inl (by assumption)⟩|exact⟨by omega, .inr (by assumption)⟩)
       refine⟨t+1,⟨by omega,wg ((0,0),(0,0)) htl RU (by rw[<- Ug,SG];rfl)⟩, ?_,by omega⟩
       (refine Le.of ?_ ?_<;>simp[go_sem,simprocAttr,hb2, <- Ug]))
   ·have hb2:decide ((t:Int)<((fe (d.ls.getD k [])).length:Int))=false:=ac6 (by omega)
    rw[adC htg]at RU
    repeat' (first|refine Rn.p ?_|((first|refine Rs.p ?_|refine Hd.mk ?_);try simp only[go_sem,simprocAttr,hb2])|with_reducible (apply And.intro)|omega)
    refine⟨s+1,⟨by omega,wg ((0,0),(0,0)) CR hsa (by rw[<- ha];exact RU)⟩, ?_,by omega⟩
    (refine Le.of ?_ ?_<;>simp[go_sem,simprocAttr,hb2])
  ·have hb1:decide ((s:Int)<((fe (d.ls.getD i [])).length:Int))=false:=ac6 (by omega)
   rw[adC Ws]at hsa
   repeat' (first|refine Rn.p ?_|((first|refine Rs.p ?_|refine Hd.mk ?_);try simp only[go_sem,simprocAttr,hb1])|with_reducible (apply And.intro)|omega)
   refine⟨k+1,⟨by omega,by rw[dw];exact hsa⟩, ?_,by omega⟩
   (refine Le.of ?_ ?_<;>simp[go_sem,simprocAttr,hb1])
 ·have hb:decide ((k:Int)<(i:Int))=false:=ac6 (by omega)
  obtain rfl:k=i:=by omega
  repeat' (first|refine Rn.p ?_|((first|refine Rs.p ?_|refine Hd.mk ?_);try simp only[go_sem,simprocAttr,hb]))
  exact hf.symm
def bP(n:Nat)(holds:Nat->Bool):Int:=bT (fun i=> !holds i) (List.range n)
theorem mj{m:List (Nat × AObj)}(hR:cC m)(f:Nat)(fs caps:List AV)(holds:Nat->Bool)(n:Nat)(hl:n<=9223372036854775807)(hf:∀i:Nat,i<n->Spec Tryz.prog f (Args (fs++eN i::caps)) m (eB (holds i)) m):
 Spec Tryz.prog 67 (Args [eN n, .fn f fs caps]) m (eN (bP n holds)) m:=by
 (refine T.hS [] [] [.t 4] hR Tryz.func67 rfl rfl (by kernel_rfl) fun X hX hP hC aA bB=> ?_)
 repeat' (first|refine Rn.p ?_|((first|refine Rs.p ?_|refine Hd.mk ?_);try simp only[go_sem,simprocAttr]))
 refine ag (fun k:Nat=>k<=n/\∀j,j<k->holds j=true) (fun k=>⟨[(1, .fn f fs caps),(6,eN n),(7,eN k)],m⟩) (fun k=>n - k) 0 (by simp) ?_ ?_
 ·(refine⟨bS ?_,fun _ _ h=>h⟩;simp[go_sem,simprocAttr])
 rintro k ⟨hk,hg⟩
 rcases adk k n with hlt|hge
 ·have hb:decide ((k:Int)<(n:Int))=true:=ac7 (by omega)
  have hf':=hf k hlt
  repeat' (first|refine Rn.p ?_|((first|refine Rs.p ?_|refine Hd.mk ?_|(first|(refine aR hR (hf') ?_ rfl rfl ?_;(focus(first|exact fun p hp=>aL (cC.nd hR) hp|(simp[go_sem,simprocAttr,hb];done))))|(refine aR hR (hf') ?_ ?_ rfl ?_;(focus(first|exact fun p hp=>aL (cC.nd hR) hp|(simp[go_sem,simprocAttr,hb];done)));(focus(simp[go_sem,simprocAttr,hb];done)))));try simp only[go_sem,simprocAttr,hb])|with_reducible (first|apply And.intro|(intro h;try simp only[go_sem,simprocAttr,hb]at h))|omega)
  ·refine(b9 (d:=0) (by simpa using hlt) (fun j hj=> ?_) ?_).symm
   ·rw[dB (by omega),hg j hj];rfl
   ·rw[dB hlt,h];rfl
  ·exact cu hR
  ·refine⟨k+1,⟨by omega,fun j hj=> ?_⟩, ?_,by omega⟩
   ·by_cases hjk:j=k
    ·subst hjk;exact h
    ·exact hg j (by omega)
   ·(refine⟨bS ?_,fun _ _ h=>h⟩;simp[go_sem,simprocAttr,hb])
 ·have hb:decide ((k:Int)<(n:Int))=false:=ac6 (by omega)
  repeat' (first|refine Rn.p ?_|((first|refine Rs.p ?_|refine Hd.mk ?_);try simp only[go_sem,simprocAttr,hb])|with_reducible (apply And.intro))
  ·refine(bL 0 fun j hj=> ?_).symm
   rw[ae3]at hj
   rw[dB hj,hg j (by omega)];rfl
  ·exact cu hR
def jC(l:List Pt):Bool:=decide (l.length<2)||decide (8<l.length)||l.any nF
theorem EB(l:List Pt)(hl:l.length<=9223372036854775806):Spec Tryz.prog 117 (Args [.d (sP l)]) [] (eB (jC l)) []:=by
 (refine T.h [] [] [.t 2] Tryz.func117 rfl rfl (by kernel_rfl) fun X hX hP hC aA bB=> ?_)
 repeat' (first|refine Rn.p ?_|((first|refine Rs.p ?_|refine Hd.mk ?_|refine aa (sC l hl) rfl ?_);try simp only[go_sem,simprocAttr])|with_reducible (first|apply And.intro|(intro h;try simp only[go_sem,simprocAttr]at h)))
 ·have e1:decide (l.length<2)=false:=ac6 (by omega)
  have e2:decide (8<l.length)=false:=ac6 (by omega)
  simp only[jC,e1,e2,aeL,agV]
 ·have e2:decide (8<l.length)=true:=ac7 (by omega)
  simp only[jC,e2,afo,afe]
 ·have e1:decide (l.length<2)=true:=ac7 (by omega)
  simp only[jC,e1,afe]
def dZ(d:Dr):Bool:= !d.pts.any nF&& !d.ls.any jC
theorem yZ(g:Gr)(d:Dr)(hp:d.pts.length<=9223372036854775806)(hls:d.ls.length<=9223372036854775807)(iF:∀l∈d.ls,l.length<=9223372036854775806):
 Spec Tryz.prog 66 (Args [.ptr 10000 0]) [(10000,lkO g d)] (eB (dZ d)) [(10000,lkO g d)]:=by
 unfold lkO
 (refine T.h [] [] [.t 2] Tryz.func66 rfl rfl (by kernel_rfl) fun X hX hP hC aA bB=> ?_)
 repeat' (first|refine Rn.p ?_|((first|refine Rs.p ?_|refine Hd.mk ?_|refine aa (sC d.pts hp) rfl ?_|refine aa (tH cC.nil _ [] jC d.ls (fun l hl=>EB l (iF l hl)) hls) rfl ?_);try simp only[go_sem,simprocAttr])|with_reducible (first|apply And.intro|(intro h;try simp only[go_sem,simprocAttr]at h)))
 all_goals simp only[dZ]
 ·have h0:d.pts.any nF=false:=by assumption
  simp only[h0,aft,aep]
 ·have h0:d.pts.any nF=true:=by assumption
  simp only[h0,aeu,agc]
theorem Bj{g:Gr}(h:(bX g).1=0):aM g=true:=by
 cases hm:aM g with
 |true=>rfl
 |false=>simp[bX,iT,hm]at h
theorem uO{d:Dr}(h:dZ d=true):∀l∈d.ls,2<=l.length/\l.length<=8:=by
 intro l hl
 simp only[dZ,adg,adK]at h
 have:=(adV.1 h.2) l hl
 simp only[jC,adL,ade,not_or]at this
 omega
def ga(g:Gr)(d:Dr):Bool:=decide ((bX g).1=0)&&decide ((d.pts.length:Int)=g.n)&&decide (d.ls.length=g.es.length)
def kG(g:Gr)(d:Dr):Int × Int:=
 if ga g d=false then(1,0) else
 if dZ d=false then(2,0) else
 if 0<=bP g.es.length (qT g d) then(6,bP g.es.length (qT g d)) else
 if 0<=bP g.es.length (fun i=>gL (d.ls.getD i [])) then(7,bP g.es.length (fun i=>gL (d.ls.getD i []))) else
 if 0<=bP d.pts.length (fD d) then(8,bP d.pts.length (fD d)) else
 if 0<=bP g.es.length (kL g d) then(9,bP g.es.length (kL g d)) else
 if 0<=bP g.es.length (fZ g d) then(17,bP g.es.length (fZ g d)) else(0,0)
def eFt(c:Int × Int):AV:= .agg [eN c.1,eN c.2, .d (.sl 1 [])]
attribute [go_sem] eFt
set_option maxHeartbeats 8000000 in
theorem fJ(g:Gr)(d:Dr)(yJ:g.es.length<=1000)(hp:d.pts.length<=1000)(hls:d.ls.length<=1000)(iF:∀l∈d.ls,l.length<=1000):
 Spec Tryz.prog 28 (Args [eG g,eDr d]) [] (eFt (kG g d)) []:=by
 have Wx:d.pts.length<=9223372036854775806:=by omega
 have XV:d.ls.length<=9223372036854775807:=by omega
 have XW:∀l∈d.ls,l.length<=9223372036854775806:=fun l hl=>by have:=iF l hl;omega
 (refine T.h [] [] [.c 4 64] Tryz.func28 rfl rfl (by kernel_rfl) fun X hX hP hC aA bB=> ?_)
 cases hfit:ga g d with
 |false=>
  have hc:kG g d=(1,0):=by rw[kG,ada hfit]
  have hneg:¬((bX g).1=0/\(d.pts.length:Int)=g.n/\d.ls.length=g.es.length):=fun ⟨a,b,c⟩=>by simp[ga,a,b,c]at hfit
  repeat' (first|refine Rn.p ?_|((first|refine Rs.p ?_|refine Hd.mk ?_|refine aa (iE g yJ) rfl ?_);try simp only[go_sem,simprocAttr,hc])|with_reducible (first|apply And.intro|(intro h;try simp only[go_sem,simprocAttr,hc]at h))|omega)
  all_goals trace_state
 |true=>
  simp only[ga,adg,ade]at hfit
  obtain⟨⟨h0,hnp⟩,hnl⟩:=hfit
  have hfit:ga g d=true:=by simp only[ga,h0,hnp,hnl,decide_true,Bool.and_self]
  have hm:=Bj h0
  have hn:=aB hm
  have e0:(bX g).1=0:=h0
  cases hr:dZ d with
  |false=>
   have hc:kG g d=(2,0):=by rw[kG,ac8 (by rw[hfit];simp),ada hr]
   repeat' (first|refine Rn.p ?_|((first|refine Rs.p ?_|refine Hd.mk ?_|refine aa (iE g yJ) rfl ?_|(refine bw [(10000,14)] (yZ g d Wx XV XW) ?_ ?_;(focus(simp[go_sem,simprocAttr,hc,h0,hnl,hr];done))));try simp only[go_sem,simprocAttr,hc,h0,hnl,hr])|with_reducible (first|apply And.intro|(intro h;try simp only[go_sem,simprocAttr,hc,h0,hnl,hr]at h))|omega)
  |true=>
  have Vv:x8 g d:=⟨hm,hnp,hnl,uO hr⟩
  have hle:g.es.length<=9223372036854775807:=by omega
  have hle2:d.pts.length<=9223372036854775807:=by omega
  have fa:Spec Tryz.prog 67 (Args [eN g.n, .fn 70 [.ptr 10000 0] []]) [(10000,lkO g d)] (eN (bP d.pts.length (fD d))) [(10000,lkO g d)]:=by
   rw[<- hnp];exact mj (EA g d) _ [.ptr 10000 0] [] (fD d) d.pts.length hle2 (fun i hi=>IY g d Vv i hi)
  have hc1:kG g d=if 0<=bP g.es.length (qT g d) then(6,bP g.es.length (qT g d)) else
   if 0<=bP g.es.length (fun i=>gL (d.ls.getD i [])) then(7,bP g.es.length (fun i=>gL (d.ls.getD i []))) else
   if 0<=bP d.pts.length (fD d) then(8,bP d.pts.length (fD d)) else
   if 0<=bP g.es.length (kL g d) then(9,bP g.es.length (kL g d)) else
   if 0<=bP g.es.length (fZ g d) then(17,bP g.es.length (fZ g d)) else(0,0):=by
   rw[kG,ac8 (by rw[hfit];simp),ac8 (by rw[hr];simp)]
  generalize hcc:kG g d=c at hc1 ⊢
  repeat' (first|refine Rn.p ?_|((first|refine Rs.p ?_|refine Hd.mk ?_|refine aa (iE g yJ) rfl ?_|(refine bw [(10000,14)] (yZ g d Wx XV XW) ?_ ?_;(focus(simp[go_sem,simprocAttr,h0,hnl,hr];done)))|(refine bw [(10000,14)] (mj (EA g d) _ [.ptr 10000 0] [] (qT g d) g.es.length hle (fun i hi=>IX g d Vv i hi)) ?_ ?_;(focus(simp[go_sem,simprocAttr,h0,hnl,hr];done)))|(refine bw [(10000,14)] (mj (EA g d) _ [.ptr 10000 0] [] (fun i=>gL (d.ls.getD i [])) g.es.length hle (fun i hi=>IW g d Vv i hi)) ?_ ?_;(focus(simp[go_sem,simprocAttr,h0,hnl,hr];done)))|(refine bw [(10000,14)] (fa) ?_ ?_;(focus(simp[go_sem,simprocAttr,h0,hnl,hr];done)))|(refine bw [(10000,14)] (mj (EA g d) _ [.ptr 10000 0] [] (kL g d) g.es.length hle (fun i hi=>free_spec g d Vv i hi)) ?_ ?_;(focus(simp[go_sem,simprocAttr,h0,hnl,hr];done)))|(refine bw [(10000,14)] (mj (EA g d) _ [.ptr 10000 0] [] (fZ g d) g.es.length hle (fun i hi=>Gx g d Vv i hi)) ?_ ?_;(focus(simp[go_sem,simprocAttr,h0,hnl,hr];done))));try simp only[go_sem,simprocAttr,h0,hnl,hr])|with_reducible (first|apply And.intro|(intro h;try simp only[go_sem,simprocAttr,h0,hnl,hr]at h))|omega)
  all_goals(rw[hc1];repeat (first|rw[ada (by assumption)]|rw[ac8 (by assumption)]))
theorem wh{l:List Pt}{k:Nat}(h:k+1<l.length):(fe l).getD k ((0,0),(0,0))=(l.getD k (0,0),l.getD (k+1) (0,0)):=by
 simp only[fe,MD]
 rw[aas,adn,adq (by omega)];rfl
theorem qU(a b c:Pt):Spec Tryz.prog 109 (Args [eP a,eP b,eP c]) [] (eB (nG a b c)) []:=by
 rw[<- Ue];exact Bc a b c
theorem Gy(l:List Pt)(p:Pt)(hl:l.length<=1000000):Spec Tryz.prog 63 (Args [.d (sP l),eP p]) [] (eB (SF l p)) []:=by
 have dI:(fe l).length=l.length - 1:=fW
 (refine T.h [] [] [.t 4] Tryz.func63 rfl rfl (by kernel_rfl) fun X hX hP hC aA bB=> ?_)
 repeat' (first|refine Rn.p ?_|((first|refine Rs.p ?_|refine Hd.mk ?_);try simp only[go_sem,simprocAttr]))
 refine ag (fun k:Nat=>k<=(fe l).length/\((fe l).take k).any (fun q=>nG q.1 q.2 p)=false) (fun k=>⟨[(0, .d (sP l)),(3, .ptr 3 0),(5,eN k)], [(3, .box [eN p.1,eN p.2])]⟩) (fun k=>(fe l).length - k) 0 (by simp) ?_ ?_
 ·(refine Le.of ?_ ?_<;>simp[go_sem,simprocAttr])
 rintro k ⟨hk,hf⟩
 rcases adk (k+1) l.length with hlt|hge
 ·have hb:decide ((k:Int)+1<(l.length:Int))=true:=ac7 (by omega)
  have hg:=wh hlt
  have ht:(k:Int)+1=((k+1:Nat):Int):=rfl
  have htn:((k:Int)+1).toNat=k+1:=by omega
  repeat' (first|refine Rn.p ?_|((first|refine Rs.p ?_|refine Hd.mk ?_|refine aa (qU (l.getD k (0,0)) (l.getD (k+1) (0,0)) p) rfl ?_);try simp only[go_sem,simprocAttr,hb,htn])|with_reducible (first|apply And.intro|refine oD (by kernel_rfl) ?_|(intro h;try simp only[go_sem,simprocAttr,hb,htn]at h))|omega)
  ·rw[SF,uF (d:=((0,0),(0,0))) (k:=k) (by omega) (by rw[hg];exact h)]
  ·refine⟨k+1,⟨by omega,nS ((0,0),(0,0)) (by omega) hf (by rw[hg];exact h)⟩, ?_,by omega⟩
   (refine Le.of ?_ ?_<;>simp[go_sem,simprocAttr,hb,htn])
 ·have hb:decide ((k:Int)+1<(l.length:Int))=false:=ac6 (by omega)
  rw[adC (by omega)]at hf
  repeat' (first|refine Rn.p ?_|((first|refine Rs.p ?_|refine Hd.mk ?_);try simp only[go_sem,simprocAttr,hb])|with_reducible (apply And.intro)|omega)
  exact hf.symm
theorem PV(p:Pt):decide (bC p)= !nF p:=by rw[sD,agV]
theorem wj(p:Pt):Spec Tryz.prog 108 (Args [eP p]) [] (eB (!nF p)) []:=by
 rw[<- PV];exact pL p
theorem qV(d:Dr)(hp:d.pts.length<=1000)(hls:d.ls.length<=1000)(iF:∀l∈d.ls,l.length<=1000):Spec Tryz.prog 62 (Args [eDr d]) [] (eB (dZ d)) []:=by
 (refine T.h [] [] [.t 2] Tryz.func62 rfl rfl (by kernel_rfl) fun X hX hP hC aA bB=> ?_)
 repeat' (first|refine Rn.p ?_|((first|refine Rs.p ?_|refine Hd.mk ?_);try simp only[go_sem,simprocAttr]))
 refine ag (fun k:Nat=>k<=d.pts.length/\(d.pts.take k).any nF=false) (fun k=>⟨[(1, .ptr 1 0),(3,eN k)], [(1, .box [.d (sP d.pts), .d (sLn d.ls)])]⟩) (fun k=>d.pts.length - k) 0 (by simp) ?_ ?_
 ·(refine Le.of ?_ ?_<;>simp[go_sem,simprocAttr])
 rintro k ⟨hk,hf⟩
 rcases adk k d.pts.length with hlt|hge
 ·have hb:decide ((k:Int)<(d.pts.length:Int))=true:=ac7 (by omega)
  repeat' (first|refine Rn.p ?_|((first|refine Rs.p ?_|refine Hd.mk ?_|refine aa (wj (d.pts.getD k (0,0))) rfl ?_);try simp only[go_sem,simprocAttr,hb])|with_reducible (first|apply And.intro|(intro h;try simp only[go_sem,simprocAttr,hb]at h))|omega)
  ·rw[dZ,uF (d:=(0,0)) (k:=k) hlt h];rfl
  ·refine⟨k+1,⟨by omega,nS (0,0) hlt hf h⟩, ?_,by omega⟩
   (refine Le.of ?_ ?_<;>simp[go_sem,simprocAttr,hb])
 ·have hb:decide ((k:Int)<(d.pts.length:Int))=false:=ac6 (by omega)
  rw[adC hge]at hf
  repeat' (first|refine Rn.p ?_|((first|refine Rs.p ?_|refine Hd.mk ?_);try simp only[go_sem,simprocAttr,hb]))
  refine ag (fun k:Nat=>k<=d.ls.length/\(d.ls.take k).any jC=false) (fun k=>⟨[(1, .ptr 1 0),(4,eN k)], [(1, .box [.d (sP d.pts), .d (sLn d.ls)])]⟩) (fun k=>d.ls.length - k) 0 (by simp) ?_ ?_
  ·(refine Le.of ?_ ?_<;>simp[go_sem,simprocAttr,hb])
  clear hk hge hb
  rintro k ⟨hk,Pn⟩
  rcases adk k d.ls.length with hlt|hge
  ·have hb:decide ((k:Int)<(d.ls.length:Int))=true:=ac7 (by omega)
   obtain⟨l,hl⟩:∃l,l=d.ls.getD k []:=⟨_,rfl⟩
   have hlen:l.length<=1000:=iF l (by rw[hl];exact az hlt)
   have hno:jC l=true->dZ d=false:=fun hb=>by
    rw[dZ,uF (xs:=d.ls) (d:= []) (k:=k) hlt (by rw[<- hl];exact hb),aeu,afS]
   repeat' (first|refine Rn.p ?_|((first|refine Rs.p ?_|refine Hd.mk ?_);try simp only[go_sem,simprocAttr,hb, <- hl])|with_reducible (first|apply And.intro|(intro h;try simp only[go_sem,simprocAttr,hb, <- hl]at h))|omega)
   ·refine(hno ?_).symm
    simp only[jC,ac7 (show 8<l.length by omega),afo,afe]
   ·refine ag (fun j:Nat=>j<=l.length/\(l.take j).any nF=false) (fun j=>⟨[(1, .ptr 1 0),(4,eN k),(5,eN j)], [(1, .box [.d (sP d.pts), .d (sLn d.ls)])]⟩) (fun j=>l.length - j) 0 (by simp) ?_ ?_
    ·(refine Le.of ?_ ?_<;>simp[go_sem,simprocAttr,hb, <- hl])
    rintro j ⟨hj,hf3⟩
    rcases adk j l.length with hjl|WG
    ·have hb3:decide ((j:Int)<(l.length:Int))=true:=ac7 (by omega)
     repeat' (first|refine Rn.p ?_|((first|refine Rs.p ?_|refine Hd.mk ?_|refine aa (wj (l.getD j (0,0))) rfl ?_);try simp only[go_sem,simprocAttr, <- hl,hb3])|with_reducible (first|apply And.intro|(intro h;try simp only[go_sem,simprocAttr, <- hl,hb3]at h))|omega)
     ·refine(hno ?_).symm
      rw[jC,uF (d:=(0,0)) (k:=j) hjl h,afo]
     ·refine⟨j+1,⟨by omega,nS (0,0) hjl hf3 h⟩, ?_,by omega⟩
      (refine Le.of ?_ ?_<;>simp[go_sem,simprocAttr, <- hl,hb3])
    ·have hb3:decide ((j:Int)<(l.length:Int))=false:=ac6 (by omega)
     rw[adC WG]at hf3
     have SG:jC l=false:=by
      simp only[jC,ac6 (show ¬l.length<2 by omega),ac6 (show ¬8<l.length by omega),hf3,afq]
     repeat' (first|refine Rn.p ?_|((first|refine Rs.p ?_|refine Hd.mk ?_);try simp only[go_sem,simprocAttr, <- hl,hb3])|with_reducible (apply And.intro)|omega)
     refine⟨k+1,⟨by omega,nS [] hlt Pn (by rw[<- hl];exact SG)⟩, ?_,by omega⟩
     (refine Le.of ?_ ?_<;>simp[go_sem,simprocAttr, <- hl,hb3])
   ·refine(hno ?_).symm
    simp only[jC,ac7 (show l.length<2 by omega),afe]
  ·have hb:decide ((k:Int)<(d.ls.length:Int))=false:=ac6 (by omega)
   rw[adC hge]at Pn
   repeat' (first|refine Rn.p ?_|((first|refine Rs.p ?_|refine Hd.mk ?_);try simp only[go_sem,simprocAttr,hb]))
   rw[dZ,hf,Pn];rfl
def EC(g:Gr)(d:Dr)(i k:Nat)(a b:Pc)(m:Nat):Bool:=(List.range m).any fun x=>(decide ((g.es.getD i (0,0)).1=(x:Int))||decide ((g.es.getD i (0,0)).2=(x:Int)))&&(decide ((g.es.getD k (0,0)).1=(x:Int))||decide ((g.es.getD k (0,0)).2=(x:Int)))&&nG a.1 a.2 (d.pts.getD x (0,0))&&nG b.1 b.2 (d.pts.getD x (0,0))
theorem MH{g:Gr}{d:Dr}{i k:Nat}{a b:Pc}{m:Nat} :EC g d i k a b (m+1)=(EC g d i k a b m||((decide ((g.es.getD i (0,0)).1=(m:Int))||decide ((g.es.getD i (0,0)).2=(m:Int)))&&(decide ((g.es.getD k (0,0)).1=(m:Int))||decide ((g.es.getD k (0,0)).2=(m:Int)))&&nG a.1 a.2 (d.pts.getD m (0,0))&&nG b.1 b.2 (d.pts.getD m (0,0)))):=by
 simp[EC,adW]
theorem PW{g:Gr}{d:Dr}(hD:x8 g d){i k:Nat}(hi:i<g.es.length)(a b:Pc):EC g d i k a b g.n.toNat=(gW g d i k).any fun p=>nG a.1 a.2 p&&nG b.1 b.2 p:=by
 obtain⟨⟨Ph,yL⟩,Cu,yM⟩:=cU hD.may hi
 rw[ad1]
 simp only[EC,adR,adl,adg,adL,ade,gW,uN,adb,adJ,MG]
 constructor
 ·rintro⟨x,hx,⟨⟨h1,h2⟩,h3⟩,h4⟩
  refine⟨_,⟨(x:Int),⟨by simp only[List.take_succ_cons,List.take_zero,adw,aeo,or_false];omega,by omega⟩,by rw[Int.toNat_natCast]⟩,h3,h4⟩
 ·rintro⟨p,⟨x,⟨h1,h2⟩,rfl⟩,h3,h4⟩
  simp only[List.take_succ_cons,List.take_zero,adw,aeo,or_false]at h1
  refine⟨x.toNat,by omega,⟨⟨by omega,by omega⟩,h3⟩,h4⟩
theorem Gz(a b c d:Pt):0<=fF a b c d/\fF a b c d<=2:=by
 unfold fF
 split
 ·split
  ·omega
  ·split<;>omega
 ·omega
theorem CF(a b c d:Pt):Spec Tryz.prog 110 (Args [eP a,eP b,eP c,eP d]) [] (eN (fF a b c d)) []:=by
 rw[<- KI];exact Ev a b c d
def Bl(g:Gr)(d:Dr)(i k:Nat):Bool:= !(fe (d.ls.getD i [])).all fun a=>(fe (d.ls.getD k [])).all fun b=> !dH (gW g d i k) a b
theorem CG(g:Gr)(d:Dr)(hD:x8 g d)(i k:Nat)(hi:i<g.es.length)(hk:k<g.es.length):Spec Tryz.prog 64 (Args [eG g,eDr d,eN i,eN k]) [] (eB (Bl g d i k)) []:=by
 have hn:=aB hD.may
 have hnp:=hD.np
 have hnl:=hD.nl
 obtain⟨li,GA⟩:∃l,l=d.ls.getD i []:=⟨_,rfl⟩
 obtain⟨lk,hlk⟩:∃l,l=d.ls.getD k []:=⟨_,rfl⟩
 have hi2:=hD.line hi
 have hk2:=hD.line hk
 rw[<- GA]at hi2
 rw[<- hlk]at hk2
 have hpi:(fe li).length=li.length - 1:=fW
 have hpk:(fe lk).length=lk.length - 1:=fW
 have hB:Bl g d i k= !(fe li).all fun a=>(fe lk).all fun b=> !dH (gW g d i k) a b:=by rw[Bl, <- GA, <- hlk]
 rw[hB]
 (refine T.h [] [] [.t 8] Tryz.func64 rfl rfl (by kernel_rfl) fun X hX hP hC aA bB=> ?_)
 repeat' (first|refine Rn.p ?_|((first|refine Rs.p ?_|refine Hd.mk ?_);try simp only[go_sem,simprocAttr])|with_reducible (first|apply And.intro|refine oD (by kernel_rfl) ?_)|omega)
 refine ag (fun s:Nat=>s<=(fe li).length/\((fe li).take s).all (fun a=>(fe lk).all fun b=> !dH (gW g d i k) a b)=true) (fun s=>⟨[(2,eN i),(3,eN k),(4, .ptr 4 0),(5, .ptr 5 0),(9, .ptr 9 0),(10, .ptr 10 0),(11,eN s)], [(4, .box [eN g.n, .d (sE g.es)]),(5, .box [.d (sP d.pts), .d (sLn d.ls)]),(9, .box [eN (g.es.getD i (0,0)).1,eN (g.es.getD i (0,0)).2]),(10, .box [eN (g.es.getD k (0,0)).1,eN (g.es.getD k (0,0)).2])]⟩) (fun s=>(fe li).length - s) 0 (by simp) ?_ ?_
 ·(refine Le.of ?_ ?_<;>simp[go_sem,simprocAttr])
 rintro s ⟨hs,hsa⟩
 rcases adk (s+1) li.length with CR|Ws
 ·have hb1:decide ((s:Int)+1<(li.length:Int))=true:=ac7 (by omega)
  have hga:=wh CR
  have htn:((s:Int)+1).toNat=s+1:=by omega
  repeat' (first|refine Rn.p ?_|((first|refine Rs.p ?_|refine Hd.mk ?_);try simp only[go_sem,simprocAttr, <- GA, <- hlk,hb1])|with_reducible (apply And.intro)|omega)
  refine ag (fun t:Nat=>t<=(fe lk).length/\((fe lk).take t).all (fun b=> !dH (gW g d i k) (li.getD s (0,0),li.getD (s+1) (0,0)) b)=true) (fun t=>⟨[(2,eN i),(3,eN k),(4, .ptr 4 0),(5, .ptr 5 0),(9, .ptr 9 0),(10, .ptr 10 0),(11,eN s),(12,eN t)], [(4, .box [eN g.n, .d (sE g.es)]),(5, .box [.d (sP d.pts), .d (sLn d.ls)]),(9, .box [eN (g.es.getD i (0,0)).1,eN (g.es.getD i (0,0)).2]),(10, .box [eN (g.es.getD k (0,0)).1,eN (g.es.getD k (0,0)).2])]⟩) (fun t=>(fe lk).length - t) 0 (by simp) ?_ ?_
  ·(refine Le.of ?_ ?_<;>simp[go_sem,simprocAttr, <- GA, <- hlk,hb1])
  rintro t ⟨ht,RU⟩
  rcases adk (t+1) lk.length with htl|htg
  ·have hb2:decide ((t:Int)+1<(lk.length:Int))=true:=ac7 (by omega)
   have Vw:=wh htl
   have SH:((t:Int)+1).toNat=t+1:=by omega
   obtain⟨n,SI⟩:∃n,n=fF (li.getD s (0,0)) (li.getD (s+1) (0,0)) (lk.getD t (0,0)) (lk.getD (t+1) (0,0)):=⟨_,rfl⟩
   have Vx:=Gz (li.getD s (0,0)) (li.getD (s+1) (0,0)) (lk.getD t (0,0)) (lk.getD (t+1) (0,0))
   rw[<- SI]at Vx
   have uz:dH (gW g d i k) (li.getD s (0,0),li.getD (s+1) (0,0)) (lk.getD t (0,0),lk.getD (t+1) (0,0))=(decide (1<n)||(decide (n=1)&& !EC g d i k (li.getD s (0,0),li.getD (s+1) (0,0)) (lk.getD t (0,0),lk.getD (t+1) (0,0)) g.n.toNat)):=by
    rw[PW hD hi,SI];rfl
   have SG:dH (gW g d i k) (li.getD s (0,0),li.getD (s+1) (0,0)) (lk.getD t (0,0),lk.getD (t+1) (0,0))=false->((fe lk).take (t+1)).all (fun b=> !dH (gW g d i k) (li.getD s (0,0),li.getD (s+1) (0,0)) b)=true:=fun hb=>
    wg ((0,0),(0,0)) (by omega) RU (by rw[Vw,hb];rfl)
   have hno:dH (gW g d i k) (li.getD s (0,0),li.getD (s+1) (0,0)) (lk.getD t (0,0),lk.getD (t+1) (0,0))=true->((fe li).all fun a=>(fe lk).all fun b=> !dH (gW g d i k) a b)=false:=fun hb=>
    mW (d:=((0,0),(0,0))) (k:=s) (by omega) (by rw[hga];exact mW (d:=((0,0),(0,0))) (k:=t) (by omega) (by rw[Vw,hb];rfl))
   repeat' (first|refine Rn.p ?_|((first|refine Rs.p ?_|refine Hd.mk ?_|refine aa (CF (li.getD s (0,0)) (li.getD (s+1) (0,0)) (lk.getD t (0,0)) (lk.getD (t+1) (0,0))) rfl ?_);try simp only[go_sem,simprocAttr, <- GA, <- hlk,hb2,htn,SH, <- SI])|with_reducible (first|apply And.intro|refine oD (by kernel_rfl) ?_|(intro h;try simp only[go_sem,simprocAttr, <- GA, <- hlk,hb2,htn,SH, <- SI]at h))|omega)
   ·refine⟨t+1,⟨by omega,SG (by rw[uz,ac6 (by omega),ac6 (by omega)];rfl)⟩, ?_,by omega⟩
    (refine Le.of ?_ ?_<;>simp[go_sem,simprocAttr, <- GA, <- hlk,hb2,htn,SH, <- SI])
   ·obtain⟨en,XX⟩:∃e,e=EC g d i k (li.getD s (0,0),li.getD (s+1) (0,0)) (lk.getD t (0,0),lk.getD (t+1) (0,0)) g.n.toNat:=⟨_,rfl⟩
    rw[<- XX]at uz
    refine ag (fun m:Nat=>m<=g.n.toNat) (fun m=>⟨[(2,eN i),(3,eN k),(4, .ptr 4 0),(5, .ptr 5 0),(9, .ptr 9 0),(10, .ptr 10 0),(11,eN s),(12,eN t),(13, .ptr 13 0),(14, .ptr 14 0),(15, .ptr 15 0),(16, .ptr 16 0),(17,eN n),(18,eB (EC g d i k (li.getD s (0,0),li.getD (s+1) (0,0)) (lk.getD t (0,0),lk.getD (t+1) (0,0)) m)),(19,eN m)], [(4, .box [eN g.n, .d (sE g.es)]),(5, .box [.d (sP d.pts), .d (sLn d.ls)]),(9, .box [eN (g.es.getD i (0,0)).1,eN (g.es.getD i (0,0)).2]),(10, .box [eN (g.es.getD k (0,0)).1,eN (g.es.getD k (0,0)).2]),(13, .box [eN (li.getD s (0,0)).1,eN (li.getD s (0,0)).2]),(14, .box [eN (li.getD (s+1) (0,0)).1,eN (li.getD (s+1) (0,0)).2]),(15, .box [eN (lk.getD t (0,0)).1,eN (lk.getD t (0,0)).2]),(16, .box [eN (lk.getD (t+1) (0,0)).1,eN (lk.getD (t+1) (0,0)).2])]⟩) (fun m=>g.n.toNat - m) 0 (by simp) ?_ ?_
    ·refine Le.of ?_ ?_<;>simp[go_sem,simprocAttr, <- GA, <- hlk,hb2,htn,SH, <- SI,EC]
    rintro m hm
    rcases adk m g.n.toNat with hml|hmg
    ·have hb3:decide ((m:Int)<g.n)=true:=ac7 (by omega)
     have dw:=MH (g:=g) (d:=d) (i:=i) (k:=k) (a:=(li.getD s (0,0),li.getD (s+1) (0,0))) (b:=(lk.getD t (0,0),lk.getD (t+1) (0,0))) (m:=m)
     repeat' (first|refine Rn.p ?_|((first|refine Rs.p ?_|refine Hd.mk ?_|refine aa (qU (li.getD s (0,0)) (li.getD (s+1) (0,0)) (d.pts.getD m (0,0))) rfl ?_|refine aa (qU (lk.getD t (0,0)) (lk.getD (t+1) (0,0)) (d.pts.getD m (0,0))) rfl ?_);try simp only[go_sem,simprocAttr, <- GA, <- hlk,hb3])|with_reducible (first|apply And.intro|refine oD (by kernel_rfl) ?_|(intro h;try simp only[go_sem,simprocAttr, <- GA, <- hlk,hb3]at h))|omega)
     all_goals(
      refine⟨m+1,by omega, ?_,by omega⟩
      rw[dw]
      clear GA hlk hB hga Vw SG hno uz XX SI dw hsa RU hb1 hb2 hb3
      simp only[*,decide_true,decide_false,afe,afo,aeL,afq,aep,agc,aeZ,afS]
      refine Le.of ?_ ?_<;>simp[go_sem,simprocAttr])
    ·have hb3:decide ((m:Int)<g.n)=false:=ac6 (by omega)
     obtain rfl:m=g.n.toNat:=by omega
     rw[<- XX]
     repeat' (first|refine Rn.p ?_|((first|refine Rs.p ?_|refine Hd.mk ?_);try simp only[go_sem,simprocAttr, <- GA, <- hlk,hb3])|with_reducible (first|apply And.intro|(intro h;try simp only[go_sem,simprocAttr, <- GA, <- hlk,hb3]at h))|omega)
     all_goals first
      |(have Ug:=hno (by
         rw[uz];simp only[ade,adL,adg,adK]
         first|exact .inl (by omega)|exact .inr ⟨by omega,by assumption⟩)
        rw[Ug];rfl)
      |(refine⟨t+1,⟨by omega,SG (by
         rw[uz];simp only[aeq,adM,aeT,afF]
         exact⟨by omega, .inr (by assumption)⟩)⟩, ?_,by omega⟩
        (refine Le.of ?_ ?_<;>simp[go_sem,simprocAttr, <- GA, <- hlk,hb3]))
  ·have hb2:decide ((t:Int)+1<(lk.length:Int))=false:=ac6 (by omega)
   rw[adC (by omega)]at RU
   repeat' (first|refine Rn.p ?_|((first|refine Rs.p ?_|refine Hd.mk ?_);try simp only[go_sem,simprocAttr, <- GA, <- hlk,hb2])|with_reducible (apply And.intro)|omega)
   refine⟨s+1,⟨by omega,wg ((0,0),(0,0)) (by omega) hsa (by rw[hga];exact RU)⟩, ?_,by omega⟩
   (refine Le.of ?_ ?_<;>simp[go_sem,simprocAttr, <- GA, <- hlk,hb2])
 ·have hb1:decide ((s:Int)+1<(li.length:Int))=false:=ac6 (by omega)
  rw[adC (by omega)]at hsa
  repeat' (first|refine Rn.p ?_|((first|refine Rs.p ?_|refine Hd.mk ?_);try simp only[go_sem,simprocAttr, <- GA, <- hlk,hb1])|with_reducible (apply And.intro)|omega)
  rw[hsa];rfl
theorem pP(g:Gr)(hl:g.es.length<=1000):Spec Tryz.prog 61 (Args [eG g]) [] (eB (decide ((bX g).1=0))) []:=by
 rw[Vo]
 (refine T.h [] [] [.t 2] Tryz.func61 rfl rfl (by kernel_rfl) fun X hX hP hC aA bB=> ?_)
 repeat' (first|refine Rn.p ?_|((first|refine Rs.p ?_|refine Hd.mk ?_|refine aa (CD g hl) rfl ?_);try simp only[go_sem,simprocAttr]))
theorem iX{n k:Nat}{holds:Nat->Bool}(hk:k<n)(h:∀j,j<k->holds j=true)(hb:holds k=false):bP n holds=k:=by
 refine b9 (d:=0) (by simpa using hk) (fun j hj=> ?_) ?_
 ·rw[dB (by omega),h j hj];rfl
 ·rw[dB hk,hb];rfl
theorem iY{n:Nat}{holds:Nat->Bool}(h:∀j,j<n->holds j=true):bP n holds= -1:=by
 refine bL 0 fun j hj=> ?_
 rw[ae3]at hj
 rw[dB hj,h j hj];rfl
theorem x9{p:Nat->Prop}{k:Nat}(h:∀j,j<k->p j)(hk:p k):∀j,j<k+1->p j:=fun j hj=>by
 by_cases hjk:j=k
 ·subst hjk;exact hk
 ·exact h j (by omega)
theorem zB(g:Gr)(d:Dr)(yJ:g.es.length<=1000)(hp:d.pts.length<=1000)(hls:d.ls.length<=1000)(iF:∀l∈d.ls,l.length<=1000):
 Spec Tryz.prog 23 (Args [eG g,eDr d]) [] (.tup [eN (kG g d).1,eN (kG g d).2]) []:=by
 (refine T.h [] [] [.t 4, .t 5] Tryz.func23 rfl rfl (by kernel_rfl) fun X hX hP hC aA bB=> ?_)
 cases hfit:ga g d with
 |false=>
  have hc:kG g d=(1,0):=by rw[kG,ada hfit]
  have hneg:¬((bX g).1=0/\(d.pts.length:Int)=g.n/\d.ls.length=g.es.length):=fun ⟨a,b,c⟩=>by simp[ga,a,b,c]at hfit
  repeat' (first|refine Rn.p ?_|((first|refine Rs.p ?_|refine Hd.mk ?_|refine aa (pP g yJ) rfl ?_);try simp only[go_sem,simprocAttr,hc])|with_reducible (first|apply And.intro|(intro h;try simp only[go_sem,simprocAttr,hc]at h))|omega)
 |true=>
  simp only[ga,adg,ade]at hfit
  obtain⟨⟨h0,hnp⟩,hnl⟩:=hfit
  have hfit:ga g d=true:=by simp only[ga,h0,hnp,hnl,decide_true,Bool.and_self]
  have hm:=Bj h0
  have hn:=aB hm
  cases hr:dZ d with
  |false=>
   have hc:kG g d=(2,0):=by rw[kG,ac8 (by rw[hfit];simp),ada hr]
   repeat' (first|refine Rn.p ?_|((first|refine Rs.p ?_|refine Hd.mk ?_|refine aa (pP g yJ) rfl ?_|refine aa (qV d hp hls iF) rfl ?_);try simp only[go_sem,simprocAttr,hc,h0,hnl,hr,hnp]))
  |true=>
  have hD:x8 g d:=⟨hm,hnp,hnl,uO hr⟩
  have hc1:kG g d=if 0<=bP g.es.length (qT g d) then(6,bP g.es.length (qT g d)) else
   if 0<=bP g.es.length (fun i=>gL (d.ls.getD i [])) then(7,bP g.es.length (fun i=>gL (d.ls.getD i []))) else
   if 0<=bP d.pts.length (fD d) then(8,bP d.pts.length (fD d)) else
   if 0<=bP g.es.length (kL g d) then(9,bP g.es.length (kL g d)) else
   if 0<=bP g.es.length (fZ g d) then(17,bP g.es.length (fZ g d)) else(0,0):=by
   rw[kG,ac8 (by rw[hfit];simp),ac8 (by rw[hr];simp)]
  generalize hcc:kG g d=c at hc1 ⊢
  repeat' (first|refine Rn.p ?_|((first|refine Rs.p ?_|refine Hd.mk ?_|refine aa (pP g yJ) rfl ?_|refine aa (qV d hp hls iF) rfl ?_);try simp only[go_sem,simprocAttr,h0,hnl,hr,hnp]))
  refine ag (fun i:Nat=>i<=g.es.length/\∀j,j<i->qT g d j=true) (fun i=>⟨[(2, .ptr 2 0),(3, .ptr 3 0),(6,eN i)], [(2, .box [eN g.n, .d (sE g.es)]),(3, .box [.d (sP d.pts), .d (sLn d.ls)])]⟩) (fun i=>g.es.length - i) 0 (by simp) ?_ ?_
  ·(refine Le.of ?_ ?_<;>simp[go_sem,simprocAttr,h0,hnl,hr,hnp])
  rintro i ⟨hi,h6⟩
  rcases adk i g.es.length with hil|N1
  ·have hb:decide ((i:Int)<(g.es.length:Int))=true:=ac7 (by omega)
   obtain⟨⟨Ph,yL⟩,Cu,yM⟩:=cU hm hil
   obtain⟨h2,h8⟩:=hD.line hil
   have htn:(((d.ls.getD i []).length:Int) - 1).toNat=(d.ls.getD i []).length - 1:=by omega
   have hE:qT g d i=(decide ((d.ls.getD i []).getD 0 (0,0)=d.pts.getD (g.es.getD i (0,0)).1.toNat (0,0))&&decide ((d.ls.getD i []).getD ((d.ls.getD i []).length - 1) (0,0)=d.pts.getD (g.es.getD i (0,0)).2.toNat (0,0))):=rfl
   repeat' (first|refine Rn.p ?_|((first|refine Rs.p ?_|refine Hd.mk ?_);try simp only[go_sem,simprocAttr,hb,htn,qK])|with_reducible (first|apply And.intro|refine oD (by kernel_rfl) ?_|(intro h;try simp only[go_sem,simprocAttr,hb,htn,qK]at h))|omega)
   all_goals first
    |(have mo:qT g d i=false:=(by rw[hE];simp only[aeT,adM];first|exact .inl (by assumption)|exact .inr (by assumption))
      have f6:=iX hil h6 mo
      have oZ:c=(6,(i:Int)):=(by rw[hc1,ada (by omega),f6])
      rw[oZ])
    |(refine⟨i+1,⟨by omega,x9 h6 (by rw[hE];simp only[adg,ade];exact⟨by assumption,by assumption⟩)⟩, ?_,by omega⟩
      (refine Le.of ?_ ?_<;>simp[go_sem,simprocAttr,hb,htn,qK]))
  ·have hb:decide ((i:Int)<(g.es.length:Int))=false:=ac6 (by omega)
   obtain rfl:i=g.es.length:=by omega
   have f6:=iY h6
   rw[ac8 (by omega)]at hc1
   repeat' (first|refine Rn.p ?_|((first|refine Rs.p ?_|refine Hd.mk ?_);try simp only[go_sem,simprocAttr,hb]))
   clear hb N1 hi
   refine ag (fun i:Nat=>i<=g.es.length/\∀j,j<i->gL (d.ls.getD j [])=true) (fun i=>⟨[(2, .ptr 2 0),(3, .ptr 3 0),(8,eN i)], [(2, .box [eN g.n, .d (sE g.es)]),(3, .box [.d (sP d.pts), .d (sLn d.ls)])]⟩) (fun i=>g.es.length - i) 0 (by simp) ?_ ?_
   ·(refine Le.of ?_ ?_<;>simp[go_sem,simprocAttr])
   rintro i ⟨hi,h7⟩
   rcases adk i g.es.length with hil|N1
   ·have hb:decide ((i:Int)<(g.es.length:Int))=true:=ac7 (by omega)
    obtain⟨l,hl⟩:∃l,l=d.ls.getD i []:=⟨_,rfl⟩
    have h28:=hD.line hil
    rw[<- hl]at h28
    have dI:(fe l).length=l.length - 1:=fW
    repeat' (first|refine Rn.p ?_|((first|refine Rs.p ?_|refine Hd.mk ?_);try simp only[go_sem,simprocAttr,hb, <- hl]))
    refine ag (fun k:Nat=>k<=(fe l).length/\((fe l).take k).any (fun q=>decide (q.2.2<=q.1.2))=false) (fun k=>⟨[(2, .ptr 2 0),(3, .ptr 3 0),(8,eN i),(9,eN ((k+1:Nat):Int))], [(2, .box [eN g.n, .d (sE g.es)]),(3, .box [.d (sP d.pts), .d (sLn d.ls)])]⟩) (fun k=>(fe l).length - k) 0 (by simp) ?_ ?_
    ·(refine Le.of ?_ ?_<;>simp[go_sem,simprocAttr,hb, <- hl])
    rintro k ⟨hk,hka⟩
    rcases adk (k+1) l.length with cM|RI
    ·have hb1:decide (((k+1:Nat):Int)<(l.length:Int))=true:=ac7 (by omega)
     have GB:=wh cM
     have htn:(((k+1:Nat):Int) - 1).toNat=k:=by omega
     repeat' (first|refine Rn.p ?_|((first|refine Rs.p ?_|refine Hd.mk ?_);try simp only[go_sem,simprocAttr,hb1,htn, <- hl])|with_reducible (first|apply And.intro|refine oD (by kernel_rfl) ?_|(intro h;try simp only[go_sem,simprocAttr,hb1,htn, <- hl]at h))|omega)
     ·have mo:gL (d.ls.getD i [])=false:=by
       rw[<- hl,gL,uF (d:=((0,0),(0,0))) (k:=k) (by omega) (by rw[GB];exact ac7 h)];rfl
      have f7:=iX (holds:=fun i=>gL (d.ls.getD i [])) hil h7 mo
      have oZ:c=(7,(i:Int)):=by rw[hc1,ada (by omega),f7]
      rw[oZ]
     ·have mo:gL (d.ls.getD i [])=false:=by
       rw[<- hl,gL,uF (d:=((0,0),(0,0))) (k:=k) (by omega) (by rw[GB];exact ac7 h)];rfl
      have f7:=iX (holds:=fun i=>gL (d.ls.getD i [])) hil h7 mo
      have oZ:c=(7,(i:Int)):=by rw[hc1,ada (by omega),f7]
      rw[oZ]
     ·refine⟨k+1,⟨by omega,nS ((0,0),(0,0)) (by omega) hka (by rw[GB];exact ac6 h)⟩, ?_,by omega⟩
      (refine Le.of ?_ ?_<;>simp[go_sem,simprocAttr,hb1,htn, <- hl])
    ·have hb1:decide (((k+1:Nat):Int)<(l.length:Int))=false:=ac6 (by omega)
     rw[adC (by omega)]at hka
     repeat' (first|refine Rn.p ?_|((first|refine Rs.p ?_|refine Hd.mk ?_);try simp only[go_sem,simprocAttr,hb1, <- hl])|with_reducible (apply And.intro)|omega)
     refine⟨i+1,⟨by omega,x9 h7 (by rw[<- hl,gL,hka];rfl)⟩, ?_,by omega⟩
     (refine Le.of ?_ ?_<;>simp[go_sem,simprocAttr,hb1, <- hl])
   ·have hb:decide ((i:Int)<(g.es.length:Int))=false:=ac6 (by omega)
    obtain rfl:i=g.es.length:=by omega
    have f7:=iY (holds:=fun i=>gL (d.ls.getD i [])) h7
    rw[ac8 (by omega)]at hc1
    repeat' (first|refine Rn.p ?_|((first|refine Rs.p ?_|refine Hd.mk ?_);try simp only[go_sem,simprocAttr,hb]))
    clear hb N1 hi
    refine ag (fun x:Nat=>x<=d.pts.length/\∀j,j<x->fD d j=true) (fun x=>⟨[(2, .ptr 2 0),(3, .ptr 3 0),(10,eN x)], [(2, .box [eN g.n, .d (sE g.es)]),(3, .box [.d (sP d.pts), .d (sLn d.ls)])]⟩) (fun x=>d.pts.length - x) 0 (by simp) ?_ ?_
    ·(refine Le.of ?_ ?_<;>simp[go_sem,simprocAttr])
    rintro x ⟨hx,h8⟩
    rcases adk x d.pts.length with hxl|MI
    ·have hb:decide ((x:Int)<g.n)=true:=ac7 (by omega)
     repeat' (first|refine Rn.p ?_|((first|refine Rs.p ?_|refine Hd.mk ?_);try simp only[go_sem,simprocAttr,hb]))
     refine ag (fun z:Nat=>z<=x/\∀j,j<z->¬d.pts.getD x (0,0)=d.pts.getD j (0,0)) (fun z=>⟨[(2, .ptr 2 0),(3, .ptr 3 0),(10,eN x),(11,eN z)], [(2, .box [eN g.n, .d (sE g.es)]),(3, .box [.d (sP d.pts), .d (sLn d.ls)])]⟩) (fun z=>x - z) 0 (by simp) ?_ ?_
     ·(refine Le.of ?_ ?_<;>simp[go_sem,simprocAttr,hb])
     rintro z ⟨hz,hza⟩
     rcases adk z x with hzl|hzg
     ·have hb1:decide ((z:Int)<(x:Int))=true:=ac7 (by omega)
      repeat' (first|refine Rn.p ?_|((first|refine Rs.p ?_|refine Hd.mk ?_);try simp only[go_sem,simprocAttr,hb1,qK])|with_reducible (first|apply And.intro|refine oD (by kernel_rfl) ?_|(intro h;try simp only[go_sem,simprocAttr,hb1,qK]at h))|omega)
      ·have mo:fD d x=false:=by
        have:d.pts.getD x (0,0)∈d.pts.take x:=by
         rw[h,aej]
         exact⟨z,by rw[adE,ada hzl,aas,acF (by omega)];rfl⟩
        rw[fD,ac7 this];rfl
       have f8:=iX hxl h8 mo
       have oZ:c=(8,(x:Int)):=by rw[hc1,ada (by omega),f8]
       rw[oZ]
      ·have mo:fD d x=false:=by
        have:d.pts.getD x (0,0)∈d.pts.take x:=by
         rw[h,aej]
         exact⟨z,by rw[adE,ada hzl,aas,acF (by omega)];rfl⟩
        rw[fD,ac7 this];rfl
       have f8:=iX hxl h8 mo
       have oZ:c=(8,(x:Int)):=by rw[hc1,ada (by omega),f8]
       rw[oZ]
      ·refine⟨z+1,⟨by omega,x9 hza h⟩, ?_,by omega⟩
       (refine Le.of ?_ ?_<;>simp[go_sem,simprocAttr,hb1,qK])
     ·have hb1:decide ((z:Int)<(x:Int))=false:=ac6 (by omega)
      have SG:fD d x=true:=by
       have:d.pts.getD x (0,0)∉d.pts.take x:=by
        rw[aej]
        rintro⟨j,hj⟩
        rw[adE]at hj
        split at hj
        ·exact hza j (by omega) (by rw[aas (i:=j),hj];rfl)
        ·cases hj
       rw[fD,ac6 this];rfl
      repeat' (first|refine Rn.p ?_|((first|refine Rs.p ?_|refine Hd.mk ?_);try simp only[go_sem,simprocAttr,hb1])|with_reducible (apply And.intro)|omega)
      refine⟨x+1,⟨by omega,x9 h8 SG⟩, ?_,by omega⟩
      (refine Le.of ?_ ?_<;>simp[go_sem,simprocAttr,hb1])
    ·have hb:decide ((x:Int)<g.n)=false:=ac6 (by omega)
     obtain rfl:x=d.pts.length:=by omega
     have f8:=iY h8
     rw[ac8 (by omega)]at hc1
     repeat' (first|refine Rn.p ?_|((first|refine Rs.p ?_|refine Hd.mk ?_);try simp only[go_sem,simprocAttr,hb]))
     clear hb MI hx
     refine ag (fun i:Nat=>i<=g.es.length/\∀j,j<i->kL g d j=true) (fun i=>⟨[(2, .ptr 2 0),(3, .ptr 3 0),(12,eN i)], [(2, .box [eN g.n, .d (sE g.es)]),(3, .box [.d (sP d.pts), .d (sLn d.ls)])]⟩) (fun i=>g.es.length - i) 0 (by simp) ?_ ?_
     ·(refine Le.of ?_ ?_<;>simp[go_sem,simprocAttr])
     rintro i ⟨hi,h9⟩
     rcases adk i g.es.length with hil|N1
     ·have hb:decide ((i:Int)<(g.es.length:Int))=true:=ac7 (by omega)
      have h28:=hD.line hil
      have aaS:(d.ls.getD i []).length<=1000000:=by omega
      repeat' (first|refine Rn.p ?_|((first|refine Rs.p ?_|refine Hd.mk ?_);try simp only[go_sem,simprocAttr,hb]))
      refine ag (fun x:Nat=>x<=d.pts.length/\oq g d i x=true) (fun x=>⟨[(2, .ptr 2 0),(3, .ptr 3 0),(12,eN i),(13,eN x)], [(2, .box [eN g.n, .d (sE g.es)]),(3, .box [.d (sP d.pts), .d (sLn d.ls)])]⟩) (fun x=>d.pts.length - x) 0 (by simp[oq]) ?_ ?_
      ·(refine Le.of ?_ ?_<;>simp[go_sem,simprocAttr,hb])
      rintro x ⟨hx,hxa⟩
      rcases adk x d.pts.length with hxl|MI
      ·have hb1:decide ((x:Int)<g.n)=true:=ac7 (by omega)
       have dw:=Bi (g:=g) (d:=d) (i:=i) (k:=x)
       rw[hxa,aep]at dw
       repeat' (first|refine Rn.p ?_|((first|refine Rs.p ?_|refine Hd.mk ?_|refine aa (Gy (d.ls.getD i []) (d.pts.getD x (0,0)) aaS) rfl ?_);try simp only[go_sem,simprocAttr,hb1])|with_reducible (first|apply And.intro|refine oD (by kernel_rfl) ?_|(intro h;try simp only[go_sem,simprocAttr,hb1]at h))|omega)
       any_goals (
        have mo:kL g d i=false:=(by
         rw[kL,oq]
         refine we hxl ?_
         simp only[*,decide_false,afq,aeL,aeu])
        have f9:=iX hil h9 mo
        have oZ:c=(9,(i:Int)):=(by rw[hc1,ada (by omega),f9])
        rw[oZ]
        done)
       all_goals(
        refine⟨x+1,⟨by omega, ?_⟩, ?_,by omega⟩
        ·rw[dw];simp only[*,decide_true,afe,afo,aft]
        ·(refine Le.of ?_ ?_<;>simp[go_sem,simprocAttr,hb1]))
      ·have hb1:decide ((x:Int)<g.n)=false:=ac6 (by omega)
       obtain rfl:x=d.pts.length:=by omega
       repeat' (first|refine Rn.p ?_|((first|refine Rs.p ?_|refine Hd.mk ?_);try simp only[go_sem,simprocAttr,hb1])|with_reducible (apply And.intro)|omega)
       refine⟨i+1,⟨by omega,x9 h9 hxa⟩, ?_,by omega⟩
       (refine Le.of ?_ ?_<;>simp[go_sem,simprocAttr,hb1])
     ·have hb:decide ((i:Int)<(g.es.length:Int))=false:=ac6 (by omega)
      obtain rfl:i=g.es.length:=by omega
      have f9:=iY h9
      rw[ac8 (by omega)]at hc1
      repeat' (first|refine Rn.p ?_|((first|refine Rs.p ?_|refine Hd.mk ?_);try simp only[go_sem,simprocAttr,hb]))
      clear hb N1 hi
      refine ag (fun i:Nat=>i<=g.es.length/\∀j,j<i->fZ g d j=true) (fun i=>⟨[(2, .ptr 2 0),(3, .ptr 3 0),(14,eN i)], [(2, .box [eN g.n, .d (sE g.es)]),(3, .box [.d (sP d.pts), .d (sLn d.ls)])]⟩) (fun i=>g.es.length - i) 0 (by simp) ?_ ?_
      ·(refine Le.of ?_ ?_<;>simp[go_sem,simprocAttr])
      rintro i ⟨hi,Zd⟩
      rcases adk i g.es.length with hil|N1
      ·have hb:decide ((i:Int)<(g.es.length:Int))=true:=ac7 (by omega)
       repeat' (first|refine Rn.p ?_|((first|refine Rs.p ?_|refine Hd.mk ?_);try simp only[go_sem,simprocAttr,hb]))
       refine ag (fun k:Nat=>k<=i/\jm g d i k=true) (fun k=>⟨[(2, .ptr 2 0),(3, .ptr 3 0),(14,eN i),(15,eN k)], [(2, .box [eN g.n, .d (sE g.es)]),(3, .box [.d (sP d.pts), .d (sLn d.ls)])]⟩) (fun k=>i - k) 0 (by simp[jm]) ?_ ?_
       ·(refine Le.of ?_ ?_<;>simp[go_sem,simprocAttr,hb])
       rintro k ⟨hk,hka⟩
       rcases adk k i with cM|RI
       ·have hb1:decide ((k:Int)<(i:Int))=true:=ac7 (by omega)
        have aaT:k<g.es.length:=by omega
        have dw:jm g d i (k+1)=(jm g d i k&& !Bl g d i k):=by rw[yY,Bl,agV]
        repeat' (first|refine Rn.p ?_|((first|refine Rs.p ?_|refine Hd.mk ?_|refine aa (CG g d hD i k hil aaT) rfl ?_);try simp only[go_sem,simprocAttr,hb1])|with_reducible (first|apply And.intro|(intro h;try simp only[go_sem,simprocAttr,hb1]at h))|omega)
        ·have mo:fZ g d i=false:=we cM (by rw[Bl,adK]at h;exact h)
         have f17:=iX hil Zd mo
         have oZ:c=(17,(i:Int)):=by rw[hc1,ada (by omega),f17]
         rw[oZ]
        ·have mo:fZ g d i=false:=we cM (by rw[Bl,adK]at h;exact h)
         have f17:=iX hil Zd mo
         have oZ:c=(17,(i:Int)):=by rw[hc1,ada (by omega),f17]
         rw[oZ]
        ·refine⟨k+1,⟨by omega,by rw[dw,hka,h];rfl⟩, ?_,by omega⟩
         (refine Le.of ?_ ?_<;>simp[go_sem,simprocAttr,hb1])
       ·have hb1:decide ((k:Int)<(i:Int))=false:=ac6 (by omega)
        obtain rfl:k=i:=by omega
        repeat' (first|refine Rn.p ?_|((first|refine Rs.p ?_|refine Hd.mk ?_);try simp only[go_sem,simprocAttr,hb1])|with_reducible (apply And.intro)|omega)
        refine⟨k+1,⟨by omega,x9 Zd hka⟩, ?_,by omega⟩
        (refine Le.of ?_ ?_<;>simp[go_sem,simprocAttr,hb1])
      ·have hb:decide ((i:Int)<(g.es.length:Int))=false:=ac6 (by omega)
       obtain rfl:i=g.es.length:=by omega
       have f17:=iY Zd
       rw[ac8 (by omega)]at hc1
       repeat' (first|refine Rn.p ?_|((first|refine Rs.p ?_|refine Hd.mk ?_);try simp only[go_sem,simprocAttr,hb])|with_reducible (apply And.intro))
       all_goals rw[hc1]
def aaU(g:Gr)(d:Dr):Bool:=decide (40<g.es.length)||decide (70<d.pts.length)||decide (50<d.ls.length)||d.ls.any fun l=>decide (20<l.length)
def gp:Gr:=⟨2, [(0,1)]⟩
def da:Dr:=⟨[(0,0),(0,1)], [[(0,0),(0,1)]]⟩
def db:Dr:=⟨[(0,1),(0,0)], [[(0,1),(0,0)]]⟩
theorem Vy:kG gp da=(0,0):=by decide
theorem Vz:kG gp db=(7,0):=by decide
theorem jY:Spec Tryz.prog 21 (Args []) [] (eB true) []:=by
 have h1:=Vy
 have h2:=Vz
 simp only[gp,da,db]at h1 h2
 (refine T.h [] [] [.t 0] Tryz.func21 rfl rfl (by kernel_rfl) fun X hX hP hC aA bB=> ?_)
 repeat' (first|refine Rn.p ?_|((first|refine Rs.p ?_|refine Hd.mk ?_|(refine dN (fJ gp da (by decide) (by decide) (by decide) (by decide)) ?_ rfl ?_;(focus(simp only[go_sem,simprocAttr,gp,da,db,rE,rP,vP,h1,h2];done)))|(refine dN (fJ gp db (by decide) (by decide) (by decide) (by decide)) ?_ rfl ?_;(focus(simp only[go_sem,simprocAttr,gp,da,db,rE,rP,vP,h1,h2];done))));try simp only[go_sem,simprocAttr,gp,da,db,rE,rP,vP,h1,h2]))
end Go.Ab
end
section
namespace Go.Ab
theorem MJ{a b c d:Pt}(hcd:c≠d)(hT:tm a b c d=0)(hne:ai a b c≠0):c8 a b c d=0:=by
 have d1:=k9 a b c d
 have PK:∀p,iz c d p=true->p=a\/p=b->False:=fun p hp h=>by
  have h1:=(dK.1 hp).1
  have d2:=mg a b c d
  have h2:ai c d a=0/\ai c d b=0:=by rcases h with rfl|rfl<;>omega
  exact hne (x7 hcd h2.1 h2.2 pN)
 have hn:∀p,¬Cx a b c d p:=by
  rintro p (⟨h,rfl⟩|⟨h,rfl⟩|⟨h,rfl⟩|⟨h,rfl⟩)
  ·exact PK _ h (.inl rfl)
  ·exact PK _ h (.inr rfl)
  ·exact hne (dK.1 h).1
  ·have:=(dK.1 h).1;omega
 have hq:ai a b d=ai a b c:=by omega
 have hp:=sq_nonneg (ai a b c)
 have Wx:=afH hne hne
 unfold c8
 rw[vY hn]
 simp only[sK,v7,agQ,if_false]
 rw[ac8 (fun h=>by have h:=h.1;rw[hq]at h;omega)]
def pQ(a b m:Pt):Prop:=a.1+b.1=2*m.1/\a.2+b.2=2*m.2
theorem pQ.PX{a b m:Pt}(h:pQ a b m)(c:Pt):ai a b c=2*ai a m c:=by
 obtain⟨h1,h2⟩:=h
 have e1:b.1=2*m.1 - a.1:=by omega
 have e2:b.2=2*m.2 - a.2:=by omega
 unfold ai;rw[e1,e2];grind
theorem pQ.tm{a b m:Pt}(h:pQ a b m)(c d:Pt):tm a b c d=2*tm a m c d:=by
 obtain⟨h1,h2⟩:=h
 have e1:b.1=2*m.1 - a.1:=by omega
 have e2:b.2=2*m.2 - a.2:=by omega
 unfold Go.Ab.tm;rw[e1,e2];grind
theorem pQ.Uh{a b m:Pt}(h:pQ a b m)(c d:Pt):ai c d a+ai c d b=2*ai c d m:=by
 obtain⟨h1,h2⟩:=h
 have e1:b.1=2*m.1 - a.1:=by omega
 have e2:b.2=2*m.2 - a.2:=by omega
 unfold ai;rw[e1,e2];grind
theorem pQ.along{a b m:Pt}(h:pQ a b m)(c:Pt):an a b c=2*an a m c:=by
 obtain⟨h1,h2⟩:=h
 have e1:b.1=2*m.1 - a.1:=by omega
 have e2:b.2=2*m.2 - a.2:=by omega
 unfold an;rw[e1,e2];grind
theorem pQ.VA{a b m:Pt}(h:pQ a b m):an a b b=2*an a b m:=by
 obtain⟨h1,h2⟩:=h
 have e1:b.1=2*m.1 - a.1:=by omega
 have e2:b.2=2*m.2 - a.2:=by omega
 unfold an;rw[e1,e2];grind
theorem pQ.symm{a b m:Pt}(h:pQ a b m):pQ b a m:=⟨by rw[Int.add_comm];exact h.1,by rw[Int.add_comm];exact h.2⟩
theorem VB{u v:Int}(h:u*(u+v)<=0):u*v<=0:=by
 have h1:=sq_nonneg u
 have h2:u*(u+v)=u*u+u*v:=by grind
 omega
theorem double{u v:Int}{u' v':Int}(h:u'*v'<=0)(hu:u=2*u')(hv:v=2*v'):u*v<=0:=by
 have:u*v=4*(u'*v'):=by rw[hu,hv];grind
 omega
theorem SJ{a b m c d e:Pt}(hm:pQ a b m)(hT:tm a b c d≠0)(h1:ai a b e=0)(h2:ai c d e=0)(h3:ai c d a*ai c d m<=0):iz a m e=true:=by
 rw[dK]
 have ha:=hm.PX e
 have hu:=hm.Uh c d
 have hd:=mg a b c d
 obtain⟨Cw,hm2⟩:=hm
 have kx:tm a b c d*(e.1 - a.1)=ai c d a*(b.1 - a.1):=by
  unfold ai at h1 h2 ⊢;unfold tm;grind
 have ky:tm a b c d*(e.2 - a.2)=ai c d a*(b.2 - a.2):=by
  unfold ai at h1 h2 ⊢;unfold tm;grind
 generalize hTT:tm a b c d=T at*
 generalize hU:ai c d a=u at*
 generalize hV:ai c d b=v at*
 generalize hW:ai c d m=w at*
 have main:∀(p q r x:Int),p+q=2*r->T*(x - p)=u*(q - p)->(p - x)*(r - x)<=0:=by
  intro p q r x hpq hk
  have e1:2*(T*(r - x))= -(2*w)*(q - p):=by
   have:2*(T*(r - x))=T*(q - p) - 2*(T*(x - p)):=by
    have:2*r=p+q:=hpq.symm
    grind
   rw[this,hk]
   have:T=u - v:=by omega
   rw[this]
   have:v=2*w - u:=by omega
   rw[this];grind
  have e2:(p - x)*(r - x)*(T*T)=(u*w)*((q - p)*(q - p)):=by
   have h4:T*(p - x)= -(u*(q - p)):=by rw[<- hk];grind
   have h5:T*(r - x)= -(w*(q - p)):=by
    have: -(2*w)*(q - p)=2* -(w*(q - p)):=by grind
    omega
   have:(p - x)*(r - x)*(T*T)=(T*(p - x))*(T*(r - x)):=by grind
   rw[this,h4,h5];grind
  refine cD hT ?_
  rw[e2]
  exact c9 h3
 refine⟨by omega,main _ _ _ _ Cw kx,main _ _ _ _ hm2 ky⟩
theorem MK{a b m c d:Pt}(hab:a≠b)(hcd:c≠d)(hm:pQ a b m):
 (1<=c8 a m c d->1<=c8 a b c d)/\(2<=c8 a m c d->2<=c8 a b c d)/\∀e,c8 a b c d<=1->1<=c8 a m c d->iz a b e=true->iz c d e=true->iz a m e=true:=by
 have ham:a≠m:=fun e=>hab (by subst e;obtain⟨h1,h2⟩:=hm;ext<;>omega)
 have hac:=hm.PX c
 have had:=hm.PX d
 have Sy:=hm.tm c d
 by_cases hT:tm a b c d=0
 ·by_cases hA:ai a b c=0
  ·have hd:ai a b d=0:=by have:=k9 a b c d;omega
   have XP:ai a m c=0:=by omega
   have hd':ai a m d=0:=by omega
   have kc:=hm.along c
   have kd:=hm.along d
   have kb:=hm.VA
   have kk:=hm.along m
   have hL:=oh hab
   have hLm:=oh ham
   rw[uL hab hcd hA hd,uL ham hcd XP hd',v8,v8,kb,kk,kc,kd]
   have h3:∀e,iz a b e=true->iz c d e=true->(0<=an a m e/\an a m e<=2*an a m m)/\(min (an a m c) (an a m d)<=an a m e/\an a m e<=max (an a m c) (an a m d))/\(an a m e<=an a m m->iz a m e=true):=by
    intro e h1 h2
    have he:=(dK.1 h1).1
    have he':ai a m e=0:=by have:=hm.PX e;omega
    have ke:=hm.along e
    have g1:=(pO hab pN x6 he).1 h1
    rw[v8,kb,kk,ke]at g1
    have g2:=(pO hab hA hd he).1 h2
    rw[kc,kd,ke]at g2
    refine⟨by omega,by omega,fun h=>(pO ham pN x6 he').2 ?_⟩
    rw[v8];omega
   generalize an a m c=x at*
   generalize an a m d=y at*
   generalize an a m m=z at*
   refine⟨fun h=> ?_,fun h=> ?_,fun e h0 h h1 h2=> ?_⟩
   ·split at h
    ·omega
    ·rw[ac8 (by omega)];split<;>omega
   ·split at h
    ·omega
    ·split at h
     ·omega
     ·rw[ac8 (by omega),ac8 (by omega)];omega
   ·obtain⟨g1,g2,g3⟩:=h3 e h1 h2
    refine g3 ?_
    split at h
    ·omega
    ·split at h0
     ·omega
     ·split at h0
      ·omega
      ·omega
  ·have h0:=MJ hcd (a:=a) (b:=m) (by omega) (by omega)
   rw[h0]
   exact⟨fun h=>by omega,fun h=>by omega,fun e _ h=>by omega⟩
 ·have UD:tm a m c d≠0:=by omega
  have hu:=hm.Uh c d
  rw[kf hT,kf UD]
  have k1:ai a m c*ai a m d<=0->ai a b c*ai a b d<=0:=fun h=>double h hac had
  have k2:ai c d a*ai c d m<=0->ai c d a*ai c d b<=0:=fun h=>by
   refine VB (u:=ai c d a) (v:=ai c d b) ?_
   rw[hu]
   have:ai c d a*(2*ai c d m)=2*(ai c d a*ai c d m):=by grind
   omega
  refine⟨fun h=> ?_,fun h=> ?_,fun e _ h h1 h2=> ?_⟩
  ·split at h
   ·rename_i hh;rw[ada ⟨k1 hh.1,k2 hh.2⟩];omega
   ·omega
  ·split at h<;>omega
  ·split at h
   ·rename_i hh
    exact SJ hm hT (dK.1 h1).1 (dK.1 h2).1 hh.2
   ·omega
theorem IZ(a b c d:Pt):fF c d a b=fF a b c d:=by
 rw[jX,jX,Bg]
 by_cases h:bC a/\bC b/\bC c/\bC d
 ·rw[ada h,ada ⟨h.2.2.1,h.2.2.2,h.1,h.2.1⟩]
 ·rw[ac8 h,ac8 fun g=>h ⟨g.2.2.1,g.2.2.2,g.1,g.2.1⟩]
theorem I1(a b c d:Pt):fF b a c d=fF a b c d:=by
 rw[jX,jX,IV]
 by_cases h:bC a/\bC b/\bC c/\bC d
 ·rw[ada h,ada ⟨h.2.1,h.1,h.2.2.1,h.2.2.2⟩]
 ·rw[ac8 h,ac8 fun g=>h ⟨g.2.1,g.1,g.2.2.1,g.2.2.2⟩]
theorem Bm(a b p:Pt):nG b a p=nG a b p:=by
 unfold nG
 rw[fV]
 congr 1
 rw[decide_eq_decide]
 exact⟨fun ⟨x,y,z⟩=>⟨y,x,z⟩,fun ⟨x,y,z⟩=>⟨y,x,z⟩⟩
theorem GC(es:List Pt)(p q:Pc):dH es q p=dH es p q:=by
 unfold dH
 rw[IZ]
 congr 4
 funext x
 rw[Bool.and_comm]
theorem wk(es:List Pt)(a b:Pt)(q:Pc):dH es (b,a) q=dH es (a,b) q:=by
 unfold dH
 simp only[I1,Bm]
theorem wm{es:List Pt}{a b m c d:Pt}(ia:bC a)(ib:bC b)(im:bC m)(ic:bC c)(id:bC d)(hab:a≠b)(hcd:c≠d)(hm:pQ a b m)(h:dH es (a,b) (c,d)=false):dH es (a,m) (c,d)=false:=by
 obtain⟨h1,h2,h3⟩:=MK hab hcd hm
 simp only[dH,aeq,adM,aeT,afF]at h ⊢
 rw[jX,ada ⟨ia,ib,ic,id⟩]at h
 rw[jX,ada ⟨ia,im,ic,id⟩]
 refine⟨by omega, ?_⟩
 by_cases hn:c8 a m c d=1
 ·right
  have hN:c8 a b c d=1:=by omega
  rcases h.2 with h4|h4
  ·exact absurd hN h4
  ·rw[adR]at h4 ⊢
   obtain⟨e,he,h5⟩:=h4
   refine⟨e,he, ?_⟩
   simp only[nG,adg,ade]at h5 ⊢
   exact⟨⟨⟨ia,im,h5.1.1.2.2⟩,h3 e (by omega) (by omega) h5.1.2 h5.2.2⟩,h5.2⟩
 ·exact .inl hn
theorem I2{a b m p:Pt}(hm:pQ a b m)(h:iz a m p=true):iz a b p=true:=by
 rw[dK]at h ⊢
 have:=hm.PX p
 obtain⟨Cw,hm2⟩:=hm
 have key:∀(x y z w:Int),x+y=2*z->(x - w)*(z - w)<=0->(x - w)*(y - w)<=0:=by
  intro x y z w h1 h2
  have e:(x - w)*(y - w)=2*((x - w)*(z - w)) - (x - w)*(x - w):=by
   have:y=2*z - x:=by omega
   rw[this];grind
  have:=sq_nonneg (x - w)
  omega
 exact⟨by omega,key _ _ _ _ Cw h.2.1,key _ _ _ _ hm2 h.2.2⟩
theorem GD{a b m p:Pt}(ia:bC a)(ib:bC b)(hm:pQ a b m)(h:nG a b p=false):nG a m p=false:=by
 cases hq:nG a m p with
 |false=>rfl
 |true=>
  exfalso
  simp only[nG,adg,ade]at hq
  have:nG a b p=true:=by
   simp only[nG,adg,ade]
   exact⟨⟨ia,ib,hq.1.2.2⟩,I2 hm hq.2⟩
  rw[this]at h;cases h
def kM(l:List Pt)(k:Nat)(m:Pt):List Pt:=l.take (k+1)++m::l.drop (k+1)
theorem GF{l:List Pt}{k:Nat}{m:Pt}(hk:k+1<l.length):(kM l k m).length=l.length+1:=by
 simp[kM];omega
theorem wo{l:List Pt}{k:Nat}{m:Pt}(hk:k+1<l.length){j:Nat} :(kM l k m).getD j (0,0)=if j<=k then l.getD j (0,0) else if j=k+1 then m else l.getD (j - 1) (0,0):=by
 unfold kM
 rw[aas]
 by_cases h1:j<=k
 ·rw[ada h1,ady (by simp;omega),adE,ada (by omega), <- List.getD_eq_getElem?_getD]
 ·rw[ac8 h1,adx (by simp;omega)]
  have e:(l.take (k+1)).length=k+1:=by simp;omega
  rw[e]
  by_cases h2:j=k+1
  ·rw[ada h2,h2,agt];rfl
  ·rw[ac8 h2]
   obtain⟨r,rfl⟩:∃r,j=k+2+r:=⟨j - (k+2),by omega⟩
   rw[show k+2+r - (k+1)=r+1 from by omega,List.getElem?_cons_succ,ad4, <- List.getD_eq_getElem?_getD]
   congr 1;omega
theorem wq{l:List Pt}{q:Pc} :q∈fe l↔∃j,j+1<l.length/\q=(l.getD j (0,0),l.getD (j+1) (0,0)):=by
 simp only[fe,MD,adb,adl]
 constructor
 ·rintro⟨j,h,rfl⟩;exact⟨j,by omega,rfl⟩
 ·rintro⟨j,h,rfl⟩;exact⟨j,by omega,rfl⟩
theorem PY{l:List Pt}{k:Nat}{m:Pt}(hk:k+1<l.length){q:Pc}(h:q∈fe (kM l k m)):q∈fe l\/q=(l.getD k (0,0),m)\/q=(m,l.getD (k+1) (0,0)):=by
 obtain⟨j,hj,rfl⟩:=wq.1 h
 rw[GF hk]at hj
 rw[wo hk,wo hk]
 by_cases h1:j+1<=k
 ·left
  rw[ada (by omega),ada h1]
  exact wq.2 ⟨j,by omega,rfl⟩
 ·by_cases h2:j=k
  ·right;left
   subst h2
   rw[ada (by omega),ac8 (by omega),ada rfl]
  ·by_cases h3:j=k+1
   ·right;right
    subst h3
    rw[ac8 (by omega),ada rfl,ac8 (by omega),ac8 (by omega)]
    rfl
   ·left
    rw[ac8 (by omega),ac8 h3,ac8 (by omega),ac8 (by omega)]
    exact wq.2 ⟨j - 1,by omega,by rw[show j - 1+1=j+1 - 1 from by omega]⟩
theorem bU{n:Nat}{holds:Nat->Bool} :¬0<=bP n holds↔∀j,j<n->holds j=true:=by
 constructor
 ·intro h j hj
  cases hq:holds j with
  |true=>rfl
  |false=>
   exfalso
   have h1:=cT (fun i=> !holds i) (List.range n)
   have h2:(List.range n).any (fun i=> !holds i)=true:=adR.2 ⟨j,adl.2 hj,by rw[hq];rfl⟩
   rw[h2]at h1
   exact h (ael h1)
 ·intro h
  rw[iY h];omega
structure uP (g:Gr) (d:Dr):Prop where
 fit:ga g d=true
 lg:dZ d=true
 ends:∀i,i<g.es.length->qT g d i=true
 I3:∀i,i<g.es.length->gL (d.ls.getD i [])=true
 alone:∀x,x<d.pts.length->fD d x=true
 free:∀i,i<g.es.length->kL g d i=true
 apart:∀i,i<g.es.length->fZ g d i=true
theorem GG{g:Gr}{d:Dr} :(kG g d).1=0↔uP g d:=by
 unfold kG
 constructor
 ·intro h
  split at h
  ·cases h
  rename_i h1
  split at h
  ·cases h
  rename_i h2
  split at h
  ·cases h
  rename_i h3
  split at h
  ·cases h
  rename_i h4
  split at h
  ·cases h
  rename_i h5
  split at h
  ·cases h
  rename_i h6
  split at h
  ·cases h
  rename_i h7
  exact⟨by simpa using h1,by simpa using h2,bU.1 h3,bU.1 h4,bU.1 h5,bU.1 h6,bU.1 h7⟩
 ·intro h
  rw[ac8 (by rw[h.fit];simp),ac8 (by rw[h.lg];simp),ac8 (bU.2 h.ends),ac8 (bU.2 h.I3),ac8 (bU.2 h.alone),ac8 (bU.2 h.free),ac8 (bU.2 h.apart)]
theorem PZ{α:Type}{l:List α}{i j:Nat}{x d:α}(hi:i<l.length):(l.set i x).getD j d=if j=i then x else l.getD j d:=by
 rw[aas,aeb]
 by_cases h:i=j
 ·subst h;rw[ada rfl,ada hi,ada rfl];rfl
 ·rw[ac8 h,ac8 fun e=>h e.symm,aas]
theorem uP.may{g:Gr}{d:Dr}(h:uP g d):aM g=true:=by
 have:=h.fit
 simp only[ga,adg,ade]at this
 exact Bj this.1.1
theorem uP.ok{g:Gr}{d:Dr}(h:uP g d):x8 g d:=by
 have:=h.fit
 simp only[ga,adg,ade]at this
 exact⟨h.may,this.1.2,this.2,uO h.lg⟩
theorem uP.SK{g:Gr}{d:Dr}(h:uP g d){i:Nat}(hi:i<g.es.length):∀p∈d.ls.getD i [],bC p:=by
 intro p hp
 have h1:=h.lg
 simp only[dZ,adg,adK]at h1
 have h2:=(adV.1 h1.2) _ (az (d:= []) (show i<d.ls.length by rw[h.ok.nl];exact hi))
 have h3:(d.ls.getD i []).any nF=false:=by
  cases hq:(d.ls.getD i []).any nF with
  |false=>rfl
  |true=>exact absurd (by simp only[jC,hq,afo]) h2
 have h4:=(adV.1 h3) p hp
 rw[sD]at h4
 simpa using h4
theorem uP.piece{g:Gr}{d:Dr}(h:uP g d){i:Nat}(hi:i<g.es.length){q:Pc}(hq:q∈fe (d.ls.getD i [])):bC q.1/\bC q.2/\q.1.2<q.2.2/\q.1≠q.2:=by
 have h1:=h.I3 i hi
 simp only[gL,adK]at h1
 have h2:=(adV.1 h1) q hq
 simp only[ade]at h2
 obtain⟨j,hj,rfl⟩:=wq.1 hq
 refine⟨h.SK hi _ (az (by omega)),h.SK hi _ (az hj),by omega,fun e=> ?_⟩
 simp only at e h2
 rw[e]at h2;exact h2 (afQ _)
theorem uP.bad{g:Gr}{d:Dr}(h:uP g d){i k:Nat}(hi:i<g.es.length)(hk:k<i){a b:Pc}(ha:a∈fe (d.ls.getD i []))(hb:b∈fe (d.ls.getD k [])):dH (gW g d i k) a b=false:=by
 have h1:=h.apart i hi
 simp only[fZ,jm,ad8,adl,adK]at h1
 exact h1 k hk a ha b hb
theorem uP.acE{g:Gr}{d:Dr}(h:uP g d){i k:Nat}{m:Pt}(hi:i<g.es.length)(hk:k+1<(d.ls.getD i []).length)(hl:(d.ls.getD i []).length<=7)(hm:pQ ((d.ls.getD i []).getD k (0,0)) ((d.ls.getD i []).getD (k+1) (0,0)) m):
 uP g ⟨d.pts,d.ls.set i (kM (d.ls.getD i []) k m)⟩:=by
 have Vv:=h.ok
 have hil:i<d.ls.length:=by rw[Vv.nl];exact hi
 obtain⟨l,iF⟩:∃l,l=d.ls.getD i []:=⟨_,rfl⟩
 rw[<- iF]at hk hl hm ⊢
 have NY:(l.getD k (0,0),l.getD (k+1) (0,0))∈fe (d.ls.getD i []):=by rw[<- iF];exact wq.2 ⟨k,hk,rfl⟩
 obtain⟨ia,ib,hr,hne⟩:=h.piece hi NY
 simp only at ia ib hr hne
 generalize ha:l.getD k (0,0)=a at*
 generalize hb:l.getD (k+1) (0,0)=b at*
 have im:bC m:=by
  obtain⟨h1,h2⟩:=hm
  simp only[bC]at ia ib ⊢
  omega
 have hlen:=GF (m:=m) hk
 have vo:∀j,(d.ls.set i (kM l k m)).getD j []=if j=i then kM l k m else d.ls.getD j []:=fun j=>PZ hil
 have hpc:∀j,∀q∈fe ((d.ls.set i (kM l k m)).getD j []),q∈fe (d.ls.getD j [])\/j=i/\(q=(a,m)\/q=(m,b)):=by
  intro j q hq
  rw[vo]at hq
  by_cases hji:j=i
  ·rw[ada hji]at hq
   rcases PY hk hq with h1|h1|h1
   ·left;rw[hji, <- iF];exact h1
   ·right;rw[ha]at h1;exact⟨hji, .inl h1⟩
   ·right;rw[hb]at h1;exact⟨hji, .inr h1⟩
  ·rw[ac8 hji]at hq;exact .inl hq
 have XY:∀(f:Pc->Bool) (j:Nat),(fe (d.ls.getD j [])).any f=false->(j=i->f (a,m)=false/\f (m,b)=false)->(fe ((d.ls.set i (kM l k m)).getD j [])).any f=false:=by
  intro f j h1 h2
  rw[adV]at h1 ⊢
  intro q hq
  rcases hpc j q hq with h3|⟨h3,h4⟩
  ·exact h1 q h3
  ·obtain⟨h5,h6⟩:=h2 h3
   rcases h4 with rfl|rfl
   ·rw[h5];simp
   ·rw[h6];simp
 refine⟨?_, ?_, ?_, ?_, ?_, ?_, ?_⟩
 ·have:=h.fit
  simpa[ga]using this
 ·have h1:=h.lg
  simp only[dZ,adg,adK]at h1 ⊢
  refine⟨h1.1, ?_⟩
  rw[adV]
  intro x hx
  rcases agq hx with h2|h2
  ·exact(adV.1 h1.2) x h2
  ·subst h2
   have h3:(kM l k m).any nF=false:=by
    rw[adV]
    intro p hp
    have hin:bC p:=by
     unfold kM at hp
     rcases ac9.1 hp with h4|h4
     ·exact h.SK hi p (by rw[<- iF];exact afv h4)
     ·rcases adw.1 h4 with h5|h5
      ·rw[h5];exact im
      ·exact h.SK hi p (by rw[<- iF];exact afw h5)
    rw[sD,ac7 hin];simp
   simp only[jC,h3,afq,adL,ade]
   omega
 ·intro j hj
  have h1:=h.ends j hj
  unfold qT at h1 ⊢
  simp only[vo]
  by_cases hji:j=i
  ·subst hji
   rw[ada rfl]
   rw[<- iF]at h1
   have e1:(kM l k m).getD 0 (0,0)=l.getD 0 (0,0):=by rw[wo hk,ada (by omega)]
   have e2:(kM l k m).getD ((kM l k m).length - 1) (0,0)=l.getD (l.length - 1) (0,0):=by
    rw[hlen,wo hk,ac8 (by omega),ac8 (by omega),Nat.add_sub_cancel]
   rw[e1,e2];exact h1
  ·rw[ac8 hji];exact h1
 ·intro j hj
  have h1:=h.I3 j hj
  simp only[gL,adK]at h1 ⊢
  refine XY _ j h1 fun _=> ?_
  obtain⟨_,h2⟩:=hm
  exact⟨ac6 (by simp only;omega),ac6 (by simp only;omega)⟩
 ·exact h.alone
 ·intro j hj
  have h1:=h.free j hj
  simp only[kL,oq,ad8,adl]at h1 ⊢
  intro x hx
  have h2:=h1 x hx
  simp only[adL,adK]at h2 ⊢
  refine h2.imp id fun h3=> ?_
  unfold SF at h3 ⊢
  refine XY _ j h3 fun hji=> ?_
  subst hji
  have h4:=(adV.1 h3) _ NY
  have h5:nG a b (d.pts.getD x (0,0))=false:=by simpa using h4
  refine⟨GD ia ib hm h5, ?_⟩
  rw[Bm]
  exact GD ib ia hm.symm (by rw[Bm];exact h5)
 ·intro j hj
  simp only[fZ,jm,ad8,adl,adK]
  intro s hs p hp q hq
  have hc:gW g ⟨d.pts,d.ls.set i (kM l k m)⟩ j s=gW g d j s:=rfl
  rw[hc]
  have CR:s<g.es.length:=by omega
  rcases hpc j p hp with h1|⟨h1,h2⟩
  ·rcases hpc s q hq with h3|⟨h3,h4⟩
   ·exact h.bad hj hs h1 h3
   ·subst h3
    obtain⟨ic,id,_,hcd⟩:=h.piece hj h1
    have h5:=h.bad hj hs h1 NY
    rw[GC]at h5
    rw[GC]
    obtain⟨p1,p2⟩:=p
    rcases h4 with rfl|rfl
    ·exact wm ia ib im ic id hne hcd hm h5
    ·rw[wk]
     exact wm ib ia im ic id (fun e=>hne e.symm) hcd hm.symm (by rw[wk];exact h5)
  ·subst h1
   have h3:q∈fe (d.ls.getD s []):=by
    rcases hpc s q hq with h3|⟨h3,_⟩
    ·exact h3
    ·omega
   obtain⟨ic,id,_,hcd⟩:=h.piece CR h3
   have h5:=h.bad hj hs NY h3
   obtain⟨q1,q2⟩:=q
   rcases h2 with rfl|rfl
   ·exact wm ia ib im ic id hne hcd hm h5
   ·rw[wk]
    exact wm ib ia im ic id (fun e=>hne e.symm) hcd hm.symm (by rw[wk];exact h5)
end Go.Ab
end
