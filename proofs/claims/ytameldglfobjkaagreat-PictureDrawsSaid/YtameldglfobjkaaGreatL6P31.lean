/- A part of the proof. -/
import Derived.Test.YtameldglfobjkaaGreatL6P30
set_option linter.unusedSimpArgs false
set_option linter.unusedVariables false
set_option linter.unusedSectionVars false
section
set_option maxRecDepth 10000
namespace Go.Ab
open Go.Proofs
theorem JY{p q r s c:Pt}(hu:p.2<q.2)(hr:r.2<s.2)(h:Cx p q r s c):Cv p q (c.2:Rat) (c.1:Rat)/\Cv r s (c.2:Rat) (c.1:Rat):=by
 rcases h with ⟨h,rfl⟩|⟨h,rfl⟩|⟨h,rfl⟩|⟨h,rfl⟩
 ·exact⟨dr hu eV,dr hr h⟩
 ·exact⟨dr hu (by rw[fV];exact eV),dr hr h⟩
 ·exact⟨dr hu h,dr hr eV⟩
 ·exact⟨dr hu h,dr hr (by rw[fV];exact eV)⟩
theorem Rh{A B:Rat}(hne:A - B≠0)(h:A*B<=0):∃u:Rat,0<=u/\u<=1/\u*(A - B)=A:=by
 refine⟨A / (A - B), ?_, ?_,by grind⟩
 all_goals(
  have e:A / (A - B)*(A - B)=A:=by grind
  generalize A / (A - B)=u at*
  have p:0<(A - B)*(A - B):=by
   have:=yz (A - B)
   rcases(show 0<(A - B)*(A - B)\/(A - B)*(A - B)=0 by grind) with h1|h1
   ·exact h1
   ·grind
  refine afD.1 fun hn=> ?_)
 ·have:=aeJ (show 0< -u by grind) p
  have s:=yz A
  have:u*((A - B)*(A - B))=A*A - A*B:=by grind
  grind
 ·have:=aeJ (show 0<u - 1 by grind) p
  have s:=yz B
  have:(u - 1)*((A - B)*(A - B))=A*B - B*B:=by grind
  grind
theorem JZ{p q r s:Pt}(hu:p.2<q.2)(hr:r.2<s.2)(h:1<=c8 p q r s):∃y X:Rat,Cv p q y X/\Cv r s y X:=by
 by_cases hK:0<(K4 p q r s).length
 ·obtain⟨x,hx⟩:=List.length_pos_iff_exists_mem.1 hK
  obtain⟨c,hc,_⟩:=jl.1 hx
  exact⟨_,_,JY hu hr hc⟩
 by_cases hT:tm p q r s=0
 ·exfalso
  unfold c8 at h
  rw[ac7 hK]at h
  split at h
  ·rename_i h2
   have d:=k9 p q r s
   rw[sK,sK,show ai p q s=ai p q r by omega]at h2
   have:=h2.1
   have:=sq_nonneg (jh (ai p q r) 0)
   omega
  ·omega
 ·rw[kf hT]at h
  split at h
  rotate_left
  ·omega
  rename_i h2
  obtain⟨h2,h3⟩:=h2
  have d:=mg p q r s
  have hne:((ai r s p:Int):Rat) - ((ai r s q:Int):Rat)≠0:=by
   intro e
   have:((ai r s p - ai r s q:Int):Rat)=((0:Int):Rat):=by push_cast;grind
   have:ai r s p - ai r s q=0:=by exact_mod_cast this
   omega
  obtain⟨u,u0,u1,WS⟩:=Rh hne (by exact_mod_cast h3)
  have pq:(0:Rat)<(q.2:Rat) - p.2:=by
   have:(p.2:Rat)<q.2:=by exact_mod_cast hu
   grind
  have rs:(0:Rat)<(s.2:Rat) - r.2:=by
   have:(r.2:Rat)<s.2:=by exact_mod_cast hr
   grind
  have c1:Cv p q (p.2+((q.2:Rat) - p.2)*u) (p.1+((q.1:Rat) - p.1)*u):=by
   refine⟨?_, ?_,by grind⟩
   ·have:=aeA (agi pq) u0
    grind
   ·have:=aeA (agi pq) (show 0<=1 - u by grind)
    grind
  have e2:((p.1+((q.1:Rat) - p.1)*u) - r.1)*((s.2:Rat) - r.2)=((s.1:Rat) - r.1)*((p.2+((q.2:Rat) - p.2)*u) - r.2):=by
   unfold ai at WS
   push_cast at WS
   grind
  refine⟨_,_,c1, ?_⟩
  generalize (p.2+((q.2:Rat) - p.2)*u)=y at*
  generalize (p.1+((q.1:Rat) - p.1)*u)=X at*
  have e1:=c1.eq
  have a1:((ai p q r:Int):Rat)*(s.2 - r.2)=(r.2 - y)*((tm p q r s:Int):Rat):=by
   unfold ai tm
   push_cast
   grind
  have a2:((ai p q s:Int):Rat)*(s.2 - r.2)=(s.2 - y)*((tm p q r s:Int):Rat):=by
   unfold ai tm
   push_cast
   grind
  have hM:((tm p q r s:Int):Rat)≠0:=by exact_mod_cast hT
  have hAB:((ai p q r:Int):Rat)*((ai p q s:Int):Rat)<=0:=by exact_mod_cast h2
  generalize ((tm p q r s:Int):Rat)=M at*
  generalize ((ai p q r:Int):Rat)=A at*
  generalize ((ai p q s:Int):Rat)=B at*
  have hMM:0<M*M:=by
   have:=yz M
   rcases(show 0<M*M\/M*M=0 by grind) with h1|h1
   ·exact h1
   ·grind
  have hp:((r.2:Rat) - y)*(s.2 - y)*(M*M)<=0:=by
   have e:((r.2:Rat) - y)*(s.2 - y)*(M*M)=A*B*((s.2 - r.2)*(s.2 - r.2)):=by grind
   rw[e]
   exact gn hAB (yz _)
  have hq:((r.2:Rat) - y)*(s.2 - y)<=0:=afD.1 fun hn=>by
   have:=aeJ hn hMM
   grind
  refine⟨afD.1 fun hn=> ?_,afD.1 fun hn=> ?_,e2⟩
  ·have:=aeJ (show 0<(r.2:Rat) - y by grind) (show 0<(s.2:Rat) - y by grind)
   grind
  ·have:=aeJ (show 0<y - (r.2:Rat) by grind) (show 0<y - (s.2:Rat) by grind)
   grind
theorem Ri{es:List Pt}{p q r s:Pt}(hu:p.2<q.2)(hr:r.2<s.2)(h:∀y X:Rat,Cv p q y X->Cv r s y X->False):dH es (p,q) (r,s)=false:=by
 have h0:c8 p q r s<1:=ahb.1 fun hm=>by
  obtain⟨y,X,a,b⟩:=JZ hu hr hm
  exact h y X a b
 have h1:fF p q r s<1:=by
  rw[jX]
  split
  ·exact h0
  ·omega
 unfold dH
 simp only[aep,adL,aeS]
 exact⟨by omega, .inl (by omega)⟩
theorem Tw{es:List Pt}{p q r s c:Pt}(hu:p.2<q.2)(hr:r.2<s.2)(hb:bC p/\bC q/\bC r/\bC s/\bC c)(hc:c∈es)(h1:iz p q c=true)(h2:iz r s c=true)(h:∀y X:Rat,Cv p q y X->Cv r s y X->y=(c.2:Rat)):dH es (p,q) (r,s)=false:=by
 obtain⟨b1,b2,b3,b4,b5⟩:=hb
 have hm:fF p q r s<=1:=by
  rw[jX,ac9 ⟨b1,b2,b3,b4⟩]
  have hl:(K4 p q r s).length<=1:=by
   have hn:=og p q r s
   match hK:K4 p q r s with
   | []=>simp
   | [x]=>simp
   |x::z::l=>
    exfalso
    rw[hK]at hn
    obtain⟨a,ha,rfl⟩:=jl.1 (show x∈K4 p q r s by rw[hK];simp)
    obtain⟨e,he,rfl⟩:=jl.1 (show z∈K4 p q r s by rw[hK];simp)
    obtain⟨a1,a2⟩:=JY hu hr ha
    obtain⟨e1,e2⟩:=JY hu hr he
    have y1:=h _ _ a1 a2
    have y2:=h _ _ e1 e2
    have y3:a.2=e.2:=by
     have:(a.2:Rat)=(e.2:Rat):=by grind
     exact_mod_cast this
    rw[y3]at a1
    have x3:a.1=e.1:=by exact_mod_cast zZ hu a1 e1
    have:a=e:=afr x3 y3
    rw[this]at hn
    simp at hn
  unfold c8
  split
  ·omega
  ·split<;>omega
 unfold dH
 simp only[aep,adL,aeS,afE,adQ,adf]
 refine⟨by omega, .inr ⟨c,hc, ?_, ?_⟩⟩
 ·unfold nG
  rw[ac6 ⟨b1,b2,b5⟩,h1];rfl
 ·unfold nG
  rw[ac6 ⟨b3,b4,b5⟩,h2];rfl
section
variable {P:PS} (h:P.Ok) {L R:Int->Int} {f0 f1:Int} {low:Int->Int} (F:P.fM L R f0 f1 low)
include h F
theorem Tx{x:Int}{u v v':List Int}{e a:Int}(hu:P.outs x=u++e::v)(ha:P.outs x=v'++ [a]):P.Lp L R (R e) (R a):=by
 have hl:ja L R (L ((P.outs x).headD 0)) (P.outs x):=by
  cases hI:P.outs x with
  |nil=>trivial
  |cons b w=>rw[<- hI];exact sW h F fun b' w' e'=>by rw[hI];rw[hI]at e';simp only[adA]at e';simp[e'.1]
 rw[hu,show u++e::v=(u++ [e])++v by simp,cw,cW]at hl
 have h2:=w8 (P:=P) (fun b hb=>((h.bI x b).1 (by rw[hu];simp[hb])).1) hl.2
 have h3:ku R (R e) v=R a:=by
  have e1:ku R 0 (P.outs x)=R a:=by rw[ha,cW]
  rw[hu,show u++e::v=(u++ [e])++v by simp,dn,cW]at e1
  exact e1
 rw[h3]at h2;exact h2
theorem DO{a e e1:Int}{u:List Int}(he:e∈P.ins a\/e∈P.outs a)(h1:P.outs a=u++ [e1]):P.Lp L R (R e) (R e1):=by
 rcases he with he|he
 ·obtain⟨s,w,hs⟩:=aeW he
  obtain⟨u',a',xN⟩:=iA (l:=P.ins a) (fun h0=>by rw[h0]at he;cases he)
  have:=Qk h F hs xN
  rw[F.GL xN h1]at this
  exact this
 ·obtain⟨s,w,hs⟩:=aeW he
  exact Tx h F hs h1
end
section
variable {P:PS} (h:P.Ok) {L R:Int->Int} {f0 f1:Int} {low:Int->Int} (F:P.fM L R f0 f1 low)
include h F
theorem Rj{b f f1:Int}{v:List Int}(hf:f∈P.ins b\/f∈P.outs b)(h1:P.outs b=f1::v):P.Lp L R (L f1) (L f):=by
 have:=DO h.Di (F.Di h) (a:=b) (e:=f) (e1:=f1) (u:=v.reverse) (by
  rcases hf with hf|hf
  ·exact .inl (aeX.2 hf)
  ·exact .inr (aeX.2 hf)) (by show(P.outs b).reverse=_;rw[h1];simp)
 exact Lv (P:=P.Di) (Q:=P) rfl this
theorem xI{a b e f:Int}(hl:P.Th L R a b)(he:e∈P.ins a\/e∈P.outs a)(hf:f∈P.ins b\/f∈P.outs b):P.Lp L R (R e) (L f):=by
 obtain⟨u,e1,f1,v,h1,h2,h3⟩:=hl
 exact(DO h F he h1).trans (h3.trans (Rj h F hf h2))
end
def Ag(g:Gr)(e:Int):Prop:=0<=e/\e<g.es.length
def iC(g:Gr)(p:Pl)(v:Int):Pt:=(jy g p false v,jy g p true v)
theorem NC{p q:Pt}{y X:Rat}(h1:p.1<q.1)(h2:p.2<q.2)(h:Cv p q y X):(p.1:Rat)<=X/\X<=(q.1:Rat):=by
 have a1:(p.1:Rat)<q.1:=by exact_mod_cast h1
 have a2:(p.2:Rat)<q.2:=by exact_mod_cast h2
 have e:=h.eq
 have l:=h.lo
 have r:=h.hi
 refine⟨afD.1 fun hn=> ?_,afD.1 fun hn=> ?_⟩
 ·have:=aeJ (show 0<(p.1:Rat) - X by grind) (show 0<(q.2:Rat) - p.2 by grind)
  have:=aeA (show 0<=(q.1:Rat) - p.1 by grind) (show 0<=y - p.2 by grind)
  grind
 ·have:=aeJ (show 0<X - (q.1:Rat) by grind) (show 0<(q.2:Rat) - p.2 by grind)
  have:=aeA (show 0<=(q.1:Rat) - p.1 by grind) (show 0<=(q.2:Rat) - y by grind)
  grind
theorem Rk{u v w z:Pt}{y X:Rat}(a1:u.1<v.1)(a2:u.2<v.2)(h1:w.1<u.1)(h2:u.2<w.2)(h3:z.1<v.1)(h4:v.2<z.2)(b2:w.2<z.2)(a:Cv u v y X)(b:Cv w z y X):False:=by
 have a1':(u.1:Rat)<v.1:=by exact_mod_cast a1
 have a2':(u.2:Rat)<v.2:=by exact_mod_cast a2
 have CO:(w.1:Rat)<u.1:=by exact_mod_cast h1
 have NU:(u.2:Rat)<w.2:=by exact_mod_cast h2
 have NV:(z.1:Rat)<v.1:=by exact_mod_cast h3
 have h4':(v.2:Rat)<z.2:=by exact_mod_cast h4
 have b2':(w.2:Rat)<z.2:=by exact_mod_cast b2
 have ea:=a.eq
 have eb:=b.eq
 have lb:=b.lo
 have rb:=b.hi
 obtain⟨t,ht⟩:∃t:Rat,t*((z.2:Rat) - w.2)=y - w.2:=⟨(y - w.2) / ((z.2:Rat) - w.2),by grind⟩
 have t0:0<=t:=afD.1 fun hn=>by
  have:=aeJ (show 0< -t by grind) (show 0<(z.2:Rat) - w.2 by grind)
  grind
 have t1:0<=1 - t:=afD.1 fun hn=>by
  have:=aeJ (show 0<t - 1 by grind) (show 0<(z.2:Rat) - w.2 by grind)
  grind
 obtain⟨s,hs⟩:∃s:Rat,s*((v.2:Rat) - u.2)=y - u.2:=⟨(y - u.2) / ((v.2:Rat) - u.2),by grind⟩
 have hX:X - u.1=s*((v.1:Rat) - u.1):=by
  have:(X - u.1 - s*((v.1:Rat) - u.1))*((v.2:Rat) - u.2)=0:=by grind
  have:(v.2:Rat) - u.2≠0:=by grind
  grind
 have hZ:X - w.1=t*((z.1:Rat) - w.1):=by
  have:(X - w.1 - t*((z.1:Rat) - w.1))*((z.2:Rat) - w.2)=0:=by grind
  have:(z.2:Rat) - w.2≠0:=by grind
  grind
 have p1:0<(1 - t)*((u.1:Rat) - w.1)+t*((v.1:Rat) - z.1):=by
  rcases(show 0<t\/t=0 by grind) with h|h
  ·have:=aeA t1 (show 0<=(u.1:Rat) - w.1 by grind)
   have:=aeJ h (show 0<(v.1:Rat) - z.1 by grind)
   grind
  ·rw[h];grind
 have p2:0<(1 - t)*((w.2:Rat) - u.2)+t*((z.2:Rat) - v.2):=by
  rcases(show 0<t\/t=0 by grind) with h|h
  ·have:=aeA t1 (show 0<=(w.2:Rat) - u.2 by grind)
   have:=aeJ h (show 0<(z.2:Rat) - v.2 by grind)
   grind
  ·rw[h];grind
 have q1:(t - s)*((v.1:Rat) - u.1)=(1 - t)*((u.1:Rat) - w.1)+t*((v.1:Rat) - z.1):=by grind
 have q2:(s - t)*((v.2:Rat) - u.2)=(1 - t)*((w.2:Rat) - u.2)+t*((z.2:Rat) - v.2):=by grind
 rcases(show s<=t\/t<=s from Rat.le_total) with h|h
 ·have:=aeA (show 0<=t - s by grind) (show 0<=(v.2:Rat) - u.2 by grind)
  grind
 ·have:=aeA (show 0<=s - t by grind) (show 0<=(v.1:Rat) - u.1 by grind)
  grind
theorem LL{u v z:Pt}{y X:Rat}(a2:u.2<v.2)(b1:u.1<z.1)(b2:u.2<z.2)(h1:v.1<z.1)(h2:z.2<v.2)(a:Cv u v y X)(b:Cv u z y X):y=(u.2:Rat):=by
 have b1':(u.1:Rat)<z.1:=by exact_mod_cast b1
 have CO:(v.1:Rat)<z.1:=by exact_mod_cast h1
 have NU:(z.2:Rat)<v.2:=by exact_mod_cast h2
 have ea:=a.eq
 have eb:=b.eq
 have l:=a.lo
 have hx:=(NC b1 b2 b).1
 refine ae9 fun hne=> ?_
 have:=aeJ (show 0<(z.1:Rat) - v.1 by grind) (show 0<y - u.2 by grind)
 have:=aeA (show 0<=X - u.1 by grind) (show 0<=(v.2:Rat) - z.2 by grind)
 grind
theorem LM{u w v:Pt}{y X:Rat}(a1:u.1<v.1)(a2:u.2<v.2)(h1:w.1<u.1)(h2:u.2<w.2)(b1:w.1<v.1)(a:Cv u v y X)(b:Cv w v y X):y=(v.2:Rat):=by
 have a1':(u.1:Rat)<v.1:=by exact_mod_cast a1
 have CO:(w.1:Rat)<u.1:=by exact_mod_cast h1
 have NU:(u.2:Rat)<w.2:=by exact_mod_cast h2
 have ea:=a.eq
 have eb:=b.eq
 have r:=a.hi
 have hx:=(NC a1 a2 a).2
 have f1:((v.1:Rat) - X)*((v.2:Rat) - u.2)=((v.1:Rat) - u.1)*(v.2 - y):=by grind
 have f2:((v.1:Rat) - X)*((v.2:Rat) - w.2)=((v.1:Rat) - w.1)*(v.2 - y):=by grind
 refine ae9 fun hne=> ?_
 have:=aeJ (show 0<(u.1:Rat) - w.1 by grind) (show 0<(v.2:Rat) - y by grind)
 have:=aeA (show 0<=(v.1:Rat) - X by grind) (show 0<=(w.2:Rat) - u.2 by grind)
 grind
section
variable {g:Gr} {p:Pl} (h:aG g p) (hI:q8 g=true)
include h hI
theorem HL{a b:Int}(ha:fN g a)(hb:fN g b)(h1:(aP g p).gD a b)(h2:(aP g p).gD b a):a=b:=by
 have e1:=(gq h hI ha hb).1 h1
 have e2:=(gq h hI hb ha).1 h2
 exact nu h false ha hb (by omega)
theorem fI{e:Int}(he:Ag g e):fN g (bt g e)/\fN g (bA g e)/\bt g e≠bA g e:=by
 have h0:=he.1;have h1:=he.2
 have t:=aT (ah h.1) (show e.toNat<g.es.length by omega)
 have d:=aU (ah h.1) (show e.toNat<g.es.length by omega)
 have:=Cg h he.1 he.2
 exact⟨⟨t.1,t.2⟩,⟨d.1,d.2⟩,fun e2=>by rw[e2]at this;omega⟩
theorem Ck{e:Int}(he:Ag g e):(aP g p).gD (bt g e) (bA g e):= .step .refl he
theorem rS{e:Int}(he:Ag g e):(iC g p (bt g e)).1<(iC g p (bA g e)).1/\(iC g p (bt g e)).2<(iC g p (bA g e)).2:=by
 obtain⟨a,b,c⟩:=fI h hI he
 have:=(gq h hI a b).1 (Ck h hI he)
 have n1:jy g p false (bt g e)≠jy g p false (bA g e):=fun e=>c (nu h false a b e)
 have n2:jy g p true (bt g e)≠jy g p true (bA g e):=fun e=>c (nu h true a b e)
 exact⟨by show jy g p false (bt g e)<jy g p false (bA g e);omega,by show jy g p true (bt g e)<jy g p true (bA g e);omega⟩
theorem Ty{i:Nat}{u y:Int}(hr:(aP g p).gD u y):xR g false (xF i) u.toNat y.toNat\/(aP g p).gD (bA g i) y:=by
 induction hr with
 |refl=>exact .inl .refl
 | @step e _ he ih=>
   have he':Ag g e:=he
   have h0:=he'.1;have h1:=he'.2
   rcases ih with ih|ih
   ·by_cases SU:e=(i:Int)
    ·right;rw[SU];exact .refl
    ·left;exact xR.fwd (i:=e.toNat) (by omega) (rR.2 (by omega)) ih
   ·exact .inr (.step ih he)
theorem Rl{i:Nat}{x y:Int}(hr:(aP g p).gD x y):xR g false (xF i) x.toNat y.toNat\/(aP g p).gD x (bt g i):=by
 induction hr with
 |refl=>exact .inl .refl
 | @step e hx he ih=>
   have he':Ag g e:=he
   have h0:=he'.1;have h1:=he'.2
   rcases ih with ih|ih
   ·by_cases SU:e=(i:Int)
    ·right;rw[SU]at hx;exact hx
    ·left;exact xR.fwd (i:=e.toNat) (by omega) (rR.2 (by omega)) ih
   ·exact .inr ih
variable (hT:cO g= [])
include hT
theorem fc{e x:Int}(he:Ag g e)(hx:fN g x)(h1:(aP g p).gD (bt g e) x)(h2:(aP g p).gD x (bA g e)):x=bt g e\/x=bA g e:=by
 refine ae9 fun hc=> ?_
 have n1:x≠bt g e:=fun e=>hc (.inl e)
 have n2:x≠bA g e:=fun e=>hc (.inr e)
 obtain⟨a,b,_⟩:=fI h hI he
 have e0:=he.1;have e1:=he.2
 obtain⟨i,rfl⟩:∃i:Nat,e=(i:Int):=⟨e.toNat,by omega⟩
 rcases Ty h hI (i:=i) h1 with c1|c1
 ·rcases Rl h hI (i:=i) h2 with c2|c2
  ·have hm:=ah h.1
   have ht:Rc g i=true:=(Fk hm (bs:= []) ⟨ae0,by simp⟩ (by omega)).2 (c1.trans c2)
   have:=(Fl hm (i:=(i:Int))).2 ⟨i,by omega,ht,rfl⟩
   rw[hT]at this
   cases this
  ·exact n1 (HL h hI hx a c2 h1)
 ·exact n2 (HL h hI hx b h2 c1)
theorem Fm{e f:Int}(he:Ag g e)(hf:Ag g f){y X:Rat}(a:Cv (iC g p (bt g e)) (iC g p (bA g e)) y X)(b:Cv (iC g p (bt g f)) (iC g p (bA g f)) y X):(aP g p).gD (bt g e) (bA g f):=by
 obtain⟨u1,u2⟩:=rS h hI he
 obtain⟨w1,w2⟩:=rS h hI hf
 have xa:=NC u1 u2 a
 have xb:=NC w1 w2 b
 have ya:=a.lo
 have yb:=b.hi
 refine(gq h hI (fI h hI he).1 (fI h hI hf).2.1).2 ⟨?_, ?_⟩
 ·have:((iC g p (bt g e)).1:Rat)<=((iC g p (bA g f)).1:Rat):=by grind
  exact_mod_cast this
 ·have:((iC g p (bt g e)).2:Rat)<=((iC g p (bA g f)).2:Rat):=by grind
  exact_mod_cast this
theorem Tz{e x:Int}(he:Ag g e)(hx:fN g x)(a:Cv (iC g p (bt g e)) (iC g p (bA g e)) ((iC g p x).2:Rat) ((iC g p x).1:Rat)):x=bt g e\/x=bA g e:=by
 obtain⟨u1,u2⟩:=rS h hI he
 obtain⟨i1,i2,_⟩:=fI h hI he
 have xa:=NC u1 u2 a
 have ya:=a.lo
 have yb:=a.hi
 refine fc h hI hT he hx ((gq h hI i1 hx).2 ⟨?_, ?_⟩) ((gq h hI hx i2).2 ⟨?_, ?_⟩)
 ·exact_mod_cast xa.1
 ·exact_mod_cast ya
 ·exact_mod_cast xa.2
 ·exact_mod_cast yb
theorem yG{a b:Int}(ha:fN g a)(hb:fN g b)(h1:¬(aP g p).gD a b)(h2:¬(aP g p).gD b a):((iC g p a).1<(iC g p b).1/\(iC g p b).2<(iC g p a).2)\/((iC g p b).1<(iC g p a).1/\(iC g p a).2<(iC g p b).2):=by
 rw[gq h hI ha hb]at h1
 rw[gq h hI hb ha]at h2
 show(jy g p false a<jy g p false b/\jy g p true b<jy g p true a)\/(jy g p false b<jy g p false a/\jy g p true a<jy g p true b)
 omega
theorem HM{e f:Int}(he:Ag g e)(hf:Ag g f)(hne:e≠f){y X:Rat}(a:Cv (iC g p (bt g e)) (iC g p (bA g e)) y X)(b:Cv (iC g p (bt g f)) (iC g p (bA g f)) y X)
 (d1:bt g e≠bA g f) (d2:bt g f≠bA g e)
 (i1:¬(aP g p).gD (bt g e) (bt g f)) (i2:¬(aP g p).gD (bt g f) (bt g e)) (j1:¬(aP g p).gD (bA g e) (bA g f)) (j2:¬(aP g p).gD (bA g f) (bA g e))
 (hl:(iC g p (bt g f)).1<(iC g p (bt g e)).1/\(iC g p (bt g e)).2<(iC g p (bt g f)).2):False:=by
 obtain⟨u1,u2⟩:=rS h hI he
 obtain⟨w1,w2⟩:=rS h hI hf
 obtain⟨eu,ev,_⟩:=fI h hI he
 obtain⟨ew,ez,_⟩:=fI h hI hf
 have r1:=Fm h hI hT he hf a b
 have r2:=Fm h hI hT hf he b a
 rcases yG h hI hT ev ez j1 j2 with hz|hz
 rotate_left
 ·exact Rk u1 u2 hl.1 hl.2 hz.1 hz.2 w2 a b
 have ok:=nj h hI
 have F:=eA h hI
 have me:e∈(aP g p).outs (bt g e):=(ok.bI _ _).2 ⟨he,rfl⟩
 have mf:f∈(aP g p).outs (bt g f):=(ok.bI _ _).2 ⟨hf,rfl⟩
 have ne:e∈(aP g p).ins (bA g e):=(ok.cz _ _).2 ⟨he,rfl⟩
 have nf:f∈(aP g p).ins (bA g f):=(ok.cz _ _).2 ⟨hf,rfl⟩
 have l1:=xI ok F ((qc h hI ew eu i2 i1).2 hl) (.inr mf) (.inr me)
 have l2:=xI ok F ((qc h hI ev ez j1 j2).2 hz) (.inl ne) (.inl nf)
 exact mz ok F he hf l2 l1
theorem HN{e f:Int}(he:Ag g e)(hf:Ag g f)(hne:e≠f){y X:Rat}(a:Cv (iC g p (bt g e)) (iC g p (bA g e)) y X)(b:Cv (iC g p (bt g f)) (iC g p (bA g f)) y X):
 ∃v:Int,(v=bt g e\/v=bA g e)/\(v=bt g f\/v=bA g f)/\y=((iC g p v).2:Rat):=by
 obtain⟨u1,u2⟩:=rS h hI he
 obtain⟨w1,w2⟩:=rS h hI hf
 obtain⟨eu,ev,en⟩:=fI h hI he
 obtain⟨ew,ez,fn⟩:=fI h hI hf
 have r1:=Fm h hI hT he hf a b
 have r2:=Fm h hI hT hf he b a
 by_cases c1:bt g e=bA g f
 ·refine⟨bt g e, .inl rfl, .inr c1, ?_⟩
  have k1:=a.lo
  have k2:=b.hi
  rw[<- c1]at k2
  grind
 by_cases c2:bt g f=bA g e
 ·refine⟨bt g f, .inr c2, .inl rfl, ?_⟩
  have k1:=b.lo
  have k2:=a.hi
  rw[<- c2]at k2
  grind
 by_cases c3:bt g e=bt g f
 ·have YO:bA g e≠bA g f:=fun c4=>by
   have e0:=he.1;have e1:=he.2;have f0:=hf.1;have f1:=hf.2
   have:=mI h.1 (i:=e.toNat) (k:=f.toNat) (by omega) (by omega) (afr c3 c4)
   omega
  have j1:¬(aP g p).gD (bA g e) (bA g f):=fun hr=>by
   rcases fc h hI hT hf ev (c3 ▸ Ck h hI he) hr with q|q
   ·exact c2 q.symm
   ·exact YO q
  have j2:¬(aP g p).gD (bA g f) (bA g e):=fun hr=>by
   rcases fc h hI hT he ez (c3 ▸ Ck h hI hf) hr with q|q
   ·exact c1 q.symm
   ·exact YO q.symm
  refine⟨bt g e, .inl rfl, .inl c3, ?_⟩
  rw[<- c3]at b w1 w2
  rcases yG h hI hT ev ez j1 j2 with q|q
  ·exact LL u2 w1 w2 q.1 q.2 a b
  ·exact LL w2 u1 u2 q.1 q.2 b a
 have i1:¬(aP g p).gD (bt g e) (bt g f):=fun hr=>by
  rcases fc h hI hT he ew hr r2 with q|q
  ·exact c3 q.symm
  ·exact c2 q
 have i2:¬(aP g p).gD (bt g f) (bt g e):=fun hr=>by
  rcases fc h hI hT hf eu hr r1 with q|q
  ·exact c3 q
  ·exact c1 q
 by_cases c4:bA g e=bA g f
 ·refine⟨bA g e, .inr rfl, .inr c4, ?_⟩
  rw[<- c4]at b w1 w2
  rcases yG h hI hT eu ew i1 i2 with q|q
  ·exact LM w1 w2 q.1 q.2 u1 b a
  ·exact LM u1 u2 q.1 q.2 w1 a b
 exfalso
 have j1:¬(aP g p).gD (bA g e) (bA g f):=fun hr=>by
  rcases fc h hI hT hf ev r2 hr with q|q
  ·exact c2 q.symm
  ·exact c4 q
 have j2:¬(aP g p).gD (bA g f) (bA g e):=fun hr=>by
  rcases fc h hI hT he ez r1 hr with q|q
  ·exact c1 q.symm
  ·exact c4 q.symm
 rcases yG h hI hT eu ew i1 i2 with q|q
 ·exact HM h hI hT hf he (Ne.symm hne) b a c2 c1 i2 i1 j2 j1 q
 ·exact HM h hI hT he hf hne a b c1 c2 i1 i2 j1 j2 q
end
end Go.Ab
end
