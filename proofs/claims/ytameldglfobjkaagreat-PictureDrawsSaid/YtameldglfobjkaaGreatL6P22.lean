/- A part of the proof. -/
import Derived.Test.YtameldglfobjkaaGreatL6P21
set_option linter.unusedSimpArgs false
set_option linter.unusedVariables false
section
set_option maxRecDepth 10000
namespace Go.Ab
open Go.Proofs
def Je(g:Gr)(t:It):Prop:=(t.1= -1/\t.2.2= -1)\/(0<=t.1/\t.1<g.es.length/\t.2.1=(g.es.getD t.1.toNat (0,0)).1/\t.2.2=(g.es.getD t.1.toNat (0,0)).2)
structure fL (g:Gr) (f:Fr):Prop where
 it:∀t∈f.row,Je g t
 pl:f.pl.Nodup
 lg:∀x∈f.pl,0<=x/\x<g.n
theorem ot{row:List It}{x:Int} :∀k:Nat,(iZ row x k).2.2=kP row x k
 |0=>rfl
 |k+1=>by
  rw[uR,jN]
  split
  ·show(iZ row x k).2.2+1=_
   rw[ot k]
  ·exact ot k
theorem yd{row:List It}{x:Int}{j:Nat} :∀d:Nat,kP row x j<=kP row x (j+d)
 |0=>afP _
 |d+1=>by
  have:=yd (row:=row) (x:=x) (j:=j) d
  rw[<- Nat.add_assoc,jN]
  split<;>omega
theorem ou{row:List It}{x:Int} :∀ {k:Nat},(∀j,j<k->(row.getD j (0,0,0)).2.2≠x)->kP row x k=0
 |0,_=>rfl
 |k+1,h=>by
  rw[jN,ac7 (h k (by omega))]
  exact ou fun j hj=>h j (by omega)
theorem ye{row:List It}{x:Int}{b:Nat} :∀ {d:Nat},(∀j,b<=j->j<b+d->(row.getD j (0,0,0)).2.2≠x)->kP row x (b+d)=kP row x b
 |0,_=>rfl
 |d+1,h=>by
  rw[<- Nat.add_assoc,jN,ac7 (h (b+d) (by omega) (by omega))]
  exact ye fun j h1 h2=>h j h1 (by omega)
theorem jO{f:Edge->Int}{g:Gr}{x:Int}(h0:0<=x)(h1:x<g.n):bQ f g x=aJ f g.es g.es.length x:=ac9 ⟨h0,h1⟩
theorem sO{g:Gr}{e:Int}(h0:0<=e)(h1:e<g.es.length):0<aV g (g.es.getD e.toNat (0,0)).2:=by
 refine ae6.2 fun h=> ?_
 have hm:e∈aJ (·.2) g.es g.es.length (g.es.getD e.toNat (0,0)).2:=by
  simp only[aJ,ada,adI,adk,adb]
  exact⟨e.toNat,⟨by omega,rfl⟩,by simp;omega⟩
 rw[h]at hm;cases hm
theorem Df{row:List It}{p:It->Bool}{a b:Nat}(hb:b<=row.length):((row.take b).drop a).any p=true↔∃j,a<=j/\j<b/\p (row.getD j (0,0,0))=true:=by
 rw[adQ]
 constructor
 ·rintro⟨t,ht,hp⟩
  obtain⟨k,hk,rfl⟩:=adr.1 ht
  simp only[aeC,adG]at hk
  refine⟨a+k,by omega,by omega, ?_⟩
  rw[aas,acF (show a+k<row.length by omega)]
  simpa using hp
 ·rintro⟨j,h1,h2,hp⟩
  rw[aas,acF (show j<row.length by omega)]at hp
  refine⟨row[j], ?_,hp⟩
  refine adr.2 ⟨j - a,by simp;omega, ?_⟩
  simp only[List.getElem_drop,af9]
  congr 1;omega
theorem Je.head{g:Gr}(hm:aM g=true){t:It}(h:Je g t):(0<=t.1↔t.2.2≠ -1)/\ -1<=t.2.2:=by
 rcases h with ⟨h1,h2⟩|⟨h1,h2,_,h4⟩
 ·omega
 ·obtain⟨_,h5,_⟩:=cU hm (k:=t.1.toNat) (by omega)
  omega
theorem kj{g:Gr}(hm:aM g=true){f:Fr}(hi:fL g f)(x:Int):gh g f x=au g f x:=by
 by_cases hx:x<0\/g.n<=x\/x∈f.pl
 ·rw[gh,au,ac9 hx,ac9 hx]
 rw[gh,au,ac7 hx,ac7 hx]
 have hx0:0<=x/\x<g.n:=by
  constructor
  ·exact agx.1 fun h=>hx (.inl h)
  ·exact ahb.1 fun h=>hx (.inr (.inl h))
 have hmem:∀j,j<f.row.length->Je g (f.row.getD j (0,0,0)):=fun j hj=>hi.it _ (az hj)
 rw[jO hx0.1 hx0.2]
 have hN:(aJ (fun e=>e.2) g.es g.es.length x).length=aV g x:=rfl
 rw[hN]
 have VD:(bH f.row x).2.2=kP f.row x f.row.length:=ot _
 by_cases h0:aV g x=0
 ·rw[ac9 h0,h0,ac6 rfl,afd,aeY,adb,VD,ou]
  ·rfl
  ·intro j hj he
   rcases hmem j hj with ⟨_,h2⟩|⟨h1,h2,_,h4⟩
   ·omega
   ·have:=sO h1 h2
    rw[<- h4,he]at this
    omega
 ·rw[ac7 h0,ac5 h0,aeK,VD]
  generalize aV g x=need at h0
  rcases gX (row:=f.row) (x:=x) f.row.length with ⟨hs,hno⟩|⟨a,b,c,hs,hab,Ct,hc0,hcl,ha,hb,hlo,hhi⟩
  ·rw[ou hno]
   have e1:decide ((0:Int)=(need:Int))=false:=ac5 (by omega)
   rw[e1,agb,afR]
  ·have hs':bH f.row x=((a:Int),(b:Int),(c:Int)):=hs
   have RU:kP f.row x f.row.length=c:=by rw[<- VD,hs']
   rw[hs',RU]
   simp only[Int.toNat_natCast]
   rw[Bool.and_comm]
   by_cases Xj:¬(c:Int)=need
   ·rw[ac5 Xj,afR,afR]
   rw[afI]at Xj
   rw[ac6 Xj,aeY,aeY,y5]
   congr 1
   rw[ad0,Df Ct,adQ]
   have ma:kP f.row x a=0:=ou hlo
   have ma1:kP f.row x (a+1)=1:=by rw[jN,ac9 ha,ma];rfl
   have mb:kP f.row x b=need:=by
    have h:=ye (row:=f.row) (x:=x) (b:=b) (d:=f.row.length - b) fun j h1 h2=>hhi j h1 (by omega)
    rw[show b+(f.row.length - b)=f.row.length by omega,RU]at h
    omega
   have mb1:kP f.row x (b - 1)+1=need:=by
    have h:=jN (row:=f.row) (x:=x) (k:=b - 1)
    rw[ac9 hb,show b - 1+1=b by omega,mb]at h
    omega
   constructor
   ·rintro⟨j,h1,h2,hp⟩
    simp only[pS,adf,adb]at hp
    have hja:j≠a:=fun e=>hp.1 (by rw[e];exact ha)
    have hjb:j≠b - 1:=fun e=>hp.1 (by rw[e];exact hb)
    have g1:=yd (row:=f.row) (x:=x) (j:=a+1) (j - (a+1))
    rw[show a+1+(j - (a+1))=j by omega]at g1
    have g2:=yd (row:=f.row) (x:=x) (j:=j) (b - 1 - j)
    rw[show j+(b - 1 - j)=b - 1 by omega]at g2
    exact⟨j,adk.2 (by omega),Dd.2 ⟨⟨hp.1,((hmem j (by omega)).head hm).1.2 hp.2⟩,by omega,by omega⟩⟩
   ·rintro⟨j,hj,hl⟩
    have hj:=adk.1 hj
    obtain⟨⟨h1,h2⟩,h3,h4⟩:=Dd.1 hl
    refine⟨j, ?_, ?_, ?_⟩
    ·refine Nat.not_lt.1 fun h=> ?_
     have:=ou (row:=f.row) (x:=x) (k:=j) fun i hi=>hlo i (by omega)
     omega
    ·refine Nat.not_le.1 fun h=> ?_
     have:=ye (row:=f.row) (x:=x) (b:=b) (d:=j - b) fun i h1 h2=>hhi i h1 (by omega)
     rw[show b+(j - b)=j by omega]at this
     omega
    ·simp only[pS,adf,adb]
     exact⟨h1,((hmem j hj).head hm).1.1 h2⟩
theorem wQ:∀ {ms os:List Int},ms.Nodup->(∀i∈ms,i∈os)->os.length=ms.length->os.Perm ms
 | [],os,_,_,hl=>by
   have h:os= []:=adE (by simpa using hl)
   rw[h]
 |m::ms,os,hn,hs,hl=>by
  rw[ad5]at hn
  have hm:=hs m (adH ..)
  refine(List.perm_cons_erase hm).trans (List.Perm.cons m (wQ hn.2 (fun j hj=> ?_) ?_))
  ·have:j≠m:=fun e=>hn.1 (e ▸ hj)
   exact(afO this).2 (hs j (adz _ hj))
  ·rw[afW hm,hl];simp
theorem y7{g:Gr}{x:Int} :(b8 g x).Pairwise (· <= ·):=by
 unfold b8 aJ
 refine aex _ (fun a b (h:a<b)=> ?_) (agG _ ag2)
 show(a:Int)<=b
 omega
theorem Bw{l m:List Int}(h:l.Perm m)(hm:m.Pairwise (· <= ·)):lu l=m:=by
 have h1:(lu l).Pairwise (· <= ·):=by
  have:=List.pairwise_mergeSort (le:=fun a b:Int=>decide (a<=b)) (by simp;omega) (by simp;omega) l
  simpa[lu]using this
 have h2:(lu l).Perm m:=(by unfold lu;exact(List.mergeSort_perm l _).trans h)
 exact h2.eq_of_pairwise (fun a b _ _ h1 h2=>Int.le_antisymm h1 h2) h1 hm
theorem aF{g:Gr}{f:Fr}{x:Int}(h:au g f x=true):0<=x/\x<g.n/\x∉f.pl:=by
 unfold au at h
 by_cases hx:x<0\/g.n<=x\/x∈f.pl
 ·rw[ac9 hx]at h;cases h
 ·exact⟨agx.1 fun h=>hx (.inl h),ahb.1 fun h=>hx (.inr (.inl h)),fun h=>hx (.inr (.inr h))⟩
theorem P9{g:Gr}(hm:aM g=true){f:Fr}(hi:fL g f)(x:Int)(outs:List Int):nJ g f x outs=jq g f x outs:=by
 rw[nJ,jq,kj hm hi]
 cases hR:au g f x with
 |false=>rw[ac9 rfl,ac9 rfl]
 |true=>
  obtain⟨h0,h1,h2⟩:=aF hR
  have ht:¬(true=false):=by simp
  rw[ac7 ht,ac7 ht,jO h0 h1]
  show(if lu outs≠b8 g x then _ else aC g f x outs)=_
  by_cases hs:lu outs=b8 g x
  ·rw[ac7 (fun h=>h hs),ac7]
   rintro(h|⟨i,h3,h4⟩)
   ·exact h (by rw[<- hs,iH])
   ·exact h4 (GI.1 (hs ▸ h3))
  ·rw[ac9 hs,ac9]
   refine adl fun h=>hs ?_
   have hl:outs.length=(b8 g x).length:=adl fun e=>h (.inl e)
   exact Bw (wQ b7 (fun i hi=>adl fun e=>h (.inr ⟨i,hi,e⟩)) hl) y7
theorem Qa{g:Gr}{x:Int}{outs:List Int}(ho:∀i∈outs,i∈b8 g x):∀t∈aQ g x outs,Je g t:=by
 intro t ht
 unfold aQ at ht
 split at ht
 ·rw[adu]at ht
  rw[ht];exact .inl ⟨rfl,rfl⟩
 ·obtain⟨i,hi,rfl⟩:=ada.1 ht
  obtain⟨⟨h1,h2⟩,h3⟩:=gA (ho i hi)
  exact .inr ⟨h1,h2,h3.symm,rfl⟩
theorem Qb{g:Gr}{f:Fr}(hi:fL g f){x:Int}(hR:au g f x=true){outs:List Int}(ho:∀i∈outs,i∈b8 g x):fL g (aC g f x outs).2:=by
 obtain⟨h0,h1,h2⟩:=aF hR
 refine⟨fun t ht=> ?_, ?_,fun y hy=> ?_⟩
 ·simp only[aC,ac8]at ht
  rcases ht with (ht|ht)|ht
  ·exact hi.it t (afu ht)
  ·exact Qa ho t ht
  ·exact hi.it t (afv ht)
 ·show(f.pl++ [x]).Nodup
  rw[adt]
  refine⟨hi.pl,by simp,fun a ha b hb e=>h2 ?_⟩
  rw[adu]at hb
  rw[<- hb, <- e];exact ha
 ·have hy:y∈f.pl++ [x]:=hy
  rcases ac8.1 hy with h|h
  ·exact hi.lg y h
  ·rw[adu]at h
   rw[h];exact⟨h0,h1⟩
def lz(x:Int)(t:It):Bool:=decide (t.2.2=x)
structure Mid (x:Int) (X:List It):Prop where
 fst:∃p X',X=p::X'/\p.2.2=x
 GL:∃X' q,X=X'++ [q]/\q.2.2=x
 al:∀t∈X,t.2.2=x\/t.2.2= -1
def gv(x:Int)(l:List It):Prop:=∀t∈l,t.2.2≠x
theorem gv.app{x:Int}{l m:List It}(h:gv x l)(h':gv x m):gv x (l++m):=fun t ht=>(ac8.1 ht).elim (h t) (h' t)
theorem gv.left{x:Int}{l m:List It}(h:gv x (l++m)):gv x l:=fun t ht=>h t (ac8.2 (.inl ht))
theorem gv.right{x:Int}{l m:List It}(h:gv x (l++m)):gv x m:=fun t ht=>h t (ac8.2 (.inr ht))
theorem Mid.noH{x y:Int}{X:List It}(h:Mid x X)(hxy:x≠y)(hy:0<=y):gv y X:=fun t ht e=>by
 rcases h.al t ht with h1|h1<;>omega
theorem pU{row:List It}{x:Int} :∀ {k:Nat},k<=row.length->kP row x k=((row.take k).countP (lz x):Nat)
 |0,_=>by simp[kP]
 |k+1,h=>by
  rw[jN,pU (k:=k) (by omega),ad1,acF (show k<row.length by omega),aeM]
  simp only[Option.toList,afT,List.countP_nil,lz,adb,aas,acF (show k<row.length by omega),Option.getD_some]
  split<;>simp
theorem MT{A X C:List It}{p:It}{X':List It}(h:X=p::X'):(A++X++C).getD A.length (0,0,0)=p:=by
 subst h;simp[aas]
theorem MU{A X C:List It}{q:It}{X':List It}(h:X=X'++ [q]):(A++X++C).getD (A.length+X.length - 1) (0,0,0)=q:=by
 subst h
 have e:A.length+(X'++ [q]).length - 1=(A++X').length:=by simp
 rw[e,show A++(X'++ [q])++C=(A++X')++([q]++C) by simp]
 simp[aas]
theorem MV{A L:List It}{j:Nat}(h:j<A.length):(A++L).getD j (0,0,0)∈A:=by
 rw[aas,adx h,acF h]
 exact ad2 h
theorem MW{A L:List It}{j:Nat}(h:A.length<=j)(h':j<(A++L).length):(A++L).getD j (0,0,0)∈L:=by
 rw[adi]at h'
 rw[aas,adw h,acF (by omega)]
 exact ad2 _
theorem KM{A X C:List It}{x:Int}(hA:gv x A)(hC:gv x C)(hX:Mid x X):
 (bH (A++X++C) x).1=(A.length:Int)/\(bH (A++X++C) x).2.1=((A.length+X.length:Nat):Int)/\(bH (A++X++C) x).2.2=(X.countP (lz x):Nat):=by
 have AQ:(bH (A++X++C) x).2.2=(X.countP (lz x):Nat):=by
  unfold bH
  rw[ot,pU (adg _),aee,aeM,aeM]
  have h1:A.countP (lz x)=0:=ae4.2 fun t ht=>by simp[lz,hA t ht]
  have h2:C.countP (lz x)=0:=ae4.2 fun t ht=>by simp[lz,hC t ht]
  rw[h1,h2];simp
 obtain⟨p,X',e1,hp⟩:=hX.fst
 obtain⟨X'',q,e2,hq⟩:=hX.GL
 have g1:=MT (A:=A) (C:=C) e1
 have g2:=MU (A:=A) (C:=C) e2
 have Uj:0<X.length:=by rw[e1];simp
 have hlen:(A++X++C).length=A.length+X.length+C.length:=by simp;omega
 rcases gX (row:=A++X++C) (x:=x) (A++X++C).length with ⟨_,hno⟩|⟨a,b,c,hs,hab,Ct,hc0,hcl,ha,hb,hlo,hhi⟩
 ·exact absurd (by rw[g1];exact hp) (hno A.length (by omega))
 ·have hs':bH (A++X++C) x=((a:Int),(b:Int),(c:Int)):=hs
  refine⟨?_, ?_,AQ⟩
  ·rw[hs']
   have h1:¬A.length<a:=fun h=>hlo _ h (by rw[g1];exact hp)
   have h2:¬a<A.length:=fun h=>hA _ (by have:=MV (L:=X++C) h;rw[<- List.append_assoc]at this;exact this) ha
   simp only;omega
  ·rw[hs']
   have h1:¬b<A.length+X.length:=fun h=>hhi (A.length+X.length - 1) (by omega) (by omega) (by rw[g2];exact hq)
   have h2:¬A.length+X.length<b:=fun h=>hC _ (MW (A:=A++X) (j:=b - 1) (by simp;omega) (by omega)) hb
   simp only;omega
theorem mu{g:Gr}(hm:aM g=true){f:Fr}(hi:fL g f){A X C:List It}{x:Int}(h0:0<=x)(h1:x<g.n)(hp:x∉f.pl)(hr:f.row=A++X++C)(hA:gv x A)(hC:gv x C)(hX:Mid x X)
 (hc:X.countP (lz x)=aV g x):au g f x=true:=by
 rw[<- kj hm hi,gh,ac7 (by rintro(h|h|h);omega;omega;exact hp h)]
 obtain⟨e1,e2,e3⟩:=KM hA hC hX
 rw[hr,e1,e2,e3,jO h0 h1,adf,adb]
 refine⟨by rw[hc];rfl, ?_⟩
 rw[adK];right
 simp only[y5,Int.toNat_natCast]
 rw[aey (by simp),adB (by simp),ag6,adJ,adU]
 intro t ht
 simp only[pS,adf,adb]
 rcases hX.al t ht with h|h<;>simp[h]
theorem bD{g:Gr}(hm:aM g=true){f:Fr}(hi:fL g f){x:Int}(hR:au g f x=true)(hn:aV g x≠0):
 ∃A X C,f.row=A++X++C/\gv x A/\gv x C/\Mid x X/\X.countP (lz x)=aV g x:=by
 obtain⟨h0,h1,h2⟩:=aF hR
 rw[<- kj hm hi,gh,ac7 (by rintro(h|h|h);omega;omega;exact h2 h),jO h0 h1,adf,adb]at hR
 have hN:(aJ (fun e=>e.2) g.es g.es.length x).length=aV g x:=rfl
 rw[hN,ac5 hn,aeK]at hR
 obtain⟨hc,hb⟩:=hR
 have AQ:(f.row.countP (lz x):Int)=aV g x:=by
  rw[<- hc];unfold bH
  rw[ot,pU (adg _),aee]
 rcases gX (row:=f.row) (x:=x) f.row.length with ⟨hs,hno⟩|⟨a,b,c,hs,hab,Ct,hc0,hcl,ha,hb',hlo,hhi⟩
 ·have:bH f.row x=(-1,0,0):=hs
  rw[this]at hc
  exfalso;simp only at hc;omega
 ·have hs':bH f.row x=((a:Int),(b:Int),(c:Int)):=hs
  rw[hs']at hb
  simp only[Int.toNat_natCast]at hb
  have hA:gv x (f.row.take a):=fun t ht=>by
   obtain⟨j,hj,rfl⟩:=adr.1 ht
   simp only[adG]at hj
   have:=hlo j (by omega)
   rw[aas,acF (show j<f.row.length by omega)]at this
   simpa using this
  have hC:gv x (f.row.drop b):=fun t ht=>by
   obtain⟨j,hj,rfl⟩:=adr.1 ht
   simp only[aeC]at hj
   have:=hhi (b+j) (by omega) (by omega)
   rw[aas,acF (show b+j<f.row.length by omega)]at this
   simpa using this
  have hrow:f.row=f.row.take a++(f.row.take b).drop a++f.row.drop b:=by
   have e1:f.row.take a=(f.row.take b).take a:=by rw[List.take_take,agq (by omega)]
   rw[e1,afF,afF]
  refine⟨f.row.take a,(f.row.take b).drop a,f.row.drop b,hrow,hA,hC,⟨?_, ?_, ?_⟩, ?_⟩
  ·refine⟨f.row.getD a (0,0,0),(f.row.take b).drop (a+1), ?_,ha⟩
   rw[List.drop_eq_getElem_cons (by simp;omega)]
   congr 1
   rw[aas,acF (show a<f.row.length by omega)]
   simp
  ·refine⟨(f.row.take (b - 1)).drop a,f.row.getD (b - 1) (0,0,0), ?_,hb'⟩
   have e:f.row.take b=f.row.take (b - 1)++ [f.row.getD (b - 1) (0,0,0)]:=by
    conv=>lhs;rw[show b=b - 1+1 by omega]
    rw[ad1,aas,acF (show b - 1<f.row.length by omega)]
    rfl
   rw[e,List.drop_append_of_le_length (by simp;omega)]
  ·intro t ht
   rw[y5,adJ,adU]at hb
   have:=hb t ht
   simp only[pS,adf,adb,not_and]at this
   by_cases h:t.2.2=x
   ·exact .inl h
   ·exact .inr (adl fun h'=>this h h')
  ·have h1:(f.row.take a).countP (lz x)=0:=ae4.2 fun t ht=>by simp[lz,hA t ht]
   have h2:(f.row.drop b).countP (lz x)=0:=ae4.2 fun t ht=>by simp[lz,hC t ht]
   rw[hrow,aeM,aeM,h1,h2]at AQ
   omega
theorem dR{g:Gr}{f:Fr}{A X C:List It}{x:Int}(o:List Int)(hr:f.row=A++X++C)(hA:gv x A)(hC:gv x C)(hX:Mid x X):
 aC g f x o=((X,0),⟨A++aQ g x o++C,f.pl++ [x]⟩):=by
 obtain⟨e1,e2,e3⟩:=KM hA hC hX
 have e4:max (A.length:Int) 0=(A.length:Int):=by omega
 unfold aC
 rw[hr,e1,e2,e4,Int.toNat_natCast,Int.toNat_natCast]
 rw[aey (show A.length+X.length<=(A++X).length by simp),adB (show(A++X).length<=A.length+X.length by simp),ag6]
 rw[show(A++X++C).take A.length=A by rw[adN,ag5]]
 rw[show(A++X++C).drop (A.length+X.length)=C by rw[<- List.length_append,ag6]]
theorem cH{g:Gr}{f:Fr}{x:Int}(o:List Int)(hr:gv x f.row):aC g f x o=(([],0),⟨aQ g x o++f.row,f.pl++ [x]⟩):=by
 have hs:bH f.row x=(-1,0,0):=by
  rcases gX (row:=f.row) (x:=x) f.row.length with ⟨hs,_⟩|⟨a,b,c,hs,hab,Ct,hc0,hcl,ha,hb',hlo,hhi⟩
  ·exact hs
  ·exact absurd ha (hr _ (az (by omega)))
 have e4:max (-1:Int) 0=0:=by omega
 unfold aC
 rw[hs]
 simp[e4]
structure Bx (g:Gr) (f:Fr):Prop extends fL g f where
 tail:∀t∈f.row,0<=t.1->t.2.1∈f.pl
 head:∀t∈f.row,0<=t.1->t.2.2∉f.pl
 once:f.row.Pairwise fun s t=>0<=s.1->s.1≠t.1
 low:∀i,i<g.es.length->hd g i∈f.pl->tl g i∈f.pl
 src:(f.pl= []/\f.row= [])\/∃s∈f.pl,aV g s=0
theorem wR(g:Gr):Bx g ⟨[], []⟩:=
 {it:=by simp,pl:=by simp,lg:=by simp,tail:=by simp,head:=by simp,once:=by simp,low:=by simp,src:= .inl ⟨rfl,rfl⟩}
theorem yf{g:Gr}(hm:aM g=true){f:Fr}(hi:Bx g f){x:Int}(hR:au g f x=true){i:Nat}(hl:i<g.es.length)(hx:hd g i=x):∃t∈f.row,t.1=i/\t.2.1=tl g i/\t.2.2=x:=by
 have hn:aV g x≠0:=by
  have:=sO (g:=g) (e:=(i:Int)) (by omega) (by omega)
  rw[Int.toNat_natCast,show(g.es.getD i (0,0)).2=x from hx]at this
  omega
 obtain⟨A,X,C,hr,hA,hC,hX,hc⟩:=bD hm hi.tofL hR hn
 have hN:(aJ (fun e=>e.2) g.es g.es.length x).length=aV g x:=rfl
 have hok:∀t∈f.row,t.2.2=x->0<=t.1/\t.1<g.es.length/\t.2.1=(g.es.getD t.1.toNat (0,0)).1/\t.2.2=(g.es.getD t.1.toNat (0,0)).2:=fun t ht he=>by
  rcases hi.it t ht with ⟨_,h2⟩|h
  ·have:=(aF hR).1;omega
  ·exact h
 have hmem:∀t∈X,t∈f.row:=fun t ht=>by rw[hr];simp[ht]
 have KN:=wQ (ms:=(X.filter (lz x)).map (·.1)) (os:=aJ (fun e=>e.2) g.es g.es.length x)
 have key:∀i∈aJ (fun e=>e.2) g.es g.es.length x,i∈(X.filter (lz x)).map (·.1):=by
  refine Jd (ms:=(X.filter (lz x)).map (·.1)) (os:=aJ (fun e=>e.2) g.es g.es.length x) ?_ ?_ ?_
  ·have h1:X.Pairwise fun s t=>0<=s.1->s.1≠t.1:=by
    have:=hi.once
    rw[hr,aef,aef]at this
    exact this.1.2.1
   have h2:=h1.filter (lz x)
   rw[List.Nodup,aeI]
   refine h2.imp_of_mem fun {a b} ha hb h=>h ?_
   obtain⟨ha1,ha2⟩:=adI.1 ha
   exact(hok a (hmem a ha1) (by simpa[lz]using ha2)).1
  ·intro e he
   obtain⟨t,ht,rfl⟩:=ada.1 he
   obtain⟨ht1,ht2⟩:=adI.1 ht
   have ht2:t.2.2=x:=by simpa[lz]using ht2
   obtain⟨h1,h2,h3,h4⟩:=hok t (hmem t ht1) ht2
   simp only[aJ,ada,adI,adk,adb]
   exact⟨t.1.toNat,⟨by omega,by rw[<- h4];exact ht2⟩,by simp;omega⟩
  ·rw[hN, <- hc,adn,age]
 have hie:(i:Int)∈aJ (fun e=>e.2) g.es g.es.length x:=by
  simp only[aJ,ada,adI,adk,adb]
  exact⟨i,⟨hl,hx⟩,rfl⟩
 obtain⟨t,ht,he⟩:=ada.1 (key _ hie)
 obtain⟨ht1,ht2⟩:=adI.1 ht
 have ht2:t.2.2=x:=by simpa[lz]using ht2
 obtain⟨h1,h2,h3,h4⟩:=hok t (hmem t ht1) ht2
 refine⟨t,hmem t ht1,he, ?_,ht2⟩
 rw[h3,he,Int.toNat_natCast];rfl
theorem dO{g:Gr}(hm:aM g=true){f:Fr}(hi:fL g f){x:Int}(h0:0<=x)(hn:aV g x=0):gv x f.row:=by
 intro t ht he
 rcases hi.it t ht with ⟨_,h2⟩|⟨h1,h2,_,h4⟩
 ·omega
 ·have:=sO h1 h2
  rw[<- h4,he]at this
  omega
theorem iJ{g:Gr}(hm:aM g=true){f:Fr}(hi:fL g f){x:Int}(hR:au g f x=true):
 ∃A X C,f.row=A++X++C/\gv x A/\gv x C/\(∀t∈X,t.2.2=x\/t.2.2= -1)/\∀o,aC g f x o=((X,0),⟨A++aQ g x o++C,f.pl++ [x]⟩):=by
 by_cases hn:aV g x=0
 ·have h:=dO hm hi (aF hR).1 hn
  exact⟨[], [],f.row,by simp,fun t ht=>(by cases ht),h,fun t ht=>(by cases ht),fun o=>by rw[cH o h];simp⟩
 ·obtain⟨A,X,C,hr,hA,hC,hX,_⟩:=bD hm hi hR hn
  exact⟨A,X,C,hr,hA,hC,hX.al,fun o=>dR o hr hA hC hX⟩
theorem ko{g:Gr}{x i:Int}(h:i∈b8 g x):∃k:Nat,i=k/\k<g.es.length/\tl g k=x:=by
 obtain⟨⟨h1,h2⟩,h3⟩:=gA h
 exact⟨i.toNat,by omega,by omega,h3⟩
theorem ow{g:Gr}{x:Int}{o:List Int}(ho:∀i∈o,i∈b8 g x){t:It}(h:t∈aQ g x o):(t.1= -1/\t.2.2= -1)\/∃k:Nat,k<g.es.length/\t.1=k/\t.2.1=x/\t.2.2=hd g k/\tl g k=x/\t.1∈o:=by
 unfold aQ at h
 split at h
 ·rw[adu]at h
  rw[h];exact .inl ⟨rfl,rfl⟩
 ·obtain⟨i,hio,rfl⟩:=ada.1 h
  obtain⟨k,rfl,h1,h2⟩:=ko (ho i hio)
  exact .inr ⟨k,h1,rfl,rfl,by simp[gM];rfl,h2,hio⟩
theorem yg{g:Gr}(hm:aM g=true){f:Fr}(hi:Bx g f){x y:Int}(hx:x∉f.pl)(hR:au g f y=true){o:List Int}(ho:∀i∈o,i∈b8 g x):gv y (aQ g x o):=by
 intro t ht he
 rcases ow ho ht with ⟨_,h⟩|⟨k,h1,h2,h3,h4,h5,_⟩
 ·have:=(aF hR).1;omega
 ·obtain⟨s,hs,e1,e2,e3⟩:=yf hm hi hR h1 (by rw[<- h4];exact he)
  refine hx ?_
  rw[<- h5, <- e2]
  exact hi.tail s hs (by omega)
theorem kr{g:Gr}(hm:aM g=true){f:Fr}(hi:Bx g f){x:Int}(hR:au g f x=true){o:List Int}(ho:o.Perm (b8 g x)):Bx g (aC g f x o).2:=by
 have VC:∀i∈o,i∈b8 g x:=fun i h=>ho.mem_iff.1 h
 have hx:=(aF hR).2.2
 have h0:=Qb hi.tofL hR VC
 obtain⟨A,X,C,hr,hA,hC,hX,hs⟩:=iJ hm hi.tofL hR
 have dI:(aC g f x o).2.pl=f.pl++ [x]:=rfl
 have hrow:(aC g f x o).2.row=A++aQ g x o++C:=by rw[hs o]
 have hmA:∀t∈A,t∈f.row:=fun t ht=>by rw[hr];simp[ht]
 have hmC:∀t∈C,t∈f.row:=fun t ht=>by rw[hr];simp[ht]
 have X4:=yg hm hi hx hR VC
 refine {tofL:=h0,tail:= ?_,head:= ?_,once:= ?_,low:= ?_,src:= .inr ?_}
 ·intro t ht h1
  rw[dI]
  rw[hrow,ac8,ac8]at ht
  rcases ht with (ht|ht)|ht
  ·exact adR _ (hi.tail t (hmA t ht) h1)
  ·rcases ow VC ht with ⟨h,_⟩|⟨k,_,_,h3,_⟩
   ·omega
   ·rw[h3];simp
  ·exact adR _ (hi.tail t (hmC t ht) h1)
 ·intro t ht h1
  rw[dI,ac8,adu]
  rw[hrow,ac8,ac8]at ht
  rcases ht with (ht|ht)|ht
  ·rintro(h|h)
   ·exact hi.head t (hmA t ht) h1 h
   ·exact hA t ht h
  ·rintro(h|h)
   ·rcases ow VC ht with ⟨h',_⟩|⟨k,hk,_,_,h4,h5,_⟩
    ·omega
    ·rw[h4]at h
     have:=hi.low k hk h
     rw[h5]at this;exact hx this
   ·exact X4 t ht h
  ·rintro(h|h)
   ·exact hi.head t (hmC t ht) h1 h
   ·exact hC t ht h
 ·have Cs:=hi.once
  rw[hr,aef,aef]at Cs
  obtain⟨⟨hoA,_,_⟩,hoC,aaX⟩:=Cs
  have old:∀s∈f.row,0<=s.1->∀t∈aQ g x o,s.1≠t.1:=fun s hs h1 t ht e=>by
   rcases ow VC ht with ⟨h,_⟩|⟨k,hk,h2,h3,h4,h5,_⟩
   ·omega
   ·rcases hi.it s hs with ⟨h,_⟩|⟨_,_,h6,_⟩
    ·omega
    ·have:=hi.tail s hs h1
     rw[h6,e,h2,Int.toNat_natCast]at this
     exact hx (h5 ▸ this)
  rw[hrow,aef,aef]
  refine⟨⟨hoA, ?_,fun s hs t ht h1=>old s (hmA s hs) h1 t ht⟩,hoC, ?_⟩
  ·unfold aQ
   split
   ·simp
   ·refine aeI.2 ((ho.nodup_iff.2 b7).imp fun {i j} (h:i≠j) _=> ?_)
    exact h
  ·intro s hs t ht h1
   rcases ac8.1 hs with hs|hs
   ·exact aaX s (adR _ hs) t ht h1
   ·intro e
    exact old t (hmC t ht) (by omega) s hs e.symm
 ·intro i hl h
  rw[dI,ac8,adu]at h ⊢
  left
  rcases h with h|h
  ·exact hi.low i hl h
  ·obtain⟨t,ht,e1,e2,_⟩:=yf hm hi hR hl h
   rw[<- e2]
   exact hi.tail t ht (by omega)
 ·rcases hi.src with ⟨h1,h2⟩|⟨s,hs,h⟩
  ·refine⟨x,by rw[dI];simp, ?_⟩
   refine adl fun hn=> ?_
   obtain⟨A,X,C,hr,_,_,hX,_⟩:=bD hm hi.tofL hR hn
   obtain⟨p,X',e,_⟩:=hX.fst
   rw[h2,e]at hr
   simp at hr
  ·exact⟨s,by rw[dI];simp[hs],h⟩
theorem apart{x y:Int}(hx:0<=x)(hy:0<=y)(hxy:x≠y){A X C B Y D:List It}(h:A++X++C=B++Y++D)(hX:Mid x X)(hY:Mid y Y):
 (∃M,B=A++X++M/\C=M++Y++D)\/(∃M,A=B++Y++M/\D=M++X++C):=by
 obtain⟨p,X',Jf,hp⟩:=hX.fst
 obtain⟨q,Y',hY',hq⟩:=hY.fst
 have nX:q∉X:=fun h=>hX.noH hxy hy q h hq
 have nY:p∉Y:=fun h=>hY.noH (Ne.symm hxy) hx p h hp
 rw[show B++Y++D=B++(Y++D) by simp,ae8]at h
 rcases h with ⟨es,h1,h2⟩|⟨cs,h1,h2⟩
 ·exact .inl ⟨es,h1,by rw[h2];simp⟩
 ·match cs,h1,h2 with
  | [],h1,h2=>exact .inl ⟨[],by simpa using h1.symm,by simpa using h2.symm⟩
  |c::cs,h1,h2=>
   have hcq:c=q:=by rw[hY']at h2;simp at h2;exact h2.1.symm
   rw[ae8]at h1
   rcases h1 with ⟨es,h3,h4⟩|⟨ds,h3,h4⟩
   ·exfalso;refine nX ?_
    rw[h4, <- hcq];simp
   ·rw[h4,adN,ae8]at h2
    rcases h2 with ⟨es,h5,h6⟩|⟨bs,h5,h6⟩
    ·exact .inr ⟨es,by rw[h3,h5];simp,by rw[h6];simp⟩
    ·match bs,h5,h6 with
     | [],h5,h6=>exact .inr ⟨[],by rw[h3,h5];simp,by simpa using h6.symm⟩
     |b::bs,h5,h6=>
      exfalso;refine nY ?_
      have hbp:b=p:=by rw[Jf]at h6;simp at h6;exact h6.1.symm
      rw[h5, <- hbp];simp
theorem GM{g:Gr}(hm:aM g=true){f:Fr}(hi:Bx g f){x y:Int}(hxy:x≠y)(KO:au g f x=true)(zC:au g f y=true)
 {a b:List Int} (ha:a.Perm (b8 g x)) (hb:b.Perm (b8 g y)) {A X M Y D:List It} (hr:f.row=A++X++M++Y++D) (hX:Mid x X) (hY:Mid y Y)
 (cX:X.countP (lz x)=aV g x) (cY:Y.countP (lz y)=aV g y)
 (nA:gv x A) (nC:gv x (M++Y++D)) (nB:gv y (A++X++M)) (nD:gv y D):
 au g (aC g f x a).2 y=true/\au g (aC g f y b).2 x=true/\(aC g (aC g f x a).2 y b).2.row=(aC g (aC g f y b).2 x a).2.row/\
 (aC g f x a).1=(aC g (aC g f y b).2 x a).1/\(aC g f y b).1=(aC g (aC g f x a).2 y b).1:=by
 obtain⟨x0,x1,x2⟩:=aF KO
 obtain⟨y0,y1,y2⟩:=aF zC
 have i1:=(kr hm hi KO ha).tofL
 have i2:=(kr hm hi zC hb).tofL
 have ux:=yg hm hi x2 zC (fun i h=>ha.mem_iff.1 h)
 have uy:=yg hm hi y2 KO (fun i h=>hb.mem_iff.1 h)
 have r1:f.row=A++X++(M++Y++D):=by rw[hr];simp
 have r2:f.row=(A++X++M)++Y++D:=by rw[hr]
 have e1:=dR (g:=g) a r1 nA nC hX
 have e2:=dR (g:=g) b r2 nB nD hY
 rw[e1]at i1 ⊢;rw[e2]at i2 ⊢
 have r3:A++aQ g x a++(M++Y++D)=(A++aQ g x a++M)++Y++D:=by simp
 have r4:A++X++M++aQ g y b++D=A++X++(M++aQ g y b++D):=by simp
 have n3:gv y (A++aQ g x a++M):=((nB.left.left).app ux).app nB.right
 have n4:gv x (M++aQ g y b++D):=(nC.left.left.app uy).app nC.right
 have e3:=dR (g:=g) (f:=⟨A++aQ g x a++(M++Y++D),f.pl++ [x]⟩) b r3 n3 nD hY
 have e4:=dR (g:=g) (f:=⟨A++X++M++aQ g y b++D,f.pl++ [y]⟩) a r4 nA n4 hX
 refine⟨mu hm i1 y0 y1 ?_ r3 n3 nD hY cY,mu hm i2 x0 x1 ?_ r4 nA n4 hX cX, ?_, ?_, ?_⟩
 ·simp[y2,Ne.symm hxy]
 ·simp[x2,hxy]
 ·simp only[e3,e4];simp
 ·simp only[e4]
 ·simp only[e3]
theorem MX{g:Gr}(hm:aM g=true){f:Fr}(hi:Bx g f){x y:Int}(hxy:x≠y)(KO:au g f x=true)(zC:au g f y=true)
 {a b:List Int} (ha:a.Perm (b8 g x)) (hb:b.Perm (b8 g y)) (nx:aV g x≠0) (ny:aV g y≠0):
 au g (aC g f x a).2 y=true/\au g (aC g f y b).2 x=true/\(aC g (aC g f x a).2 y b).2.row=(aC g (aC g f y b).2 x a).2.row/\
 (aC g f x a).1=(aC g (aC g f y b).2 x a).1/\(aC g f y b).1=(aC g (aC g f x a).2 y b).1:=by
 obtain⟨A,X,C,hr,hA,hC,hX,cX⟩:=bD hm hi.tofL KO nx
 obtain⟨B,Y,D,hr',hB,hD,hY,cY⟩:=bD hm hi.tofL zC ny
 rcases apart (aF KO).1 (aF zC).1 hxy (hr.symm.trans hr') hX hY with ⟨M,rfl,rfl⟩|⟨M,rfl,rfl⟩
 ·exact GM hm hi hxy KO zC ha hb (by rw[hr];simp) hX hY cX cY hA hC hB hD
 ·obtain⟨h1,h2,h3,h4,h5⟩:=GM hm hi (Ne.symm hxy) zC KO hb ha (by rw[hr'];simp) hY hX cY cX hB hD hA hC
  exact⟨h2,h1,h3.symm,h5,h4⟩
theorem sR{g:Gr}{y:Int} :y∈bZ (·.2) g↔(0<=y/\y<g.n)/\aV g y=0:=by
 simp only[bZ,lW,ada,adI,adk,adb]
 have he:∀x:Nat,x<g.n.toNat->(((eR (·.2) g).getD x []).length=aV g (x:Int)):=by
  intro x hx
  have e:(eR (·.2) g).getD x []=aJ (·.2) g.es g.es.length (x:Int):=by
   simp[eR,aas,adp hx,oe]
  rw[e];rfl
 constructor
 ·rintro⟨x,⟨hx,h0⟩,rfl⟩
  refine⟨by simp;omega,by rw[he x hx]at h0;exact h0⟩
 ·rintro⟨⟨h1,h2⟩,h3⟩
  have e:((y.toNat:Nat):Int)=y:=by omega
  exact⟨y.toNat,⟨by omega,by rw[he _ (by omega),e];exact h3⟩,e⟩
theorem gB{g:Gr}(hc:(bX g).1=0){x y:Int}(hx:0<=x/\x<g.n)(hy:0<=y/\y<g.n)(nx:aV g x=0)(ny:aV g y=0):x=y:=by
 have h1:(bZ (·.2) g).length<=1:=by
  unfold bX iT at hc
  refine Nat.not_lt.1 fun h=> ?_
  split at hc
  ·cases hc
  split at hc
  ·cases hc
  split at hc
  ·cases hc
  split at hc
  ·cases hc
  cases hc
 have h2:=sR.2 ⟨hx,nx⟩
 have h3:=sR.2 ⟨hy,ny⟩
 match hb:bZ (·.2) g with
 | []=>rw[hb]at h2;cases h2
 | [z]=>rw[hb,adu]at h2 h3;rw[h2,h3]
 |_::_::_=>rw[hb]at h1;simp at h1
theorem ah{g:Gr}(hc:(bX g).1=0):aM g=true:=by
 unfold bX iT at hc
 split at hc
 ·cases hc
 ·rename_i h;simpa using h
theorem GN{g:Gr}(hc:(bX g).1=0){f:Fr}(hi:Bx g f){x y:Int}(hxy:x≠y)(KO:au g f x=true)(zC:au g f y=true):aV g x≠0:=by
 intro nx
 have hm:=ah hc
 obtain⟨x0,x1,x2⟩:=aF KO
 obtain⟨y0,y1,y2⟩:=aF zC
 rcases hi.src with ⟨h1,h2⟩|⟨s,hs,h⟩
 ·have ny:aV g y≠0:=fun ny=>hxy (gB hc ⟨x0,x1⟩ ⟨y0,y1⟩ nx ny)
  obtain⟨A,X,C,hr,_,_,hX,_⟩:=bD hm hi.tofL zC ny
  obtain⟨p,X',e,_⟩:=hX.fst
  rw[h2,e]at hr
  simp at hr
 ·exact x2 (gB hc (hi.lg s hs) ⟨x0,x1⟩ h nx ▸ hs)
theorem Dg{g:Gr}(hc:(bX g).1=0){f:Fr}(hi:Bx g f){x y:Int}(hxy:x≠y)(KO:au g f x=true)(zC:au g f y=true)
 {a b:List Int} (ha:a.Perm (b8 g x)) (hb:b.Perm (b8 g y)):
 au g (aC g f x a).2 y=true/\au g (aC g f y b).2 x=true/\(aC g (aC g f x a).2 y b).2.row=(aC g (aC g f y b).2 x a).2.row/\
 (aC g f x a).1=(aC g (aC g f y b).2 x a).1/\(aC g f y b).1=(aC g (aC g f x a).2 y b).1:=
 MX (ah hc) hi hxy KO zC ha hb (GN hc hi hxy KO zC) (GN hc hi (Ne.symm hxy) zC KO)
end Go.Ab
end
section
set_option maxHeartbeats 8000000
set_option maxRecDepth 10000
namespace Go.Ab
attribute [local congr] ACall.congr gd.congr Ny.congr vcOps.congr
open Go.Proofs
def KP(row:List It)(a b:Int):Nat->Int × Int
 |0=>(-1,0)
 |k+1=>if((row.getD k (0,0,0)).2.2=a\/(row.getD k (0,0,0)).2.2=b)/\(row.getD k (0,0,0)).2.2≠(KP row a b k).1 then((row.getD k (0,0,0)).2.2,(KP row a b k).2+1) else KP row a b k
def WI(row:List It)(i:Nat):Int:=(row.getD i (0,0,0)).2.2
def aaY(row:List It)(i j:Nat):Bool:=decide (WI row i≠ -1)&&decide (WI row j≠ -1)&&decide (WI row i≠WI row j)&&decide (4<=(KP row (WI row i) (WI row j) row.length).2)
def abT(row:List It):Bool:=(List.range row.length).any fun i=>(List.range row.length).any (aaY row i)
def T4(row:List It)(a b c d:Nat):Prop:=0<=(row.getD a (0,0,0)).2.2/\0<=(row.getD b (0,0,0)).2.2/\(row.getD a (0,0,0)).2.2≠(row.getD b (0,0,0)).2.2/\(row.getD a (0,0,0)).2.2=(row.getD c (0,0,0)).2.2/\(row.getD b (0,0,0)).2.2=(row.getD d (0,0,0)).2.2
def acI(row:List It):Prop:=∃a b c d,a<b/\b<c/\c<d/\d<row.length/\T4 row a b c d
end Go.Ab
end
section
set_option maxRecDepth 10000
namespace Go.Ab
open Go.Proofs
theorem y8{g:Gr}{f f':Fr}(hr:f.row=f'.row)(hp:f.pl.Perm f'.pl)(x:Int):au g f x=au g f' x:=by
 unfold au
 rw[hr]
 by_cases h:x<0\/g.n<=x\/x∈f.pl
 ·rw[ac9 h,ac9 (by rw[<- hp.mem_iff];exact h)]
 ·have h':¬(x<0\/g.n<=x\/x∈f'.pl):=by rw[<- hp.mem_iff];exact h
  rw[ac7 h,ac7 h']
theorem jP:∀ {l m:List Int},l.Nodup->(∀i∈l,i∈m)->l.length<=m.length
 | [],_,_,_=>by simp
 |a::l,m,hn,hs=>by
  rw[ad5]at hn
  have ha:=hs a (adH ..)
  have:=jP hn.2 (m:=m.erase a) fun i hi=>(afO (fun e:i=a=>hn.1 (e ▸ hi))).2 (hs i (adz _ hi))
  rw[afW ha]at this
  have:=afC ha
  rw[List.length_cons];omega
theorem jQ{g:Gr}{f:Fr}(hi:fL g f)(hf:(f.pl.length:Int)=g.n){x:Int}(hx:0<=x/\x<g.n):x∈f.pl:=by
 refine adl fun h=> ?_
 have h1:(x::f.pl).Nodup:=ad5.2 ⟨h,hi.pl⟩
 have h2:((List.range g.n.toNat).map Int.ofNat).length=g.n.toNat:=by simp
 have h3:=jP h1 (m:=(List.range g.n.toNat).map Int.ofNat) (fun y hy=>by
  rw[ada]
  have:0<=y/\y<g.n:=by
   rcases adv.1 hy with h|h
   ·rw[h];exact hx
   ·exact hi.lg y h
  exact⟨y.toNat,adk.2 (by omega),by simp;omega⟩)
 rw[h2,List.length_cons]at h3
 omega
def Tg(a b:Int)(row:List It):Prop:=∃l:List It,l.Sublist row/\l.map (fun t=>t.2.2)= [a,b,a,b]
def Qc(a b:Int)(t:It):Bool:=decide (t.2.2=a)||decide (t.2.2=b)
theorem Tg.aaZ{a b:Int}{row:List It} :Tg a b row↔Tg a b (row.filter (Qc a b)):=by
 constructor
 ·rintro⟨l,h,e⟩
  refine⟨l, ?_,e⟩
  have h1:=h.filter (Qc a b)
  rw[afk.2]at h1
  ·exact h1
  ·intro t ht
   have:t.2.2∈l.map (fun t=>t.2.2):=ada.2 ⟨t,ht,rfl⟩
   rw[e]at this
   simp only[Qc,adK,adb]
   simp only[adv,aen,or_false]at this
   omega
 ·rintro⟨l,h,e⟩
  exact⟨l,h.trans List.filter_sublist,e⟩
theorem Tg.keep{a b x:Int}(ha:0<=a)(hb:0<=b)(RM:a≠x)(Ef:b≠x){A X C u:List It}(hX:∀t∈X,t.2.2=x\/t.2.2= -1)(h:Tg a b (A++X++C)):Tg a b (A++u++C):=by
 rw[Tg.aaZ]at h ⊢
 obtain⟨l,h,e⟩:=h
 refine⟨l,h.trans ?_,e⟩
 rw[ad8,ad8,ad8,ad8]
 have:X.filter (Qc a b)= []:=aez.2 fun t ht=>by
  simp only[Qc,adK,adb]
  rcases hX t ht with h|h<;>omega
 rw[this,ad4]
 exact List.Sublist.append_right (List.sublist_append_left _ _) _
theorem Tg.not{a b x:Int}(hab:a≠b)(hb0:0<=b)(ha0:0<=a)(hx:x=a\/x=b){A X C:List It}(hA:gv x A)(hC:gv x C)(hX:∀t∈X,t.2.2=x\/t.2.2= -1):¬Tg a b (A++X++C):=by
 rintro⟨l,h,e⟩
 rw[adN,af1]at h
 obtain⟨l1,l',rfl,h1,h'⟩:=h
 rw[af1]at h'
 obtain⟨l2,l3,rfl,h2,h3⟩:=h'
 have k1:∀t∈l1,t.2.2≠x:=fun t ht=>hA t (h1.subset ht)
 have k2:∀t∈l2,t.2.2=x\/t.2.2= -1:=fun t ht=>hX t (h2.subset ht)
 have k3:∀t∈l3,t.2.2≠x:=fun t ht=>hC t (h3.subset ht)
 clear h1 h2 h3
 match l1,k1,e with
 |t1::t2::_,k1,e=>
  simp only[List.cons_append,adC,adA]at e
  rcases hx with h|h
  ·exact k1 t1 (by simp) (by omega)
  ·exact k1 t2 (by simp) (by omega)
 | [t1],k1,e=>
   simp only[List.cons_append,List.nil_append,adC,adA]at e
   rcases hx with h|h
   ·exact k1 t1 (by simp) (by omega)
   ·match l2,k2,e with
    | [],_,e=>
      match l3,k3,e with
      | [s1,s2,s3],k3,e=>
        simp only[List.nil_append,adC,adO,adA,afc]at e
        exact k3 s1 (by simp) (by omega)
      | [],_,e=>simp at e
      | [_],_,e=>simp at e
      | [_,_],_,e=>simp at e
      |_::_::_::_::_,_,e=>simp at e
    |s1::s2::_,k2,e=>
     simp only[List.cons_append,adC,adA]at e
     rcases k2 s2 (by simp) with h|h<;>omega
    | [s1],k2,e=>
      match l3,k3,e with
      | [u1,u2],k3,e=>
        simp only[List.cons_append,List.nil_append,adC,adO,adA,afc]at e
        exact k3 u2 (by simp) (by omega)
      | [],_,e=>simp at e
      | [_],_,e=>simp at e
      |_::_::_::_,_,e=>simp at e
 | [],_,e=>
   simp only[List.nil_append]at e
   match l2,k2,e with
   | [],_,e=>
     match l3,k3,e with
     | [],_,e=>simp at e
     | [_],_,e=>simp at e
     |s1::s2::_,k3,e=>
      simp only[List.nil_append,adC,adA]at e
      rcases hx with h|h
      ·exact k3 s1 (by simp) (by omega)
      ·exact k3 s2 (by simp) (by omega)
   |s1::s2::_,k2,e=>
    simp only[List.cons_append,adC,adA]at e
    have q1:=k2 s1 (by simp)
    have q2:=k2 s2 (by simp)
    omega
   | [s1],k2,e=>
     match l3,k3,e with
     | [],_,e=>simp at e
     | [_],_,e=>simp at e
     | [_,_],_,e=>simp at e
     |u1::u2::u3::_,k3,e=>
      simp only[List.cons_append,List.nil_append,adC,adA]at e
      have q1:=k2 s1 (by simp)
      exact k3 u2 (by simp) (by omega)
theorem Dh{row:List It}{k:Nat}(h:k<row.length):row.take (k+1)=row.take k++ [row.getD k (0,0,0)]:=by
 rw[ad1,aas,acF h];rfl
theorem Qd{row:List It}{i j:Nat}(h:i<=j):(row.take i).Sublist (row.take j):=by
 rw[show row.take i=(row.take j).take i by rw[List.take_take,agq h]]
 exact List.take_sublist _ _
theorem By{row l:List It}{i j:Nat}(h:l.Sublist (row.take i))(hij:i<=j)(hj:j<row.length):(l++ [row.getD j (0,0,0)]).Sublist (row.take (j+1)):=by
 rw[Dh hj]
 exact agJ (h.trans (Qd hij)) (agB _)
def aa0(a b:Int):List It->Prop
 | []=>True
 | [t]=>t.2.2=a\/t.2.2=b
 |s::t::l=>(s.2.2=a\/s.2.2=b)/\s.2.2≠t.2.2/\aa0 a b (t::l)
end Go.Ab
end
section
set_option maxHeartbeats 4000000
set_option maxRecDepth 10000
namespace Go.Ab
attribute [local congr] ACall.congr gd.congr Ny.congr vcOps.congr
open Go.Proofs
def aa1(g:Gr)(out:List Int)(x:Nat)(i:Nat):Bool:=(List.range i).all fun j=> !decide (hd g j=(x:Int))||decide (tl g j∈out)
def acJ(g:Gr)(out:List Int)(k:Nat)(f:Bool):Prop:=k<=g.n.toNat/\(if f then 0<k/\wt g out (k - 1)=0/\∀j,j<k - 1->wt g out j≠0 else ∀j,j<k->wt g out j≠0)
def acK(out:List Int)(k:Nat)(f:Bool):List Int:=if f then out++ [((k - 1:Nat):Int)] else out
end Go.Ab
end
section
set_option maxRecDepth 10000
namespace Go.Ab
open Go.Proofs
structure Pl where
 ord:List Int
 outs:List (List Int)
def aq(p:Pl)(k:Nat):Int:=p.ord.getD k 0
def bE(p:Pl)(x:Int):List Int:=p.outs.getD x.toNat []
def bq(g:Gr)(p:Pl):Prop:=p.outs.length=g.n.toNat/\p.ord.Perm (dD g.n.toNat)/\∀x:Nat,x<g.n.toNat->(p.outs.getD x []).Perm (b8 g x)
def fK(g:Gr)(p:Pl):Nat->Fr
 |0=>⟨[], []⟩
 |k+1=>(aC g (fK g p k) (aq p k) (bE p (aq p k))).2
def cB(g:Gr)(p:Pl)(k:Nat):List It:=(aC g (fK g p k) (aq p k) (bE p (aq p k))).1.1
def xP(g:Gr)(p:Pl)(k:Nat):Bool:=au g (fK g p k) (aq p k)
def gC(g:Gr)(p:Pl):Nat->List (List It)
 |0=>List.replicate g.n.toNat []
 |k+1=>(gC g p k).set (aq p k).toNat (cB g p k)
def ox(g:Gr)(p:Pl):Nat->Option Nat
 |0=>none
 |k+1=>match ox g p k with
  |some i=>some i
  |none=>if xP g p k=true then none else some k
def aG(g:Gr)(p:Pl):Prop:=(bX g).1=0/\bq g p/\∀k,k<g.n.toNat->xP g p k=true
theorem jR{g:Gr}{p:Pl} :∀ {k:Nat},ox g p k=none↔∀j,j<k->xP g p j=true
 |0=>by simp[ox]
 |k+1=>by
  rw[ox]
  cases h:ox g p k with
  |some i=>
   simp only[reduceCtorEq,false_iff]
   intro h2
   rw[jR.2 fun j hj=>h2 j (by omega)]at h
   cases h
  |none=>
   have ih:=jR.1 h
   simp only
   constructor
   ·intro h2 j hj
    by_cases hjk:j=k
    ·subst hjk
     refine adl fun hn=> ?_
     rw[ac7 hn]at h2;cases h2
    ·exact ih j (by omega)
   ·intro h2
    rw[ac9 (h2 k (by omega))]
theorem Bz{g:Gr}{p:Pl}{i:Nat} :∀ {k:Nat},ox g p k=some i↔i<k/\xP g p i=false/\∀j,j<i->xP g p j=true
 |0=>by simp[ox]
 |k+1=>by
  rw[ox]
  cases h:ox g p k with
  |some i'=>
   have ih:=(Bz (g:=g) (p:=p)).1 h
   simp only[ady]
   constructor
   ·rintro rfl
    exact⟨by omega,ih.2⟩
   ·rintro⟨h1,h2,h3⟩
    rcases aew i' i with h4|h4|h4
    ·rw[h3 i' h4]at ih;simp at ih
    ·exact h4
    ·rw[ih.2.2 i h4]at h2;cases h2
  |none=>
   have ih:=jR.1 h
   simp only
   constructor
   ·intro h2
    by_cases hk:xP g p k=true
    ·rw[ac9 hk]at h2;cases h2
    ·rw[ac7 hk]at h2
     cases h2
     exact⟨by omega,by simpa using hk,ih⟩
   ·rintro⟨h1,h2,h3⟩
    have:i=k:=by
     by_cases h4:i<k
     ·rw[ih i h4]at h2;cases h2
     ·omega
    subst this
    rw[ac7 (by rw[h2];simp)]
theorem gY{n:Nat} :(dD n).length=n:=by simp[dD]
theorem aI{g:Gr}{p:Pl}(h:bq g p):p.ord.length=g.n.toNat:=by rw[h.2.1.length_eq,gY]
theorem cF{g:Gr}{p:Pl}(h:bq g p):p.ord.Nodup:=h.2.1.nodup_iff.2 jM
theorem aD{g:Gr}{p:Pl}(h:bq g p){k:Nat}(hk:k<g.n.toNat):0<=aq p k/\aq p k<g.n:=by
 have h1:aq p k∈p.ord:=az (by rw[aI h];exact hk)
 have:=cE.1 (h.2.1.mem_iff.1 h1)
 omega
theorem dS{g:Gr}{p:Pl}(h:bq g p){i j:Nat}(hi:i<g.n.toNat)(hj:j<g.n.toNat)(e:aq p i=aq p j):i=j:=
 l9 (cF h) (by rw[aI h];exact hi) (by rw[aI h];exact hj) e
theorem cq{g:Gr}{p:Pl}(h:bq g p){x:Int}(h0:0<=x)(h1:x<g.n):∃k,k<g.n.toNat/\aq p k=x:=by
 have:x∈p.ord:=h.2.1.mem_iff.2 (cE.2 (by omega))
 obtain⟨k,hk,e⟩:=adr.1 this
 refine⟨k,by rw[<- aI h];exact hk, ?_⟩
 rw[aq,aas,acF hk,Option.getD_some,e]
theorem aW{g:Gr}{p:Pl}(h:bq g p){x:Int}(h0:0<=x)(h1:x<g.n):(bE p x).Perm (b8 g x):=by
 have:=h.2.2 x.toNat (by omega)
 rwa [show((x.toNat:Nat):Int)=x by omega]at this
theorem wS{g:Gr}{p:Pl}(h:bq g p){x:Int}(h0:0<=x)(h1:x<g.n):(bE p x).length<=g.es.length:=by
 rw[(aW h h0 h1).length_eq];exact P8
theorem bz{g:Gr}(hm:aM g=true){p:Pl}(h:bq g p):∀ {k:Nat},k<=g.n.toNat->(∀j,j<k->xP g p j=true)->Bx g (fK g p k)/\(fK g p k).pl=p.ord.take k/\(fK g p k).row.length<=k*(g.es.length+1)
 |0,_,_=>⟨wR g,by simp[fK],by simp[fK]⟩
 |k+1,hk,hok=>by
  obtain⟨h1,h2,h3⟩:=bz hm h (k:=k) (by omega) fun j hj=>hok j (by omega)
  obtain⟨x0,x1⟩:=aD h (k:=k) (by omega)
  have hl:=De (g:=g) (f:=fK g p k) (x:=aq p k) (o:=bE p (aq p k))
  have Iz:=wS h x0 x1
  refine⟨kr hm h1 (hok k (by omega)) (aW h x0 x1), ?_, ?_⟩
  ·show(fK g p k).pl++ [aq p k]=_
   rw[h2,ad1,acF (by rw[aI h];omega),aq,aas,acF (by rw[aI h];omega)]
   rfl
  ·show(aC _ _ _ _).2.row.length<=_
   rw[ad6];omega
theorem Qe{g:Gr}{p:Pl}(h:bq g p){k:Nat}(hk:k<g.n.toNat)(hR:xP g p k=true):jq g (fK g p k) (aq p k) (bE p (aq p k))=aC g (fK g p k) (aq p k) (bE p (aq p k)):=by
 have hp:=aW h (aD h hk).1 (aD h hk).2
 unfold jq
 have Ze:au g (fK g p k) (aq p k)=true:=hR
 rw[ac7 (by rw[Ze];simp),ac7]
 rintro(h|⟨i,h1,h2⟩)
 ·exact h hp.length_eq
 ·exact h2 (hp.mem_iff.2 h1)
theorem Qf{g:Gr}{p:Pl}{k:Nat}(hR:xP g p k=false):jq g (fK g p k) (aq p k) (bE p (aq p k))=(([],3),fK g p k):=ac9 hR
theorem qW{g:Gr}{p:Pl} :∀ {k:Nat},(gC g p k).length=g.n.toNat
 |0=>by simp[gC]
 |k+1=>by rw[gC,adP,qW]
theorem sS{α:Type}{l:List α}{i j:Nat}{a d:α}(hi:i<l.length):(l.set i a).getD j d=if j=i then a else l.getD j d:=by
 rw[aas,aea,aas]
 by_cases h:i=j
 ·subst h;simp[hi]
 ·rw[ac7 h,ac7 (Ne.symm h)]
theorem wT{g:Gr}{p:Pl}(h:bq g p):∀ {k:Nat},k<=g.n.toNat->∀ {i:Nat},i<k->(gC g p k).getD (aq p i).toNat []=cB g p i
 |0,_,i,hi=>by omega
 |k+1,hk,i,hi=>by
  have hm:=aD h (k:=k) (by omega)
  rw[gC,sS (by rw[qW];omega)]
  by_cases e:i=k
  ·subst e;rw[ac9 rfl]
  ·have Sg:=aD h (k:=i) (by omega)
   rw[ac7 (fun h2=>e (dS h (by omega) (by omega) (by omega)))]
   exact wT h (by omega) (by omega)
theorem wU{l m:List Int}(h:lu l=m):l.Perm m:=by
 rw[<- h];exact(List.mergeSort_perm l _).symm
theorem GO{n:Nat} :(dD n).Pairwise (· <= ·):=by
 unfold dD
 refine aex _ (fun a b (h:a<b)=> ?_) ag2
 show(a:Int)<=b
 omega
theorem SO{g:Gr}(hm:aM g=true){p:Pl} :(p.outs.length=g.n.toNat/\p.ord.length=g.n.toNat/\(∀i:Nat,i<(lu p.ord).length->(lu p.ord).getD i 0=i)/\∀x:Nat,x<p.outs.length->lu (p.outs.getD x [])=bQ (·.1) g x)↔bq g p:=by
 constructor
 ·rintro⟨h1,h2,h3,h4⟩
  refine⟨h1,wU ?_,fun x hx=> ?_⟩
  ·refine agm (by rw[iH,h2,gY]) fun i h5 h6=> ?_
   have:=h3 i h5
   rw[aas,acF h5,Option.getD_some]at this
   rw[this];simp[dD]
  ·have:=h4 x (by omega)
   rw[jO (by omega) (by omega)]at this
   exact wU this
 ·intro h
  refine⟨h.1,aI h, ?_,fun x hx=> ?_⟩
  ·rw[Bw h.2.1 GO]
   intro i hi
   rw[gY]at hi
   simp[dD,aas,adp hi]
  ·rw[jO (by omega) (by have:=h.1;omega)]
   exact Bw (h.2.2 x (by rw[<- h.1];exact hx)) y7
theorem SP{g:Gr}(hm:aM g=true){p:Pl} :(ql p.ord g.n=true/\p.outs.length=g.n.toNat/\(∀x:Nat,x<p.outs.length->∀i∈p.outs.getD x [],i∈b8 g x)/\p.outs.flatten.Nodup/\∀i:Nat,i<g.es.length->(i:Int)∈p.outs.flatten)↔bq g p:=by
 have hn:=aB hm
 constructor
 ·rintro⟨h1,h2,h3,h4,h5⟩
  refine⟨h2, ?_,fun x hx=> ?_⟩
  ·obtain⟨e1,e2⟩:=cV.1 h1
   exact wQ jM e2 (by rw[gY];omega)
  ·have hxl:x<p.outs.length:=by omega
   have hmem:p.outs.getD x []∈p.outs:=az hxl
   have bR:(p.outs.getD x []).Nodup:=by
    rw[List.Nodup,ag7]at h4
    exact h4.1 _ hmem
   refine(aeb bR b7).2 fun i=>⟨h3 x hxl i,fun hi=> ?_⟩
   obtain⟨k,rfl,hk,ht⟩:=ko hi
   obtain⟨l,hl,cM⟩:=agT.1 (h5 k hk)
   obtain⟨y,hy,rfl⟩:=adr.1 hl
   have e:p.outs.getD y []=p.outs[y]:=by rw[aas,acF hy];rfl
   rw[<- e]at cM
   obtain⟨k',e1,_,e2⟩:=ko (h3 y hy _ cM)
   have:k=k':=by omega
   subst this
   have:x=y:=by omega
   subst this
   exact cM
 ·intro h
  refine⟨cV.2 ⟨?_,fun x hx=>h.2.1.mem_iff.2 hx⟩,h.1,fun x hx i hi=>(h.2.2 x (by rw[<- h.1];exact hx)).mem_iff.1 hi, ?_,fun i hi=> ?_⟩
  ·have:=aI h;omega
  ·rw[List.Nodup,ag7]
   constructor
   ·intro l hl
    obtain⟨x,hx,rfl⟩:=adr.1 hl
    have e:p.outs.getD x []=p.outs[x]:=by rw[aas,acF hx];rfl
    rw[<- e]
    exact(h.2.2 x (by rw[<- h.1];exact hx)).nodup_iff.2 b7
   ·refine aeh.2 fun x y hx hy hxy a ha b hb e=> ?_
    subst e
    have ex:p.outs.getD x []=p.outs[x]:=by rw[aas,acF hx];rfl
    have ey:p.outs.getD y []=p.outs[y]:=by rw[aas,acF hy];rfl
    rw[<- ex]at ha
    rw[<- ey]at hb
    obtain⟨k,e1,_,e2⟩:=ko ((h.2.2 x (by rw[<- h.1];exact hx)).mem_iff.1 ha)
    obtain⟨k',e3,_,e4⟩:=ko ((h.2.2 y (by rw[<- h.1];exact hy)).mem_iff.1 hb)
    have:k=k':=by omega
    subst this
    omega
  ·have ht:=(cU hm hi).1
   refine agT.2 ⟨p.outs.getD (tl g i).toNat [],az (by rw[h.1];have:0<=tl g i/\tl g i<g.n:=ht;omega), ?_⟩
   have:0<=tl g i/\tl g i<g.n:=ht
   refine(h.2.2 _ (by omega)).mem_iff.2 ?_
   simp only[b8,aJ,ada,adI,adk,adb]
   exact⟨i,⟨hi,by show tl g i=_;omega⟩,rfl⟩
def KQ(lt:Int->Int->Bool)(us:List Int):Nat->Int
 |0=> -1
 |k+1=>if(!decide ((k:Int)∈us))&&(decide (KQ lt us k<0)||lt k (KQ lt us k)) then k else KQ lt us k
def X5(lt:Int->Int->Bool)(n:Nat):Nat->List Int
 |0=> []
 |j+1=>X5 lt n j++ [KQ lt (X5 lt n j) n]
def LtP(lt:Int->Int->Bool)(u v:Int):Prop:=lt u v=true/\lt v u=false
section
variable {lt:Int->Int->Bool} {n:Nat} {ord:List Int} (hp:ord.Perm (dD n)) (hs:ord.Pairwise (LtP lt))
include hp hs
end
def CH(sw:Int->Int->Bool):Int->List Int->Int × List Int
 |a, []=>(a, [])
 |a,c::r=>if sw a c then((CH sw c r).1,a::(CH sw c r).2) else((CH sw a r).1,c::(CH sw a r).2)
def SQ(sw:Int->Int->Bool):Nat->List Int->List Int
 |0,l=>l
 |_+1, []=> []
 |n+1,a::r=>(CH sw a r).1::SQ sw n (CH sw a r).2
theorem mw{sw:Int->Int->Bool} :∀ {l:List Int} {a:Int},((CH sw a l).1::(CH sw a l).2).Perm (a::l)
 | [],a=>agL _
 |c::r,a=>by
  rw[CH]
  split
  ·exact(List.Perm.swap ..).trans ((List.Perm.cons a (mw (l:=r) (a:=c))))
  ·exact(List.Perm.swap ..).trans ((List.Perm.cons c (mw (l:=r) (a:=a))).trans (List.Perm.swap ..))
theorem SR{sw:Int->Int->Bool}{l:List Int}{a:Int} :(CH sw a l).2.length=l.length:=by
 have:=(mw (sw:=sw) (l:=l) (a:=a)).length_eq
 simpa using this
theorem wV{sw:Int->Int->Bool} :∀ {n:Nat} {l:List Int},(SQ sw n l).Perm l
 |0,l=>agL _
 |_+1, []=>agL _
 |n+1,a::r=>by
  rw[SQ]
  exact(List.Perm.cons _ wV).trans mw
section
variable {sw:Int->Int->Bool} {R:Int->Int->Prop} {S:Int->Prop} (htr:∀a b c,S a->S b->S c->R a b->R b c->R a c) (hsw:∀a c,S a->S c->a≠c->if sw a c=true then R c a else R a c)
include htr hsw
theorem EN:∀ {l:List Int} {a:Int},(a::l).Nodup->(∀x∈a::l,S x)->((CH sw a l).1=a\/R (CH sw a l).1 a)/\∀y∈(CH sw a l).2,R (CH sw a l).1 y
 | [],a,_,_=>⟨.inl rfl,fun y hy=>by cases hy⟩
 |c::r,a,hn,hS=>by
  have hac:a≠c:=fun e=>by subst e;simp at hn
  have h0:=hsw a c (hS a (by simp)) (hS c (by simp)) hac
  have n1:(c::r).Nodup:=(ad5.1 hn).2
  have n2:(a::r).Nodup:=by
   rw[ad5]at hn ⊢
   exact⟨fun h=>hn.1 (by simp[h]),(ad5.1 hn.2).2⟩
  rw[CH]
  split at h0<;>rename_i hs
  ·rw[ac9 hs]
   obtain⟨h1,h2⟩:=EN (l:=r) (a:=c) n1 fun x hx=>hS x (by simp at hx ⊢;rcases hx with h|h<;>simp[h])
   have hSm:S (CH sw c r).1:=hS _ (by have:=(mw (sw:=sw) (l:=r) (a:=c)).mem_iff.1 (adH ..);simp at this ⊢;rcases this with h|h<;>simp[h])
   have hma:R (CH sw c r).1 a:=by
    rcases h1 with h1|h1
    ·rw[h1];exact h0
    ·exact htr _ _ _ hSm (hS c (by simp)) (hS a (by simp)) h1 h0
   exact⟨.inr hma,fun y hy=>(adv.1 hy).elim (fun e=>e ▸ hma) (h2 y)⟩
  ·rw[ac7 hs]
   obtain⟨h1,h2⟩:=EN (l:=r) (a:=a) n2 fun x hx=>hS x (by simp at hx ⊢;rcases hx with h|h<;>simp[h])
   have hSm:S (CH sw a r).1:=hS _ (by have:=(mw (sw:=sw) (l:=r) (a:=a)).mem_iff.1 (adH ..);simp at this ⊢;rcases this with h|h<;>simp[h])
   have RU:R (CH sw a r).1 c:=by
    rcases h1 with h1|h1
    ·rw[h1];exact h0
    ·exact htr _ _ _ hSm (hS a (by simp)) (hS c (by simp)) h1 h0
   exact⟨h1,fun y hy=>(adv.1 hy).elim (fun e=>e ▸ RU) (h2 y)⟩
theorem uU:∀ {n:Nat} {l:List Int},l.length<=n->l.Nodup->(∀x∈l,S x)->(SQ sw n l).Pairwise R
 |0,l,h,_,_=>by
  have:l= []:=adE (by omega)
  subst this;exact List.Pairwise.nil
 |n+1, [],_,_,_=>List.Pairwise.nil
 |n+1,a::r,h,hn,hS=>by
  rw[SQ,aeV]
  have hp:=mw (sw:=sw) (l:=r) (a:=a)
  refine⟨fun y hy=>(EN htr hsw hn hS).2 y (wV.mem_iff.1 hy),uU (by rw[SR];simpa using h) (ad5.1 (hp.nodup_iff.2 hn)).2 fun x hx=>hS x (hp.mem_iff.1 (by simp[hx]))⟩
end
theorem MY{R:Int->Int->Prop}{l m:List Int}(hp:l.Perm m)(ha:∀a b,R a b->R b a->False)(h1:l.Pairwise R)(h2:m.Pairwise R):l=m:=by
 induction l generalizing m with
 |nil=>exact hp.symm.eq_nil.symm
 |cons a l ih=>
  cases m with
  |nil=>exact absurd hp.length_eq (by simp)
  |cons b m=>
   obtain⟨a1,a2⟩:=aeV.1 h1
   obtain⟨b1,b2⟩:=aeV.1 h2
   have hab:a=b:=by
    refine adl fun hne=> ?_
    have ma:a∈b::m:=hp.mem_iff.1 (by simp)
    have mb:b∈a::l:=hp.mem_iff.2 (by simp)
    have ma:a∈m:=(adv.1 ma).elim (fun e=>absurd e hne) id
    have mb:b∈l:=(adv.1 mb).elim (fun e=>absurd e.symm hne) id
    exact ha a b (a1 b mb) (b1 a ma)
   subst hab
   rw[ih ((List.perm_cons a).1 hp) a2 b2]
def exF(sw:Int->Int->Bool)(a:Int)(done todo:List Int):List Int:=(CH sw a todo).1::SQ sw (done.length+todo.length) (done++(CH sw a todo).2)
end Go.Ab
end
section
namespace Go.Ab
set_option maxRecDepth 10000
structure PS where
 m:Nat
 src:Int
 VE:Int
 tl:Int->Int
 hd:Int->Int
 ins:Int->List Int
 outs:Int->List Int
 WJ:Int->Nat
 Row:Nat->List Int->List Int->Prop
 k0:Nat
def PS.E(P:PS)(e:Int):Prop:=0<=e/\e<P.m
structure PS.Ok (P:PS):Prop where
 bI:∀x e,e∈P.outs x↔P.E e/\P.tl e=x
 cz:∀x e,e∈P.ins x↔P.E e/\P.hd e=x
 wW:∀x,(P.outs x).Nodup
 Jg:∀x,(P.ins x).Nodup
 EO:∀e,P.E e->P.WJ (P.tl e)<P.WJ (P.hd e)
 SS:P.Row P.k0 (P.outs P.src) [P.src]
 qX:∀ {k W D},P.Row k W D->W.Nodup
 eW:∀ {k W D},P.Row k W D->∀e,e∈W↔P.E e/\P.tl e∈D/\P.hd e∉D
 qY:∀ {k W D},P.Row (k+1) W D->∃x A C,W=A++P.ins x++C/\P.ins x≠ []
 row_step:∀ {k W D x A C},P.Row k W D->W=A++P.ins x++C->P.ins x≠ []->∃k',k=k'+1/\P.Row k' (A++P.outs x++C) (D++ [x])
 sV:∀ {W D},P.Row 0 W D->∀e,P.E e->P.hd e∈D
 wX:∀ {k W D},P.Row k W D->P.src∈D
 zR:∀ {k W D},P.Row k W D->P.VE∈D->k=0
 BA:P.ins P.src= []
 wY:∀x,P.ins x≠ []->(P.outs x= []↔x=P.VE)
theorem yh{l:List Int} :l.reverse.Nodup↔l.Nodup:=(List.reverse_perm l).nodup_iff
def PS.Di(P:PS):PS:= {P with ins:=fun x=>(P.ins x).reverse,outs:=fun x=>(P.outs x).reverse,Row:=fun k W D=>P.Row k W.reverse D}
theorem PS.Ok.Di{P:PS}(h:P.Ok):P.Di.Ok:=
 {bI:=fun x e=>by show e∈(P.outs x).reverse↔_;rw[aeX];exact h.bI x e
  cz:=fun x e=>by show e∈(P.ins x).reverse↔_;rw[aeX];exact h.cz x e
  wW:=fun x=>by show(P.outs x).reverse.Nodup;exact yh.2 (h.wW x)
  Jg:=fun x=>by show(P.ins x).reverse.Nodup;exact yh.2 (h.Jg x)
  EO:=h.EO
  SS:=by show P.Row _ (P.outs P.src).reverse.reverse _;rw[agk];exact h.SS
  qX:=fun {k W D} hr=>yh.1 (h.qX (show P.Row k W.reverse D from hr))
  eW:=fun {k W D} hr e=>by
   have:=h.eW (show P.Row k W.reverse D from hr) e
   rw[aeX]at this
   exact this
  qY:=fun {k W D} hr=>by
   obtain⟨x,A,C,h1,h2⟩:=h.qY (show P.Row (k+1) W.reverse D from hr)
   refine⟨x,C.reverse,A.reverse, ?_,fun h3=>h2 (agz.1 h3)⟩
   show W=C.reverse++(P.ins x).reverse++A.reverse
   rw[<- List.reverse_reverse W,h1]
   simp
  row_step:=fun {k W D x A C} hr h1 h2=>by
   have h1:W=A++(P.ins x).reverse++C:=h1
   obtain⟨k',h3,h4⟩:=h.row_step (x:=x) (A:=C.reverse) (C:=A.reverse) (show P.Row k W.reverse D from hr) (by rw[h1];simp) (fun h3=>h2 (agz.2 h3))
   refine⟨k',h3, ?_⟩
   show P.Row k' (A++(P.outs x).reverse++C).reverse (D++ [x])
   have e:(A++(P.outs x).reverse++C).reverse=C.reverse++P.outs x++A.reverse:=by simp
   rw[e];exact h4
  sV:=fun {W D} hr=>h.sV (show P.Row 0 W.reverse D from hr)
  wX:=fun {k W D} hr=>h.wX (show P.Row k W.reverse D from hr)
  zR:=fun {k W D} hr=>h.zR (show P.Row k W.reverse D from hr)
  BA:=by show(P.ins P.src).reverse= [];rw[h.BA];rfl
  wY:=fun x hx=>by
   have h2:P.ins x≠ []:=fun h3=>hx (by show(P.ins x).reverse= [];rw[h3];rfl)
   show(P.outs x).reverse= []↔_
   rw[agz];exact h.wY x h2}
structure MS where
 A:List Int
 B:List Int
 D:List Int
def PS.next(P:PS)(s:MS):MS:=
 match s.B with
 | []=>s
 |e::B=>if P.ins (P.hd e)<:+s.A++ [e] then⟨(s.A++ [e]).take (s.A.length+1 - (P.ins (P.hd e)).length),P.outs (P.hd e)++B,s.D++ [P.hd e]⟩ else⟨s.A++ [e],B,s.D⟩
def PS.st(P:PS):Nat->MS
 |0=>⟨[],P.outs P.src, [P.src]⟩
 |j+1=>P.next (P.st j)
def PS.sh(P:PS)(j:Nat):Int:=(P.st j).B.headD 0
def PS.xQ(P:PS)(j:Nat):List Int:=(List.range j).map P.sh
variable {P:PS}
theorem PS.BB{j:Nat} :P.xQ (j+1)=P.xQ j++ [P.sh j]:=by simp[PS.xQ,adV]
theorem PS.zS{j:Nat} :(P.xQ j).length=j:=by simp[PS.xQ]
theorem PS.wZ{j:Nat}{e:Int} :e∈P.xQ j↔∃i,i<j/\P.sh i=e:=by simp[PS.xQ]
structure PS.Inv (P:PS) (j:Nat) (s:MS):Prop where
 row:∃k,P.Row k (s.A++s.B) s.D
 no:∀h,P.ins h≠ []->¬P.ins h<:+:s.A
 nd:(P.xQ j).Nodup
 sh:∀e,e∈P.xQ j↔P.E e/\(e∈s.A\/P.hd e∈s.D)
 len:j<=P.m
theorem lB:∀ {l m:List Int},l.Nodup->(∀i∈l,i∈m)->l.length<=m.length
 | [],_,_,_=>afB _
 |a::l,m,hn,h=>by
  rw[ad5]at hn
  have ha:=h a (adH ..)
  have:=lB (m:=m.erase a) hn.2 fun i hi=>(afO (show i≠a from fun e=>hn.1 (by rw[<- e];exact hi))).2 (h i (adz _ hi))
  rw[afW ha]at this
  have:=afC ha
  rw[List.length_cons];omega
theorem Dj{l:List Int}{m:Nat}(hall:∀e:Int,0<=e->e<m->e∈l):m<=l.length:=by
 have:=lB (l:=(List.range m).map Int.ofNat) (m:=l) (aeI.2 (List.nodup_range.imp fun hab e=>hab (afo e))) fun x hx=>by
  obtain⟨a,ha,rfl⟩:=ada.1 hx
  have:=adk.1 ha
  exact hall _ (by simp) (by simp;omega)
 simpa using this
theorem GP{X Y:List Int}(h:X<:+Y):Y=Y.take (Y.length - X.length)++X:=by
 obtain⟨t,rfl⟩:=h
 simp
theorem PS.Inv.more(h:P.Ok){j:Nat}{s:MS}(hi:P.Inv j s)(hj:j<P.m):∃e B,s.B=e::B:=by
 cases hB:s.B with
 |cons e B=>exact⟨e,B,rfl⟩
 |nil=>
  exfalso
  obtain⟨k,hr⟩:=hi.row
  rw[hB,ad4]at hr
  cases k with
  |succ k=>
   obtain⟨x,A,C,h1,h2⟩:=h.qY hr
   exact hi.no x h2 ⟨A,C,h1.symm⟩
  |zero=>
   have hall:∀e,P.E e->e∈P.xQ j:=fun e he=>(hi.sh e).2 ⟨he, .inr (h.sV hr e he)⟩
   have:=Dj (fun e h1 h2=>hall e ⟨h1,h2⟩)
   rw[PS.zS]at this
   omega
theorem PS.MZ{s:MS}{e:Int}{B:List Int}(hB:s.B=e::B):P.next s=if P.ins (P.hd e)<:+s.A++ [e] then⟨(s.A++ [e]).take (s.A.length+1 - (P.ins (P.hd e)).length),P.outs (P.hd e)++B,s.D++ [P.hd e]⟩ else⟨s.A++ [e],B,s.D⟩:=by
 unfold PS.next;rw[hB]
theorem PS.BC(h:P.Ok){s:MS}{k:Nat}{e:Int}{B:List Int}(hr:P.Row k (s.A++s.B) s.D)(hB:s.B=e::B):
 P.E e/\((∃A',s.A++ [e]=A'++P.ins (P.hd e)/\P.ins (P.hd e)≠ []/\P.next s=⟨A',P.outs (P.hd e)++B,s.D++ [P.hd e]⟩)\/(¬P.ins (P.hd e)<:+s.A++ [e]/\P.next s=⟨s.A++ [e],B,s.D⟩)):=by
 have he:P.E e:=((h.eW hr e).1 (by rw[hB];simp)).1
 refine⟨he, ?_⟩
 rw[PS.MZ hB]
 by_cases hs:P.ins (P.hd e)<:+s.A++ [e]
 ·rw[ac9 hs]
  refine .inl ⟨_, ?_,fun h0=> ?_,rfl⟩
  ·have:=GP hs
   simpa using this
  ·have:=(h.cz (P.hd e) e).2 ⟨he,rfl⟩
   rw[h0]at this;cases this
 ·rw[ac7 hs];exact .inr ⟨hs,rfl⟩
theorem Jh{X A:List Int}{e:Int}(h:X<:+:A++ [e]):X<:+:A\/X<:+A++ [e]:=by
 obtain⟨s,t,ht⟩:=h
 rcases aft t with rfl|⟨t',a,rfl⟩
 ·rw[ad4]at ht;exact .inr ⟨s,ht⟩
 ·left
  refine⟨s,t', ?_⟩
  have:s++X++t'++ [a]=A++ [e]:=by rw[<- ht];simp
  exact(afX this rfl).1
theorem PS.inv(h:P.Ok):∀j,j<=P.m->P.Inv j (P.st j)
 |0,_=>⟨⟨_,h.SS⟩,fun x hx hs=>hx (by
    have:P.ins x<:+: []:=hs
    simpa using this),by simp[PS.xQ],fun e=>(by
     simp only[PS.xQ,List.range_zero,adO,aen,false_iff]
     rintro⟨he,h1|h1⟩
     ·cases h1
     ·have h1:P.hd e∈ [P.src]:=h1
      have h2:P.hd e=P.src:=by simpa using h1
      have:=(h.cz P.src e).2 ⟨he,h2⟩
      rw[h.BA]at this;cases this),afB _⟩
 |j+1,hj=>by
  have hi:=PS.inv h j (by omega)
  obtain⟨e,B,hB⟩:=hi.more h (by omega)
  obtain⟨k,hr⟩:=hi.row
  have hsh:P.sh j=e:=by unfold PS.sh;rw[hB];rfl
  have heB:e∈(P.st j).A++(P.st j).B:=by rw[hB];simp
  have hm:=(h.eW hr e).1 heB
  have bR:=h.qX hr
  have hnA:e∉(P.st j).A:=fun hA=>by
   rw[adt]at bR
   exact bR.2.2 e hA e (by rw[hB];simp) rfl
  have hnew:e∉P.xQ j:=fun h1=>by
   rcases((hi.sh e).1 h1).2 with h2|h2
   ·exact hnA h2
   ·exact hm.2.2 h2
  have ji:(P.xQ (j+1)).Nodup:=by
   rw[PS.BB,hsh,adt]
   exact⟨hi.nd,by simp,fun a ha b hb=>by
    rw[adu]at hb
    subst hb
    intro e2;exact hnew (e2 ▸ ha)⟩
  obtain⟨he,hc⟩:=PS.BC h hr hB
  have hst:P.st (j+1)=P.next (P.st j):=rfl
  rw[hst]
  rcases hc with ⟨A',h1,h2,h3⟩|⟨h1,h3⟩
  ·rw[h3]
   have hrow:(P.st j).A++(P.st j).B=A'++P.ins (P.hd e)++B:=by rw[hB, <- h1];simp
   obtain⟨k',rfl,hr'⟩:=h.row_step hr hrow h2
   refine⟨⟨k',by simpa using hr'⟩,fun x hx hs=> ?_,ji,fun f=> ?_,hj⟩
   ·have hs:P.ins x<:+:A':=hs
    have hA:¬P.ins x<:+:(P.st j).A:=hi.no x hx
    obtain⟨u,v,huv⟩:=hs
    rcases aft (P.ins (P.hd e)) with h0|⟨I',a,h0⟩
    ·exact h2 h0
    ·rw[h0, <- List.concat_eq_append,agh]at h1
     have h4:(P.st j).A++ [e]=(A'++I')++ [a]:=by rw[h1];simp
     have h5:=(afX h4 rfl).1
     exact hA ⟨u,v++I',by rw[h5, <- huv];simp⟩
   ·rw[PS.BB,hsh,ac8,adu,hi.sh f]
    show _↔P.E f/\(f∈A'\/P.hd f∈(P.st j).D++ [P.hd e])
    constructor
    ·rintro(⟨h4,h5|h5⟩|rfl)
     ·have:f∈A'++P.ins (P.hd e):=by rw[<- h1];exact ac8.2 (.inl h5)
      rcases ac8.1 this with h6|h6
      ·exact⟨h4, .inl h6⟩
      ·exact⟨h4, .inr (by rw[((h.cz _ _).1 h6).2];simp)⟩
     ·exact⟨h4, .inr (ac8.2 (.inl h5))⟩
     ·exact⟨he, .inr (by simp)⟩
    ·rintro⟨h4,h5|h5⟩
     ·have:f∈(P.st j).A++ [e]:=by rw[h1];exact ac8.2 (.inl h5)
      rcases ac8.1 this with h6|h6
      ·exact .inl ⟨h4, .inl h6⟩
      ·exact .inr (by simpa using h6)
     ·rcases ac8.1 h5 with h6|h6
      ·exact .inl ⟨h4, .inr h6⟩
      ·have h6:P.hd f=P.hd e:=by simpa using h6
       have h7:f∈P.ins (P.hd e):=(h.cz _ _).2 ⟨h4,h6⟩
       have:f∈(P.st j).A++ [e]:=by rw[h1];exact ac8.2 (.inr h7)
       rcases ac8.1 this with h8|h8
       ·exact .inl ⟨h4, .inl h8⟩
       ·exact .inr (by simpa using h8)
  ·rw[h3]
   refine⟨⟨k,by simpa[hB]using hr⟩,fun x hx hs=> ?_,ji,fun f=> ?_,hj⟩
   ·rcases Jh hs with h4|h4
    ·exact hi.no x hx h4
    ·have hne:e∈P.ins x:=by
      obtain⟨t,ht⟩:=h4
      rcases aft (P.ins x) with h0|⟨I',a,h0⟩
      ·exact absurd h0 hx
      ·rw[h0]at ht
       have h5:(t++I')++ [a]=(P.st j).A++ [e]:=by rw[<- ht];simp
       have:=(afX h5 rfl).2
       rw[h0];simp at this ⊢;exact .inr this.symm
     rw[((h.cz _ _).1 hne).2]at h1
     exact h1 h4
   ·rw[PS.BB,hsh,ac8,adu,hi.sh f]
    show _↔P.E f/\(f∈(P.st j).A++ [e]\/P.hd f∈(P.st j).D)
    rw[ac8,adu]
    constructor
    ·rintro(⟨h4,h5|h5⟩|rfl)
     ·exact⟨h4, .inl (.inl h5)⟩
     ·exact⟨h4, .inr h5⟩
     ·exact⟨he, .inl (.inr rfl)⟩
    ·rintro⟨h4,(h5|h5)|h5⟩
     ·exact .inl ⟨h4, .inl h5⟩
     ·exact .inr h5
     ·exact .inl ⟨h4, .inr h5⟩
end Go.Ab
end
