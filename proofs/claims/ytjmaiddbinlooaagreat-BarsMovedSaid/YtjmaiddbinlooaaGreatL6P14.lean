/- A part of the proof. -/
import Derived.Test.YtjmaiddbinlooaaGreatL6P13
set_option linter.unusedSimpArgs false
set_option linter.unusedVariables false
section
namespace Go.Ab
open Go.Proofs
set_option maxRecDepth 10000
def jV (x:Int) (t:It):Bool:=decide (t.2.2=x)
structure z6 (x:Int) (X:List It):Prop where
 fst:∃p X',X=p::X'∧p.2.2=x
 CY:∃X' q,X=X'++ [q]∧q.2.2=x
 al:∀t∈X,t.2.2=x∨t.2.2= -1
def eZ (x:Int) (l:List It):Prop:=∀t∈l,t.2.2≠x
theorem eZ.app {x:Int} {l m:List It} (h:eZ x l) (h':eZ x m):eZ x (l++m):=fun t ht=>(List.mem_append.1 ht).elim (h t) (h' t)
theorem eZ.left {x:Int} {l m:List It} (h:eZ x (l++m)):eZ x l:=fun t ht=>h t (List.mem_append.2 (.inl ht))
theorem eZ.right {x:Int} {l m:List It} (h:eZ x (l++m)):eZ x m:=fun t ht=>h t (List.mem_append.2 (.inr ht))
theorem z6.M6 {x y:Int} {X:List It} (h:z6 x X) (hxy:x≠y) (hy:0≤y):eZ y X:=fun t ht e=>by
 rcases h.al t ht with h1|h1<;>omega
theorem jG {row:List It} {x:Int} :∀ {k:Nat},k≤row.length→gq row x k=((row.take k).countP (jV x):Nat)
 |0,_=>by simp [gq]
 |k+1,h=>by
  rw [fC,jG (k:=k) (by omega),List.take_add_one,List.getElem?_eq_getElem (show k<row.length by omega),List.countP_append]
  simp only [Option.toList,List.countP_cons,List.countP_nil,jV,decide_eq_true_eq,List.getD_eq_getElem?_getD,List.getElem?_eq_getElem (show k<row.length by omega),Option.getD_some]
  split<;>simp
theorem z7 {A X C:List It} {p:It} {X':List It} (h:X=p::X'):(A++X++C).getD A.length (0,0,0)=p:=by
 subst h;simp [List.getD_eq_getElem?_getD]
theorem z8 {A X C:List It} {q:It} {X':List It} (h:X=X'++ [q]):(A++X++C).getD (A.length+X.length - 1) (0,0,0)=q:=by
 subst h
 have e:A.length+(X'++ [q]).length - 1=(A++X').length:=by simp
 rw [e,show A++(X'++ [q])++C=(A++X')++([q]++C) by simp]
 simp [List.getD_eq_getElem?_getD]
theorem Aa {A L:List It} {j:Nat} (h:j<A.length):(A++L).getD j (0,0,0)∈A:=by
 rw [List.getD_eq_getElem?_getD,List.getElem?_append_left h,List.getElem?_eq_getElem h]
 exact List.getElem_mem h
theorem Ac {A L:List It} {j:Nat} (h:A.length≤j) (h':j<(A++L).length):(A++L).getD j (0,0,0)∈L:=by
 rw [List.length_append] at h'
 rw [List.getD_eq_getElem?_getD,List.getElem?_append_right h,List.getElem?_eq_getElem (by omega)]
 exact List.getElem_mem _
theorem yJ {A X C:List It} {x:Int} (hA:eZ x A) (hC:eZ x C) (hX:z6 x X):
 (aU (A++X++C) x).1=(A.length:Int)∧(aU (A++X++C) x).2.1=((A.length+X.length:Nat):Int)∧(aU (A++X++C) x).2.2=(X.countP (jV x):Nat):=by
 have zv:(aU (A++X++C) x).2.2=(X.countP (jV x):Nat):=by
  unfold aU
  rw [jf,jG (Nat.le_refl _),List.take_length,List.countP_append,List.countP_append]
  have h1:A.countP (jV x)=0:=List.countP_eq_zero.2 fun t ht=>by simp [jV,hA t ht]
  have h2:C.countP (jV x)=0:=List.countP_eq_zero.2 fun t ht=>by simp [jV,hC t ht]
  rw [h1,h2];simp
 obtain ⟨p,X',e1,hp⟩:=hX.fst
 obtain ⟨PT,q,e2,hq⟩:=hX.CY
 have g1:=z7 (A:=A) (C:=C) e1
 have g2:=z8 (A:=A) (C:=C) e2
 have L4:0<X.length:=by rw [e1];simp
 have hlen:(A++X++C).length=A.length+X.length+C.length:=by simp;omega
 rcases dQ (row:=A++X++C) (x:=x) (A++X++C).length with ⟨_,hno⟩|⟨a,b,c,hs,hab,iM,hc0,mj,ha,hb,hlo,hhi⟩
 ·exact absurd (by rw [g1];exact hp) (hno A.length (by omega))
 ·have hs':aU (A++X++C) x=((a:Int),(b:Int),(c:Int)):=hs
  refine ⟨?_, ?_,zv⟩
  ·rw [hs']
   have h1:¬A.length<a:=fun h=>hlo _ h (by rw [g1];exact hp)
   have h2:¬a<A.length:=fun h=>hA _ (by have:=Aa (L:=X++C) h;rw [← List.append_assoc] at this;exact this) ha
   simp only;omega
  ·rw [hs']
   have h1:¬b<A.length+X.length:=fun h=>hhi (A.length+X.length - 1) (by omega) (by omega) (by rw [g2];exact hq)
   have h2:¬A.length+X.length<b:=fun h=>hC _ (Ac (A:=A++X) (j:=b - 1) (by simp;omega) (by omega)) hb
   simp only;omega
theorem rM {g:Gr} (hm:aO g=true) {f:Fr} (hi:fY g f) {A X C:List It} {x:Int} (h0:0≤x) (h1:x<g.n) (hp:x∉f.pl) (hr:f.row=A++X++C) (hA:eZ x A) (hC:eZ x C) (hX:z6 x X)
 (hc:X.countP (jV x)=bC g x):aH g f x=true:=by
 rw [← mY hm hi,fB,if_neg (by rintro (h|h|h);omega;omega;exact hp h)]
 obtain ⟨e1,e2,e3⟩:=yJ hA hC hX
 rw [hr,e1,e2,e3,eC h0 h1,Bool.and_eq_true,decide_eq_true_eq]
 refine ⟨by rw [hc];rfl, ?_⟩
 rw [Bool.or_eq_true];right
 simp only [oZ,Int.toNat_natCast]
 rw [List.take_append_of_le_length (by simp),List.take_of_length_le (by simp),List.drop_left,Bool.not_eq_true',List.any_eq_false]
 intro t ht
 simp only [jF,Bool.and_eq_true,decide_eq_true_eq]
 rcases hX.al t ht with h|h<;>simp [h]
theorem cz {g:Gr} (hm:aO g=true) {f:Fr} (hi:fY g f) {x:Int} (hR:aH g f x=true) (hn:bC g x≠0):
 ∃A X C,f.row=A++X++C∧eZ x A∧eZ x C∧z6 x X∧X.countP (jV x)=bC g x:=by
 obtain ⟨h0,h1,h2⟩:=aR hR
 rw [← mY hm hi,fB,if_neg (by rintro (h|h|h);omega;omega;exact h2 h),eC h0 h1,Bool.and_eq_true,decide_eq_true_eq] at hR
 have hN:(aJ (fun e=>e.2) g.es g.es.length x).length=bC g x:=rfl
 rw [hN,decide_eq_false hn,Bool.false_or] at hR
 obtain ⟨hc,hb⟩:=hR
 have zv:(f.row.countP (jV x):Int)=bC g x:=by
  rw [← hc];unfold aU
  rw [jf,jG (Nat.le_refl _),List.take_length]
 rcases dQ (row:=f.row) (x:=x) f.row.length with ⟨hs,hno⟩|⟨a,b,c,hs,hab,iM,hc0,mj,ha,hb',hlo,hhi⟩
 ·have:aU f.row x=(-1,0,0):=hs
  rw [this] at hc
  exfalso;simp only at hc;omega
 ·have hs':aU f.row x=((a:Int),(b:Int),(c:Int)):=hs
  rw [hs'] at hb
  simp only [Int.toNat_natCast] at hb
  have hA:eZ x (f.row.take a):=fun t ht=>by
   obtain ⟨j,hj,rfl⟩:=List.mem_iff_getElem.1 ht
   simp only [List.length_take] at hj
   have:=hlo j (by omega)
   rw [List.getD_eq_getElem?_getD,List.getElem?_eq_getElem (show j<f.row.length by omega)] at this
   simpa using this
  have hC:eZ x (f.row.drop b):=fun t ht=>by
   obtain ⟨j,hj,rfl⟩:=List.mem_iff_getElem.1 ht
   simp only [List.length_drop] at hj
   have:=hhi (b+j) (by omega) (by omega)
   rw [List.getD_eq_getElem?_getD,List.getElem?_eq_getElem (show b+j<f.row.length by omega)] at this
   simpa using this
  have hrow:f.row=f.row.take a++(f.row.take b).drop a++f.row.drop b:=by
   have e1:f.row.take a=(f.row.take b).take a:=by rw [List.take_take,Nat.min_eq_left (by omega)]
   rw [e1,List.take_append_drop,List.take_append_drop]
  refine ⟨f.row.take a,(f.row.take b).drop a,f.row.drop b,hrow,hA,hC,⟨?_, ?_, ?_⟩, ?_⟩
  ·refine ⟨f.row.getD a (0,0,0),(f.row.take b).drop (a+1), ?_,ha⟩
   rw [List.drop_eq_getElem_cons (by simp;omega)]
   congr 1
   rw [List.getD_eq_getElem?_getD,List.getElem?_eq_getElem (show a<f.row.length by omega)]
   simp
  ·refine ⟨(f.row.take (b - 1)).drop a,f.row.getD (b - 1) (0,0,0), ?_,hb'⟩
   have e:f.row.take b=f.row.take (b - 1)++ [f.row.getD (b - 1) (0,0,0)]:=by
    conv=>lhs;rw [show b=b - 1+1 by omega]
    rw [List.take_add_one,List.getD_eq_getElem?_getD,List.getElem?_eq_getElem (show b - 1<f.row.length by omega)]
    rfl
   rw [e,List.drop_append_of_le_length (by simp;omega)]
  ·intro t ht
   rw [oZ,Bool.not_eq_true',List.any_eq_false] at hb
   have:=hb t ht
   simp only [jF,Bool.and_eq_true,decide_eq_true_eq,not_and] at this
   by_cases h:t.2.2=x
   ·exact .inl h
   ·exact .inr (Decidable.byContradiction fun h'=>this h h')
  ·have h1:(f.row.take a).countP (jV x)=0:=List.countP_eq_zero.2 fun t ht=>by simp [jV,hA t ht]
   have h2:(f.row.drop b).countP (jV x)=0:=List.countP_eq_zero.2 fun t ht=>by simp [jV,hC t ht]
   rw [hrow,List.countP_append,List.countP_append,h1,h2] at zv
   omega
theorem jH {g:Gr} {f:Fr} {A X C:List It} {x:Int} (o:List Int) (hr:f.row=A++X++C) (hA:eZ x A) (hC:eZ x C) (hX:z6 x X):
 aB g f x o=((X,0),⟨A++aV g x o++C,f.pl++ [x]⟩):=by
 obtain ⟨e1,e2,e3⟩:=yJ hA hC hX
 have e4:max (A.length:Int) 0=(A.length:Int):=by omega
 unfold aB
 rw [hr,e1,e2,e4,Int.toNat_natCast,Int.toNat_natCast]
 rw [List.take_append_of_le_length (show A.length+X.length≤(A++X).length by simp),List.take_of_length_le (show (A++X).length≤A.length+X.length by simp),List.drop_left]
 rw [show (A++X++C).take A.length=A by rw [List.append_assoc,List.take_left]]
 rw [show (A++X++C).drop (A.length+X.length)=C by rw [← List.length_append,List.drop_left]]
theorem kT {g:Gr} {f:Fr} {x:Int} (o:List Int) (hr:eZ x f.row):aB g f x o=(([],0),⟨aV g x o++f.row,f.pl++ [x]⟩):=by
 have hs:aU f.row x=(-1,0,0):=by
  rcases dQ (row:=f.row) (x:=x) f.row.length with ⟨hs,_⟩|⟨a,b,c,hs,hab,iM,hc0,mj,ha,hb',hlo,hhi⟩
  ·exact hs
  ·exact absurd ha (hr _ (aY (by omega)))
 have e4:max (-1:Int) 0=0:=by omega
 unfold aB
 rw [hs]
 simp [e4]
end Go.Ab
end
section
namespace Go.Ab
open Go.Proofs
set_option maxRecDepth 10000
structure wh (g:Gr) (f:Fr):Prop extends fY g f where
 tail:∀t∈f.row,0≤t.1→t.2.1∈f.pl
 head:∀t∈f.row,0≤t.1→t.2.2∉f.pl
 once:f.row.Pairwise fun s t=>0≤s.1→s.1≠t.1
 low:∀i,i<g.es.length→hd g i∈f.pl→tl g i∈f.pl
 src:(f.pl= []∧f.row= [])∨∃s∈f.pl,bC g s=0
theorem yK (g:Gr):wh g ⟨[], []⟩:=
 {it:=by simp,pl:=by simp,Fw:=by simp,tail:=by simp,head:=by simp,once:=by simp,low:=by simp,src:= .inl ⟨rfl,rfl⟩}
theorem uN {g:Gr} (hm:aO g=true) {f:Fr} (hi:wh g f) {x:Int} (hR:aH g f x=true) {i:Nat} (hl:i<g.es.length) (hx:hd g i=x):∃t∈f.row,t.1=i∧t.2.1=tl g i∧t.2.2=x:=by
 have hn:bC g x≠0:=by
  have:=oe (g:=g) (e:=(i:Int)) (by omega) (by omega)
  rw [Int.toNat_natCast,show (g.es.getD i (0,0)).2=x from hx] at this
  omega
 obtain ⟨A,X,C,hr,hA,hC,hX,hc⟩:=cz hm hi.tofY hR hn
 have hN:(aJ (fun e=>e.2) g.es g.es.length x).length=bC g x:=rfl
 have hok:∀t∈f.row,t.2.2=x→0≤t.1∧t.1<g.es.length∧t.2.1=(g.es.getD t.1.toNat (0,0)).1∧t.2.2=(g.es.getD t.1.toNat (0,0)).2:=fun t ht he=>by
  rcases hi.it t ht with ⟨_,h2⟩|h
  ·have:=(aR hR).1;omega
  ·exact h
 have hmem:∀t∈X,t∈f.row:=fun t ht=>by rw [hr];simp [ht]
 have M7:=pT (ms:=(X.filter (jV x)).map (·.1)) (os:=aJ (fun e=>e.2) g.es g.es.length x)
 have key:∀i∈aJ (fun e=>e.2) g.es g.es.length x,i∈(X.filter (jV x)).map (·.1):=by
  refine xU (ms:=(X.filter (jV x)).map (·.1)) (os:=aJ (fun e=>e.2) g.es g.es.length x) ?_ ?_ ?_
  ·have h1:X.Pairwise fun s t=>0≤s.1→s.1≠t.1:=by
    have:=hi.once
    rw [hr,List.pairwise_append,List.pairwise_append] at this
    exact this.1.2.1
   have h2:=h1.filter (jV x)
   rw [List.Nodup,List.pairwise_map]
   refine h2.imp_of_mem fun {a b} ha hb h=>h ?_
   obtain ⟨pU,OD⟩:=List.mem_filter.1 ha
   exact (hok a (hmem a pU) (by simpa [jV] using OD)).1
  ·intro e he
   obtain ⟨t,ht,rfl⟩:=List.mem_map.1 he
   obtain ⟨ht1,ht2⟩:=List.mem_filter.1 ht
   have ht2:t.2.2=x:=by simpa [jV] using ht2
   obtain ⟨h1,h2,h3,h4⟩:=hok t (hmem t ht1) ht2
   simp only [aJ,List.mem_map,List.mem_filter,List.mem_range,decide_eq_true_eq]
   exact ⟨t.1.toNat,⟨by omega,by rw [← h4];exact ht2⟩,by simp;omega⟩
  ·rw [hN, ← hc,List.length_map,List.countP_eq_length_filter]
 have hie:(i:Int)∈aJ (fun e=>e.2) g.es g.es.length x:=by
  simp only [aJ,List.mem_map,List.mem_filter,List.mem_range,decide_eq_true_eq]
  exact ⟨i,⟨hl,hx⟩,rfl⟩
 obtain ⟨t,ht,he⟩:=List.mem_map.1 (key _ hie)
 obtain ⟨ht1,ht2⟩:=List.mem_filter.1 ht
 have ht2:t.2.2=x:=by simpa [jV] using ht2
 obtain ⟨h1,h2,h3,h4⟩:=hok t (hmem t ht1) ht2
 refine ⟨t,hmem t ht1,he, ?_,ht2⟩
 rw [h3,he,Int.toNat_natCast];rfl
theorem rN {g:Gr} (hm:aO g=true) {f:Fr} (hi:fY g f) {x:Int} (h0:0≤x) (hn:bC g x=0):eZ x f.row:=by
 intro t ht he
 rcases hi.it t ht with ⟨_,h2⟩|⟨h1,h2,_,h4⟩
 ·omega
 ·have:=oe h1 h2
  rw [← h4,he] at this
  omega
theorem gR {g:Gr} (hm:aO g=true) {f:Fr} (hi:fY g f) {x:Int} (hR:aH g f x=true):
 ∃A X C,f.row=A++X++C∧eZ x A∧eZ x C∧(∀t∈X,t.2.2=x∨t.2.2= -1)∧∀o,aB g f x o=((X,0),⟨A++aV g x o++C,f.pl++ [x]⟩):=by
 by_cases hn:bC g x=0
 ·have h:=rN hm hi (aR hR).1 hn
  exact ⟨[], [],f.row,by simp,fun t ht=>(by cases ht),h,fun t ht=>(by cases ht),fun o=>by rw [kT o h];simp⟩
 ·obtain ⟨A,X,C,hr,hA,hC,hX,_⟩:=cz hm hi hR hn
  exact ⟨A,X,C,hr,hA,hC,hX.al,fun o=>jH o hr hA hC hX⟩
theorem jh {g:Gr} {x i:Int} (h:i∈dL g x):∃k:Nat,i=k∧k<g.es.length∧tl g k=x:=by
 obtain ⟨⟨h1,h2⟩,h3⟩:=je h
 exact ⟨i.toNat,by omega,by omega,h3⟩
theorem ji {g:Gr} {x:Int} {o:List Int} (ho:∀i∈o,i∈dL g x) {t:It} (h:t∈aV g x o):(t.1= -1∧t.2.2= -1)∨∃k:Nat,k<g.es.length∧t.1=k∧t.2.1=x∧t.2.2=hd g k∧tl g k=x∧t.1∈o:=by
 unfold aV at h
 split at h
 ·rw [List.mem_singleton] at h
  rw [h];exact .inl ⟨rfl,rfl⟩
 ·obtain ⟨i,M8,rfl⟩:=List.mem_map.1 h
  obtain ⟨k,rfl,h1,h2⟩:=jh (ho i M8)
  exact .inr ⟨k,h1,rfl,rfl,by simp [ia];rfl,h2,M8⟩
theorem og {g:Gr} (hm:aO g=true) {f:Fr} (hi:wh g f) {x y:Int} (hx:x∉f.pl) (hR:aH g f y=true) {o:List Int} (ho:∀i∈o,i∈dL g x):eZ y (aV g x o):=by
 intro t ht he
 rcases ji ho ht with ⟨_,h⟩|⟨k,h1,h2,h3,h4,h5,_⟩
 ·have:=(aR hR).1;omega
 ·obtain ⟨s,hs,e1,e2,e3⟩:=uN hm hi hR h1 (by rw [← h4];exact he)
  refine hx ?_
  rw [← h5, ← e2]
  exact hi.tail s hs (by omega)
theorem jj {g:Gr} (hm:aO g=true) {f:Fr} (hi:wh g f) {x:Int} (hR:aH g f x=true) {o:List Int} (ho:o.Perm (dL g x)):wh g (aB g f x o).2:=by
 have Ft:∀i∈o,i∈dL g x:=fun i h=>ho.mem_iff.1 h
 have hx:=(aR hR).2.2
 have h0:=B9 hi.tofY hR Ft
 obtain ⟨A,X,C,hr,hA,hC,hX,hs⟩:=gR hm hi.tofY hR
 have fT:(aB g f x o).2.pl=f.pl++ [x]:=rfl
 have hrow:(aB g f x o).2.row=A++aV g x o++C:=by rw [hs o]
 have L5:∀t∈A,t∈f.row:=fun t ht=>by rw [hr];simp [ht]
 have L6:∀t∈C,t∈f.row:=fun t ht=>by rw [hr];simp [ht]
 have yL:=og hm hi hx hR Ft
 refine {tofY:=h0,tail:= ?_,head:= ?_,once:= ?_,low:= ?_,src:= .inr ?_}
 ·intro t ht h1
  rw [fT]
  rw [hrow,List.mem_append,List.mem_append] at ht
  rcases ht with (ht|ht)|ht
  ·exact List.mem_append_left _ (hi.tail t (L5 t ht) h1)
  ·rcases ji Ft ht with ⟨h,_⟩|⟨k,_,_,h3,_⟩
   ·omega
   ·rw [h3];simp
  ·exact List.mem_append_left _ (hi.tail t (L6 t ht) h1)
 ·intro t ht h1
  rw [fT,List.mem_append,List.mem_singleton]
  rw [hrow,List.mem_append,List.mem_append] at ht
  rcases ht with (ht|ht)|ht
  ·rintro (h|h)
   ·exact hi.head t (L5 t ht) h1 h
   ·exact hA t ht h
  ·rintro (h|h)
   ·rcases ji Ft ht with ⟨h',_⟩|⟨k,hk,_,_,h4,h5,_⟩
    ·omega
    ·rw [h4] at h
     have:=hi.low k hk h
     rw [h5] at this;exact hx this
   ·exact yL t ht h
  ·rintro (h|h)
   ·exact hi.head t (L6 t ht) h1 h
   ·exact hC t ht h
 ·have vf:=hi.once
  rw [hr,List.pairwise_append,List.pairwise_append] at vf
  obtain ⟨⟨OE,_,_⟩,OF,L7⟩:=vf
  have old:∀s∈f.row,0≤s.1→∀t∈aV g x o,s.1≠t.1:=fun s hs h1 t ht e=>by
   rcases ji Ft ht with ⟨h,_⟩|⟨k,hk,h2,h3,h4,h5,_⟩
   ·omega
   ·rcases hi.it s hs with ⟨h,_⟩|⟨_,_,h6,_⟩
    ·omega
    ·have:=hi.tail s hs h1
     rw [h6,e,h2,Int.toNat_natCast] at this
     exact hx (h5 ▸ this)
  rw [hrow,List.pairwise_append,List.pairwise_append]
  refine ⟨⟨OE, ?_,fun s hs t ht h1=>old s (L5 s hs) h1 t ht⟩,OF, ?_⟩
  ·unfold aV
   split
   ·simp
   ·refine List.pairwise_map.2 ((ho.nodup_iff.2 cQ).imp fun {i j} (h:i≠j) _=> ?_)
    exact h
  ·intro s hs t ht h1
   rcases List.mem_append.1 hs with hs|hs
   ·exact L7 s (List.mem_append_left _ hs) t ht h1
   ·intro e
    exact old t (L6 t ht) (by omega) s hs e.symm
 ·intro i hl h
  rw [fT,List.mem_append,List.mem_singleton] at h ⊢
  left
  rcases h with h|h
  ·exact hi.low i hl h
  ·obtain ⟨t,ht,e1,e2,_⟩:=uN hm hi hR hl h
   rw [← e2]
   exact hi.tail t ht (by omega)
 ·rcases hi.src with ⟨h1,h2⟩|⟨s,hs,h⟩
  ·refine ⟨x,by rw [fT];simp, ?_⟩
   refine Decidable.byContradiction fun hn=> ?_
   obtain ⟨A,X,C,hr,_,_,hX,_⟩:=cz hm hi.tofY hR hn
   obtain ⟨p,X',e,_⟩:=hX.fst
   rw [h2,e] at hr
   simp at hr
  ·exact ⟨s,by rw [fT];simp [hs],h⟩
theorem apart {x y:Int} (hx:0≤x) (hy:0≤y) (hxy:x≠y) {A X C B Y D:List It} (h:A++X++C=B++Y++D) (hX:z6 x X) (hY:z6 y Y):
 (∃M,B=A++X++M∧C=M++Y++D)∨(∃M,A=B++Y++M∧D=M++X++C):=by
 obtain ⟨p,X',OG,hp⟩:=hX.fst
 obtain ⟨q,Y',OH,hq⟩:=hY.fst
 have nX:q∉X:=fun h=>hX.M6 hxy hy q h hq
 have nY:p∉Y:=fun h=>hY.M6 (Ne.symm hxy) hx p h hp
 rw [show B++Y++D=B++(Y++D) by simp,List.append_eq_append_iff] at h
 rcases h with ⟨es,h1,h2⟩|⟨cs,h1,h2⟩
 ·exact .inl ⟨es,h1,by rw [h2];simp⟩
 ·match cs,h1,h2 with
  | [],h1,h2=>exact .inl ⟨[],by simpa using h1.symm,by simpa using h2.symm⟩
  |c::cs,h1,h2=>
   have OI:c=q:=by rw [OH] at h2;simp at h2;exact h2.1.symm
   rw [List.append_eq_append_iff] at h1
   rcases h1 with ⟨es,h3,h4⟩|⟨ds,h3,h4⟩
   ·exfalso;refine nX ?_
    rw [h4, ← OI];simp
   ·rw [h4,List.append_assoc,List.append_eq_append_iff] at h2
    rcases h2 with ⟨es,h5,h6⟩|⟨bs,h5,h6⟩
    ·exact .inr ⟨es,by rw [h3,h5];simp,by rw [h6];simp⟩
    ·match bs,h5,h6 with
     | [],h5,h6=>exact .inr ⟨[],by rw [h3,h5];simp,by simpa using h6.symm⟩
     |b::bs,h5,h6=>
      exfalso;refine nY ?_
      have OJ:b=p:=by rw [OG] at h6;simp at h6;exact h6.1.symm
      rw [h5, ← OJ];simp
theorem wj {g:Gr} (hm:aO g=true) {f:Fr} (hi:wh g f) {x y:Int} (hxy:x≠y) (yM:aH g f x=true) (th:aH g f y=true)
 {a b:List Int} (ha:a.Perm (dL g x)) (hb:b.Perm (dL g y)) {A X M Y D:List It} (hr:f.row=A++X++M++Y++D) (hX:z6 x X) (hY:z6 y Y)
 (cX:X.countP (jV x)=bC g x) (cY:Y.countP (jV y)=bC g y)
 (nA:eZ x A) (nC:eZ x (M++Y++D)) (nB:eZ y (A++X++M)) (nD:eZ y D):
 aH g (aB g f x a).2 y=true∧aH g (aB g f y b).2 x=true∧(aB g (aB g f x a).2 y b).2.row=(aB g (aB g f y b).2 x a).2.row∧
 (aB g f x a).1=(aB g (aB g f y b).2 x a).1∧(aB g f y b).1=(aB g (aB g f x a).2 y b).1:=by
 obtain ⟨x0,x1,x2⟩:=aR yM
 obtain ⟨y0,y1,y2⟩:=aR th
 have i1:=(jj hm hi yM ha).tofY
 have i2:=(jj hm hi th hb).tofY
 have ux:=og hm hi x2 th (fun i h=>ha.mem_iff.1 h)
 have uy:=og hm hi y2 yM (fun i h=>hb.mem_iff.1 h)
 have r1:f.row=A++X++(M++Y++D):=by rw [hr];simp
 have r2:f.row=(A++X++M)++Y++D:=by rw [hr]
 have e1:=jH (g:=g) a r1 nA nC hX
 have e2:=jH (g:=g) b r2 nB nD hY
 rw [e1] at i1 ⊢;rw [e2] at i2 ⊢
 have r3:A++aV g x a++(M++Y++D)=(A++aV g x a++M)++Y++D:=by simp
 have r4:A++X++M++aV g y b++D=A++X++(M++aV g y b++D):=by simp
 have n3:eZ y (A++aV g x a++M):=((nB.left.left).app ux).app nB.right
 have n4:eZ x (M++aV g y b++D):=(nC.left.left.app uy).app nC.right
 have e3:=jH (g:=g) (f:=⟨A++aV g x a++(M++Y++D),f.pl++ [x]⟩) b r3 n3 nD hY
 have e4:=jH (g:=g) (f:=⟨A++X++M++aV g y b++D,f.pl++ [y]⟩) a r4 nA n4 hX
 refine ⟨rM hm i1 y0 y1 ?_ r3 n3 nD hY cY,rM hm i2 x0 x1 ?_ r4 nA n4 hX cX, ?_, ?_, ?_⟩
 ·simp [y2,Ne.symm hxy]
 ·simp [x2,hxy]
 ·simp only [e3,e4];simp
 ·simp only [e4]
 ·simp only [e3]
theorem Ad {g:Gr} (hm:aO g=true) {f:Fr} (hi:wh g f) {x y:Int} (hxy:x≠y) (yM:aH g f x=true) (th:aH g f y=true)
 {a b:List Int} (ha:a.Perm (dL g x)) (hb:b.Perm (dL g y)) (nx:bC g x≠0) (ny:bC g y≠0):
 aH g (aB g f x a).2 y=true∧aH g (aB g f y b).2 x=true∧(aB g (aB g f x a).2 y b).2.row=(aB g (aB g f y b).2 x a).2.row∧
 (aB g f x a).1=(aB g (aB g f y b).2 x a).1∧(aB g f y b).1=(aB g (aB g f x a).2 y b).1:=by
 obtain ⟨A,X,C,hr,hA,hC,hX,cX⟩:=cz hm hi.tofY yM nx
 obtain ⟨B,Y,D,hr',hB,hD,hY,cY⟩:=cz hm hi.tofY th ny
 rcases apart (aR yM).1 (aR th).1 hxy (hr.symm.trans hr') hX hY with ⟨M,rfl,rfl⟩|⟨M,rfl,rfl⟩
 ·exact wj hm hi hxy yM th ha hb (by rw [hr];simp) hX hY cX cY hA hC hB hD
 ·obtain ⟨h1,h2,h3,h4,h5⟩:=wj hm hi (Ne.symm hxy) th yM hb ha (by rw [hr'];simp) hY hX cY cX hB hD hA hC
  exact ⟨h2,h1,h3.symm,h5,h4⟩
theorem kU {g:Gr} {y:Int} :y∈bB (·.2) g↔(0≤y∧y<g.n)∧bC g y=0:=by
 simp only [bB,gG,List.mem_map,List.mem_filter,List.mem_range,decide_eq_true_eq]
 have he:∀x:Nat,x<g.n.toNat→(((cD (·.2) g).getD x []).length=bC g (x:Int)):=by
  intro x hx
  have e:(cD (·.2) g).getD x []=aJ (·.2) g.es g.es.length (x:Int):=by
   simp [cD,List.getD_eq_getElem?_getD,List.getElem?_range hx,kf]
  rw [e];rfl
 constructor
 ·rintro ⟨x,⟨hx,h0⟩,rfl⟩
  refine ⟨by simp;omega,by rw [he x hx] at h0;exact h0⟩
 ·rintro ⟨⟨h1,h2⟩,h3⟩
  have e:((y.toNat:Nat):Int)=y:=by omega
  exact ⟨y.toNat,⟨by omega,by rw [he _ (by omega),e];exact h3⟩,e⟩
theorem mZ {g:Gr} (hc:(bH g).1=0) {x y:Int} (hx:0≤x∧x<g.n) (hy:0≤y∧y<g.n) (nx:bC g x=0) (ny:bC g y=0):x=y:=by
 have h1:(bB (·.2) g).length≤1:=by
  unfold bH fO at hc
  refine Nat.not_lt.1 fun h=> ?_
  split at hc
  ·cases hc
  split at hc
  ·cases hc
  split at hc
  ·cases hc
  split at hc
  ·cases hc
  cases hc
 have h2:=kU.2 ⟨hx,nx⟩
 have h3:=kU.2 ⟨hy,ny⟩
 match hb:bB (·.2) g with
 | []=>rw [hb] at h2;cases h2
 | [z]=>rw [hb,List.mem_singleton] at h2 h3;rw [h2,h3]
 |_::_::_=>rw [hb] at h1;simp at h1
theorem aC {g:Gr} (hc:(bH g).1=0):aO g=true:=by
 unfold bH fO at hc
 split at hc
 ·cases hc
 ·rename_i h;simpa using h
theorem wk {g:Gr} (hc:(bH g).1=0) {f:Fr} (hi:wh g f) {x y:Int} (hxy:x≠y) (yM:aH g f x=true) (th:aH g f y=true):bC g x≠0:=by
 intro nx
 have hm:=aC hc
 obtain ⟨x0,x1,x2⟩:=aR yM
 obtain ⟨y0,y1,y2⟩:=aR th
 rcases hi.src with ⟨h1,h2⟩|⟨s,hs,h⟩
 ·have ny:bC g y≠0:=fun ny=>hxy (mZ hc ⟨x0,x1⟩ ⟨y0,y1⟩ nx ny)
  obtain ⟨A,X,C,hr,_,_,hX,_⟩:=cz hm hi.tofY th ny
  obtain ⟨p,X',e,_⟩:=hX.fst
  rw [h2,e] at hr
  simp at hr
 ·exact x2 (mZ hc (hi.Fw s hs) ⟨x0,x1⟩ h nx ▸ hs)
theorem Ae {g:Gr} (hc:(bH g).1=0) {f:Fr} (hi:wh g f) {x y:Int} (hxy:x≠y) (yM:aH g f x=true) (th:aH g f y=true)
 {a b:List Int} (ha:a.Perm (dL g x)) (hb:b.Perm (dL g y)):
 aH g (aB g f x a).2 y=true∧aH g (aB g f y b).2 x=true∧(aB g (aB g f x a).2 y b).2.row=(aB g (aB g f y b).2 x a).2.row∧
 (aB g f x a).1=(aB g (aB g f y b).2 x a).1∧(aB g f y b).1=(aB g (aB g f x a).2 y b).1:=
 Ad (aC hc) hi hxy yM th ha hb (wk hc hi hxy yM th) (wk hc hi (Ne.symm hxy) th yM)
end Go.Ab
end
section
namespace Go.Ab
open Go.Proofs
attribute [local congr] ACall.congr
set_option maxRecDepth 10000
set_option maxHeartbeats 4000000
def yN (row:List It) (a b:Int):Nat→Int × Int
 |0=>(-1,0)
 |k+1=>if ((row.getD k (0,0,0)).2.2=a∨(row.getD k (0,0,0)).2.2=b)∧(row.getD k (0,0,0)).2.2≠(yN row a b k).1 then ((row.getD k (0,0,0)).2.2,(yN row a b k).2+1) else yN row a b k
end Go.Ab
end
section
namespace Go.Ab
open Go.Proofs
attribute [local congr] ACall.congr
set_option maxRecDepth 10000
set_option maxHeartbeats 4000000
def F7 (row:List It) (i:Nat):Int:=(row.getD i (0,0,0)).2.2
def L8 (row:List It) (i j:Nat):Bool:=decide (F7 row i≠ -1)&&decide (F7 row j≠ -1)&&decide (F7 row i≠F7 row j)&&decide (4≤(yN row (F7 row i) (F7 row j) row.length).2)
def M9 (row:List It):Bool:=(List.range row.length).any fun i=>(List.range row.length).any (L8 row i)
end Go.Ab
end
section
namespace Go.Ab
open Go.Proofs
attribute [local congr] ACall.congr
set_option maxRecDepth 10000
set_option maxHeartbeats 8000000
def T4 (row:List It) (a b c d:Nat):Prop:=0≤(row.getD a (0,0,0)).2.2∧0≤(row.getD b (0,0,0)).2.2∧(row.getD a (0,0,0)).2.2≠(row.getD b (0,0,0)).2.2∧(row.getD a (0,0,0)).2.2=(row.getD c (0,0,0)).2.2∧(row.getD b (0,0,0)).2.2=(row.getD d (0,0,0)).2.2
def OK (row:List It):Prop:=∃a b c d,a<b∧b<c∧c<d∧d<row.length∧T4 row a b c d
end Go.Ab
end
section
namespace Go.Ab
open Go.Proofs
set_option maxRecDepth 10000
theorem wm {g:Gr} {f f':Fr} (hr:f.row=f'.row) (hp:f.pl.Perm f'.pl) (x:Int):aH g f x=aH g f' x:=by
 unfold aH
 rw [hr]
 by_cases h:x<0∨g.n≤x∨x∈f.pl
 ·rw [if_pos h,if_pos (by rw [← hp.mem_iff];exact h)]
 ·have h':¬(x<0∨g.n≤x∨x∈f'.pl):=by rw [← hp.mem_iff];exact h
  rw [if_neg h,if_neg h']
theorem me:∀ {l m:List Int},l.Nodup→(∀i∈l,i∈m)→l.length≤m.length
 | [],_,_,_=>by simp
 |a::l,m,hn,hs=>by
  rw [List.nodup_cons] at hn
  have ha:=hs a (List.mem_cons_self ..)
  have:=me hn.2 (m:=m.erase a) fun i hi=>(List.mem_erase_of_ne (fun e:i=a=>hn.1 (e ▸ hi))).2 (hs i (List.mem_cons_of_mem _ hi))
  rw [List.length_erase_of_mem ha] at this
  have:=List.length_pos_of_mem ha
  rw [List.length_cons];omega
theorem jk {g:Gr} {f:Fr} (hi:fY g f) (hf:(f.pl.length:Int)=g.n) {x:Int} (hx:0≤x∧x<g.n):x∈f.pl:=by
 refine Decidable.byContradiction fun h=> ?_
 have h1:(x::f.pl).Nodup:=List.nodup_cons.2 ⟨h,hi.pl⟩
 have h2:((List.range g.n.toNat).map Int.ofNat).length=g.n.toNat:=by simp
 have h3:=me h1 (m:=(List.range g.n.toNat).map Int.ofNat) (fun y hy=>by
  rw [List.mem_map]
  have:0≤y∧y<g.n:=by
   rcases List.mem_cons.1 hy with h|h
   ·rw [h];exact hx
   ·exact hi.Fw y h
  exact ⟨y.toNat,List.mem_range.2 (by omega),by simp;omega⟩)
 rw [h2,List.length_cons] at h3
 omega
def Tg (a b:Int) (row:List It):Prop:=∃l:List It,l.Sublist row∧l.map (fun t=>t.2.2)= [a,b,a,b]
def Ca (a b:Int) (t:It):Bool:=decide (t.2.2=a)||decide (t.2.2=b)
theorem Tg.L9 {a b:Int} {row:List It} :Tg a b row↔Tg a b (row.filter (Ca a b)):=by
 constructor
 ·rintro ⟨l,h,e⟩
  refine ⟨l, ?_,e⟩
  have h1:=h.filter (Ca a b)
  rw [List.filter_eq_self.2] at h1
  ·exact h1
  ·intro t ht
   have:t.2.2∈l.map (fun t=>t.2.2):=List.mem_map.2 ⟨t,ht,rfl⟩
   rw [e] at this
   simp only [Ca,Bool.or_eq_true,decide_eq_true_eq]
   simp only [List.mem_cons,List.not_mem_nil,or_false] at this
   omega
 ·rintro ⟨l,h,e⟩
  exact ⟨l,h.trans List.filter_sublist,e⟩
theorem Tg.keep {a b x:Int} (ha:0≤a) (hb:0≤b) (Ef:a≠x) (mo:b≠x) {A X C u:List It} (hX:∀t∈X,t.2.2=x∨t.2.2= -1) (h:Tg a b (A++X++C)):Tg a b (A++u++C):=by
 rw [Tg.L9] at h ⊢
 obtain ⟨l,h,e⟩:=h
 refine ⟨l,h.trans ?_,e⟩
 rw [List.filter_append,List.filter_append,List.filter_append,List.filter_append]
 have:X.filter (Ca a b)= []:=List.filter_eq_nil_iff.2 fun t ht=>by
  simp only [Ca,Bool.or_eq_true,decide_eq_true_eq]
  rcases hX t ht with h|h<;>omega
 rw [this,List.append_nil]
 exact List.Sublist.append_right (List.sublist_append_left _ _) _
theorem Tg.not {a b x:Int} (hab:a≠b) (hb0:0≤b) (ha0:0≤a) (hx:x=a∨x=b) {A X C:List It} (hA:eZ x A) (hC:eZ x C) (hX:∀t∈X,t.2.2=x∨t.2.2= -1):¬Tg a b (A++X++C):=by
 rintro ⟨l,h,e⟩
 rw [List.append_assoc,List.sublist_append_iff] at h
 obtain ⟨l1,l',rfl,h1,h'⟩:=h
 rw [List.sublist_append_iff] at h'
 obtain ⟨l2,l3,rfl,h2,h3⟩:=h'
 have k1:∀t∈l1,t.2.2≠x:=fun t ht=>hA t (h1.subset ht)
 have k2:∀t∈l2,t.2.2=x∨t.2.2= -1:=fun t ht=>hX t (h2.subset ht)
 have k3:∀t∈l3,t.2.2≠x:=fun t ht=>hC t (h3.subset ht)
 clear h1 h2 h3
 match l1,k1,e with
 |t1::t2::_,k1,e=>
  simp only [List.cons_append,List.map_cons,List.cons.injEq] at e
  rcases hx with h|h
  ·exact k1 t1 (by simp) (by omega)
  ·exact k1 t2 (by simp) (by omega)
 | [t1],k1,e=>
   simp only [List.cons_append,List.nil_append,List.map_cons,List.cons.injEq] at e
   rcases hx with h|h
   ·exact k1 t1 (by simp) (by omega)
   ·match l2,k2,e with
    | [],_,e=>
      match l3,k3,e with
      | [s1,s2,s3],k3,e=>
        simp only [List.nil_append,List.map_cons,List.map_nil,List.cons.injEq,and_true] at e
        exact k3 s1 (by simp) (by omega)
      | [],_,e=>simp at e
      | [_],_,e=>simp at e
      | [_,_],_,e=>simp at e
      |_::_::_::_::_,_,e=>simp at e
    |s1::s2::_,k2,e=>
     simp only [List.cons_append,List.map_cons,List.cons.injEq] at e
     rcases k2 s2 (by simp) with h|h<;>omega
    | [s1],k2,e=>
      match l3,k3,e with
      | [u1,u2],k3,e=>
        simp only [List.cons_append,List.nil_append,List.map_cons,List.map_nil,List.cons.injEq,and_true] at e
        exact k3 u2 (by simp) (by omega)
      | [],_,e=>simp at e
      | [_],_,e=>simp at e
      |_::_::_::_,_,e=>simp at e
 | [],_,e=>
   simp only [List.nil_append] at e
   match l2,k2,e with
   | [],_,e=>
     match l3,k3,e with
     | [],_,e=>simp at e
     | [_],_,e=>simp at e
     |s1::s2::_,k3,e=>
      simp only [List.nil_append,List.map_cons,List.cons.injEq] at e
      rcases hx with h|h
      ·exact k3 s1 (by simp) (by omega)
      ·exact k3 s2 (by simp) (by omega)
   |s1::s2::_,k2,e=>
    simp only [List.cons_append,List.map_cons,List.cons.injEq] at e
    have q1:=k2 s1 (by simp)
    have q2:=k2 s2 (by simp)
    omega
   | [s1],k2,e=>
     match l3,k3,e with
     | [],_,e=>simp at e
     | [_],_,e=>simp at e
     | [_,_],_,e=>simp at e
     |u1::u2::u3::_,k3,e=>
      simp only [List.cons_append,List.nil_append,List.map_cons,List.cons.injEq] at e
      have q1:=k2 s1 (by simp)
      exact k3 u2 (by simp) (by omega)
end Go.Ab
end
section
namespace Go.Ab
open Go.Proofs
set_option maxRecDepth 10000
theorem Af {row:List It} {k:Nat} (h:k<row.length):row.take (k+1)=row.take k++ [row.getD k (0,0,0)]:=by
 rw [List.take_add_one,List.getD_eq_getElem?_getD,List.getElem?_eq_getElem h];rfl
theorem Cb {row:List It} {i j:Nat} (h:i≤j):(row.take i).Sublist (row.take j):=by
 rw [show row.take i=(row.take j).take i by rw [List.take_take,Nat.min_eq_left h]]
 exact List.take_sublist _ _
theorem rO {row l:List It} {i j:Nat} (h:l.Sublist (row.take i)) (hij:i≤j) (hj:j<row.length):(l++ [row.getD j (0,0,0)]).Sublist (row.take (j+1)):=by
 rw [Af hj]
 exact List.Sublist.append (h.trans (Cb hij)) (List.Sublist.refl _)
def Ma (a b:Int):List It→Prop
 | []=>True
 | [t]=>t.2.2=a∨t.2.2=b
 |s::t::l=>(s.2.2=a∨s.2.2=b)∧s.2.2≠t.2.2∧Ma a b (t::l)
end Go.Ab
end
section
namespace Go.Ab
open Go.Proofs
set_option maxRecDepth 10000
structure Pl where
 ord:List Int
 outs:List (List Int)
def aq (p:Pl) (k:Nat):Int:=p.ord.getD k 0
def bA (p:Pl) (x:Int):List Int:=p.outs.getD x.toNat []
def bN (g:Gr) (p:Pl):Prop:=p.outs.length=g.n.toNat∧p.ord.Perm (iB g.n.toNat)∧∀x:Nat,x<g.n.toNat→(p.outs.getD x []).Perm (dL g x)
def fK (g:Gr) (p:Pl):Nat→Fr
 |0=>⟨[], []⟩
 |k+1=>(aB g (fK g p k) (aq p k) (bA p (aq p k))).2
def ff (g:Gr) (p:Pl) (k:Nat):List It:=(aB g (fK g p k) (aq p k) (bA p (aq p k))).1.1
def AA (g:Gr) (p:Pl) (k:Nat):Bool:=aH g (fK g p k) (aq p k)
def fD (g:Gr) (p:Pl):Nat→List (List It)
 |0=>List.replicate g.n.toNat []
 |k+1=>(fD g p k).set (aq p k).toNat (ff g p k)
def jl (g:Gr) (p:Pl):Nat→Option Nat
 |0=>none
 |k+1=>match jl g p k with
  |some i=>some i
  |none=>if AA g p k=true then none else some k
def cj (g:Gr) (p:Pl):Prop:=(bH g).1=0∧bN g p∧∀k,k<g.n.toNat→AA g p k=true
theorem fE {g:Gr} {p:Pl} :∀ {k:Nat},jl g p k=none↔∀j,j<k→AA g p j=true
 |0=>by simp [jl]
 |k+1=>by
  rw [jl]
  cases h:jl g p k with
  |some i=>
   simp only [reduceCtorEq,false_iff]
   intro h2
   rw [fE.2 fun j hj=>h2 j (by omega)] at h
   cases h
  |none=>
   have ih:=fE.1 h
   simp only
   constructor
   ·intro h2 j hj
    by_cases hjk:j=k
    ·subst hjk
     refine Decidable.byContradiction fun hn=> ?_
     rw [if_neg hn] at h2;cases h2
    ·exact ih j (by omega)
   ·intro h2
    rw [if_pos (h2 k (by omega))]
theorem rP {g:Gr} {p:Pl} {i:Nat} :∀ {k:Nat},jl g p k=some i↔i<k∧AA g p i=false∧∀j,j<i→AA g p j=true
 |0=>by simp [jl]
 |k+1=>by
  rw [jl]
  cases h:jl g p k with
  |some i'=>
   have ih:=(rP (g:=g) (p:=p)).1 h
   simp only [Option.some.injEq]
   constructor
   ·rintro rfl
    exact ⟨by omega,ih.2⟩
   ·rintro ⟨h1,h2,h3⟩
    rcases Nat.lt_trichotomy i' i with h4|h4|h4
    ·rw [h3 i' h4] at ih;simp at ih
    ·exact h4
    ·rw [ih.2.2 i h4] at h2;cases h2
  |none=>
   have ih:=fE.1 h
   simp only
   constructor
   ·intro h2
    by_cases hk:AA g p k=true
    ·rw [if_pos hk] at h2;cases h2
    ·rw [if_neg hk] at h2
     cases h2
     exact ⟨by omega,by simpa using hk,ih⟩
   ·rintro ⟨h1,h2,h3⟩
    have:i=k:=by
     by_cases h4:i<k
     ·rw [ih i h4] at h2;cases h2
     ·omega
    subst this
    rw [if_neg (by rw [h2];simp)]
theorem m9 {n:Nat} :(iB n).length=n:=by simp [iB]
theorem bW {g:Gr} {p:Pl} (h:bN g p):p.ord.length=g.n.toNat:=by rw [h.2.1.length_eq,m9]
theorem rQ {g:Gr} {p:Pl} (h:bN g p):p.ord.Nodup:=h.2.1.nodup_iff.2 jE
theorem aP {g:Gr} {p:Pl} (h:bN g p) {k:Nat} (hk:k<g.n.toNat):0≤aq p k∧aq p k<g.n:=by
 have h1:aq p k∈p.ord:=aY (by rw [bW h];exact hk)
 have:=dB.1 (h.2.1.mem_iff.1 h1)
 omega
theorem dh {g:Gr} {p:Pl} (h:bN g p) {i j:Nat} (hi:i<g.n.toNat) (hj:j<g.n.toNat) (e:aq p i=aq p j):i=j:=
 qY (rQ h) (by rw [bW h];exact hi) (by rw [bW h];exact hj) e
theorem fI {g:Gr} {p:Pl} (h:bN g p) {x:Int} (h0:0≤x) (h1:x<g.n):∃k,k<g.n.toNat∧aq p k=x:=by
 have:x∈p.ord:=h.2.1.mem_iff.2 (dB.2 (by omega))
 obtain ⟨k,hk,e⟩:=List.mem_iff_getElem.1 this
 refine ⟨k,by rw [← bW h];exact hk, ?_⟩
 rw [aq,List.getD_eq_getElem?_getD,List.getElem?_eq_getElem hk,Option.getD_some,e]
theorem bF {g:Gr} {p:Pl} (h:bN g p) {x:Int} (h0:0≤x) (h1:x<g.n):(bA p x).Perm (dL g x):=by
 have:=h.2.2 x.toNat (by omega)
 rwa [show ((x.toNat:Nat):Int)=x by omega] at this
theorem kV {g:Gr} {p:Pl} (h:bN g p) {x:Int} (h0:0≤x) (h1:x<g.n):(bA p x).length≤g.es.length:=by
 rw [(bF h h0 h1).length_eq];exact B6
theorem di {g:Gr} (hm:aO g=true) {p:Pl} (h:bN g p):∀ {k:Nat},k≤g.n.toNat→(∀j,j<k→AA g p j=true)→wh g (fK g p k)∧(fK g p k).pl=p.ord.take k∧(fK g p k).row.length≤k*(g.es.length+1)
 |0,_,_=>⟨yK g,by simp [fK],by simp [fK]⟩
 |k+1,hk,hok=>by
  obtain ⟨h1,h2,h3⟩:=di hm h (k:=k) (by omega) fun j hj=>hok j (by omega)
  obtain ⟨x0,x1⟩:=aP h (k:=k) (by omega)
  have hl:=z1 (g:=g) (f:=fK g p k) (x:=aq p k) (o:=bA p (aq p k))
  have um:=kV h x0 x1
  refine ⟨jj hm h1 (hok k (by omega)) (bF h x0 x1), ?_, ?_⟩
  ·show (fK g p k).pl++ [aq p k]=_
   rw [h2,List.take_add_one,List.getElem?_eq_getElem (by rw [bW h];omega),aq,List.getD_eq_getElem?_getD,List.getElem?_eq_getElem (by rw [bW h];omega)]
   rfl
  ·show (aB _ _ _ _).2.row.length≤_
   rw [Nat.add_mul];omega
theorem Cc {g:Gr} {p:Pl} (h:bN g p) {k:Nat} (hk:k<g.n.toNat) (hR:AA g p k=true):gr g (fK g p k) (aq p k) (bA p (aq p k))=aB g (fK g p k) (aq p k) (bA p (aq p k)):=by
 have hp:=bF h (aP h hk).1 (aP h hk).2
 unfold gr
 have JV:aH g (fK g p k) (aq p k)=true:=hR
 rw [if_neg (by rw [JV];simp),if_neg]
 rintro (h|⟨i,h1,h2⟩)
 ·exact h hp.length_eq
 ·exact h2 (hp.mem_iff.2 h1)
theorem Cd {g:Gr} {p:Pl} {k:Nat} (hR:AA g p k=false):gr g (fK g p k) (aq p k) (bA p (aq p k))=(([],3),fK g p k):=if_pos hR
theorem nc {g:Gr} {p:Pl} :∀ {k:Nat},(fD g p k).length=g.n.toNat
 |0=>by simp [fD]
 |k+1=>by rw [fD,List.length_set,nc]
theorem Ag {α:Type} {l:List α} {i j:Nat} {a d:α} (hi:i<l.length):(l.set i a).getD j d=if j=i then a else l.getD j d:=by
 rw [List.getD_eq_getElem?_getD,List.getElem?_set,List.getD_eq_getElem?_getD]
 by_cases h:i=j
 ·subst h;simp [hi]
 ·rw [if_neg h,if_neg (Ne.symm h)]
theorem ng {g:Gr} {p:Pl} (h:bN g p):∀ {k:Nat},k≤g.n.toNat→∀ {i:Nat},i<k→(fD g p k).getD (aq p i).toNat []=ff g p i
 |0,_,i,hi=>by omega
 |k+1,hk,i,hi=>by
  have hm:=aP h (k:=k) (by omega)
  rw [fD,Ag (by rw [nc];omega)]
  by_cases e:i=k
  ·subst e;rw [if_pos rfl]
  ·have MR:=aP h (k:=i) (by omega)
   rw [if_neg (fun h2=>e (dh h (by omega) (by omega) (by omega)))]
   exact ng h (by omega) (by omega)
theorem nh {l m:List Int} (h:fX l=m):l.Perm m:=by
 rw [← h];exact (List.mergeSort_perm l _).symm
theorem wo {n:Nat} :(iB n).Pairwise (· ≤ ·):=by
 unfold iB
 refine List.Pairwise.map _ (fun a b (h:a<b)=> ?_) List.pairwise_lt_range
 show (a:Int)≤b
 omega
theorem DO {g:Gr} (hm:aO g=true) {p:Pl} :(p.outs.length=g.n.toNat∧p.ord.length=g.n.toNat∧(∀i:Nat,i<(fX p.ord).length→(fX p.ord).getD i 0=i)∧∀x:Nat,x<p.outs.length→fX (p.outs.getD x [])=bf (·.1) g x)↔bN g p:=by
 constructor
 ·rintro ⟨h1,h2,h3,h4⟩
  refine ⟨h1,nh ?_,fun x hx=> ?_⟩
  ·refine List.ext_getElem (by rw [ec,h2,m9]) fun i h5 h6=> ?_
   have:=h3 i h5
   rw [List.getD_eq_getElem?_getD,List.getElem?_eq_getElem h5,Option.getD_some] at this
   rw [this];simp [iB]
  ·have:=h4 x (by omega)
   rw [eC (by omega) (by omega)] at this
   exact nh this
 ·intro h
  refine ⟨h.1,bW h, ?_,fun x hx=> ?_⟩
  ·rw [rL h.2.1 wo]
   intro i hi
   rw [m9] at hi
   simp [iB,List.getD_eq_getElem?_getD,List.getElem?_range hi]
  ·rw [eC (by omega) (by have:=h.1;omega)]
   exact rL (h.2.2 x (by rw [← h.1];exact hx)) o4
theorem DP {g:Gr} (hm:aO g=true) {p:Pl} :(jc p.ord g.n=true∧p.outs.length=g.n.toNat∧(∀x:Nat,x<p.outs.length→∀i∈p.outs.getD x [],i∈dL g x)∧p.outs.flatten.Nodup∧∀i:Nat,i<g.es.length→(i:Int)∈p.outs.flatten)↔bN g p:=by
 have hn:=aW hm
 constructor
 ·rintro ⟨h1,h2,h3,h4,h5⟩
  refine ⟨h2, ?_,fun x hx=> ?_⟩
  ·obtain ⟨e1,e2⟩:=bM.1 h1
   exact pT jE e2 (by rw [m9];omega)
  ·have hxl:x<p.outs.length:=by omega
   have hmem:p.outs.getD x []∈p.outs:=aY hxl
   have cC:(p.outs.getD x []).Nodup:=by
    rw [List.Nodup,List.pairwise_flatten] at h4
    exact h4.1 _ hmem
   refine (List.perm_ext_iff_of_nodup cC cQ).2 fun i=>⟨h3 x hxl i,fun hi=> ?_⟩
   obtain ⟨k,rfl,hk,ht⟩:=jh hi
   obtain ⟨l,hl,bD⟩:=List.mem_flatten.1 (h5 k hk)
   obtain ⟨y,hy,rfl⟩:=List.mem_iff_getElem.1 hl
   have e:p.outs.getD y []=p.outs[y]:=by rw [List.getD_eq_getElem?_getD,List.getElem?_eq_getElem hy];rfl
   rw [← e] at bD
   obtain ⟨k',e1,_,e2⟩:=jh (h3 y hy _ bD)
   have:k=k':=by omega
   subst this
   have:x=y:=by omega
   subst this
   exact bD
 ·intro h
  refine ⟨bM.2 ⟨?_,fun x hx=>h.2.1.mem_iff.2 hx⟩,h.1,fun x hx i hi=>(h.2.2 x (by rw [← h.1];exact hx)).mem_iff.1 hi, ?_,fun i hi=> ?_⟩
  ·have:=bW h;omega
  ·rw [List.Nodup,List.pairwise_flatten]
   constructor
   ·intro l hl
    obtain ⟨x,hx,rfl⟩:=List.mem_iff_getElem.1 hl
    have e:p.outs.getD x []=p.outs[x]:=by rw [List.getD_eq_getElem?_getD,List.getElem?_eq_getElem hx];rfl
    rw [← e]
    exact (h.2.2 x (by rw [← h.1];exact hx)).nodup_iff.2 cQ
   ·refine List.pairwise_iff_getElem.2 fun x y hx hy hxy a ha b hb e=> ?_
    subst e
    have ex:p.outs.getD x []=p.outs[x]:=by rw [List.getD_eq_getElem?_getD,List.getElem?_eq_getElem hx];rfl
    have ey:p.outs.getD y []=p.outs[y]:=by rw [List.getD_eq_getElem?_getD,List.getElem?_eq_getElem hy];rfl
    rw [← ex] at ha
    rw [← ey] at hb
    obtain ⟨k,e1,_,e2⟩:=jh ((h.2.2 x (by rw [← h.1];exact hx)).mem_iff.1 ha)
    obtain ⟨k',e3,_,e4⟩:=jh ((h.2.2 y (by rw [← h.1];exact hy)).mem_iff.1 hb)
    have:k=k':=by omega
    subst this
    omega
  ·have ht:=(c9 hm hi).1
   refine List.mem_flatten.2 ⟨p.outs.getD (tl g i).toNat [],aY (by rw [h.1];have:0≤tl g i∧tl g i<g.n:=ht;omega), ?_⟩
   have:0≤tl g i∧tl g i<g.n:=ht
   refine (h.2.2 _ (by omega)).mem_iff.2 ?_
   simp only [dL,aJ,List.mem_map,List.mem_filter,List.mem_range,decide_eq_true_eq]
   exact ⟨i,⟨hi,by show tl g i=_;omega⟩,rfl⟩
end Go.Ab
end
section
namespace Go.Ab
open Go.Proofs
set_option maxRecDepth 10000
def tj (g:Gr) (p:Pl) (f:Fr) (x:Int):Fr:=(aB g f x (bA p x)).2
def I7 (g:Gr) (p:Pl):Nat→Fr→Prop
 |0,f=>(f.pl.length:Int)=g.n
 |m+1,f=>∃x,aH g f x=true∧I7 g p m (tj g p f x)
def I8 (rev:Bool) (l:List It):List It:=if rev=true then l.reverse else l
def Ce (g:Gr) (f:Fr) (rev:Bool):Int:=match (I8 rev f.row).find? (fun t=>aH g f t.2.2) with
 |some t=>t.2.2
 |none=>(Fv g f).headD (-1)
def yO (g:Gr) (p:Pl) (rev:Bool):Nat→Fr
 |0=>⟨[], []⟩
 |k+1=>tj g p (yO g p rev k) (Ce g (yO g p rev k) rev)
def Cf (g:Gr) (p:Pl) (rev:Bool):Nat→List Int
 |0=>List.replicate g.n.toNat 0
 |k+1=>(Cf g p rev k).set (Ce g (yO g p rev k) rev).toNat (k:Int)
def OL (g:Gr) (p:Pl) (rev:Bool):List Int:=(List.range g.n.toNat).map fun k=>Ce g (yO g p rev k) rev
end Go.Ab
end
section
namespace Go.Ab
open Go.Proofs
set_option maxRecDepth 10000
def OM (f:Fr):Fr:=⟨f.row.reverse,f.pl⟩
def ON (p:Pl):Pl:=⟨p.ord,p.outs.map List.reverse⟩
theorem eZ.rev {x:Int} {l:List It} (h:eZ x l):eZ x l.reverse:=fun t ht=>h t (List.mem_reverse.1 ht)
theorem z6.rev {x:Int} {X:List It} (h:z6 x X):z6 x X.reverse:=
 ⟨by obtain ⟨X',q,h1,h2⟩:=h.CY;exact ⟨q,X'.reverse,by simp [h1],h2⟩,by obtain ⟨p,X',h1,h2⟩:=h.fst;exact ⟨X'.reverse,p,by simp [h1],h2⟩,fun t ht=>h.al t (List.mem_reverse.1 ht)⟩
end Go.Ab
end
section
namespace Go.Ab
open Go.Proofs
set_option maxRecDepth 10000
def loose (l:List It):List Int:=(l.filter fun t=>decide (t.1<0)).map fun t=>t.2.1
theorem tq {a b:List It} :loose (a++b)=loose a++loose b:=by simp [loose]
def I9 (g:Gr) (p:Pl):Nat→List Edge
 |0=> []
 |k+1=>I9 g p k++(loose (ff g p k)).map fun v=>(v,aq p k)
def ku (g:Gr) (p:Pl):List It:=(fK g p g.n.toNat).row
def newL (g:Gr) (p:Pl):List Edge:=if 1<(ku g p).length then (loose (ku g p)).map fun v=>(v,g.n) else []
def Ja (g:Gr) (p:Pl):List Edge:=I9 g p g.n.toNat++newL g p
def Cg (g:Gr) (p:Pl):Gr:=⟨if 1<(ku g p).length then g.n+1 else g.n,g.es++Ja g p⟩
def Jb:Nat→List Edge→List (List Int)→List (List Int)
 |_, [],O=>O
 |m,e::N,O=>Jb (m+1) N (O.set e.1.toNat [(m:Int)])
def Mb (g:Gr) (p:Pl):Pl:=⟨if 1<(ku g p).length then p.ord++ [g.n] else p.ord,Jb g.es.length (Ja g p) (if 1<(ku g p).length then p.outs++ [[]] else p.outs)⟩
def OO (g:Gr) (p:Pl) (x:Gr):List (List Int):=(List.range x.n.toNat).map fun v=>if 0<(p.outs.getD v []).length then p.outs.getD v [] else dL x (v:Int)
theorem ni {g:Gr} {p:Pl} (h:bN g p) {v:Int} (h0:0≤v) (h1:v<g.n):dL g v= []↔bA p v= []:=by
 have hp:=bF h h0 h1
 constructor
 ·intro e;rw [e] at hp;exact hp.eq_nil
 ·intro e;rw [e] at hp;exact hp.symm.eq_nil
end Go.Ab
end
section
namespace Go.Ab
open Go.Proofs
set_option maxRecDepth 10000
abbrev Act:=Int × List Int
def rA (a:Act):List D:= [.sc (.int .i64 a.1),sI a.2]
def sA (as':List Act):D:= .sl 2 (as'.map rA)
attribute [go_sem] sA
def Jc (g:Gr) (Fy:List Act):Nat→Fr
 |0=>⟨[], []⟩
 |k+1=>(gr g (Jc g Fy k) (Fy.getD k (0, [])).1 (Fy.getD k (0, [])).2).2
theorem Jd {g:Gr} {f:Fr} (hi:fY g f):(f.pl.length:Int)≤g.n∨f.pl= []:=by
 by_cases h:f.pl= []
 ·exact .inr h
 ·left
  obtain ⟨y,hy⟩:=List.exists_mem_of_ne_nil _ h
  have:=hi.Fw y hy
  have h3:=me hi.pl (m:=(List.range g.n.toNat).map Int.ofNat) (fun y hy=>by
   rw [List.mem_map]
   have:=hi.Fw y hy
   exact ⟨y.toNat,List.mem_range.2 (by omega),by simp;omega⟩)
  simp at h3
  omega
theorem wq (g:Gr) (hm:aO g=true) (f:Fr) (hi:wh g f) (x:Int) (outs:List Int) (hr:f.row.length≤300000) (hp:f.pl.length≤100000) (ho:outs.length≤17592186043904):
 Spec Tryz.prog 86 (Args [.ptr 10000 0,eN x, .d (sI outs)]) (gT g f) (.tup [.d (sT (gr g f x outs).1.1),eN (gr g f x outs).1.2]) (rD g (gr g f x outs).2):=by
 rw [← B7 hm hi.tofY]
 exact xT g hm f x outs hr hp ho
end Go.Ab
end
section
namespace Go.Ab
open Go.Proofs
attribute [local congr] ACall.congr
set_option maxRecDepth 10000
set_option maxHeartbeats 4000000
def ePl (p:Pl):AV:= .agg [.d (sI p.ord), .d (.sl 1 (vI p.outs))]
attribute [go_sem] ePl
structure wu (p:Pl):Prop where
 ord:p.ord.length≤17592186043904
 outs:p.outs.length≤9223372036854775807
 each:∀l∈p.outs,l.length≤17592186043904
theorem Ch (g:Gr) (hm:aO g=true) (p:Pl) (hp:wu p) (res:Bool) (hr:res=true↔bN g p):Spec Tryz.prog 85 (Args [.d (vw g),ePl p]) [] (eB res) []:=by
 rw [← DO hm] at hr
 have hn:=aW hm
 have ho:=hp.ord
 have JH:=hp.outs
 by_cases h1:p.outs.length=g.n.toNat∧p.ord.length=g.n.toNat
 rotate_left
 ·have hres:res=false:=by
   rw [← Bool.not_eq_true,hr]
   rintro ⟨h2,h3,_⟩
   exact h1 ⟨h2,h3⟩
  subst hres
  by_cases h2:(p.outs.length:Int)=g.n
  ·have au:decide ((p.outs.length:Int)=g.n)=true:=decide_eq_true h2
   have an:decide ((p.ord.length:Int)=g.n)=false:=decide_eq_false fun h3=>h1 ⟨by omega,by omega⟩
   (refine Spec.intro (C:=T.cfg [] []) (rs:= [.t 4]) (T.ak _ _) Tryz.func85 rfl rfl Tryz.ntmps85 Tryz.results85 (by simp [AObj.isNest]) (by simp [AObj.isNest]) (by kernel_rfl) ?_;intro X hX hP hC aK aL vals hA;refine ⟨_,by simp,hA, ?_⟩;have af:X.P.follows .mixedOrders=true:=(by rw [hP];exact T.mixed);clear aK aL)
   repeat' (first|fail|((first|((with_reducible (first|apply oA|apply oB));exact rfl;intro K hK)|(refine hK _ ?_;clear hK K)|((with_reducible (first|apply oG|apply oH));iterate 3 exact rfl)|((with_reducible apply oI);(iterate 2 exact rfl);intro K hK)|(with_reducible (first|apply wI|apply wJ|apply wK)));try simp only [go_sem,simprocAttr,ah,au,an])|fail|(with_reducible (first|apply oC|apply oJ|exact oK|apply wA|apply wB|apply wC hX hC|apply wD hX hC|apply wE hX hC af|apply wF hX hC af|apply wG|apply wH|apply And.intro))|((with_reducible refine oD ?_ ?_);first|fail|kernel_rfl)|((with_reducible (first|apply oE|apply oF));(iterate 3 exact rfl);all_goals (intro h;first|(exact absurd h (by decide))|((try simp only [go_sem,simprocAttr,ah,au,an] at h);(try with_reducible intro K hK);simp only [go_sem,simprocAttr,ah,au,an])))|((first|((with_reducible apply wL);exact rfl)|((with_reducible apply wM);exact rfl));all_goals (try ((with_reducible intro h);first|(exact absurd h (by decide))|(try simp only [go_sem,simprocAttr,ah,au,an] at h))))|omega|((first|fail);try simp only [go_sem,simprocAttr,ah,au,an])|(intro h))
  ·have au:decide ((p.outs.length:Int)=g.n)=false:=decide_eq_false h2
   (refine Spec.intro (C:=T.cfg [] []) (rs:= [.t 4]) (T.ak _ _) Tryz.func85 rfl rfl Tryz.ntmps85 Tryz.results85 (by simp [AObj.isNest]) (by simp [AObj.isNest]) (by kernel_rfl) ?_;intro X hX hP hC aK aL vals hA;refine ⟨_,by simp,hA, ?_⟩;have af:X.P.follows .mixedOrders=true:=(by rw [hP];exact T.mixed);clear aK aL)
   repeat' (first|fail|((first|((with_reducible (first|apply oA|apply oB));exact rfl;intro K hK)|(refine hK _ ?_;clear hK K)|((with_reducible (first|apply oG|apply oH));iterate 3 exact rfl)|((with_reducible apply oI);(iterate 2 exact rfl);intro K hK)|(with_reducible (first|apply wI|apply wJ|apply wK)));try simp only [go_sem,simprocAttr,ah,au])|fail|(with_reducible (first|apply oC|apply oJ|exact oK|apply wA|apply wB|apply wC hX hC|apply wD hX hC|apply wE hX hC af|apply wF hX hC af|apply wG|apply wH|apply And.intro))|((with_reducible refine oD ?_ ?_);first|fail|kernel_rfl)|((with_reducible (first|apply oE|apply oF));(iterate 3 exact rfl);all_goals (intro h;first|(exact absurd h (by decide))|((try simp only [go_sem,simprocAttr,ah,au] at h);(try with_reducible intro K hK);simp only [go_sem,simprocAttr,ah,au])))|((first|((with_reducible apply wL);exact rfl)|((with_reducible apply wM);exact rfl));all_goals (try ((with_reducible intro h);first|(exact absurd h (by decide))|(try simp only [go_sem,simprocAttr,ah,au] at h))))|omega|((first|fail);try simp only [go_sem,simprocAttr,ah,au])|(intro h))
 have au:decide ((p.outs.length:Int)=g.n)=true:=decide_eq_true (by omega)
 have an:decide ((p.ord.length:Int)=g.n)=true:=decide_eq_true (by omega)
 have CS:=ec p.ord
 (refine Spec.intro (C:=T.cfg [] []) (rs:= [.t 4]) (T.ak _ _) Tryz.func85 rfl rfl Tryz.ntmps85 Tryz.results85 (by simp [AObj.isNest]) (by simp [AObj.isNest]) (by kernel_rfl) ?_;intro X hX hP hC aK aL vals hA;refine ⟨_,by simp,hA, ?_⟩;have af:X.P.follows .mixedOrders=true:=(by rw [hP];exact T.mixed);clear aK aL)
 repeat' (first|fail|((first|((with_reducible (first|apply oA|apply oB));exact rfl;intro K hK)|(refine hK _ ?_;clear hK K)|((with_reducible (first|apply oG|apply oH));iterate 3 exact rfl)|((with_reducible apply oI);(iterate 2 exact rfl);intro K hK)|(with_reducible (first|apply wI|apply wJ|apply wK)));try simp only [go_sem,simprocAttr,ah,au,an])|fail|(with_reducible (first|apply oC|apply oJ|exact oK|apply wA|apply wB|apply wC hX hC|apply wD hX hC|apply wE hX hC af|apply wF hX hC af|apply wG|apply wH|apply And.intro))|((with_reducible refine oD ?_ ?_);first|fail|kernel_rfl)|((with_reducible (first|apply oE|apply oF));(iterate 3 exact rfl);all_goals (intro h;first|(exact absurd h (by decide))|((try simp only [go_sem,simprocAttr,ah,au,an] at h);(try with_reducible intro K hK);simp only [go_sem,simprocAttr,ah,au,an])))|((first|((with_reducible apply wL);exact rfl)|((with_reducible apply wM);exact rfl));all_goals (try ((with_reducible intro h);first|(exact absurd h (by decide))|(try simp only [go_sem,simprocAttr,ah,au,an] at h))))|omega|((first|first|(refine az hX hC hP [(10000,31)] (bZ p.ord) rfl rfl rfl ?_ ?_ ?_ ?_ ?_ ?_ ?_ ?_ ?_ ?_ ?_ ?_ ?_ ?_;(focus (simp only [go_sem,simprocAttr,ah,au,an];done));(iterate 12 (focus (simp [go_sem,simprocAttr,ah,au,an];done)));simp only [go_sem,simprocAttr,ah,au,an,List.map_cons,List.map_nil])|(refine cm hX hC hP [(10000,31)] (bP p.ord ho) rfl rfl rfl ?_ ?_ ?_ ?_ ?_ ?_ rfl rfl ?_ ?_;(focus (simp only [go_sem,simprocAttr,ah,au,an];done));(iterate 6 (focus (simp [go_sem,simprocAttr,ah,au,an];done)));simp only [go_sem,simprocAttr,ah,au,an,List.map_cons,List.map_nil]));try simp only [go_sem,simprocAttr,ah,au,an])|(intro h))
 clear au an
 refine aj (fun k:Nat=>k≤(fX p.ord).length∧∀i:Nat,i<k→(fX p.ord).getD i 0=i) (fun k=>⟨[(0, .d (vw g)),(3, .ptr 3 0),(32, .d (sI (fX p.ord))),(33,eN (fX p.ord).length),(34,eN k)], [(3, .box [.d (sI p.ord), .d (.sl 1 (vI p.outs))])]⟩) (fun k=>(fX p.ord).length - k) 0 (by simp) ?_ ?_
 ·(refine Le.of ?_ ?_<;>simp [go_sem,simprocAttr,ah])
 rintro k ⟨hk,hg⟩
 rcases Nat.lt_or_ge k (fX p.ord).length with hlt|hge
 ·have hb:decide ((k:Int)<((fX p.ord).length:Int))=true:=decide_eq_true (by omega)
  by_cases he:(fX p.ord).getD k 0=k
  ·have an:decide ((fX p.ord).getD k 0=(k:Int))=true:=decide_eq_true he
   repeat' (first|fail|((first|((with_reducible (first|apply oA|apply oB));exact rfl;intro K hK)|(refine hK _ ?_;clear hK K)|((with_reducible (first|apply oG|apply oH));iterate 3 exact rfl)|((with_reducible apply oI);(iterate 2 exact rfl);intro K hK)|(with_reducible (first|apply wI|apply wJ|apply wK)));try simp only [go_sem,simprocAttr,ah,hb,an])|fail|(with_reducible (first|apply oC|apply oJ|exact oK|apply wA|apply wB|apply wC hX hC|apply wD hX hC|apply wE hX hC af|apply wF hX hC af|apply wG|apply wH|apply And.intro))|((with_reducible refine oD ?_ ?_);first|fail|kernel_rfl)|((with_reducible (first|apply oE|apply oF));(iterate 3 exact rfl);all_goals (intro h;first|(exact absurd h (by decide))|((try simp only [go_sem,simprocAttr,ah,hb,an] at h);(try with_reducible intro K hK);simp only [go_sem,simprocAttr,ah,hb,an])))|((first|((with_reducible apply wL);exact rfl)|((with_reducible apply wM);exact rfl));all_goals (try ((with_reducible intro h);first|(exact absurd h (by decide))|(try simp only [go_sem,simprocAttr,ah,hb,an] at h))))|omega|((first|first|(refine az hX hC hP [(10000,31)] (bZ p.ord) rfl rfl rfl ?_ ?_ ?_ ?_ ?_ ?_ ?_ ?_ ?_ ?_ ?_ ?_ ?_ ?_;(focus (simp only [go_sem,simprocAttr,ah,hb,an];done));(iterate 12 (focus (simp [go_sem,simprocAttr,ah,hb,an];done)));simp only [go_sem,simprocAttr,ah,hb,an,List.map_cons,List.map_nil])|(refine cm hX hC hP [(10000,31)] (bP p.ord ho) rfl rfl rfl ?_ ?_ ?_ ?_ ?_ ?_ rfl rfl ?_ ?_;(focus (simp only [go_sem,simprocAttr,ah,hb,an];done));(iterate 6 (focus (simp [go_sem,simprocAttr,ah,hb,an];done)));simp only [go_sem,simprocAttr,ah,hb,an,List.map_cons,List.map_nil]));try simp only [go_sem,simprocAttr,ah,hb,an])|(intro h))
   refine ⟨k+1,⟨by omega,fun i hi=> ?_⟩, ?_,by omega⟩
   ·by_cases hik:i=k
    ·subst hik;exact he
    ·exact hg i (by omega)
   ·(refine Le.of ?_ ?_<;>simp [go_sem,simprocAttr,ah,hb,an])
  ·have an:decide ((fX p.ord).getD k 0=(k:Int))=false:=decide_eq_false he
   have hres:res=false:=by
    rw [← Bool.not_eq_true,hr]
    rintro ⟨_,_,h3,_⟩
    exact he (h3 k hlt)
   subst hres
   repeat' (first|fail|((first|((with_reducible (first|apply oA|apply oB));exact rfl;intro K hK)|(refine hK _ ?_;clear hK K)|((with_reducible (first|apply oG|apply oH));iterate 3 exact rfl)|((with_reducible apply oI);(iterate 2 exact rfl);intro K hK)|(with_reducible (first|apply wI|apply wJ|apply wK)));try simp only [go_sem,simprocAttr,ah,hb,an])|fail|(with_reducible (first|apply oC|apply oJ|exact oK|apply wA|apply wB|apply wC hX hC|apply wD hX hC|apply wE hX hC af|apply wF hX hC af|apply wG|apply wH|apply And.intro))|((with_reducible refine oD ?_ ?_);first|fail|kernel_rfl)|((with_reducible (first|apply oE|apply oF));(iterate 3 exact rfl);all_goals (intro h;first|(exact absurd h (by decide))|((try simp only [go_sem,simprocAttr,ah,hb,an] at h);(try with_reducible intro K hK);simp only [go_sem,simprocAttr,ah,hb,an])))|((first|((with_reducible apply wL);exact rfl)|((with_reducible apply wM);exact rfl));all_goals (try ((with_reducible intro h);first|(exact absurd h (by decide))|(try simp only [go_sem,simprocAttr,ah,hb,an] at h))))|omega|((first|first|(refine az hX hC hP [(10000,31)] (bZ p.ord) rfl rfl rfl ?_ ?_ ?_ ?_ ?_ ?_ ?_ ?_ ?_ ?_ ?_ ?_ ?_ ?_;(focus (simp only [go_sem,simprocAttr,ah,hb,an];done));(iterate 12 (focus (simp [go_sem,simprocAttr,ah,hb,an];done)));simp only [go_sem,simprocAttr,ah,hb,an,List.map_cons,List.map_nil])|(refine cm hX hC hP [(10000,31)] (bP p.ord ho) rfl rfl rfl ?_ ?_ ?_ ?_ ?_ ?_ rfl rfl ?_ ?_;(focus (simp only [go_sem,simprocAttr,ah,hb,an];done));(iterate 6 (focus (simp [go_sem,simprocAttr,ah,hb,an];done)));simp only [go_sem,simprocAttr,ah,hb,an,List.map_cons,List.map_nil]));try simp only [go_sem,simprocAttr,ah,hb,an])|(intro h))
 have hb:decide ((k:Int)<((fX p.ord).length:Int))=false:=decide_eq_false (by omega)
 repeat' (first|fail|((first|((with_reducible (first|apply oA|apply oB));exact rfl;intro K hK)|(refine hK _ ?_;clear hK K)|((with_reducible (first|apply oG|apply oH));iterate 3 exact rfl)|((with_reducible apply oI);(iterate 2 exact rfl);intro K hK)|(with_reducible (first|apply wI|apply wJ|apply wK)));try simp only [go_sem,simprocAttr,ah,hb])|fail|(with_reducible (first|apply oC|apply oJ|exact oK|apply wA|apply wB|apply wC hX hC|apply wD hX hC|apply wE hX hC af|apply wF hX hC af|apply wG|apply wH|apply And.intro))|((with_reducible refine oD ?_ ?_);first|fail|kernel_rfl)|((with_reducible (first|apply oE|apply oF));(iterate 3 exact rfl);all_goals (intro h;first|(exact absurd h (by decide))|((try simp only [go_sem,simprocAttr,ah,hb] at h);(try with_reducible intro K hK);simp only [go_sem,simprocAttr,ah,hb])))|((first|((with_reducible apply wL);exact rfl)|((with_reducible apply wM);exact rfl));all_goals (try ((with_reducible intro h);first|(exact absurd h (by decide))|(try simp only [go_sem,simprocAttr,ah,hb] at h))))|omega|((first|first|(refine az hX hC hP [(10000,31)] (bZ p.ord) rfl rfl rfl ?_ ?_ ?_ ?_ ?_ ?_ ?_ ?_ ?_ ?_ ?_ ?_ ?_ ?_;(focus (simp only [go_sem,simprocAttr,ah,hb];done));(iterate 12 (focus (simp [go_sem,simprocAttr,ah,hb];done)));simp only [go_sem,simprocAttr,ah,hb,List.map_cons,List.map_nil])|(refine cm hX hC hP [(10000,31)] (bP p.ord ho) rfl rfl rfl ?_ ?_ ?_ ?_ ?_ ?_ rfl rfl ?_ ?_;(focus (simp only [go_sem,simprocAttr,ah,hb];done));(iterate 6 (focus (simp [go_sem,simprocAttr,ah,hb];done)));simp only [go_sem,simprocAttr,ah,hb,List.map_cons,List.map_nil]));try simp only [go_sem,simprocAttr,ah,hb])|(intro h))
 obtain rfl:k=(fX p.ord).length:=by omega
 clear hb hk
 refine aj (fun x:Nat=>x≤p.outs.length∧∀i:Nat,i<x→fX (p.outs.getD i [])=bf (·.1) g i) (fun x=>⟨[(0, .d (vw g)),(44, .d (.sl 1 (vI p.outs))),(45,eN p.outs.length),(46,eN x)], []⟩) (fun x=>p.outs.length - x) 0 (by simp) ?_ ?_
 ·refine Le.of ?_ ?_<;>simp [go_sem,simprocAttr,ah]
 rintro x ⟨hx,u5⟩
 rcases Nat.lt_or_ge x p.outs.length with hxl|CZ
 ·have hb:decide ((x:Int)<(p.outs.length:Int))=true:=decide_eq_true (by omega)
  have hv:=mX hxl
  have hl:=hp.each _ (aY (d:= []) hxl)
  have hn2:∀h:fX (p.outs.getD x [])=bf (·.1) g x,∀i:Nat,i<x+1→fX (p.outs.getD i [])=bf (·.1) g i:=fun h i hi=>by
   by_cases F8:i=x
   ·subst F8;exact h
   ·exact u5 i (by omega)
  have yw:¬fX (p.outs.getD x [])=bf (·.1) g x→res=false:=fun h=>by
   rw [← Bool.not_eq_true,hr]
   rintro ⟨_,_,_,h4⟩
   exact h (h4 x hxl)
  generalize p.outs.getD x []=l at hv hl hn2 yw
  have OP:=ec l
  by_cases he:fX l=bf (·.1) g x
  ·have an:decide (fX l=bf (·.1) g (x:Int))=true:=decide_eq_true he
   repeat' (first|fail|((first|((with_reducible (first|apply oA|apply oB));exact rfl;intro K hK)|(refine hK _ ?_;clear hK K)|((with_reducible (first|apply oG|apply oH));iterate 3 exact rfl)|((with_reducible apply oI);(iterate 2 exact rfl);intro K hK)|(with_reducible (first|apply wI|apply wJ|apply wK)));try simp only [go_sem,simprocAttr,hb,hv,an])|fail|(with_reducible (first|apply oC|apply oJ|exact oK|apply wA|apply wB|apply wC hX hC|apply wD hX hC|apply wE hX hC af|apply wF hX hC af|apply wG|apply wH|apply And.intro))|((with_reducible refine oD ?_ ?_);first|fail|kernel_rfl)|((with_reducible (first|apply oE|apply oF));(iterate 3 exact rfl);all_goals (intro h;first|(exact absurd h (by decide))|((try simp only [go_sem,simprocAttr,hb,hv,an] at h);(try with_reducible intro K hK);simp only [go_sem,simprocAttr,hb,hv,an])))|((first|((with_reducible apply wL);exact rfl)|((with_reducible apply wM);exact rfl));all_goals (try ((with_reducible intro h);first|(exact absurd h (by decide))|(try simp only [go_sem,simprocAttr,hb,hv,an] at h))))|omega|((first|first|(refine az hX hC hP [(10000,52)] (bZ l) rfl rfl rfl ?_ ?_ ?_ ?_ ?_ ?_ ?_ ?_ ?_ ?_ ?_ ?_ ?_ ?_;(focus (simp only [go_sem,simprocAttr,hb,hv,an];done));(iterate 12 (focus (simp [go_sem,simprocAttr,hb,hv,an];done)));simp only [go_sem,simprocAttr,hb,hv,an,List.map_cons,List.map_nil])|(refine cm hX hC hP [(10000,52)] (bP l hl) rfl rfl rfl ?_ ?_ ?_ ?_ ?_ ?_ rfl rfl ?_ ?_;(focus (simp only [go_sem,simprocAttr,hb,hv,an];done));(iterate 6 (focus (simp [go_sem,simprocAttr,hb,hv,an];done)));simp only [go_sem,simprocAttr,hb,hv,an,List.map_cons,List.map_nil])|refine aa hX hC hP (gA g hm (x:Int)) rfl rfl rfl (by simp only [go_sem,simprocAttr,hb,hv,an]) rfl ?_|refine aa hX hC hP (eA (fX l) (bf (·.1) g x) (by omega)) rfl rfl rfl (by simp only [go_sem,simprocAttr,hb,hv,an]) rfl ?_);try simp only [go_sem,simprocAttr,hb,hv,an])|(intro h))
   refine ⟨x+1,⟨by omega,hn2 he⟩, ?_,by omega⟩
   (refine Le.of ?_ ?_<;>simp [go_sem,simprocAttr,hb,hv,an])
  ·have an:decide (fX l=bf (·.1) g (x:Int))=false:=decide_eq_false he
   have hres:=yw he
   subst hres
   repeat' (first|fail|((first|((with_reducible (first|apply oA|apply oB));exact rfl;intro K hK)|(refine hK _ ?_;clear hK K)|((with_reducible (first|apply oG|apply oH));iterate 3 exact rfl)|((with_reducible apply oI);(iterate 2 exact rfl);intro K hK)|(with_reducible (first|apply wI|apply wJ|apply wK)));try simp only [go_sem,simprocAttr,hb,hv,an])|fail|(with_reducible (first|apply oC|apply oJ|exact oK|apply wA|apply wB|apply wC hX hC|apply wD hX hC|apply wE hX hC af|apply wF hX hC af|apply wG|apply wH|apply And.intro))|((with_reducible refine oD ?_ ?_);first|fail|kernel_rfl)|((with_reducible (first|apply oE|apply oF));(iterate 3 exact rfl);all_goals (intro h;first|(exact absurd h (by decide))|((try simp only [go_sem,simprocAttr,hb,hv,an] at h);(try with_reducible intro K hK);simp only [go_sem,simprocAttr,hb,hv,an])))|((first|((with_reducible apply wL);exact rfl)|((with_reducible apply wM);exact rfl));all_goals (try ((with_reducible intro h);first|(exact absurd h (by decide))|(try simp only [go_sem,simprocAttr,hb,hv,an] at h))))|omega|((first|first|(refine az hX hC hP [(10000,52)] (bZ l) rfl rfl rfl ?_ ?_ ?_ ?_ ?_ ?_ ?_ ?_ ?_ ?_ ?_ ?_ ?_ ?_;(focus (simp only [go_sem,simprocAttr,hb,hv,an];done));(iterate 12 (focus (simp [go_sem,simprocAttr,hb,hv,an];done)));simp only [go_sem,simprocAttr,hb,hv,an,List.map_cons,List.map_nil])|(refine cm hX hC hP [(10000,52)] (bP l hl) rfl rfl rfl ?_ ?_ ?_ ?_ ?_ ?_ rfl rfl ?_ ?_;(focus (simp only [go_sem,simprocAttr,hb,hv,an];done));(iterate 6 (focus (simp [go_sem,simprocAttr,hb,hv,an];done)));simp only [go_sem,simprocAttr,hb,hv,an,List.map_cons,List.map_nil])|refine aa hX hC hP (gA g hm (x:Int)) rfl rfl rfl (by simp only [go_sem,simprocAttr,hb,hv,an]) rfl ?_|refine aa hX hC hP (eA (fX l) (bf (·.1) g x) (by omega)) rfl rfl rfl (by simp only [go_sem,simprocAttr,hb,hv,an]) rfl ?_);try simp only [go_sem,simprocAttr,hb,hv,an])|(intro h))
 ·have hb:decide ((x:Int)<(p.outs.length:Int))=false:=decide_eq_false (by omega)
  obtain rfl:x=p.outs.length:=by omega
  have hres:res=true:=hr.2 ⟨h1.1,h1.2,fun i hi=>hg i (by omega),u5⟩
  subst hres
  repeat' (first|fail|((first|((with_reducible (first|apply oA|apply oB));exact rfl;intro K hK)|(refine hK _ ?_;clear hK K)|((with_reducible (first|apply oG|apply oH));iterate 3 exact rfl)|((with_reducible apply oI);(iterate 2 exact rfl);intro K hK)|(with_reducible (first|apply wI|apply wJ|apply wK)));try simp only [go_sem,simprocAttr,hb])|fail|(with_reducible (first|apply oC|apply oJ|exact oK|apply wA|apply wB|apply wC hX hC|apply wD hX hC|apply wE hX hC af|apply wF hX hC af|apply wG|apply wH|apply And.intro))|((with_reducible refine oD ?_ ?_);first|fail|kernel_rfl)|((with_reducible (first|apply oE|apply oF));(iterate 3 exact rfl);all_goals (intro h;first|(exact absurd h (by decide))|((try simp only [go_sem,simprocAttr,hb] at h);(try with_reducible intro K hK);simp only [go_sem,simprocAttr,hb])))|((first|((with_reducible apply wL);exact rfl)|((with_reducible apply wM);exact rfl));all_goals (try ((with_reducible intro h);first|(exact absurd h (by decide))|(try simp only [go_sem,simprocAttr,hb] at h))))|omega|((first|first|(refine az hX hC hP [(10000,52)] (bZ l) rfl rfl rfl ?_ ?_ ?_ ?_ ?_ ?_ ?_ ?_ ?_ ?_ ?_ ?_ ?_ ?_;(focus (simp only [go_sem,simprocAttr,hb];done));(iterate 12 (focus (simp [go_sem,simprocAttr,hb];done)));simp only [go_sem,simprocAttr,hb,List.map_cons,List.map_nil])|(refine cm hX hC hP [(10000,52)] (bP l hl) rfl rfl rfl ?_ ?_ ?_ ?_ ?_ ?_ rfl rfl ?_ ?_;(focus (simp only [go_sem,simprocAttr,hb];done));(iterate 6 (focus (simp [go_sem,simprocAttr,hb];done)));simp only [go_sem,simprocAttr,hb,List.map_cons,List.map_nil])|refine aa hX hC hP (gA g hm (x:Int)) rfl rfl rfl (by simp only [go_sem,simprocAttr,hb]) rfl ?_|refine aa hX hC hP (eA (fX l) (bf (·.1) g x) (by omega)) rfl rfl rfl (by simp only [go_sem,simprocAttr,hb]) rfl ?_);try simp only [go_sem,simprocAttr,hb])|(intro h))
end Go.Ab
end
section
namespace Go.Ab
open Go.Proofs
attribute [local congr] ACall.congr
set_option maxRecDepth 10000
set_option maxHeartbeats 8000000
def OQ (m:Nat) (fl:List Int):List Int:=(List.range m).map fun i:Nat=>if (i:Int)∈fl then (1:Int) else 0
end Go.Ab
end
section
namespace Go.Ab
open Go.Proofs
attribute [local congr] ACall.congr
set_option maxRecDepth 10000
set_option maxHeartbeats 8000000
def cM (b:Bool) (g:Gr) (p:Pl):(List (List It) × List It) × Int × Int:=
 if b=false then (([], []),(1,0)) else
 match jl g p g.n.toNat with
 |some i=>(([], []),(3,(i:Int)))
 |none=>((fD g p g.n.toNat,(fK g p g.n.toNat).row),(0,0))
theorem Fz {n:Nat} :List.replicate n [D.sl 3 []]=vT (List.replicate n []):=by simp [vT,sT]
theorem FA {ls:List (List It)} {k:Nat} {l:List It} :(vT ls).set k [sT l]=vT (ls.set k l):=by simp [vT,List.map_set]
theorem Ah {g:Gr} {p:Pl} {k:Nat} :fD g p (k+1)=(fD g p k).set (aq p k).toNat (ff g p k):=rfl
end Go.Ab
end
section
namespace Go.Ab
open Go.Proofs
attribute [local congr] ACall.congr
set_option maxRecDepth 10000
set_option maxHeartbeats 8000000
theorem lD (g:Gr) (hl:g.es.length≤1000) (p:Pl) (hp:wu p) (b:Bool) (hr:b=true↔(bH g).1=0∧bN g p):
 Spec Tryz.prog 46 (Args [eG g,ePl p]) [] (.tup [.d (.sl 1 (vT (cM b g p).1.1)), .d (sT (cM b g p).1.2),eF ((cM b g p).2.1,(cM b g p).2.2, [])]) []:=by
 by_cases hc:(bH g).1=0
 rotate_left
 ·obtain rfl:b=false:=by
   rw [← Bool.not_eq_true,hr]
   exact fun h=>hc h.1
  have hR:cM false g p=(([], []),(1,0)):=rfl
  rw [hR]
  (refine Spec.intro (C:=T.cfg [] []) (rs:= [.t 4, .t 5, .c 6 82]) (T.ak _ _) Tryz.func46 rfl rfl Tryz.ntmps46 Tryz.results46 (by simp [AObj.isNest]) (by simp [AObj.isNest]) (by kernel_rfl) ?_;intro X hX hP hC aK aL vals hA;refine ⟨_,by simp,hA, ?_⟩;have af:X.P.follows .mixedOrders=true:=(by rw [hP];exact T.mixed);clear aK aL)
  repeat' (first|fail|((first|((with_reducible (first|apply oA|apply oB));exact rfl;intro K hK)|(refine hK _ ?_;clear hK K)|((with_reducible (first|apply oG|apply oH));iterate 3 exact rfl)|((with_reducible apply oI);(iterate 2 exact rfl);intro K hK)|(with_reducible (first|apply wI|apply wJ|apply wK)));try simp only [go_sem,simprocAttr,vT,List.map_nil])|fail|(with_reducible (first|apply oC|apply oJ|exact oK|apply wA|apply wB|apply wC hX hC|apply wD hX hC|apply wE hX hC af|apply wF hX hC af|apply wG|apply wH|apply And.intro))|((with_reducible refine oD ?_ ?_);first|fail|kernel_rfl)|((with_reducible (first|apply oE|apply oF));(iterate 3 exact rfl);all_goals (intro h;first|(exact absurd h (by decide))|((try simp only [go_sem,simprocAttr,vT,List.map_nil] at h);(try with_reducible intro K hK);simp only [go_sem,simprocAttr,vT,List.map_nil])))|((first|((with_reducible apply wL);exact rfl)|((with_reducible apply wM);exact rfl));all_goals (try ((with_reducible intro h);first|(exact absurd h (by decide))|(try simp only [go_sem,simprocAttr,vT,List.map_nil] at h))))|omega|((first|first|refine aa hX hC hP (zZ g hl hc) rfl rfl rfl (by simp only [go_sem,simprocAttr,vT,List.map_nil]) rfl ?_);try simp only [go_sem,simprocAttr,vT,List.map_nil])|(intro h))
 have hm:=aC hc
 have hn:=aW hm
 have hr:b=true↔bN g p:=by rw [hr];exact ⟨fun h=>h.2,fun h=>⟨hc,h⟩⟩
 have hO:=Ch g hm p hp b hr
 cases b with
 |false=>
  have hR:cM false g p=(([], []),(1,0)):=rfl
  rw [hR]
  (refine Spec.intro (C:=T.cfg [] []) (rs:= [.t 4, .t 5, .c 6 82]) (T.ak _ _) Tryz.func46 rfl rfl Tryz.ntmps46 Tryz.results46 (by simp [AObj.isNest]) (by simp [AObj.isNest]) (by kernel_rfl) ?_;intro X hX hP hC aK aL vals hA;refine ⟨_,by simp,hA, ?_⟩;have af:X.P.follows .mixedOrders=true:=(by rw [hP];exact T.mixed);clear aK aL)
  repeat' (first|fail|((first|((with_reducible (first|apply oA|apply oB));exact rfl;intro K hK)|(refine hK _ ?_;clear hK K)|((with_reducible (first|apply oG|apply oH));iterate 3 exact rfl)|((with_reducible apply oI);(iterate 2 exact rfl);intro K hK)|(with_reducible (first|apply wI|apply wJ|apply wK)));try simp only [go_sem,simprocAttr,vT,List.map_nil])|fail|(with_reducible (first|apply oC|apply oJ|exact oK|apply wA|apply wB|apply wC hX hC|apply wD hX hC|apply wE hX hC af|apply wF hX hC af|apply wG|apply wH|apply And.intro))|((with_reducible refine oD ?_ ?_);first|fail|kernel_rfl)|((with_reducible (first|apply oE|apply oF));(iterate 3 exact rfl);all_goals (intro h;first|(exact absurd h (by decide))|((try simp only [go_sem,simprocAttr,vT,List.map_nil] at h);(try with_reducible intro K hK);simp only [go_sem,simprocAttr,vT,List.map_nil])))|((first|((with_reducible apply wL);exact rfl)|((with_reducible apply wM);exact rfl));all_goals (try ((with_reducible intro h);first|(exact absurd h (by decide))|(try simp only [go_sem,simprocAttr,vT,List.map_nil] at h))))|omega|((first|first|(refine qM hX hC hP [(10000,13)] (td g hl hc hm) rfl rfl rfl ?_ ?_ ?_ ?_ ?_ ?_ ?_ ?_ ?_ ?_ ?_ ?_ ?_ ?_;(focus (simp only [go_sem,simprocAttr,vT,List.map_nil];done));(iterate 12 (focus (simp [go_sem,simprocAttr,vT,List.map_nil];done)));simp only [go_sem,simprocAttr,vT,List.map_nil,List.map_cons,List.map_nil])|refine aa hX hC hP (eR g hm) rfl rfl rfl (by simp only [go_sem,simprocAttr,vT,List.map_nil]) rfl ?_|refine aa hX hC hP (hO) rfl rfl rfl (by simp only [go_sem,simprocAttr,vT,List.map_nil]) rfl ?_);try simp only [go_sem,simprocAttr,vT,List.map_nil])|(intro h))
 |true=>
 have F9:=hr.1 rfl
 have hle:=bW F9
 have hR:cM true g p=match jl g p g.n.toNat with
  |some i=>(([], []),(3,(i:Int)))
  |none=>((fD g p g.n.toNat,(fK g p g.n.toNat).row),(0,0)):=rfl
 generalize cM true g p=R at hR
 (refine Spec.intro (C:=T.cfg [] []) (rs:= [.t 4, .t 5, .c 6 82]) (T.ak _ _) Tryz.func46 rfl rfl Tryz.ntmps46 Tryz.results46 (by simp [AObj.isNest]) (by simp [AObj.isNest]) (by kernel_rfl) ?_;intro X hX hP hC aK aL vals hA;refine ⟨_,by simp,hA, ?_⟩;have af:X.P.follows .mixedOrders=true:=(by rw [hP];exact T.mixed);clear aK aL)
 repeat' (first|fail|((first|((with_reducible (first|apply oA|apply oB));exact rfl;intro K hK)|(refine hK _ ?_;clear hK K)|((with_reducible (first|apply oG|apply oH));iterate 3 exact rfl)|((with_reducible apply oI);(iterate 2 exact rfl);intro K hK)|(with_reducible (first|apply wI|apply wJ|apply wK)));try simp only [go_sem,simprocAttr])|(show cV _ (.seq (.region 5 _ _) _) _ _;(refine vN 13 0 3 rfl rfl rfl ?_;simp only [LA.app,ASt.put,ASt.kill,putM,rml,List.set_cons_zero,List.set_cons_succ,go_sem,simprocAttr]);(refine cW hX 13 2 100 (.tip 3 1 []) rfl rfl rfl (by simp only [go_sem,simprocAttr]) (by decide) (by simp [go_sem,simprocAttr]) ⟨3,1,by decide, .inr rfl⟩ ?_;simp only [LA.app,ASt.put,ASt.kill,subT,rmk,putM,rml,kl,AV.sub,AV.subs,AObj.sub,List.set_cons_zero,List.set_cons_succ,go_sem,simprocAttr]))|(with_reducible (first|apply oC|apply oJ|exact oK|apply wA|apply wB|apply wC hX hC|apply wD hX hC|apply wE hX hC af|apply wF hX hC af|apply wG|apply wH|apply And.intro))|((with_reducible refine oD ?_ ?_);first|fail|kernel_rfl)|((with_reducible (first|apply oE|apply oF));(iterate 3 exact rfl);all_goals (intro h;first|(exact absurd h (by decide))|((try simp only [go_sem,simprocAttr] at h);(try with_reducible intro K hK);simp only [go_sem,simprocAttr])))|((first|((with_reducible apply wL);exact rfl)|((with_reducible apply wM);exact rfl));all_goals (try ((with_reducible intro h);first|(exact absurd h (by decide))|(try simp only [go_sem,simprocAttr] at h))))|omega|((first|first|(refine qM hX hC hP [(10000,13)] (td g hl hc hm) rfl rfl rfl ?_ ?_ ?_ ?_ ?_ ?_ ?_ ?_ ?_ ?_ ?_ ?_ ?_ ?_;(focus (simp only [go_sem,simprocAttr];done));(iterate 12 (focus (simp [go_sem,simprocAttr];done)));simp only [go_sem,simprocAttr,List.map_cons,List.map_nil])|refine aa hX hC hP (eR g hm) rfl rfl rfl (by simp only [go_sem,simprocAttr]) rfl ?_|refine aa hX hC hP (hO) rfl rfl rfl (by simp only [go_sem,simprocAttr]) rfl ?_);try simp only [go_sem,simprocAttr])|(intro h))
 rw [Fz]
 refine aj (fun k:Nat=>k≤g.n.toNat∧∀j,j<k→AA g p j=true) (fun k=>⟨[(3, .ptr 3 0),(4, .ref 28),(6, .ptr 6 0),(7, .ptr 13 0),(30, .d (sI p.ord)),(31,eN p.ord.length),(32,eN k)], [(28, .own 80 1 (vT (fD g p k))),(13, .box [.d (sT (fK g p k).row), .d (vw g), .ref 100]),(100, .tip 3 1 ((fK g p k).pl.map rI)),(6, .box [eN 0,eN 0, .nil 3]),(3, .box [.d (sI p.ord), .d (.sl 1 (vI p.outs))])]⟩) (fun k=>g.n.toNat - k) 0 (by simp) ?_ ?_
 ·refine Le.of ?_ ?_<;>simp [go_sem,simprocAttr,Oz,fK,fD]
 rintro k ⟨hk,hok⟩
 obtain ⟨hi,_,hrl⟩:=di hm F9 hk hok
 have hel:=nc (g:=g) (p:=p) (k:=k)
 have hmul:k*(g.es.length+1)≤64*129:=Nat.mul_le_mul (by omega) (by omega)
 rcases Nat.lt_or_ge k g.n.toNat with hlt|hge
 ·have hb:decide ((k:Int)<(p.ord.length:Int))=true:=decide_eq_true (by omega)
  have Ga:=aP F9 hlt
  have fc:=Ah (g:=g) (p:=p) (k:=k)
  have Gb:fK g p (k+1)=(aB g (fK g p k) (aq p k) (bA p (aq p k))).2:=rfl
  have u5:ff g p k=(aB g (fK g p k) (aq p k) (bA p (aq p k))).1.1:=rfl
  have hpk:=Cc F9 hlt
  have Je:=Cd (g:=g) (p:=p) (k:=k)
  have hsk:AA g p k=false→R=(([], []),(3,(k:Int))):=fun h=>by
   rw [hR,rP.2 ⟨hlt,h,hok⟩]
  have lB:=kV F9 Ga.1 Ga.2
  have j5:p.ord.getD k 0=aq p k:=rfl
  have Jf:(fK g p k).pl.length≤64:=by
   rcases Jd hi.tofY with h|h
   ·omega
   ·rw [h];simp
  obtain ⟨x,hx⟩:∃x:Nat,aq p k=x:=⟨(aq p k).toNat,by omega⟩
  rw [hx] at j5 Gb u5 hpk Je Ga lB fc
  have hxl:x<p.outs.length:=by have:=F9.1;omega
  have hv:=mX hxl
  have hla:bA p (x:Int)=p.outs.getD x []:=by unfold bA;rw [Int.toNat_natCast]
  rw [hla] at Gb u5 hpk Je lB
  rw [Int.toNat_natCast] at fc
  have nj:=wq g hm (fK g p k) hi (x:Int) (p.outs.getD x []) (by omega) (by omega) (by omega)
  have dN:=FA (ls:=fD g p k) (k:=x) (l:=ff g p k)
  generalize p.outs.getD x []=o at hv Gb u5 hpk Je nj
  rw [← fc] at dN
  generalize fK g p k=f at Gb u5 hpk Je nj hi hrl Jf
  have Na:x<(fD g p k).length:=by omega
  have hvl:(vT (fD g p k)).length=(fD g p k).length:=vT_length
  cases DQ:AA g p k with
  |false=>
   rw [Je DQ] at nj
   simp only at nj
   have JW:=hsk DQ
   subst JW
   repeat' (first|fail|((first|((with_reducible (first|apply oA|apply oB));exact rfl;intro K hK)|(refine hK _ ?_;clear hK K)|((with_reducible (first|apply oG|apply oH));iterate 3 exact rfl)|((with_reducible apply oI);(iterate 2 exact rfl);intro K hK)|(with_reducible (first|apply wI|apply wJ|apply wK)));try simp only [go_sem,simprocAttr,hb,j5,hv,gT,rD,List.map_nil])|fail|(with_reducible (first|apply oC|apply oJ|exact oK|apply wA|apply wB|apply wC hX hC|apply wD hX hC|apply wE hX hC af|apply wF hX hC af|apply wG|apply wH|apply And.intro))|((with_reducible refine oD ?_ ?_);first|fail|kernel_rfl)|((with_reducible (first|apply oE|apply oF));(iterate 3 exact rfl);all_goals (intro h;first|(exact absurd h (by decide))|((try simp only [go_sem,simprocAttr,hb,j5,hv,gT,rD,List.map_nil] at h);(try with_reducible intro K hK);simp only [go_sem,simprocAttr,hb,j5,hv,gT,rD,List.map_nil])))|((first|((with_reducible apply wL);exact rfl)|((with_reducible apply wM);exact rfl));all_goals (try ((with_reducible intro h);first|(exact absurd h (by decide))|(try simp only [go_sem,simprocAttr,hb,j5,hv,gT,rD,List.map_nil] at h))))|omega|((first|first|(refine az hX hC hP [(10000,13),(10001,100),(10002,101)] (nj) rfl rfl rfl ?_ ?_ ?_ ?_ ?_ ?_ ?_ ?_ ?_ ?_ ?_ ?_ ?_ ?_;(focus (simp only [go_sem,simprocAttr,hb,j5,hv,gT,rD,List.map_nil];done));(iterate 12 (focus (simp [go_sem,simprocAttr,hb,j5,hv,gT,rD,List.map_nil];done)));simp only [go_sem,simprocAttr,hb,j5,hv,gT,rD,List.map_nil,List.map_cons,List.map_nil]));try simp only [go_sem,simprocAttr,hb,j5,hv,gT,rD,List.map_nil])|(intro h))
   all_goals rfl
  |true=>
   rw [hpk DQ] at nj
   have kz:(aB g f (x:Int) o).1.2=0:=rfl
   rw [u5] at dN
   generalize aB g f (x:Int) o=su at Gb u5 nj kz dN
   generalize PU:fD g p k=E at dN Na hel hvl
   have C0:=fun d=>pS Na d
   repeat' (first|fail|((first|((with_reducible (first|apply oA|apply oB));exact rfl;intro K hK)|(refine hK _ ?_;clear hK K)|((with_reducible (first|apply oG|apply oH));iterate 3 exact rfl)|((with_reducible apply oI);(iterate 2 exact rfl);intro K hK)|(with_reducible (first|apply wI|apply wJ|apply wK)));try simp only [go_sem,simprocAttr,hb,j5,hv,gT,rD,kz,dN,C0,List.drop_succ_cons,List.drop_zero])|(show cV _ (.region 11 _ _) _ _;(refine bU hX 13 2 101 100 rfl rfl rfl (by first|exact .inl rfl|exact .inr rfl) (by decide) (by decide) ?_;simp only [LA.app,ASt.put,ASt.kill,subT,rmk,putM,rml,kl,AV.sub,AV.subs,AObj.sub,List.set_cons_zero,List.set_cons_succ,go_sem,simprocAttr,hb,j5,hv,gT,rD,kz,dN,C0,List.drop_succ_cons,List.drop_zero]))|(with_reducible (first|apply oC|apply oJ|exact oK|apply wA|apply wB|apply wC hX hC|apply wD hX hC|apply wE hX hC af|apply wF hX hC af|apply wG|apply wH|apply And.intro))|((with_reducible refine oD ?_ ?_);first|fail|kernel_rfl)|((with_reducible (first|apply oE|apply oF));(iterate 3 exact rfl);all_goals (intro h;first|(exact absurd h (by decide))|((try simp only [go_sem,simprocAttr,hb,j5,hv,gT,rD,kz,dN,C0,List.drop_succ_cons,List.drop_zero] at h);(try with_reducible intro K hK);simp only [go_sem,simprocAttr,hb,j5,hv,gT,rD,kz,dN,C0,List.drop_succ_cons,List.drop_zero])))|((first|((with_reducible apply wL);exact rfl)|((with_reducible apply wM);exact rfl));all_goals (try ((with_reducible intro h);first|(exact absurd h (by decide))|(try simp only [go_sem,simprocAttr,hb,j5,hv,gT,rD,kz,dN,C0,List.drop_succ_cons,List.drop_zero] at h))))|omega|((first|first|(refine az hX hC hP [(10000,13),(10001,100),(10002,101)] (nj) rfl rfl rfl ?_ ?_ ?_ ?_ ?_ ?_ ?_ ?_ ?_ ?_ ?_ ?_ ?_ ?_;(focus (simp only [go_sem,simprocAttr,hb,j5,hv,gT,rD,kz,dN,C0,List.drop_succ_cons,List.drop_zero];done));(iterate 12 (focus (simp [go_sem,simprocAttr,hb,j5,hv,gT,rD,kz,dN,C0,List.drop_succ_cons,List.drop_zero];done)));simp only [go_sem,simprocAttr,hb,j5,hv,gT,rD,kz,dN,C0,List.drop_succ_cons,List.drop_zero,List.map_cons,List.map_nil]));try simp only [go_sem,simprocAttr,hb,j5,hv,gT,rD,kz,dN,C0,List.drop_succ_cons,List.drop_zero])|(intro h))
   refine ⟨k+1,⟨by omega,fun j hj=> ?_⟩, ?_,by omega⟩
   ·by_cases e:j=k
    ·subst e;exact DQ
    ·exact hok j (by omega)
   ·rw [Gb]
    have Jg:(vT E).set x [D.sl 3 (List.map rT su.1.1)]=vT (fD g p (k+1)):=dN
    refine Le.of ?_ ?_<;>simp [go_sem,simprocAttr,hb,j5,hv,gT,rD,kz,dN,C0,List.drop_succ_cons,List.drop_zero,Jg]
 have hb:decide ((k:Int)<(p.ord.length:Int))=false:=decide_eq_false (by omega)
 obtain rfl:k=g.n.toNat:=by omega
 rw [fE.2 hok] at hR
 subst hR
 repeat' (first|fail|((first|((with_reducible (first|apply oA|apply oB));exact rfl;intro K hK)|(refine hK _ ?_;clear hK K)|((with_reducible (first|apply oG|apply oH));iterate 3 exact rfl)|((with_reducible apply oI);(iterate 2 exact rfl);intro K hK)|(with_reducible (first|apply wI|apply wJ|apply wK)));try simp only [go_sem,simprocAttr,hb])|fail|(with_reducible (first|apply oC|apply oJ|exact oK|apply wA|apply wB|apply wC hX hC|apply wD hX hC|apply wE hX hC af|apply wF hX hC af|apply wG|apply wH|apply And.intro))|((with_reducible refine oD ?_ ?_);first|fail|kernel_rfl)|((with_reducible (first|apply oE|apply oF));(iterate 3 exact rfl);all_goals (intro h;first|(exact absurd h (by decide))|((try simp only [go_sem,simprocAttr,hb] at h);(try with_reducible intro K hK);simp only [go_sem,simprocAttr,hb])))|((first|((with_reducible apply wL);exact rfl)|((with_reducible apply wM);exact rfl));all_goals (try ((with_reducible intro h);first|(exact absurd h (by decide))|(try simp only [go_sem,simprocAttr,hb] at h))))|omega|((first|first|(refine oU hX hC hP 60 (zX [vw g,sI (fK g p g.n.toNat).pl] (fK g p g.n.toNat).row (by omega)) rfl rfl rfl ?_ ?_ (by first|exact ⟨_,_,_,rfl,Eo⟩|exact ⟨_,_,_,rfl,Ep⟩|exact ⟨_,_,_,rfl,Er⟩) rfl (by decide) ?_;(iterate 2 (focus (simp only [go_sem,simprocAttr,hb];done)));simp only [go_sem,simprocAttr,hb]));try simp only [go_sem,simprocAttr,hb])|(intro h))
end Go.Ab
end
section
namespace Go.Ab
open Go.Proofs
attribute [local congr] ACall.congr
set_option maxRecDepth 10000
set_option maxHeartbeats 8000000
def PV (n:Int) (es:List Edge) (ord:List Int) (O:List (List Int)):List (Nat × AObj):= [(10000, .box [eN n, .ref 10001, .ref 10002, .ref 10003]),(10001, .tip 58 2 (es.map rE)),(10002, .tip 3 1 (ord.map rI)),(10003, .own 25 1 (vI O))]
def PW (n:Int) (es:List Edge) (ord:List Int) (O:List (List Int)):List (Nat × AObj):= [(10000, .box [eN n, .ref 10004, .ref 10002, .ref 10003]),(10004, .tip 58 2 (es.map rE)),(10002, .tip 3 1 (ord.map rI)),(10003, .own 25 1 (vI O))]
def OR (x:Int) (items:List It):List Edge:=(loose items).map fun v=>(v,x)
end Go.Ab
end
section
namespace Go.Ab
open Go.Proofs
attribute [local congr] ACall.congr
set_option maxRecDepth 10000
set_option maxHeartbeats 16000000
def pz:Pl:=⟨[], []⟩
def OS (b:Bool) (g:Gr) (p:Pl):Gr × Pl × Int:=
 if (cM b g p).2.1≠0 then (gz,pz,1) else if 64<(Cg g p).n∨128<(Cg g p).es.length then (gz,pz,10) else (Cg g p,Mb g p,0)
theorem tr {b:Bool} {g:Gr} {p:Pl} (hr:b=true↔(bH g).1=0∧bN g p) (h:(cM b g p).2.1=0):cj g p∧cM b g p=((fD g p g.n.toNat,ku g p),(0,0)):=by
 cases b with
 |false=>simp [cM] at h
 |true=>
  have hR:cM true g p=match jl g p g.n.toNat with
   |some i=>(([], []),(3,(i:Int)))
   |none=>((fD g p g.n.toNat,(fK g p g.n.toNat).row),(0,0)):=rfl
  cases hs:jl g p g.n.toNat with
  |some i=>rw [hR,hs] at h;simp at h
  |none=>
   obtain ⟨h1,h2⟩:=hr.1 rfl
   exact ⟨⟨h1,h2,fE.1 hs⟩,by rw [hR,hs];rfl⟩
end Go.Ab
end
section
namespace Go.Ab
open Go.Proofs
attribute [local congr] ACall.congr
set_option maxRecDepth 10000
set_option maxHeartbeats 16000000
def OU (p:Pl) (x:Gr) (k:Nat):List (List Int):=(List.range k).map fun v=>if 0<(p.outs.getD v []).length then p.outs.getD v [] else dL x (v:Int)
theorem xV {g:Gr} {p:Pl} (hr:cj g p):∀t∈ku g p,t.1<0:=by
 obtain ⟨hc,h,hok⟩:=hr
 have hm:=aC hc
 have hn:=aW hm
 obtain ⟨hi,fT,_⟩:=di hm h (k:=g.n.toNat) (Nat.le_refl _) hok
 intro t ht
 refine Decidable.byContradiction fun h0=> ?_
 rcases hi.it t ht with ⟨h1,_⟩|⟨h1,h2,_,h4⟩
 ·omega
 ·have Nb:=(c9 hm (k:=t.1.toNat) (by omega)).2
  rw [← h4] at Nb
  refine hi.head t ht h1 (jk hi.tofY ?_ Nb)
  rw [fT,List.length_take,bW h];omega
end Go.Ab
end
section
namespace Go.Ab
open Go.Proofs
attribute [local congr] ACall.congr
set_option maxRecDepth 10000
set_option maxHeartbeats 8000000
def Ci (g:Gr) (p:Pl):Bool:=decide (200<g.es.length)||decide (100<p.ord.length)||decide (100<p.outs.length)||p.outs.any fun l=>decide (200<l.length)
theorem uO {g:Gr} {p:Pl} (h:Ci g p=false):g.es.length≤200∧p.ord.length≤100∧p.outs.length≤100∧∀l∈p.outs,l.length≤200:=by
 simp only [Ci,Bool.or_eq_false_iff,decide_eq_false_iff_not,List.any_eq_false,decide_eq_true_eq] at h
 obtain ⟨⟨⟨h1,h2⟩,h3⟩,h4⟩:=h
 exact ⟨by omega,by omega,by omega,fun l hl=>by have:=h4 l hl;omega⟩
theorem wv {g:Gr} {p:Pl} (h:Ci g p=false):wu p:=by
 obtain ⟨_,h1,h2,h3⟩:=uO h
 exact ⟨by omega,by omega,fun l hl=>by have:=h3 l hl;omega⟩
structure Nc (p:Pl):Prop where
 ord:p.ord.length≤9223372036854775807
 outs:p.outs.length≤9223372036854775807
 each:∀l∈p.outs,l.length≤9223372036854775807
def nG (g:Gr):Bool:=decide ((bH g).1=0)&&decide ((bB (·.1) g).length=1)
theorem rR (g:Gr) (hl:g.es.length≤1000):Spec Tryz.prog 51 (Args [eG g]) [] (eB (nG g)) []:=by
 by_cases hc:(bH g).1=0
 ·have hm:=aC hc
  have au:decide ((bH g).1=0)=true:=decide_eq_true hc
  have hI:nG g=decide (((bB (·.1) g).length:Int)=1):=by
   unfold nG;rw [au,Bool.true_and,decide_eq_decide];omega
  rw [hI]
  generalize iM:bB (·.1) g=bl
  have hS:=qQ g hm
  rw [iM] at hS
  (refine Spec.intro (C:=T.cfg [] []) (rs:= [.t 2]) (T.ak _ _) Tryz.func51 rfl rfl Tryz.ntmps51 Tryz.results51 (by simp [AObj.isNest]) (by simp [AObj.isNest]) (by kernel_rfl) ?_;intro X hX hP hC aK aL vals hA;refine ⟨_,by simp,hA, ?_⟩;have af:X.P.follows .mixedOrders=true:=(by rw [hP];exact T.mixed);clear aK aL)
  repeat' (first|fail|((first|((with_reducible (first|apply oA|apply oB));exact rfl;intro K hK)|(refine hK _ ?_;clear hK K)|((with_reducible (first|apply oG|apply oH));iterate 3 exact rfl)|((with_reducible apply oI);(iterate 2 exact rfl);intro K hK)|(with_reducible (first|apply wI|apply wJ|apply wK)));try simp only [go_sem,simprocAttr,au])|fail|(with_reducible (first|apply oC|apply oJ|exact oK|apply wA|apply wB|apply wC hX hC|apply wD hX hC|apply wE hX hC af|apply wF hX hC af|apply wG|apply wH|apply And.intro))|((with_reducible refine oD ?_ ?_);first|fail|kernel_rfl)|((with_reducible (first|apply oE|apply oF));(iterate 3 exact rfl);all_goals (intro h;first|(exact absurd h (by decide))|((try simp only [go_sem,simprocAttr,au] at h);(try with_reducible intro K hK);simp only [go_sem,simprocAttr,au])))|((first|((with_reducible apply wL);exact rfl)|((with_reducible apply wM);exact rfl));all_goals (try ((with_reducible intro h);first|(exact absurd h (by decide))|(try simp only [go_sem,simprocAttr,au] at h))))|omega|((first|first|refine aa hX hC hP (gK g hl) rfl rfl rfl (by simp only [go_sem,simprocAttr,au]) rfl ?_|refine aa hX hC hP (eR g hm) rfl rfl rfl (by simp only [go_sem,simprocAttr,au]) rfl ?_|refine aa hX hC hP (hS) rfl rfl rfl (by simp only [go_sem,simprocAttr,au]) rfl ?_);try simp only [go_sem,simprocAttr,au])|(intro h))
 ·have au:decide ((bH g).1=0)=false:=decide_eq_false hc
  have hI:nG g=false:=by unfold nG;rw [au];rfl
  rw [hI]
  (refine Spec.intro (C:=T.cfg [] []) (rs:= [.t 2]) (T.ak _ _) Tryz.func51 rfl rfl Tryz.ntmps51 Tryz.results51 (by simp [AObj.isNest]) (by simp [AObj.isNest]) (by kernel_rfl) ?_;intro X hX hP hC aK aL vals hA;refine ⟨_,by simp,hA, ?_⟩;have af:X.P.follows .mixedOrders=true:=(by rw [hP];exact T.mixed);clear aK aL)
  repeat' (first|fail|((first|((with_reducible (first|apply oA|apply oB));exact rfl;intro K hK)|(refine hK _ ?_;clear hK K)|((with_reducible (first|apply oG|apply oH));iterate 3 exact rfl)|((with_reducible apply oI);(iterate 2 exact rfl);intro K hK)|(with_reducible (first|apply wI|apply wJ|apply wK)));try simp only [go_sem,simprocAttr,au])|fail|(with_reducible (first|apply oC|apply oJ|exact oK|apply wA|apply wB|apply wC hX hC|apply wD hX hC|apply wE hX hC af|apply wF hX hC af|apply wG|apply wH|apply And.intro))|((with_reducible refine oD ?_ ?_);first|fail|kernel_rfl)|((with_reducible (first|apply oE|apply oF));(iterate 3 exact rfl);all_goals (intro h;first|(exact absurd h (by decide))|((try simp only [go_sem,simprocAttr,au] at h);(try with_reducible intro K hK);simp only [go_sem,simprocAttr,au])))|((first|((with_reducible apply wL);exact rfl)|((with_reducible apply wM);exact rfl));all_goals (try ((with_reducible intro h);first|(exact absurd h (by decide))|(try simp only [go_sem,simprocAttr,au] at h))))|omega|((first|first|refine aa hX hC hP (gK g hl) rfl rfl rfl (by simp only [go_sem,simprocAttr,au]) rfl ?_);try simp only [go_sem,simprocAttr,au])|(intro h))
end Go.Ab
end
section
namespace Go.Ab
open Go.Proofs
attribute [local congr] ACall.congr
set_option maxRecDepth 10000
set_option maxHeartbeats 8000000
def PX:Gr:=⟨3, [(0,1),(0,2)]⟩
def PY:Pl:=⟨[0,1,2], [[0,1], [], []]⟩
def PZ:Gr:=⟨4, [(0,1),(0,2),(1,3),(2,3)]⟩
def P3:Pl:=⟨[0,1,2,3], [[0,1], [2], [3], []]⟩
end Go.Ab
end
section
namespace Go.Ab
def nm (names:List Int) (v:Int):Int:=names.getD v.toNat 0
structure ic (g:Gr) (names order:List Int):Prop where
 may:aO g=true
 FB:jc names g.n=true
 ord:jc order (g.es.length:Int)=true
section
variable {g:Gr} {names order:List Int} (h:ic g names order)
include h
theorem ic.len:(fR g names order).es.length=g.es.length:=by
 have:=(bM.1 h.ord).1
 simp only [fR,vZ];omega
theorem ic.iy {i:Nat} (hi:i<g.es.length):∃j,j<g.es.length∧order.getD i 0=(j:Int)∧(fR g names order).es.getD i (0,0)=(nm names (tl g j),nm names (hd g j)):=by
 have Aw:=(bM.1 h.ord).1
 have:=kq h.ord _ (gL (l:=order) (m:=i) (by omega))
 refine ⟨(order.getD i 0).toNat,by omega,by omega, ?_⟩
 simp only [fR,DI,nm,tl,hd]
 rw [List.getD_eq_getElem?_getD,List.getElem?_map,List.getElem?_range (by omega)]
 rfl
theorem ic.back {j:Nat} (hj:j<g.es.length):∃i,i<g.es.length∧order.getD i 0=(j:Int)∧(fR g names order).es.getD i (0,0)=(nm names (tl g j),nm names (hd g j)):=by
 obtain ⟨Aw,hall⟩:=bM.1 h.ord
 obtain ⟨i,hi,hil,he⟩:=c8 (hall (j:Int) (dB.2 (by omega)))
 obtain ⟨j',_,h2,h3⟩:=h.iy (i:=i) (by omega)
 have:j'=j:=by omega
 subst this
 exact ⟨i,by omega,he,h3⟩
theorem ic.inj {a b:Int} (ha:0≤a∧a<g.n) (hb:0≤b∧b<g.n) (e:nm names a=nm names b):a=b:=by
 have hnl:=(bM.1 h.FB).1
 have:=gM h.FB (i:=a.toNat) (j:=b.toNat) (by omega) (by omega) e
 omega
theorem ic.range {a:Int} (ha:0≤a∧a<g.n):0≤nm names a∧nm names a<g.n:=by
 have hnl:=(bM.1 h.FB).1
 exact kq h.FB _ (gL (by omega))
theorem ic.inv {a:Int} (ha:0≤a∧a<g.n):c7 names (nm names a)=a:=by
 have hnl:=(bM.1 h.FB).1
 obtain ⟨k,hk,bD,he⟩:=c8 (gL (l:=names) (m:=a.toNat) (by omega))
 have h2:=gM h.FB bD (j:=a.toNat) (by omega) he
 have h3:c7 names (nm names a)=k:=hk
 omega
theorem ic.of {v:Int} (hv:0≤v∧v<g.n):∃a,(0≤a∧a<g.n)∧nm names a=v:=by
 obtain ⟨hnl,hall⟩:=bM.1 h.FB
 obtain ⟨k,hk,bD,he⟩:=c8 (hall v (dB.2 (by omega)))
 exact ⟨k,by omega,he⟩
theorem ic.may':aO (fR g names order)=true:=by
 have hn:=aW h.may
 have hlen:=h.len
 have hall:(fR g names order).es.any (mL (fR g names order))=false:=by
  rw [List.any_eq_false]
  intro e he
  obtain ⟨i,hi,rfl⟩:=List.getElem_of_mem he
  obtain ⟨j,hj,_,h3⟩:=h.iy (i:=i) (by omega)
  rw [List.getD_eq_getElem?_getD,List.getElem?_eq_getElem hi,Option.getD_some] at h3
  rw [h3]
  have h4:=h.range (bw h.may hj)
  have h5:=h.range (bL h.may hj)
  have e1:(fR g names order).n=g.n:=rfl
  simp only [mL,sw,e1,Bool.or_eq_true,decide_eq_true_eq]
  omega
 have e1:(fR g names order).n=g.n:=rfl
 simp only [aO,hall,e1,Bool.not_false,Bool.and_true,Bool.and_eq_true,decide_eq_true_eq]
 omega
omit h in
theorem oh {i j:Nat} (e:(fR g names order).es.getD i (0,0)=(nm names (tl g j),nm names (hd g j))):tl (fR g names order) i=nm names (tl g j)∧hd (fR g names order) i=nm names (hd g j):=⟨congrArg Prod.fst e,congrArg Prod.snd e⟩
theorem ic.loop:(0≤ja (fR g names order))↔0≤ja g:=by
 have key:∀g:Gr,(0≤ja g)↔∃i,i<g.es.length∧tl g i=hd g i:=by
  intro g
  have:=fu (fun e:Edge=>decide (e.1=e.2)) g.es
  rw [show (0≤ja g)↔g.es.any (fun e:Edge=>decide (e.1=e.2))=true from by rw [← this];simp [ja],List.any_eq_true]
  constructor
  ·rintro ⟨e,he,h2⟩
   obtain ⟨i,hi,rfl⟩:=List.getElem_of_mem he
   refine ⟨i,hi, ?_⟩
   simpa [tl,hd,List.getD_eq_getElem?_getD,List.getElem?_eq_getElem hi] using h2
  ·rintro ⟨i,hi,h2⟩
   refine ⟨_,List.getElem_mem hi, ?_⟩
   simpa [tl,hd,List.getD_eq_getElem?_getD,List.getElem?_eq_getElem hi] using h2
 rw [key,key,h.len]
 constructor
 ·rintro ⟨i,hi,e⟩
  obtain ⟨j,hj,_,h3⟩:=h.iy hi
  obtain ⟨e1,e2⟩:=oh h3
  exact ⟨j,hj,h.inj (bw h.may hj) (bL h.may hj) (by rw [← e1, ← e2,e])⟩
 ·rintro ⟨j,hj,e⟩
  obtain ⟨i,hi,_,h3⟩:=h.back hj
  obtain ⟨e1,e2⟩:=oh h3
  exact ⟨i,hi,by rw [e1,e2,e]⟩
omit h in
theorem tu (g:Gr):(0≤dY g)↔∃i k,i<g.es.length∧k<g.es.length∧i≠k∧g.es.getD i (0,0)=g.es.getD k (0,0):=by
 have:=fu (lS g) (List.range g.es.length)
 rw [show (0≤dY g)↔(List.range g.es.length).any (lS g)=true from by rw [← this];simp [dY],List.any_eq_true]
 constructor
 ·rintro ⟨i,hi,h2⟩
  have hil:=List.mem_range.1 hi
  have h3:=of_decide_eq_true h2
  rw [List.mem_iff_getElem?] at h3
  obtain ⟨k,hk⟩:=h3
  rw [List.getElem?_take] at hk
  split at hk
  ·rename_i hki
   exact ⟨i,k,hil,by omega,by omega,by rw [List.getD_eq_getElem?_getD (i:=k),hk];rfl⟩
  ·cases hk
 ·rintro ⟨i,k,hi,hk,hne,e⟩
  have main:∀i k,k<i→i<g.es.length→g.es.getD i (0,0)=g.es.getD k (0,0)→lS g i=true:=by
   intro i k hki hi e
   refine decide_eq_true ?_
   rw [e,List.mem_iff_getElem?]
   refine ⟨k, ?_⟩
   rw [List.getElem?_take,if_pos hki,List.getD_eq_getElem?_getD,List.getElem?_eq_getElem (by omega)];rfl
  rcases Nat.lt_or_gt_of_ne hne with hlt|hgt
  ·exact ⟨k,List.mem_range.2 hk,main k i hlt hk e.symm⟩
  ·exact ⟨i,List.mem_range.2 hi,main i k hgt hi e⟩
theorem ic.Jh:(0≤dY (fR g names order))↔0≤dY g:=by
 have Aw:=(bM.1 h.ord).1
 rw [tu,tu,h.len]
 constructor
 ·rintro ⟨i,k,hi,hk,hne,e⟩
  obtain ⟨j,hj,ho,h3⟩:=h.iy hi
  obtain ⟨j',hj',ho',Dj⟩:=h.iy hk
  refine ⟨j,j',hj,hj',fun e'=> ?_, ?_⟩
  ·subst e'
   exact hne (gM h.ord (by omega) (by omega) (by rw [ho,ho']))
  ·rw [h3,Dj,Prod.mk.injEq] at e
   have e1:=h.inj (bw h.may hj) (bw h.may hj') e.1
   have e2:=h.inj (bL h.may hj) (bL h.may hj') e.2
   exact Prod.ext e1 e2
 ·rintro ⟨j,j',hj,hj',hne,e⟩
  obtain ⟨i,hi,ho,h3⟩:=h.back hj
  obtain ⟨k,hk,ho',Dj⟩:=h.back hj'
  refine ⟨i,k,hi,hk,fun e'=> ?_, ?_⟩
  ·subst e';omega
  ·have e1:tl g j=tl g j':=congrArg Prod.fst e
   have e2:hd g j=hd g j':=congrArg Prod.snd e
   rw [h3,Dj,e1,e2]
theorem ic.Mc:mQ (fR g names order)=mQ g:=by
 rw [Bool.eq_iff_iff,pM h.may',pM h.may]
 constructor
 ·rintro ⟨r,hr⟩
  refine ⟨fun v=>r (nm names v),fun j hj=> ?_⟩
  obtain ⟨i,hi,_,h3⟩:=h.back hj
  obtain ⟨e1,e2⟩:=oh h3
  have:=hr i (by rw [h.len];exact hi)
  rwa [e1,e2] at this
 ·rintro ⟨r,hr⟩
  refine ⟨fun v=>r (c7 names v),fun i hi=> ?_⟩
  rw [h.len] at hi
  obtain ⟨j,hj,_,h3⟩:=h.iy hi
  obtain ⟨e1,e2⟩:=oh h3
  have:=hr j hj
  rw [e1,e2];simp only;rw [h.inv (bw h.may hj),h.inv (bL h.may hj)]
  exact this
omit h in
theorem fP {g:Gr} {y:Int} :y∈bB (·.2) g↔(0≤y∧y<g.n)∧∀i,i<g.es.length→hd g i≠y:=by
 simp only [bB,gG,List.mem_map,List.mem_filter,List.mem_range,decide_eq_true_eq]
 have he:∀x:Nat,x<g.n.toNat→(((cD (·.2) g).getD x []).length=0↔∀i,i<g.es.length→hd g i≠(x:Int)):=by
  intro x hx
  have e:(cD (·.2) g).getD x []=aJ (·.2) g.es g.es.length (x:Int):=by
   simp [cD,List.getD_eq_getElem?_getD,List.getElem?_range hx,kf]
  rw [e,List.length_eq_zero_iff]
  simp only [aJ,List.map_eq_nil_iff,List.filter_eq_nil_iff,List.mem_range,decide_eq_true_eq]
  rfl
 constructor
 ·rintro ⟨x,⟨hx,h0⟩,rfl⟩
  refine ⟨by simp;omega,(he x hx).1 h0⟩
 ·rintro ⟨⟨h1,h2⟩,h3⟩
  have e:((y.toNat:Nat):Int)=y:=by omega
  exact ⟨y.toNat,⟨by omega,(he _ (by omega)).2 (by rw [e];exact h3)⟩,e⟩
omit h in
theorem rS {f:Edge→Int} {g:Gr} :(bB f g).Nodup:=by
 unfold bB gG
 refine List.Pairwise.map _ (fun a b h e=>h (Int.ofNat.inj e)) (List.Pairwise.filter _ List.nodup_range)
theorem ic.bare:(bB (·.2) (fR g names order)).length=(bB (·.2) g).length:=by
 have e1:(fR g names order).n=g.n:=rfl
 have h1:((bB (·.2) g).map (nm names)).length≤(bB (·.2) (fR g names order)).length:=by
  refine Nat.le_trans (count_le _ (bB (·.2) (fR g names order)) ?_ ?_) List.countP_le_length
  ·rw [List.nodup_iff_pairwise_ne]
   refine List.Pairwise.map _ (fun a b h=>h) ?_
   refine List.Pairwise.imp_of_mem ?_ rS
   intro a b ha hb hab e
   exact hab (h.inj (fP.1 ha).1 (fP.1 hb).1 e)
  ·intro v hv
   obtain ⟨y,hy,rfl⟩:=List.mem_map.1 hv
   obtain ⟨hy1,hy2⟩:=fP.1 hy
   refine fP.2 ⟨h.range hy1,fun i hi e=> ?_⟩
   rw [h.len] at hi
   obtain ⟨j,hj,_,h3⟩:=h.iy hi
   rw [(oh h3).2] at e
   exact hy2 j hj (h.inj (bL h.may hj) hy1 e)
 have h2:((bB (·.2) (fR g names order)).map (c7 names)).length≤(bB (·.2) g).length:=by
  have hsplit:∀v∈bB (·.2) (fR g names order),∃a,(0≤a∧a<g.n)∧nm names a=v:=fun v hv=>h.of (fP.1 hv).1
  refine Nat.le_trans (count_le _ (bB (·.2) g) ?_ ?_) List.countP_le_length
  ·rw [List.nodup_iff_pairwise_ne]
   refine List.Pairwise.map _ (fun a b h=>h) ?_
   refine List.Pairwise.imp_of_mem ?_ rS
   intro a b ha hb hab e
   obtain ⟨a',LX,rfl⟩:=hsplit a ha
   obtain ⟨b',hb',rfl⟩:=hsplit b hb
   rw [h.inv LX,h.inv hb'] at e
   exact hab (by rw [e])
  ·intro v hv
   obtain ⟨y,hy,rfl⟩:=List.mem_map.1 hv
   obtain ⟨a,ha,rfl⟩:=hsplit y hy
   rw [h.inv ha]
   refine fP.2 ⟨ha,fun j hj e=> ?_⟩
   obtain ⟨i,hi,_,h3⟩:=h.back hj
   refine (fP.1 hy).2 i (by rw [h.len];exact hi) ?_
   rw [(oh h3).2,e]
 simp only [List.length_map] at h1 h2
 omega
theorem ic.kind:(bH (fR g names order)).1=(bH g).1:=by
 have hm:=h.may'
 have hc:(0<(iY (fR g names order)).length)↔0<(iY g).length:=by
  have key:∀g:Gr,aO g=true→((0<(iY g).length)↔mQ g=false):=by
   intro g hm
   cases ho:mQ g with
   |true=>rw [yF hm ho];simp
   |false=>simp [(q9 hm ho).1]
  rw [key _ hm,key _ h.may,h.Mc]
 have h1:=h.loop
 have h2:=h.Jh
 have h3:=h.bare
 simp only [bH,fO,hm,h.may]
 simp only [Bool.true_eq_false,if_false,h1,h2,hc,h3]
 split
 ·rfl
 split
 ·rfl
 split
 ·rfl
 split<;>rfl
end
theorem Ai {g:Gr} (hm:aO g=true):
 (bH g).1=13∧(bH g).2.2= []∧mQ g=false∨(bH g).1=14∧(bH g).2.2= []∨(bH g).1=15∧mQ g=false∧I0 g (bH g).2.2∨
 (bH g).1=16∧mQ g=true∧(∀a∈(bH g).2.2,∀i,i<g.es.length→hd g i≠a)∨(bH g).1=0∧(bH g).2.2= []∧mQ g=true:=by
 unfold bH fO
 rw [if_neg (by simp [hm])]
 split
 ·rename_i hl
  refine .inl ⟨rfl,rfl, ?_⟩
  cases ho:mQ g with
  |false=>rfl
  |true=>
   exfalso
   obtain ⟨r,hr⟩:=(pM hm).1 ho
   have:=fu (fun e:Edge=>decide (e.1=e.2)) g.es
   have h2:g.es.any (fun e:Edge=>decide (e.1=e.2))=true:=by rw [← this];exact decide_eq_true hl
   obtain ⟨e,he,h3⟩:=List.any_eq_true.1 h2
   obtain ⟨i,hi,rfl⟩:=List.getElem_of_mem he
   have h4:=hr i hi
   have h5:tl g i=hd g i:=by simpa [tl,hd,List.getD_eq_getElem?_getD,List.getElem?_eq_getElem hi] using h3
   rw [h5] at h4;omega
 split
 ·exact .inr (.inl ⟨rfl,rfl⟩)
 split
 ·rename_i hc
  refine .inr (.inr (.inl ⟨rfl, ?_⟩))
  cases ho:mQ g with
  |false=>exact ⟨rfl,(q9 hm ho).2⟩
  |true=>rw [yF hm ho] at hc;simp at hc
 rename_i hc
 have ho:mQ g=true:=by
  cases ho:mQ g with
  |true=>rfl
  |false=>exact absurd (q9 hm ho).1 hc
 split
 ·refine .inr (.inr (.inr (.inl ⟨rfl,ho,fun a ha=> ?_⟩)))
  exact (fP.1 (List.mem_of_mem_take ha)).2
 ·exact .inr (.inr (.inr (.inr ⟨rfl,rfl,ho⟩)))
end Go.Ab
end
section
namespace Go.Ab
open Go.Proofs
set_option maxRecDepth 10000
def Nd:Nat→List Edge→Int→Option (Int × Int)
 |_, [],_=>none
 |m,e::N,v=>if e.1=v then some ((m:Int),e.2) else Nd (m+1) N v
def P4 (m:Nat) (N:List Edge) (t:It):It:=if 0≤t.1 then t else match Nd m N t.2.1 with
 |some (i,h)=>(i,t.2.1,h)
 |none=>t
structure Nf (g:Gr) (p:Pl):Prop where
 run:cj g p
 n:(Cg g p).n≤64
 es:(Cg g p).es.length≤128
variable {g:Gr} {p:Pl}
end Go.Ab
end
section
namespace Go.Ab
open Go.Proofs
set_option maxRecDepth 10000
variable {g:Gr} {p:Pl}
theorem yP {p:Pl} {k:Nat} {v:Int} (hk:k≤p.ord.length) (h:v∈p.ord.take k):∃j,j<k∧aq p j=v:=by
 obtain ⟨j,hj,e⟩:=List.mem_iff_getElem.1 h
 simp only [List.length_take] at hj
 refine ⟨j,by omega, ?_⟩
 rw [← e,aq,List.getD_eq_getElem?_getD,List.getElem?_eq_getElem (by omega)]
 simp
end Go.Ab
end
section
namespace Go.Ab
open Go.Proofs
set_option maxRecDepth 10000
variable {g:Gr} {p:Pl}
theorem om (hr:cj g p):bA p (aq p (g.n.toNat - 1))= []∧aq p (g.n.toNat - 1)∈loose (ku g p):=by
 have hm:=aC hr.1
 have hn:=aW hm
 obtain ⟨k,hk⟩:∃k,g.n.toNat=k+1:=⟨g.n.toNat - 1,by omega⟩
 obtain ⟨hi,_,_⟩:=di hm hr.2.1 (k:=k) (by omega) fun j hj=>hr.2.2 j (by omega)
 obtain ⟨A,X,C,hrw,_,_,_,hs⟩:=gR hm hi.tofY (hr.2.2 k (by omega))
 have hL:ku g p=A++aV g (aq p k) (bA p (aq p k))++C:=by
  unfold ku;rw [hk]
  show (aB _ _ _ _).2.row=_
  rw [hs]
 have ya:g.n.toNat - 1=k:=by omega
 rw [ya]
 have lB:=xV hr
 have hx:=aP hr.2.1 (k:=k) (by omega)
 have h0:bA p (aq p k)= []:=by
  refine Decidable.byContradiction fun h0=> ?_
  have ha:aV g (aq p k) (bA p (aq p k))=(bA p (aq p k)).map (ia g (aq p k)):=if_neg h0
  obtain ⟨i,hi'⟩:=List.exists_mem_of_ne_nil _ h0
  have h1:=lB (ia g (aq p k) i) (by rw [hL,ha];simp;exact .inr (.inl ⟨i,hi',rfl⟩))
  obtain ⟨e,rfl,_⟩:=jh ((bF hr.2.1 hx.1 hx.2).mem_iff.1 hi')
  simp [ia] at h1
  omega
 refine ⟨h0, ?_⟩
 have ha:aV g (aq p k) (bA p (aq p k))= [(-1,aq p k, -1)]:=if_pos h0
 rw [hL,ha,tq,tq]
 simp [loose]
theorem kW {f:Edge→Int} {g:Gr} {y:Int} :y∈bB f g↔(0≤y∧y<g.n)∧aJ f g.es g.es.length y= []:=by
 simp only [bB,gG,List.mem_map,List.mem_filter,List.mem_range,decide_eq_true_eq]
 have he:∀x:Nat,x<g.n.toNat→(((cD f g).getD x []).length=0↔aJ f g.es g.es.length (x:Int)= []):=by
  intro x hx
  have e:(cD f g).getD x []=aJ f g.es g.es.length (x:Int):=by
   simp [cD,List.getD_eq_getElem?_getD,List.getElem?_range hx,kf]
  rw [e,List.length_eq_zero_iff]
 constructor
 ·rintro ⟨x,⟨hx,h0⟩,rfl⟩
  exact ⟨by simp;omega,(he x hx).1 h0⟩
 ·rintro ⟨⟨h1,h2⟩,h3⟩
  have e:((y.toNat:Nat):Int)=y:=by omega
  exact ⟨y.toNat,⟨by omega,(he _ (by omega)).2 (by rw [e];exact h3)⟩,e⟩
end Go.Ab
end
section
namespace Go.Ab
open Go.Proofs
set_option maxRecDepth 10000
def iF (l:List It):List It:=l.filter fun t=>decide (0≤t.1)
theorem kX {a b:List It} :iF (a++b)=iF a++iF b:=by simp [iF]
theorem ig {l:List It} {t:It} :t∈iF l↔t∈l∧0≤t.1:=by simp [iF]
theorem pV {x:Int} {l:List It} (h:eZ x l):eZ x (iF l):=fun t ht=>h t (ig.1 ht).1
def uP (x:Int) (l:List It):Prop:=∀t∈l,t.2.2=x
theorem kY {g:Gr} {x:Int} {o:List Int} (ho:∀i∈o,0≤i):iF (aV g x o)=o.map (ia g x):=by
 unfold aV
 split
 ·rename_i h;subst h;rfl
 ·refine List.filter_eq_self.2 fun t ht=> ?_
  obtain ⟨i,hi,rfl⟩:=List.mem_map.1 ht
  exact decide_eq_true (ho i hi)
theorem tv {x:Int} :∀ {X Y c d:List It},uP x X→uP x Y→eZ x c→eZ x d→X++c=Y++d→X=Y∧c=d
 | [], [],c,d,_,_,_,_,e=>⟨rfl,e⟩
 | [],u::Y,c,d,_,hY,hc,_,e=>by
   simp only [List.nil_append] at e
   exact absurd (hY u (by simp)) (hc u (by rw [e];simp))
 |t::X, [],c,d,hX,_,_,hd,e=>by
  simp only [List.nil_append] at e
  exact absurd (hX t (by simp)) (hd t (by rw [← e];simp))
 |t::X,u::Y,c,d,hX,hY,hc,hd,e=>by
  simp only [List.cons_append,List.cons.injEq] at e
  obtain ⟨e1,e2⟩:=tv (fun s hs=>hX s (by simp [hs])) (fun s hs=>hY s (by simp [hs])) hc hd e.2
  exact ⟨by rw [e.1,e1],e2⟩
theorem wz {x:Int} :∀ {a b X Y c d:List It},eZ x a→eZ x b→uP x X→uP x Y→eZ x c→eZ x d→X≠ []→Y≠ []→a++X++c=b++Y++d→a=b∧X=Y∧c=d
 |t::a, [],X,u::Y,c,d,ha,_,_,hY,_,_,_,_,e=>by
  simp only [List.cons_append,List.nil_append,List.cons.injEq] at e
  exact absurd (by rw [e.1];exact hY u (by simp)) (ha t (by simp))
 | [],t::b,u::X,Y,c,d,_,hb,hX,_,_,_,_,_,e=>by
   simp only [List.cons_append,List.nil_append,List.cons.injEq] at e
   exact absurd (by rw [← e.1];exact hX u (by simp)) (hb t (by simp))
 |t::a,u::b,X,Y,c,d,ha,hb,hX,hY,hc,hd,nX,nY,e=>by
  simp only [List.cons_append,List.cons.injEq] at e
  obtain ⟨e1,e2,e3⟩:=wz (fun s hs=>ha s (by simp [hs])) (fun s hs=>hb s (by simp [hs])) hX hY hc hd nX nY e.2
  exact ⟨by rw [e.1,e1],e2,e3⟩
 | [], [],X,Y,c,d,_,_,hX,hY,hc,hd,_,_,e=>by
   refine ⟨rfl, ?_⟩
   simp only [List.nil_append] at e
   exact tv hX hY hc hd e
 | [],_::_, [],_,_,_,_,_,_,_,_,_,h,_,_=>absurd rfl h
 |_::_, [],_, [],_,_,_,_,_,_,_,_,_,h,_=>absurd rfl h
theorem Cj {g:Gr} (hm:aO g=true) {f:Fr} (hi:fY g f) {x:Int} (hR:aH g f x=true) (hn:bC g x≠0):
 ∃a X c,iF f.row=a++X++c∧eZ x a∧eZ x c∧uP x X∧X.length=bC g x∧∀o,iF (aB g f x o).2.row=a++iF (aV g x o)++c:=by
 obtain ⟨A,X,C,hr,hA,hC,hX,cX⟩:=cz hm hi hR hn
 have hx:=(aR hR).1
 have hmem:∀t∈X,t∈f.row:=fun t ht=>by rw [hr];simp [ht]
 have hiff:∀t∈X,(0≤t.1↔t.2.2=x):=fun t ht=>by
  have h1:=(hi.it t (hmem t ht)).head hm
  have h2:=hX.al t ht
  omega
 refine ⟨iF A,iF X,iF C,by rw [hr,kX,kX],pV hA,pV hC,fun t ht=> ?_, ?_,fun o=> ?_⟩
 ·obtain ⟨h1,h2⟩:=ig.1 ht
  exact (hiff t h1).1 h2
 ·rw [← cX,iF, ← List.countP_eq_length_filter]
  refine List.countP_congr fun t ht=> ?_
  simp only [jV,decide_eq_true_eq]
  exact hiff t ht
 ·rw [jH o hr hA hC hX]
  simp only [kX]
theorem DR {g:Gr} (hm:aO g=true) {f:Fr} (hi:fY g f) {x:Int} (hR:aH g f x=true) (hn:bC g x≠0) {a X c:List It} (e:iF f.row=a++X++c) (ha:eZ x a) (hc:eZ x c) (hX:uP x X) (nX:X≠ []) (o:List Int):
 iF (aB g f x o).2.row=a++iF (aV g x o)++c:=by
 obtain ⟨b,Y,d,e',hb,hd,hY,lY,hs⟩:=Cj hm hi hR hn
 have nY:Y≠ []:=fun h=>hn (by rw [← lY,h];rfl)
 obtain ⟨e1,_,e3⟩:=wz hb ha hY hX hd hc nY nX (e'.symm.trans e)
 rw [hs o,e1,e3]
theorem Ck {g:Gr} (hm:aO g=true) {f:Fr} (hi:fY g f) {x:Int} (h0:0≤x) (h1:x<g.n) (hp:x∉f.pl) {a X c:List It} (e:iF f.row=a++X++c) (ha:eZ x a) (hc:eZ x c) (hX:uP x X) (nX:X≠ []) (hl:X.length=bC g x):aH g f x=true:=by
 have hmem:∀j,j<f.row.length→z2 g (f.row.getD j (0,0,0)):=fun j hj=>hi.it _ (aY hj)
 have zv:f.row.countP (jV x)=X.length:=by
  have h2:f.row.countP (jV x)=(iF f.row).countP (jV x):=by
   rw [iF,List.countP_filter]
   refine List.countP_congr fun t ht=> ?_
   have:=(hi.it t ht).head hm
   simp only [jV,Bool.and_eq_true,decide_eq_true_eq]
   omega
  have c1:a.countP (jV x)=0:=List.countP_eq_zero.2 fun t ht=>by simp [jV,ha t ht]
  have c2:c.countP (jV x)=0:=List.countP_eq_zero.2 fun t ht=>by simp [jV,hc t ht]
  have c3:X.countP (jV x)=X.length:=List.countP_eq_length.2 fun t ht=>by simp [jV,hX t ht]
  rw [h2,e,List.countP_append,List.countP_append,c1,c2,c3]
  omega
 rw [← mY hm hi,fB,if_neg (by rintro (h|h|h);omega;omega;exact hp h),eC h0 h1,Bool.and_eq_true,decide_eq_true_eq]
 have hN:(aJ (fun e=>e.2) g.es g.es.length x).length=bC g x:=rfl
 rw [hN]
 refine ⟨?_, ?_⟩
 ·unfold aU
  rw [jf,jG (Nat.le_refl _),List.take_length,zv,hl]
 ·rw [Bool.or_eq_true];right
  rcases dQ (row:=f.row) (x:=x) f.row.length with ⟨hs,hno⟩|⟨p,q,n,hs,hab,iM,hc0,mj,hpx,Md,hlo,hhi⟩
  ·have hs':aU f.row x=(-1,0,0):=hs
   rw [hs'];simp [oZ]
  ·have hs':aU f.row x=((p:Int),(q:Int),(n:Int)):=hs
   rw [hs']
   simp only [Int.toNat_natCast,oZ,Bool.not_eq_true']
   rw [← Bool.not_eq_true,tg iM]
   rintro ⟨j,h2,h3,h4⟩
   simp only [jF,Bool.and_eq_true,decide_eq_true_eq] at h4
   have hja:p<j:=by
    refine Nat.lt_of_le_of_ne h2 fun e=> ?_
    subst e;exact h4.1 hpx
   have hjb:j<q - 1:=by
    refine Nat.lt_of_le_of_ne (by omega) fun e=> ?_
    subst e;exact h4.1 Md
   have hsub:=((rO (i:=j+1) (j:=q - 1) (rO (i:=p+1) (j:=j) (rO (i:=0) (j:=p) (List.nil_sublist _) (by omega) (by omega)) (by omega) (by omega)) (by omega) (by omega)).trans (List.take_sublist _ f.row)).filter fun t=>decide (0≤t.1)
   have hp1:=(hmem p (by omega)).head hm
   have Ji:=(hmem j (by omega)).head hm
   have hq1:=(hmem (q - 1) (by omega)).head hm
   generalize f.row.getD p (0,0,0)=s1 at hsub hp1 hpx
   generalize f.row.getD j (0,0,0)=s2 at hsub Ji h4
   generalize f.row.getD (q - 1) (0,0,0)=s3 at hsub hq1 Md
   have hf:([]++ [s1]++ [s2]++ [s3]).filter (fun t=>decide (0≤t.1))= [s1,s2,s3]:=List.filter_eq_self.2 fun t ht=>by
    simp only [List.nil_append,List.cons_append,List.mem_cons,List.not_mem_nil,or_false] at ht
    rcases ht with rfl|rfl|rfl
    ·exact decide_eq_true (hp1.1.2 (by omega))
    ·exact decide_eq_true (Ji.1.2 h4.2)
    ·exact decide_eq_true (hq1.1.2 (by omega))
   rw [hf] at hsub
   have hsub: [s1,s2,s3].Sublist (a++(X++c)):=by rw [← List.append_assoc, ← e];exact hsub
   rw [List.sublist_append_iff] at hsub
   obtain ⟨l1,l',el,k1,k'⟩:=hsub
   rw [List.sublist_append_iff] at k'
   obtain ⟨l2,l3,rfl,k2,k3⟩:=k'
   match l1,el,k1 with
   |t::l1,el,k1=>
    simp only [List.cons_append,List.cons.injEq] at el
    exact ha t (k1.subset (by simp)) (by rw [← el.1];exact hpx)
   | [],el,_=>
     match l2,el,k2 with
     | [],el,_=>
       simp only [List.nil_append] at el
       exact hc s1 (k3.subset (by rw [← el];simp)) hpx
     | [t],el,_=>
       simp only [List.nil_append,List.cons_append,List.cons.injEq] at el
       exact hc s3 (k3.subset (by rw [← el.2];simp)) Md
     |t::u::l2,el,k2=>
      simp only [List.nil_append,List.cons_append,List.cons.injEq] at el
      exact h4.1 (by rw [el.2.1];exact hX u (k2.subset (by simp)))
end Go.Ab
end
section
namespace Go.Ab
open Go.Proofs
set_option maxRecDepth 10000
def Jj (gone:List Int) (i:Nat):Bool:= !decide ((i:Int)∈gone)
def FT (gone:List Int) (k:Nat):List Nat:=(List.range k).filter (Jj gone)
def OV (gone:List Int) (k:Nat):Nat:=(FT gone k).length
def Me (gone:List Int) (es:List Edge) (k:Nat):List Edge:=(FT gone k).map fun i=>es.getD i (0,0)
def OW (g:Gr) (gone:List Int):Gr:=⟨g.n,Me gone g.es g.es.length⟩
def Ng (gone:List Int) (i:Int):Int:=if i∈gone then -1 else (OV gone i.toNat:Int)
def Mf (gone:List Int) (l:List Int):List Int:=(l.filter fun i=>decide (i∉gone)).map (Ng gone)
def OX (p:Pl) (gone:List Int):Pl:=⟨p.ord,p.outs.map (Mf gone)⟩
variable {g:Gr} {p:Pl} {gone:List Int}
def OY (gone:List Int) (t:It):It:=(Ng gone t.1,t.2.1,t.2.2)
def OZ (gone:List Int) (l:List It):List It:=(l.filter fun t=>decide (t.1∉gone)).map (OY gone)
theorem fF (hr:cj g p):bC g (aq p 0)=0:=by
 have hm:=aC hr.1
 have hn:=aW hm
 refine Decidable.byContradiction fun hnz=> ?_
 obtain ⟨A,X,C,hrw,_,_,hX,_⟩:=cz hm (yK g).tofY (hr.2.2 0 (by omega)) hnz
 obtain ⟨q,X0,e1,_⟩:=hX.fst
 rw [e1] at hrw
 simp at hrw
end Go.Ab
end
section
namespace Go.Ab
open Go.Proofs
set_option maxRecDepth 10000
theorem uQ {g:Gr} (hm:aO g=true) {f:Fr} (hi:fY g f) {x:Int} (hR:aH g f x=true) (hn:bC g x≠0) (o:List Int):
 ∃a c,iF f.row=a++iF (aB g f x o).1.1++c∧eZ x a∧eZ x c∧uP x (iF (aB g f x o).1.1)∧(iF (aB g f x o).1.1).length=bC g x∧iF (aB g f x o).2.row=a++iF (aV g x o)++c:=by
 obtain ⟨A,X,C,hr,hA,hC,hX,hc⟩:=cz hm hi hR hn
 have hx:=(aR hR).1
 have hmem:∀t∈X,t∈f.row:=fun t ht=>by rw [hr];simp [ht]
 have hiff:∀t∈X,(0≤t.1↔t.2.2=x):=fun t ht=>by
  have h1:=(hi.it t (hmem t ht)).head hm
  have h2:=hX.al t ht
  constructor
  ·intro h;rcases h2 with h2|h2
   ·exact h2
   ·exact absurd h2 (h1.1.1 h)
  ·intro h;exact h1.1.2 (by omega)
 rw [jH o hr hA hC hX]
 refine ⟨iF A,iF C,by rw [hr,kX,kX],pV hA,pV hC,fun t ht=> ?_, ?_,by simp only [kX]⟩
 ·obtain ⟨h1,h2⟩:=ig.1 ht
  exact (hiff t h1).1 h2
 ·rw [← hc,iF, ← List.countP_eq_length_filter]
  refine List.countP_congr fun t ht=> ?_
  simp only [jV,decide_eq_true_eq]
  exact hiff t ht
def cl (g:Gr) (p:Pl) (x:Int):List Int:=(iF ((fD g p g.n.toNat).getD x.toNat [])).map (·.1)
def nk (g:Gr) (p:Pl) (f:Fr) (x:Int):List Int:=(iF (aB g f x (bA p x)).1.1).map (·.1)
def o5 (g:Gr) (p:Pl):Nat→Fr→Prop
 |0,f=>(f.pl.length:Int)=g.n
 |m+1,f=>∃x,aH g f x=true∧nk g p f x=cl g p x∧o5 g p m (tj g p f x)
theorem rV {g:Gr} {p:Pl} :∀ {m:Nat} {f f':Fr},f.row=f'.row→f.pl.Perm f'.pl→o5 g p m f→o5 g p m f'
 |0,f,f',_,hp,h=>by
  have h:(f.pl.length:Int)=g.n:=h
  show (f'.pl.length:Int)=g.n
  rw [← hp.length_eq];exact h
 |m+1,f,f',hr,hp,⟨x,h1,h3,h2⟩=>by
  refine ⟨x,by rw [← wm hr hp];exact h1, ?_,rV ?_ ?_ h2⟩
  ·simp only [nk,aB,hr] at h3 ⊢;exact h3
  ·simp only [tj,aB,hr]
  ·exact hp.append_right _
theorem tw {g:Gr} (hc:(bH g).1=0) {p:Pl} (hp:bN g p):∀ {m:Nat} {f:Fr},wh g f→(f.pl.length:Int)+(m+1:Nat)=g.n→o5 g p (m+1) f→∀ {x:Int},aH g f x=true→nk g p f x=cl g p x∧o5 g p m (tj g p f x)
 |m,f,hi,hl,⟨y,th,JX,hcan⟩,x,hR=>by
  have hm:=aC hc
  by_cases hxy:x=y
  ·subst hxy;exact ⟨JX,hcan⟩
  have py:=bF hp (aR th).1 (aR th).2.1
  have px:=bF hp (aR hR).1 (aR hR).2.1
  have i2:=jj hm hi th py
  match m,hl,hcan with
  |0,hl,hcan=>
   exfalso
   have h1:=jk i2.tofY (by show ((f.pl++ [y]).length:Int)=g.n;simp;omega) (x:=x) ⟨(aR hR).1,(aR hR).2.1⟩
   have h2:x∈f.pl++ [y]:=h1
   simp [(aR hR).2.2,hxy] at h2
  |m+1,hl,hcan=>
   obtain ⟨h4,h5,h6,h7,h8⟩:=Ae hc hi hxy hR th px py
   obtain ⟨h9,h3⟩:=tw hc hp i2 (by show (((f.pl++ [y]).length:Nat):Int)+_=_;simp;omega) hcan h5
   refine ⟨?_,y,h4, ?_,rV h6.symm ?_ h3⟩
   ·unfold nk at h9 ⊢;rw [h7];exact h9
   ·unfold nk at JX ⊢;rw [h8] at JX;exact JX
   show (f.pl++ [y]++ [x]).Perm (f.pl++ [x]++ [y])
   rw [List.append_assoc,List.append_assoc]
   exact List.Perm.append_left _ (List.Perm.swap ..)
theorem tA {g:Gr} {p:Pl} (h:cj g p):∀ {d k:Nat},k+d=g.n.toNat→o5 g p d (fK g p k)
 |0,k,hk=>by
  have hn:=aW (aC h.1)
  obtain ⟨_,fT,_⟩:=di (aC h.1) h.2.1 (k:=k) (by omega) fun j hj=>h.2.2 j (by omega)
  show ((fK g p k).pl.length:Int)=g.n
  rw [fT,List.length_take,bW h.2.1];omega
 |d+1,k,hk=>⟨aq p k,h.2.2 k (by omega),by
   unfold cl
   rw [ng h.2.1 (Nat.le_refl _) (show k<g.n.toNat by omega)]
   rfl,tA h (k:=k+1) (by omega)⟩
theorem yQ {g:Gr} (hc:(bH g).1=0) {p:Pl} (hp:bN g p):∀ {m:Nat} {f:Fr},wh g f→o5 g p m f→∀ {i:Nat},i<g.es.length→tl g i∈f.pl→hd g i∉f.pl→∃t∈f.row,t.1=(i:Int)
 |0,f,hi,h,i,hil,_,hh=>by
  have hr:=bL (aC hc) hil
  exact absurd (jk hi.tofY h (x:=hd g i) hr) hh
 |m+1,f,hi,⟨x,hR,_,h⟩,i,hil,ht,hh=>by
  have hm:=aC hc
  have px:=bF hp (aR hR).1 (aR hR).2.1
  by_cases hx:hd g i=x
  ·obtain ⟨t,h1,h2,_⟩:=uN hm hi hR hil hx
   exact ⟨t,h1,h2⟩
  ·obtain ⟨t,h1,h2⟩:=yQ hc hp (jj hm hi hR px) h hil (List.mem_append.2 (.inl ht)) (fun h1=>by
    rcases List.mem_append.1 h1 with h1|h1
    ·exact hh h1
    ·exact hx (by simpa using h1))
   obtain ⟨A,X,C,hr,_,_,_,hs⟩:=gR hm hi.tofY hR
   rw [hs] at h1
   simp only [List.mem_append] at h1
   rcases h1 with (h1|h1)|h1
   ·exact ⟨t,by rw [hr];simp [h1],h2⟩
   ·rcases ji (fun i hi=>px.mem_iff.1 hi) h1 with ⟨h3,_⟩|⟨k,h3,h4,h5,_,h6,_⟩
    ·omega
    ·have:k=i:=by omega
     subst this
     exact absurd (h6 ▸ ht) (aR hR).2.2
   ·exact ⟨t,by rw [hr];simp [h1],h2⟩
def kA (g:Gr) (e:Int):Int:=(g.es.getD e.toNat (0,0)).1
def Cl (g:Gr) (e:Int):Int:=(g.es.getD e.toNat (0,0)).2
def o6 (g:Gr) (x:Int):Prop:=0≤x∧x<g.n
instance {g:Gr} {x:Int} :Decidable (o6 g x):=inferInstanceAs (Decidable (0≤x∧x<g.n))
def kB (g:Gr) (p:Pl) (k:Nat) (W D:List Int):Prop:=∃f,wh g f∧f.pl=D∧W=(iF f.row).map (·.1)∧o5 g p k f∧(D.length:Int)+k=g.n∧aq p 0∈D
def Cm (g:Gr) (p:Pl) (x:Int):Nat:=((vX g.n.toNat p.ord p.ord.length).getD x.toNat 0).toNat
def iG (g:Gr) (p:Pl):PS:=
 {m:=g.es.length,src:=aq p 0,Fo:=aq p (g.n.toNat - 1),tl:=kA g,hd:=Cl g,ins:=fun x=>if o6 g x then cl g p x else [],outs:=fun x=>if o6 g x then bA p x else [],CX:=Cm g p,Row:=kB g p,k0:=g.n.toNat - 1}
theorem jI {g:Gr} {p:Pl} {x:Int} (h:o6 g x):(iG g p).ins x=cl g p x:=if_pos h
theorem nq {g:Gr} {p:Pl} {x:Int} (h:¬o6 g x):(iG g p).ins x= []:=if_neg h
theorem ij {g:Gr} {p:Pl} {x:Int} (h:o6 g x):(iG g p).outs x=bA p x:=if_pos h
theorem nr {g:Gr} {p:Pl} {x:Int} (h:¬o6 g x):(iG g p).outs x= []:=if_neg h
theorem bR {f:Edge→Int} {es:List Edge} {x e:Int} :e∈aJ f es es.length x↔(0≤e∧e<es.length)∧f (es.getD e.toNat (0,0))=x:=by
 refine ⟨je,fun ⟨h1,h2⟩=> ?_⟩
 simp only [aJ,List.mem_map,List.mem_filter,List.mem_range,decide_eq_true_eq]
 exact ⟨e.toNat,⟨by omega,h2⟩,by simp;omega⟩
section
variable {g:Gr} {p:Pl}
theorem yR (hm:aO g=true) (hp:bN g p) {k:Nat} (hk:k<g.n.toNat):Cm g p (aq p k)=k:=by
 have hE:=((DP hm).2 hp).1
 have:=uC hE (p:=k) (k:=p.ord.length) (by rw [bW hp];exact hk) (Nat.le_refl _)
 unfold Cm
 show ((vX _ _ _).getD (p.ord.getD k 0).toNat 0).toNat=k
 rw [this];simp
theorem rW (h:cj g p) {e:Int} (he:0≤e∧e<g.es.length) {k:Nat} (hk:k<g.n.toNat) (hx:Cl g e=aq p k):∃j,j<k∧aq p j=kA g e:=by
 have hm:=aC h.1
 obtain ⟨hi,fT,_⟩:=di hm h.2.1 (k:=k) (by omega) fun j hj=>h.2.2 j (by omega)
 obtain ⟨t,h1,h2,h3,_⟩:=uN hm hi (h.2.2 k hk) (i:=e.toNat) (by omega) hx
 have h4:=hi.tail t h1 (by omega)
 rw [h3,fT] at h4
 exact yP (by rw [bW h.2.1];omega) h4
theorem nt (hm:aO g=true) {f:Fr} (hi:fY g f) {t:It} (ht:t∈iF f.row):(0≤t.1∧t.1<g.es.length)∧t.2.1=kA g t.1∧t.2.2=Cl g t.1:=by
 obtain ⟨h1,h2⟩:=ig.1 ht
 rcases hi.it t h1 with h3|h3
 ·omega
 ·exact ⟨⟨h3.1,h3.2.1⟩,h3.2.2.1,h3.2.2.2⟩
theorem Cn {f:Fr} (hi:wh g f):((iF f.row).map (·.1)).Nodup:=by
 refine List.pairwise_map.2 ?_
 have:=hi.once.filter (fun t:It=>decide (0≤t.1))
 refine List.Pairwise.imp_of_mem (fun {s t} hs ht h1=>h1 (ig.1 hs).2) this
theorem DS (hm:aO g=true) {f:Fr} (hi:wh g f) {x:Int} (hR:aH g f x=true):(nk g p f x).Nodup∧∀e,e∈nk g p f x↔(0≤e∧e<g.es.length)∧Cl g e=x:=by
 by_cases hn:bC g x=0
 ·have hno:=rN hm hi.tofY (aR hR).1 hn
  have e0:nk g p f x= []:=by unfold nk;rw [kT _ hno];rfl
  rw [e0]
  refine ⟨List.nodup_nil,fun e=>⟨fun h=>by (cases h),fun ⟨h1,h2⟩=> ?_⟩⟩
  have:=bR.2 ⟨h1,h2⟩
  have h3:aJ (·.2) g.es g.es.length x= []:=List.eq_nil_of_length_eq_zero hn
  rw [h3] at this;cases this
 ·obtain ⟨a,c,e1,ha,hc,hX,hl,_⟩:=uQ hm hi.tofY hR hn (bA p x)
  have cC:=Cn hi
  have hmem:∀t∈iF (aB g f x (bA p x)).1.1,t∈iF f.row:=fun t ht=>by rw [e1];simp [ht]
  rw [e1,List.map_append,List.map_append,List.nodup_append] at cC
  have DT:(nk g p f x).Nodup:=(List.nodup_append.1 cC.1).2.1
  have hsub:∀e∈nk g p f x,e∈aJ (·.2) g.es g.es.length x:=fun e he=>by
   obtain ⟨t,ht,rfl⟩:=List.mem_map.1 he
   obtain ⟨h1,_,h3⟩:=nt hm hi.tofY (hmem t ht)
   exact bR.2 ⟨h1,by rw [← hX t ht,h3];rfl⟩
  have hlen:(aJ (·.2) g.es g.es.length x).length=(nk g p f x).length:=by
   unfold nk;rw [List.length_map,hl];rfl
  exact ⟨DT,fun e=>⟨fun he=>bR.1 (hsub e he),fun he=>xU DT hsub hlen e (bR.2 he)⟩⟩
theorem yS (h:cj g p) {k:Nat} (hk:k<g.n.toNat):cl g p (aq p k)=nk g p (fK g p k) (aq p k):=by
 unfold cl
 rw [ng h.2.1 (Nat.le_refl _) hk];rfl
theorem kC (h:cj g p) {x:Int} (hx:o6 g x):(cl g p x).Nodup∧∀e,e∈cl g p x↔(0≤e∧e<g.es.length)∧Cl g e=x:=by
 obtain ⟨k,hk,rfl⟩:=fI h.2.1 hx.1 hx.2
 have hm:=aC h.1
 obtain ⟨hi,_,_⟩:=di hm h.2.1 (k:=k) (by omega) fun j hj=>h.2.2 j (by omega)
 rw [yS h hk]
 exact DS hm hi (h.2.2 k hk)
theorem jm (h:cj g p) {x:Int} (hx:o6 g x):(cl g p x).length=bC g x:=by
 obtain ⟨h1,h2⟩:=kC h hx
 refine Nat.le_antisymm ?_ ?_
 ·exact eu h1 fun e he=>bR.2 ((h2 e).1 he)
 ·exact eu cQ fun e he=>(h2 e).2 (bR.1 he)
theorem dR (h:cj g p) (hI:nG g=true) {x:Int} (hx:o6 g x):bA p x= []↔x=aq p (g.n.toNat - 1):=by
 have hm:=aC h.1
 have hn:=aW hm
 constructor
 ·intro h1
  have hs:=(om h).1
  have hsi:=aP h.2.1 (k:=g.n.toNat - 1) (by omega)
  have b1:=kW (f:=(·.1)) (g:=g) (y:=x) |>.2 ⟨hx,(ni h.2.1 hx.1 hx.2).2 h1⟩
  have b2:=kW (f:=(·.1)) (g:=g) (y:=aq p (g.n.toNat - 1)) |>.2 ⟨hsi,(ni h.2.1 hsi.1 hsi.2).2 hs⟩
  have hl:(bB (·.1) g).length=1:=by
   unfold nG at hI
   simp only [Bool.and_eq_true,decide_eq_true_eq] at hI
   exact hI.2
  obtain ⟨y,hy⟩:=List.length_eq_one_iff.1 hl
  rw [hy,List.mem_singleton] at b1 b2
  rw [b1,b2]
 ·rintro rfl;exact (om h).1
theorem tB (h:cj g p) (hI:nG g=true) {f:Fr} (hi:wh g f):∀ {d k:Nat},k+d=g.n.toNat→k<g.n.toNat→aq p k∉f.pl→aq p (g.n.toNat - 1)∉f.pl
 |0,k,h1,h2,_=>by omega
 |d+1,k,h1,h2,h3=>by
  have hm:=aC h.1
  have hx:=aP h.2.1 h2
  by_cases hs:bA p (aq p k)= []
  ·rw [(dR h hI hx).1 hs] at h3;exact h3
  ·obtain ⟨e,u,he⟩:=gZ hs
   have uZ:e∈dL g (aq p k):=(bF h.2.1 hx.1 hx.2).mem_iff.1 (by rw [he];simp)
   obtain ⟨sM,w5⟩:=bR.1 uZ
   have hh:=bL hm (i:=e.toNat) (by omega)
   obtain ⟨k',hk',e'⟩:=fI h.2.1 hh.1 hh.2
   obtain ⟨j,hj,e2⟩:=rW h sM hk' e'.symm
   have:j=k:=dh h.2.1 (by omega) h2 (e2.trans w5)
   refine tB h hI hi (d:=g.n.toNat - k') (k:=k') (by omega) hk' fun h4=> ?_
   have:=hi.low e.toNat (by omega) (e' ▸ h4)
   have h5:tl g e.toNat=aq p k:=w5
   exact h3 (h5 ▸ this)
 termination_by d=>d
theorem kB.nd {k:Nat} {W D:List Int} (h:kB g p k W D):W.Nodup:=by
 obtain ⟨f,hi,_,rfl,_⟩:=h;exact Cn hi
theorem kB.mem (h:cj g p) {k:Nat} {W D:List Int} (hr:kB g p k W D) (e:Int):e∈W↔(0≤e∧e<g.es.length)∧kA g e∈D∧Cl g e∉D:=by
 have hm:=aC h.1
 obtain ⟨f,hi,rfl,rfl,hc,_⟩:=hr
 constructor
 ·intro he
  obtain ⟨t,ht,rfl⟩:=List.mem_map.1 he
  obtain ⟨h1,h2,h3⟩:=nt hm hi.tofY ht
  obtain ⟨h4,h5⟩:=ig.1 ht
  exact ⟨h1,h2 ▸ hi.tail t h4 h5,h3 ▸ hi.head t h4 h5⟩
 ·rintro ⟨h1,h2,h3⟩
  obtain ⟨t,h4,h5⟩:=yQ h.1 h.2.1 hi hc (i:=e.toNat) (by omega) h2 h3
  exact List.mem_map.2 ⟨t,ig.2 ⟨h4,by omega⟩,by omega⟩
theorem kB.next (h:cj g p) {k:Nat} {W D:List Int} (hr:kB g p (k+1) W D):∃x A C,W=A++(iG g p).ins x++C∧(iG g p).ins x≠ []:=by
 have hm:=aC h.1
 obtain ⟨f,hi,rfl,rfl,⟨x,hR,hg,_⟩,_,hs⟩:=hr
 obtain ⟨x0,x1,x2⟩:=aR hR
 have hx:o6 g x:=⟨x0,x1⟩
 have hn:bC g x≠0:=fun h0=>by
  have:=mZ h.1 (x:=x) (y:=aq p 0) hx (hi.Fw _ hs) h0 (fF h)
  exact x2 (this ▸ hs)
 obtain ⟨a,c,e1,_,_,_,hl,_⟩:=uQ hm hi.tofY hR hn (bA p x)
 refine ⟨x,a.map (·.1),c.map (·.1), ?_, ?_⟩
 ·rw [jI hx, ← hg,e1,List.map_append,List.map_append];rfl
 ·rw [jI hx]
  intro h0
  have:=jm h hx
  rw [h0] at this
  exact hn this.symm
theorem kB.step (h:cj g p) {k:Nat} {W D A C:List Int} {x:Int} (hr:kB g p k W D) (hW:W=A++(iG g p).ins x++C) (hI:(iG g p).ins x≠ []):∃k',k=k'+1∧kB g p k' (A++(iG g p).outs x++C) (D++ [x]):=by
 have hm:=aC h.1
 have hx:o6 g x:=Decidable.byContradiction fun h0=>hI (nq h0)
 have cC:=hr.nd
 have hmem:=kB.mem h hr
 rw [jI hx] at hW hI
 rw [ij hx]
 obtain ⟨i1,i2⟩:=kC h hx
 obtain ⟨e0,u0,DD⟩:=gZ hI
 have Nh:x∉D:=by
  have h1:=(i2 e0).1 (by rw [DD];simp)
  have h2:=(hmem e0).1 (by rw [hW,DD];simp)
  rw [h1.2] at h2;exact h2.2.2
 obtain ⟨f,hi,rfl,O0,hc,hD,hs⟩:=hr
 rw [O0] at hW cC
 obtain ⟨l1,c,e1,e2,e3⟩:=List.map_eq_append_iff.1 hW
 obtain ⟨a,X,e4,e5,e6⟩:=List.map_eq_append_iff.1 e2
 have hrow:iF f.row=a++X++c:=by rw [e1,e4]
 rw [hrow,List.map_append,List.map_append,e5,e6,e3] at cC
 have hit:∀t∈a++X++c,(0≤t.1∧t.1<g.es.length)∧t.2.1=kA g t.1∧t.2.2=Cl g t.1:=fun t ht=>nt hm hi.tofY (by rw [hrow];exact ht)
 have hX:uP x X:=fun t ht=>by
  have h1:t.1∈cl g p x:=by rw [← e6];exact List.mem_map_of_mem ht
  rw [(hit t (by simp [ht])).2.2,((i2 _).1 h1).2]
 have hin:∀t∈a++X++c,t.2.2=x→t.1∈cl g p x:=fun t ht e=>by
  obtain ⟨h1,_,h3⟩:=hit t ht
  exact (i2 _).2 ⟨h1,by rw [← h3,e]⟩
 have ha:eZ x a:=fun t ht e=>by
  have h1:=hin t (by simp [ht]) e
  have h2:t.1∈A:=by rw [← e5];exact List.mem_map_of_mem ht
  exact (List.nodup_append.1 (List.nodup_append.1 cC).1).2.2 _ h2 _ h1 rfl
 have Ni:eZ x c:=fun t ht e=>by
  have h1:=hin t (by simp [ht]) e
  have h2:t.1∈C:=by rw [← e3];exact List.mem_map_of_mem ht
  exact (List.nodup_append.1 cC).2.2 _ (List.mem_append.2 (.inr h1)) _ h2 rfl
 have L4:X.length=bC g x:=by rw [← jm h hx, ← e6,List.length_map]
 have nX:X≠ []:=fun h0=>hI (by rw [← e6,h0];rfl)
 have hR:=Ck hm hi.tofY hx.1 hx.2 Nh hrow ha Ni hX nX L4
 have hn:bC g x≠0:=fun h0=>nX (List.eq_nil_of_length_eq_zero (L4.trans h0))
 have px:=bF h.2.1 hx.1 hx.2
 cases k with
 |zero=>exact absurd (jk hi.tofY (by omega) hx) Nh
 |succ k=>
  refine ⟨k,rfl,tj g p f x,jj hm hi hR px,rfl, ?_,(tw h.1 h.2.1 hi (by omega) hc hR).2, ?_,List.mem_append.2 (.inl hs)⟩
  ·have:=DR hm hi.tofY hR hn hrow ha Ni hX nX (bA p x)
   show _=(iF (aB g f x (bA p x)).2.row).map (·.1)
   rw [this,List.map_append,List.map_append,e5,e3,kY (fun i hi=>by
    have:=bR.1 (px.mem_iff.1 hi);exact this.1.1),List.map_map]
   have e7:((fun t:It=>t.1) ∘ ia g x)=id:=rfl
   rw [e7,List.map_id]
  ·show (((f.pl++ [x]).length:Nat):Int)+_=_
   rw [List.length_append,List.length_singleton];omega
theorem Aj (h:cj g p):kB g p (g.n.toNat - 1) (bA p (aq p 0)) [aq p 0]:=by
 have hm:=aC h.1
 have hn:=aW hm
 have hx:=aP h.2.1 (k:=0) (by omega)
 obtain ⟨hi,fT,_⟩:=di hm h.2.1 (k:=1) (by omega) fun j hj=>h.2.2 j (by omega)
 have px:=bF h.2.1 hx.1 hx.2
 have hno:eZ (aq p 0) (fK g p 0).row:=fun t ht=>by cases ht
 have hf:fK g p 1=⟨aV g (aq p 0) (bA p (aq p 0)), [aq p 0]⟩:=by
  show (aB g (fK g p 0) (aq p 0) _).2=_
  rw [kT _ hno]
  show (⟨_++ [], []++ [_]⟩:Fr)=_
  simp
 refine ⟨fK g p 1,hi,by rw [hf], ?_,tA h (by omega),by simp;omega,by simp⟩
 rw [hf]
 show _=(iF (aV g (aq p 0) (bA p (aq p 0)))).map (·.1)
 rw [kY (fun i hi=>(bR.1 (px.mem_iff.1 hi)).1.1),List.map_map]
 have e7:((fun t:It=>t.1) ∘ ia g (aq p 0))=id:=rfl
 rw [e7,List.map_id]
theorem yT (h:cj g p) (hI:nG g=true):(iG g p).Ok:=by
 have hm:=aC h.1
 have hn:=aW hm
 have h0:o6 g (aq p 0):=aP h.2.1 (by omega)
 exact {
  jd:=fun x e=>by
   show _↔(0≤e∧e<g.es.length)∧kA g e=x
   by_cases hx:o6 g x
   ·rw [ij hx,(bF h.2.1 hx.1 hx.2).mem_iff];exact bR
   ·rw [nr hx]
    refine ⟨fun h=>by (cases h),fun ⟨h1,h2⟩=>absurd ?_ hx⟩
    rw [← h2];exact bw hm (i:=e.toNat) (by omega)
  dg:=fun x e=>by
   show _↔(0≤e∧e<g.es.length)∧Cl g e=x
   by_cases hx:o6 g x
   ·rw [jI hx];exact (kC h hx).2 e
   ·rw [nq hx]
    refine ⟨fun h=>by (cases h),fun ⟨h1,h2⟩=>absurd ?_ hx⟩
    rw [← h2];exact bL hm (i:=e.toNat) (by omega)
  mS:=fun x=>by
   by_cases hx:o6 g x
   ·rw [ij hx,(bF h.2.1 hx.1 hx.2).nodup_iff];exact cQ
   ·rw [nr hx];exact List.nodup_nil
  xN:=fun x=>by
   by_cases hx:o6 g x
   ·rw [jI hx];exact (kC h hx).1
   ·rw [nq hx];exact List.nodup_nil
  nU:=fun e he=>by
   have he:0≤e∧e<g.es.length:=he
   have hh:=bL hm (i:=e.toNat) (by omega)
   obtain ⟨k,hk,e1⟩:=fI h.2.1 hh.1 hh.2
   obtain ⟨j,hj,e2⟩:=rW h he hk e1.symm
   show Cm g p (kA g e)<Cm g p (Cl g e)
   have e3:Cl g e=aq p k:=e1.symm
   rw [← e2,e3,yR hm h.2.1 hk,yR hm h.2.1 (by omega)]
   exact hj
  DJ:=by
   show kB g p (g.n.toNat - 1) ((iG g p).outs (aq p 0)) [aq p 0]
   rw [ij h0];exact Aj h
  lV:=fun hr=>kB.nd hr
  dW:=fun hr e=>kB.mem h hr e
  kr:=fun hr=>kB.next h hr
  mT:=fun hr h1 h2=>kB.step h hr h1 h2
  kR:=fun {W D} hr e he=>by
   obtain ⟨f,hi,rfl,_,_,hD,_⟩:=hr
   exact jk hi.tofY (by omega) (bL hm (i:=e.toNat) (by have:=he.1;have:=he.2;have:e<g.es.length:=he.2;omega))
  pN:=fun {k W D} hr=>by obtain ⟨f,hi,rfl,_,_,_,hs⟩:=hr;exact hs
  pO:=fun {k W D} hr hs=>by
   obtain ⟨f,hi,rfl,_,_,hD,_⟩:=hr
   refine Decidable.byContradiction fun hk=> ?_
   have:∃k',k'<g.n.toNat∧aq p k'∉f.pl:=by
    refine Decidable.byContradiction fun hall=> ?_
    have hall:∀k',k'<g.n.toNat→aq p k'∈f.pl:=fun k' hk'=>Decidable.byContradiction fun h1=>hall ⟨k',hk',h1⟩
    have:=eu (l:=p.ord) (m:=f.pl) (rQ h.2.1) fun x hx=>by
     have hx:=dB.1 (h.2.1.2.1.mem_iff.1 hx)
     obtain ⟨k',h1,rfl⟩:=fI h.2.1 hx.1 (by omega)
     exact hall k' h1
    rw [bW h.2.1] at this
    omega
   obtain ⟨k',h1,h2⟩:=this
   exact tB h hI hi (d:=g.n.toNat - k') (by omega) h1 h2 hs
  uG:=by
   show (iG g p).ins (aq p 0)= []
   rw [jI h0]
   have:=jm h h0
   rw [fF h] at this
   exact List.eq_nil_of_length_eq_zero this
  pP:=fun x hx=>by
   have CZ:o6 g x:=Decidable.byContradiction fun h0=>hx (nq h0)
   rw [ij CZ]
   exact dR h hI CZ}
end
end Go.Ab
end
section
namespace Go.Ab
open Go.Proofs
attribute [local congr] ACall.congr
set_option maxRecDepth 20000
set_option maxHeartbeats 8000000
theorem uR (g:Gr) (hm:aO g=true):Spec Tryz.prog 97 (Args [eG g]) [] (.tup [.d (vw g), .d (sI (bI g)),eB (mQ g)]) []:=by
 have hn:=aW hm
 have hO:=eR g hm
 have hR:=xJ g hm
 have hM:=eP g (by omega)
 rw [hm] at hM
 cases hok:mQ g with
 |false=>
  rw [hok] at hR
  (refine Spec.intro (C:=T.cfg [] []) (rs:= [.t 2, .t 3, .t 4]) (T.ak _ _) Tryz.func97 rfl rfl Tryz.ntmps97 Tryz.results97 (by simp [AObj.isNest]) (by simp [AObj.isNest]) (by kernel_rfl) ?_;intro X hX hP hC aK aL vals hA;refine ⟨_,by simp,hA, ?_⟩;have af:X.P.follows .mixedOrders=true:=(by rw [hP];exact T.mixed);clear aK aL)
  repeat' (first|fail|((first|((with_reducible (first|apply oA|apply oB));exact rfl;intro K hK)|(refine hK _ ?_;clear hK K)|((with_reducible (first|apply oG|apply oH));iterate 3 exact rfl)|((with_reducible apply oI);(iterate 2 exact rfl);intro K hK)|(with_reducible (first|apply wI|apply wJ|apply wK)));try simp only [go_sem,simprocAttr])|fail|(with_reducible (first|apply oC|apply oJ|exact oK|apply wA|apply wB|apply wC hX hC|apply wD hX hC|apply wE hX hC af|apply wF hX hC af|apply wG|apply wH|apply And.intro))|((with_reducible refine oD ?_ ?_);first|fail|kernel_rfl)|((with_reducible (first|apply oE|apply oF));(iterate 3 exact rfl);all_goals (intro h;first|(exact absurd h (by decide))|((try simp only [go_sem,simprocAttr] at h);(try with_reducible intro K hK);simp only [go_sem,simprocAttr])))|((first|((with_reducible apply wL);exact rfl)|((with_reducible apply wM);exact rfl));all_goals (try ((with_reducible intro h);first|(exact absurd h (by decide))|(try simp only [go_sem,simprocAttr] at h))))|omega|((first|first|refine aa hX hC hP (hO) rfl rfl rfl (by simp only [go_sem,simprocAttr]) rfl ?_|refine aa hX hC hP (hR) rfl rfl rfl (by simp only [go_sem,simprocAttr]) rfl ?_|refine aa hX hC hP (hM) rfl rfl rfl (by simp only [go_sem,simprocAttr]) rfl ?_);try simp only [go_sem,simprocAttr])|(intro h))
 |true=>
  rw [hok] at hR
  (refine Spec.intro (C:=T.cfg [] []) (rs:= [.t 2, .t 3, .t 4]) (T.ak _ _) Tryz.func97 rfl rfl Tryz.ntmps97 Tryz.results97 (by simp [AObj.isNest]) (by simp [AObj.isNest]) (by kernel_rfl) ?_;intro X hX hP hC aK aL vals hA;refine ⟨_,by simp,hA, ?_⟩;have af:X.P.follows .mixedOrders=true:=(by rw [hP];exact T.mixed);clear aK aL)
  repeat' (first|fail|((first|((with_reducible (first|apply oA|apply oB));exact rfl;intro K hK)|(refine hK _ ?_;clear hK K)|((with_reducible (first|apply oG|apply oH));iterate 3 exact rfl)|((with_reducible apply oI);(iterate 2 exact rfl);intro K hK)|(with_reducible (first|apply wI|apply wJ|apply wK)));try simp only [go_sem,simprocAttr])|fail|(with_reducible (first|apply oC|apply oJ|exact oK|apply wA|apply wB|apply wC hX hC|apply wD hX hC|apply wE hX hC af|apply wF hX hC af|apply wG|apply wH|apply And.intro))|((with_reducible refine oD ?_ ?_);first|fail|kernel_rfl)|((with_reducible (first|apply oE|apply oF));(iterate 3 exact rfl);all_goals (intro h;first|(exact absurd h (by decide))|((try simp only [go_sem,simprocAttr] at h);(try with_reducible intro K hK);simp only [go_sem,simprocAttr])))|((first|((with_reducible apply wL);exact rfl)|((with_reducible apply wM);exact rfl));all_goals (try ((with_reducible intro h);first|(exact absurd h (by decide))|(try simp only [go_sem,simprocAttr] at h))))|omega|((first|first|refine aa hX hC hP (hO) rfl rfl rfl (by simp only [go_sem,simprocAttr]) rfl ?_|refine aa hX hC hP (hR) rfl rfl rfl (by simp only [go_sem,simprocAttr]) rfl ?_|refine aa hX hC hP (hM) rfl rfl rfl (by simp only [go_sem,simprocAttr]) rfl ?_);try simp only [go_sem,simprocAttr])|(intro h))
def k6 (g:Gr) (st:List Int) (x:Nat) (l:List Int):Nat→List Int
 |0=>st
 |j+1=>(k6 g st x l j).set x (max ((k6 g st x l j).getD x 0) ((k6 g st x l j).getD (kA g (l.getD j 0)).toNat 0+1))
def oo (g:Gr):Nat→List Int
 |0=>List.replicate g.n.toNat 0
 |k+1=>k6 g (oo g k) ((bI g).getD k 0).toNat (aJ (fun e=>e.2) g.es g.es.length ((bI g).getD k 0)) (aJ (fun e=>e.2) g.es g.es.length ((bI g).getD k 0)).length
def wN (g:Gr):List Int:=oo g (bI g).length
theorem nu {g:Gr} {st:List Int} {x:Nat} {l:List Int} :∀ {j:Nat},(k6 g st x l j).length=st.length
 |0=>rfl
 |j+1=>by rw [k6,List.length_set,nu]
theorem pW {g:Gr} :∀ {k:Nat},(oo g k).length=g.n.toNat
 |0=>by simp [oo]
 |k+1=>by rw [oo,nu,pW]
theorem uS {g:Gr} {st:List Int} {x:Nat} {l:List Int} {B:Int} (hst:∀v,0≤st.getD v 0∧st.getD v 0≤B):∀ {j:Nat} (v:Nat),0≤(k6 g st x l j).getD v 0∧(k6 g st x l j).getD v 0≤B+j
 |0,v=>by have:=hst v;show 0≤st.getD v 0∧st.getD v 0≤B+(0:Nat);omega
 |j+1,v=>by
  have h1:=uS hst (g:=g) (x:=x) (l:=l) (j:=j)
  have h2:=h1 v
  have h3:=h1 x
  have h4:=h1 (kA g (l.getD j 0)).toNat
  have:(k6 g st x l (j+1)).getD v 0=(k6 g st x l j).getD v 0∨(k6 g st x l (j+1)).getD v 0=max ((k6 g st x l j).getD x 0) ((k6 g st x l j).getD (kA g (l.getD j 0)).toNat 0+1):=by
   rw [k6,List.getD_eq_getElem?_getD,List.getElem?_set]
   split
   ·rename_i e
    subst e
    split
    ·exact .inr rfl
    ·rename_i hl
     left
     rw [List.getD_eq_getElem?_getD,List.getElem?_eq_none (by omega)]
   ·left;rw [← List.getD_eq_getElem?_getD]
  omega
theorem pX {g:Gr} :∀ {k:Nat} (v:Nat),0≤(oo g k).getD v 0∧(oo g k).getD v 0≤(k*g.es.length:Nat)
 |0,v=>by
  have:(oo g 0).getD v 0=0:=by
   rw [oo,List.getD_eq_getElem?_getD,List.getElem?_replicate];split<;>rfl
  omega
 |k+1,v=>by
  have:=uS (g:=g) (x:=((bI g).getD k 0).toNat) (l:=aJ (fun e=>e.2) g.es g.es.length ((bI g).getD k 0)) (fun v=>pX (g:=g) (k:=k) v) (j:=(aJ (fun e=>e.2) g.es g.es.length ((bI g).getD k 0)).length) v
  have hl:(aJ (fun e=>e.2) g.es g.es.length ((bI g).getD k 0)).length≤g.es.length:=gy
  rw [oo,Nat.add_mul]
  omega
theorem o7 (g:Gr) (hm:aO g=true) (hok:mQ g=true):Spec Tryz.prog 69 (Args [eG g]) [] (.tup [.d (sI (wN g)),eN 0]) []:=by
 have hn:=aW hm
 have hPa:=uR g hm
 rw [hok] at hPa
 have Mg:=gN g hm
 have Aw:=yE hm
 have hall:=mR hm hok
 have Gc:bI g=aG g:=if_pos hok
 rw [← Gc] at hall
 have Mh:=kq hall
 have wO:List.replicate g.n.toNat [D.sc (.int .i64 0)]=(oo g 0).map rI:=by rw [oo,List.map_replicate];rfl
 (refine Spec.intro (C:=T.cfg [] []) (rs:= [.t 2, .t 3]) (T.ak _ _) Tryz.func69 rfl rfl Tryz.ntmps69 Tryz.results69 (by simp [AObj.isNest]) (by simp [AObj.isNest]) (by kernel_rfl) ?_;intro X hX hP hC aK aL vals hA;refine ⟨_,by simp,hA, ?_⟩;have af:X.P.follows .mixedOrders=true:=(by rw [hP];exact T.mixed);clear aK aL)
 repeat' (first|fail|((first|((with_reducible (first|apply oA|apply oB));exact rfl;intro K hK)|(refine hK _ ?_;clear hK K)|((with_reducible (first|apply oG|apply oH));iterate 3 exact rfl)|((with_reducible apply oI);(iterate 2 exact rfl);intro K hK)|(with_reducible (first|apply wI|apply wJ|apply wK)));try simp only [go_sem,simprocAttr,wO])|fail|(with_reducible (first|apply oC|apply oJ|exact oK|apply wA|apply wB|apply wC hX hC|apply wD hX hC|apply wE hX hC af|apply wF hX hC af|apply wG|apply wH|apply And.intro))|((with_reducible refine oD ?_ ?_);first|fail|kernel_rfl)|((with_reducible (first|apply oE|apply oF));(iterate 3 exact rfl);all_goals (intro h;first|(exact absurd h (by decide))|((try simp only [go_sem,simprocAttr,wO] at h);(try with_reducible intro K hK);simp only [go_sem,simprocAttr,wO])))|((first|((with_reducible apply wL);exact rfl)|((with_reducible apply wM);exact rfl));all_goals (try ((with_reducible intro h);first|(exact absurd h (by decide))|(try simp only [go_sem,simprocAttr,wO] at h))))|omega|((first|first|refine aa hX hC hP (hPa) rfl rfl rfl (by simp only [go_sem,simprocAttr,wO]) rfl ?_);try simp only [go_sem,simprocAttr,wO])|(intro h))
 refine aj (fun k:Nat=>k≤(bI g).length) (fun k=>⟨[(1, .ptr 1 0),(4, .d (vw g)),(7, .ref 22),(23, .d (sI (bI g))),(24,eN (bI g).length),(25,eN k)], [(1, .box [eN g.n, .d (sE g.es)]),(22, .own 3 1 ((oo g k).map rI))]⟩) (fun k=>(bI g).length - k) 0 (by omega) ?_ ?_
 ·refine Le.of ?_ ?_<;>simp [go_sem,simprocAttr]
 rintro k hk
 rcases Nat.lt_or_ge k (bI g).length with bD|xo
 rotate_left
 ·have hb:decide ((k:Int)<((bI g).length:Int))=false:=decide_eq_false (by omega)
  obtain rfl:k=(bI g).length:=by omega
  have hL:oo g (bI g).length=wN g:=rfl
  rw [hL]
  repeat' (first|fail|((first|((with_reducible (first|apply oA|apply oB));exact rfl;intro K hK)|(refine hK _ ?_;clear hK K)|((with_reducible (first|apply oG|apply oH));iterate 3 exact rfl)|((with_reducible apply oI);(iterate 2 exact rfl);intro K hK)|(with_reducible (first|apply wI|apply wJ|apply wK)));try simp only [go_sem,simprocAttr,hb])|fail|(with_reducible (first|apply oC|apply oJ|exact oK|apply wA|apply wB|apply wC hX hC|apply wD hX hC|apply wE hX hC af|apply wF hX hC af|apply wG|apply wH|apply And.intro))|((with_reducible refine oD ?_ ?_);first|fail|kernel_rfl)|((with_reducible (first|apply oE|apply oF));(iterate 3 exact rfl);all_goals (intro h;first|(exact absurd h (by decide))|((try simp only [go_sem,simprocAttr,hb] at h);(try with_reducible intro K hK);simp only [go_sem,simprocAttr,hb])))|((first|((with_reducible apply wL);exact rfl)|((with_reducible apply wM);exact rfl));all_goals (try ((with_reducible intro h);first|(exact absurd h (by decide))|(try simp only [go_sem,simprocAttr,hb] at h))))|omega|((first|fail);try simp only [go_sem,simprocAttr,hb])|(intro h))
 have hb:decide ((k:Int)<((bI g).length:Int))=true:=decide_eq_true (by omega)
 have hx:=Mh _ (aY (d:=0) bD)
 have Nj:=Mg ((bI g).getD k 0)
 rw [eC hx.1 hx.2] at Nj
 have fc:oo g (k+1)=k6 g (oo g k) ((bI g).getD k 0).toNat (aJ (fun e=>e.2) g.es g.es.length ((bI g).getD k 0)) (aJ (fun e=>e.2) g.es g.es.length ((bI g).getD k 0)).length:=rfl
 have lB:(aJ (fun e=>e.2) g.es g.es.length ((bI g).getD k 0)).length≤g.es.length:=gy
 have hmem:∀i∈aJ (fun e=>e.2) g.es g.es.length ((bI g).getD k 0),0≤i∧i<g.es.length:=fun i hi=>(je hi).1
 have hbd:=pX (g:=g) (k:=k)
 have hmul:k*g.es.length≤64*128:=Nat.mul_le_mul (by omega) (by omega)
 have hlk:=pW (g:=g) (k:=k)
 generalize aJ (fun e=>e.2) g.es g.es.length ((bI g).getD k 0)=l at*
 generalize u5:(bI g).getD k 0=xv at*
 obtain ⟨x,rfl⟩:∃x:Nat,xv=x:=⟨xv.toNat,by omega⟩
 rw [Int.toNat_natCast] at fc
 generalize oo g k=st at*
 repeat' (first|fail|((first|((with_reducible (first|apply oA|apply oB));exact rfl;intro K hK)|(refine hK _ ?_;clear hK K)|((with_reducible (first|apply oG|apply oH));iterate 3 exact rfl)|((with_reducible apply oI);(iterate 2 exact rfl);intro K hK)|(with_reducible (first|apply wI|apply wJ|apply wK)));try simp only [go_sem,simprocAttr,hb,u5])|fail|(with_reducible (first|apply oC|apply oJ|exact oK|apply wA|apply wB|apply wC hX hC|apply wD hX hC|apply wE hX hC af|apply wF hX hC af|apply wG|apply wH|apply And.intro))|((with_reducible refine oD ?_ ?_);first|fail|kernel_rfl)|((with_reducible (first|apply oE|apply oF));(iterate 3 exact rfl);all_goals (intro h;first|(exact absurd h (by decide))|((try simp only [go_sem,simprocAttr,hb,u5] at h);(try with_reducible intro K hK);simp only [go_sem,simprocAttr,hb,u5])))|((first|((with_reducible apply wL);exact rfl)|((with_reducible apply wM);exact rfl));all_goals (try ((with_reducible intro h);first|(exact absurd h (by decide))|(try simp only [go_sem,simprocAttr,hb,u5] at h))))|omega|((first|first|refine aa hX hC hP (Nj) rfl rfl rfl (by simp only [go_sem,simprocAttr,hb,u5]) rfl ?_);try simp only [go_sem,simprocAttr,hb,u5])|(intro h))
 refine aj (fun j:Nat=>j≤l.length) (fun j=>⟨[(1, .ptr 1 0),(4, .d (vw g)),(7, .ref 22),(9,eN x),(23, .d (sI (bI g))),(24,eN (bI g).length),(25,eN k),(31, .d (sI l)),(32,eN l.length),(33,eN j)], [(1, .box [eN g.n, .d (sE g.es)]),(22, .own 3 1 ((k6 g st x l j).map rI))]⟩) (fun j=>l.length - j) 0 (by omega) ?_ ?_
 ·refine Le.of ?_ ?_<;>simp [go_sem,simprocAttr,k6]
 rintro j hj
 rcases Nat.lt_or_ge j l.length with hjl|F4
 rotate_left
 ·have jW:decide ((j:Int)<(l.length:Int))=false:=decide_eq_false (by omega)
  obtain rfl:j=l.length:=by omega
  repeat' (first|fail|((first|((with_reducible (first|apply oA|apply oB));exact rfl;intro K hK)|(refine hK _ ?_;clear hK K)|((with_reducible (first|apply oG|apply oH));iterate 3 exact rfl)|((with_reducible apply oI);(iterate 2 exact rfl);intro K hK)|(with_reducible (first|apply wI|apply wJ|apply wK)));try simp only [go_sem,simprocAttr,jW])|fail|(with_reducible (first|apply oC|apply oJ|exact oK|apply wA|apply wB|apply wC hX hC|apply wD hX hC|apply wE hX hC af|apply wF hX hC af|apply wG|apply wH|apply And.intro))|((with_reducible refine oD ?_ ?_);first|fail|kernel_rfl)|((with_reducible (first|apply oE|apply oF));(iterate 3 exact rfl);all_goals (intro h;first|(exact absurd h (by decide))|((try simp only [go_sem,simprocAttr,jW] at h);(try with_reducible intro K hK);simp only [go_sem,simprocAttr,jW])))|((first|((with_reducible apply wL);exact rfl)|((with_reducible apply wM);exact rfl));all_goals (try ((with_reducible intro h);first|(exact absurd h (by decide))|(try simp only [go_sem,simprocAttr,jW] at h))))|omega|((first|fail);try simp only [go_sem,simprocAttr,jW])|(intro h))
  refine ⟨k+1,by omega, ?_,by omega⟩
  rw [fc]
  refine Le.of ?_ ?_<;>simp [go_sem,simprocAttr,jW]
 have jW:decide ((j:Int)<(l.length:Int))=true:=decide_eq_true (by omega)
 have hin:=hmem _ (aY (d:=0) hjl)
 have Ji:k6 g st x l (j+1)=(k6 g st x l j).set x (max ((k6 g st x l j).getD x 0) ((k6 g st x l j).getD (kA g (l.getD j 0)).toNat 0+1)):=rfl
 have Co:=nu (g:=g) (st:=st) (x:=x) (l:=l) (j:=j)
 have Jk:=uS (g:=g) (x:=x) (l:=l) (j:=j) hbd
 obtain ⟨e,he⟩:∃e:Nat,l.getD j 0=e:=⟨(l.getD j 0).toNat,by omega⟩
 obtain ⟨ht,_⟩:=c9 hm (k:=e) (by omega)
 obtain ⟨t,vi⟩:∃t:Nat,(g.es.getD e (0,0)).1=t:=⟨(g.es.getD e (0,0)).1.toNat,by omega⟩
 have hte:(kA g (l.getD j 0)).toNat=t:=by rw [he];show ((g.es.getD e (0,0)).1).toNat=t;rw [vi];rfl
 rw [hte] at Ji
 have au:=Jk t
 have an:=Jk x
 generalize k6 g st x l j=S1 at*
 repeat' (first|fail|((first|((with_reducible (first|apply oA|apply oB));exact rfl;intro K hK)|(refine hK _ ?_;clear hK K)|((with_reducible (first|apply oG|apply oH));iterate 3 exact rfl)|((with_reducible apply oI);(iterate 2 exact rfl);intro K hK)|(with_reducible (first|apply wI|apply wJ|apply wK)));try simp only [go_sem,simprocAttr,jW,he,vi,Co,hlk,ah,iz])|fail|(with_reducible (first|apply oC|apply oJ|exact oK|apply wA|apply wB|apply wC hX hC|apply wD hX hC|apply wE hX hC af|apply wF hX hC af|apply wG|apply wH|apply And.intro))|((with_reducible refine oD ?_ ?_);first|fail|kernel_rfl)|((with_reducible (first|apply oE|apply oF));(iterate 3 exact rfl);all_goals (intro h;first|(exact absurd h (by decide))|((try simp only [go_sem,simprocAttr,jW,he,vi,Co,hlk,ah,iz] at h);(try with_reducible intro K hK);simp only [go_sem,simprocAttr,jW,he,vi,Co,hlk,ah,iz])))|((first|((with_reducible apply wL);exact rfl)|((with_reducible apply wM);exact rfl));all_goals (try ((with_reducible intro h);first|(exact absurd h (by decide))|(try simp only [go_sem,simprocAttr,jW,he,vi,Co,hlk,ah,iz] at h))))|omega|((first|fail);try simp only [go_sem,simprocAttr,jW,he,vi,Co,hlk,ah,iz])|(intro h))
 refine ⟨j+1,by omega, ?_,by omega⟩
 rw [Ji]
 refine Le.of ?_ ?_<;>simp [go_sem,rI,ah]
end Go.Ab
end
section
namespace Go.Ab
open Go.Proofs
set_option maxRecDepth 10000
set_option linter.unusedSectionVars false
theorem tC {l:List Int} {i j:Nat} {a:Int} (hi:i<l.length):(l.set i a).getD j 0=if j=i then a else l.getD j 0:=by
 rw [List.getD_eq_getElem?_getD,List.getElem?_set]
 by_cases h:i=j
 ·subst h;rw [if_pos rfl,if_pos hi,if_pos rfl];rfl
 ·rw [if_neg h,if_neg (fun e=>h e.symm), ← List.getD_eq_getElem?_getD]
theorem oq {g:Gr} {st:List Int} {x:Nat} {l:List Int} (hx:x<st.length) {v:Nat} (hv:v≠x):∀ {j:Nat},(k6 g st x l j).getD v 0=st.getD v 0
 |0=>rfl
 |j+1=>by rw [k6,tC (by rw [nu];exact hx),if_neg hv];exact oq hx hv
theorem wP {g:Gr} {st:List Int} {x:Nat} {l:List Int} (hx:x<st.length) (ht:∀e∈l,(kA g e).toNat≠x):∀ {j:Nat},j≤l.length→(st.getD x 0≤(k6 g st x l j).getD x 0)∧(∀i,i<j→st.getD (kA g (l.getD i 0)).toNat 0+1≤(k6 g st x l j).getD x 0)∧((k6 g st x l j).getD x 0=st.getD x 0∨∃i,i<j∧(k6 g st x l j).getD x 0=st.getD (kA g (l.getD i 0)).toNat 0+1)
 |0,_=>⟨Int.le_refl _,fun i hi=>by omega, .inl rfl⟩
 |j+1,hj=>by
  obtain ⟨h1,h2,h3⟩:=wP hx ht (g:=g) (l:=l) (j:=j) (by omega)
  have e1:(k6 g st x l (j+1)).getD x 0=max ((k6 g st x l j).getD x 0) (st.getD (kA g (l.getD j 0)).toNat 0+1):=by
   rw [k6,tC (by rw [nu];exact hx),if_pos rfl,oq hx (ht _ (aY (by omega)))]
  rw [e1]
  refine ⟨by omega,fun i hi=> ?_, ?_⟩
  ·by_cases hij:i=j
   ·subst hij;omega
   ·have:=h2 i (by omega);omega
  ·by_cases hc:(k6 g st x l j).getD x 0≤st.getD (kA g (l.getD j 0)).toNat 0+1
   ·exact .inr ⟨j,by omega,by omega⟩
   ·rcases h3 with h3|⟨i,hi,h3⟩
    ·exact .inl (by omega)
    ·exact .inr ⟨i,by omega,by omega⟩
structure Mi (g:Gr) (st:List Int) (D:List Int):Prop where
 out:∀v:Nat,(v:Int)∉D→st.getD v 0=0
 up:∀i,i<g.es.length→hd g i∈D→st.getD (tl g i).toNat 0+1≤st.getD (hd g i).toNat 0
 why:∀v:Nat,(v:Int)∈D→st.getD v 0=0∨∃i,i<g.es.length∧hd g i=v∧st.getD v 0=st.getD (tl g i).toNat 0+1
theorem Es {g:Gr} (hm:aO g=true) (hok:mQ g=true):∀ {k:Nat},k≤(bI g).length→Mi g (oo g k) ((bI g).take k)
 |0,_=>⟨fun v _=>by
    rw [oo,List.getD_eq_getElem?_getD,List.getElem?_replicate];split<;>rfl,fun i _ h=>by simp at h,fun v h=>by simp at h⟩
 |k+1,hk=>by
  have ih:=Es hm hok (k:=k) (by omega)
  have Gc:bI g=aG g:=if_pos hok
  have hall:=mR hm hok
  rw [← Gc] at hall
  have hx:=kq hall _ (aY (d:=0) (show k<(bI g).length by omega))
  have Jl:Ord g (bI g):=by rw [Gc];exact (dA hm).2.1
  have uM:(bI g).take (k+1)=(bI g).take k++ [(bI g).getD k 0]:=by
   rw [List.take_add_one,List.getD_eq_getElem?_getD,List.getElem?_eq_getElem (by omega)];rfl
  have zE:(bI g).getD k 0∉(bI g).take k:=fun hm2=>by
   obtain ⟨r,hr,e⟩:=List.mem_iff_getElem.1 hm2
   rw [List.length_take] at hr
   rw [List.getElem_take] at e
   have:=gM hall (i:=r) (j:=k) (by omega) (by omega) (by rw [← e,List.getD_eq_getElem?_getD,List.getElem?_eq_getElem (by omega)];rfl)
   omega
  have hlen:=pW (g:=g) (k:=k)
  have tV:∀q,q≤(bI g).length→∀i,i<g.es.length→hd g i∈(bI g).take q→tl g i∈(bI g).take q:=fun q hq i hi hh=>by
   obtain ⟨r,hr,e⟩:=List.mem_iff_getElem.1 hh
   rw [List.length_take] at hr
   rw [List.getElem_take] at e
   have:=Jl r (by omega) i hi (by rw [List.getD_eq_getElem?_getD,List.getElem?_eq_getElem (by omega)];exact e.symm)
   exact (List.take_sublist_take_left (by omega)).subset this
  have Mj:∀i,i<g.es.length→hd g i=(bI g).getD k 0→tl g i∈(bI g).take k:=fun i hi hh=>Jl k (by omega) i hi hh
  generalize u5:(bI g).getD k 0=xv at*
  obtain ⟨x,rfl⟩:∃x:Nat,xv=x:=⟨xv.toNat,by omega⟩
  have fc:oo g (k+1)=k6 g (oo g k) x (aJ (fun e=>e.2) g.es g.es.length (x:Int)) (aJ (fun e=>e.2) g.es g.es.length (x:Int)).length:=by
   rw [oo,u5,Int.toNat_natCast]
  have hxl:x<(oo g k).length:=by omega
  have hl:∀e,e∈aJ (fun e=>e.2) g.es g.es.length (x:Int)↔(0≤e∧e<g.es.length)∧Cl g e=x:=fun e=>bR
  have hne:∀y,y∈(bI g).take k→y≠(x:Int):=fun y hy e=>zE (e ▸ hy)
  have htr:=fun i (hi:i<g.es.length)=>bw hm hi
  have O1:=fun i (hi:i<g.es.length)=>bL hm hi
  have yL:=wP (g:=g) (st:=oo g k) (x:=x) (l:=aJ (fun e=>e.2) g.es g.es.length (x:Int)) hxl (fun e he=>by
   obtain ⟨h1,h2⟩:=(hl e).1 he
   have h3:=hne _ (Mj e.toNat (by omega) h2)
   have h4:=htr e.toNat (by omega)
   have h5:kA g e=tl g e.toNat:=rfl
   rw [h5];omega) (Nat.le_refl _)
  have xW:∀v:Nat,v≠x→(oo g (k+1)).getD v 0=(oo g k).getD v 0:=fun v hv=>by rw [fc];exact oq hxl hv
  rw [← fc] at yL
  obtain ⟨s1,s2,s3⟩:=yL
  have hx0:=ih.out x zE
  rw [uM]
  refine ⟨fun v hv=> ?_,fun i hi hh=> ?_,fun v hv=> ?_⟩
  ·rw [List.mem_append,List.mem_singleton] at hv
   rw [xW v (fun e=>hv (.inr (by rw [e]))),ih.out v (fun h=>hv (.inl h))]
  ·have t1:=htr i hi
   have t2:=O1 i hi
   rw [List.mem_append,List.mem_singleton] at hh
   rcases hh with hh|hh
   ·have n1:=hne _ hh
    have n2:=hne _ (tV k (by omega) i hi hh)
    rw [xW _ (by omega),xW _ (by omega)]
    exact ih.up i hi hh
   ·have n2:=hne _ (Mj i hi hh)
    obtain ⟨q,hq,e⟩:=List.mem_iff_getElem.1 ((hl (i:Int)).2 ⟨by omega,hh⟩)
    have h3:=s2 q hq
    have e2:(aJ (fun e=>e.2) g.es g.es.length (x:Int)).getD q 0=(i:Int):=by rw [List.getD_eq_getElem?_getD,List.getElem?_eq_getElem hq];exact e
    rw [e2] at h3
    rw [xW _ (by omega),hh,Int.toNat_natCast]
    exact h3
  ·rw [List.mem_append,List.mem_singleton] at hv
   by_cases Mk:v=x
   ·subst Mk
    rcases s3 with s3|⟨q,hq,s3⟩
    ·exact .inl (s3.trans hx0)
    ·right
     obtain ⟨h1,h2⟩:=(hl _).1 (aY (d:=0) hq)
     have n2:=hne _ (Mj _ (by omega) h2)
     have t1:=htr ((aJ (fun e=>e.2) g.es g.es.length (v:Int)).getD q 0).toNat (by omega)
     refine ⟨((aJ (fun e=>e.2) g.es g.es.length (v:Int)).getD q 0).toNat,by omega,h2, ?_⟩
     rw [s3,xW _ (by omega)];rfl
   ·have zA:(v:Int)∈(bI g).take k:=hv.resolve_right (fun e=>Mk (by omega))
    rw [xW v Mk]
    rcases ih.why v zA with h1|⟨i,hi,h1,h2⟩
    ·exact .inl h1
    ·right
     have n2:=hne _ (tV k (by omega) i hi (by rw [h1];exact zA))
     have t1:=htr i hi
     exact ⟨i,hi,h1,by rw [h2,xW _ (by omega)]⟩
theorem FC {g:Gr} (hm:aO g=true) (hok:mQ g=true):(wN g).length=g.n.toNat∧(∀v:Nat,0≤(wN g).getD v 0)∧(∀i,i<g.es.length→(wN g).getD (tl g i).toNat 0+1≤(wN g).getD (hd g i).toNat 0)∧
 ∀v:Nat,v<g.n.toNat→(wN g).getD v 0=0∨∃i,i<g.es.length∧hd g i=v∧(wN g).getD v 0=(wN g).getD (tl g i).toNat 0+1:=by
 have h1:=Es hm hok (Nat.le_refl (bI g).length)
 rw [List.take_length] at h1
 have Gc:bI g=aG g:=if_pos hok
 have hall:=mR hm hok
 rw [← Gc] at hall
 have hin:∀x:Nat,x<g.n.toNat→(x:Int)∈bI g:=fun x hx=>by
  simp only [jc,Bool.and_eq_true,List.all_eq_true,List.mem_range,decide_eq_true_eq] at hall
  exact hall.2 x hx
 refine ⟨pW,fun v=>(pX v).1,fun i hi=>h1.up i hi ?_,fun v hv=>h1.why v (hin v hv)⟩
 have:=bL hm hi
 have:=hin (hd g i).toNat (by omega)
 rwa [show (((hd g i).toNat:Nat):Int)=hd g i by omega] at this
end Go.Ab
end
section
namespace Go.Ab
set_option maxRecDepth 10000
set_option linter.unusedSectionVars false
variable {P:PS}
structure PS.Hi (P:PS) (R:Int→Int) (f0 f1:Int) (hi:Int→Int):Prop where
 mid:∀ {x u a b v},P.ins x=u++a::b::v→hi (R a)=x
 h0:hi f0=P.Fo
 h1:hi f1=P.Fo
def PS.JY (P:PS) (a:Int):Prop:=∃x u b v,P.outs x=u++a::b::v
section
variable (h:P.Ok) {L R:Int→Int} {f0 f1:Int} {low:Int→Int} (F:P.gO L R f0 f1 low)
include h F
theorem PS.Hi.Az {hi:Int→Int} (H:P.Hi R f0 f1 hi):P.Az.Hi L f1 f0 hi:=
 {mid:=fun {x u a b v} e=>by
   have e:=gB (show (P.ins x).reverse=_ from e)
   rw [← F.uI e];exact H.mid e
  h0:=H.h1
  h1:=H.h0}
theorem tD {e:Int} (he:P.E e) (hs:P.tl e≠P.src):P.ins (P.tl e)≠ []:=by
 obtain ⟨i,hi,rfl⟩:=kS h he
 obtain ⟨k,hr⟩:=nZ h (Nat.le_of_lt hi)
 obtain ⟨B,hB⟩:=hU h hi
 have hm:=(h.dW hr (P.sh i)).1 (by rw [hB];simp)
 obtain ⟨j,B,_,_,_,⟨u,hu⟩,_⟩:=ta h F hs (Nat.le_of_lt hi) hm.2.1
 rw [hu];simp
variable {L' R':Int→Int} {Nk Nl:Int} {low':Int→Int} (F':P.gO L' R' Nk Nl low')
include F'
theorem Cp:∀ {d:Nat} {e:Int},P.CX (P.tl e)<d→P.E e→(R e=f1∧R' e=Nl)∨∃a,P.JY a∧P.CX (P.tl a)≤P.CX (P.tl e)∧R e=R a∧R' e=R' a
 |0,e,hd,_=>by omega
 |d+1,e,hd,he=>by
  have hem:=(h.jd (P.tl e) e).2 ⟨he,rfl⟩
  obtain ⟨u,v,hu⟩:=List.append_of_mem hem
  cases v with
  |cons b v=>exact .inr ⟨e,⟨_,u,b,v,hu⟩,Nat.le_refl _,rfl,rfl⟩
  |nil=>
   by_cases hs:P.tl e=P.src
   ·rw [hs] at hu
    exact .inl ⟨F.s1 hu,F'.s1 hu⟩
   ·obtain ⟨w,c,hw⟩:=cE (tD h F he hs)
    have e1:=F.CY hw hu
    have e2:=F'.CY hw hu
    obtain ⟨hc,hh⟩:=(h.dg (P.tl e) c).1 (by rw [hw];simp)
    have hp:=h.nU c hc
    rw [hh] at hp
    rw [← e1, ← e2]
    rcases Cp (d:=d) (e:=c) (by omega) hc with h1|⟨a,h1,h2,h3⟩
    ·exact .inl h1
    ·exact .inr ⟨a,h1,by omega,h3⟩
theorem Et:∀ {d:Nat} {e:Int},P.CX (P.tl e)<d→P.E e→(L e=f0∧L' e=Nk)∨∃a,P.JY a∧L e=R a∧L' e=R' a
 |0,e,hd,_=>by omega
 |d+1,e,hd,he=>by
  have hem:=(h.jd (P.tl e) e).2 ⟨he,rfl⟩
  obtain ⟨u,v,hu⟩:=List.append_of_mem hem
  rcases List.eq_nil_or_concat u with rfl|⟨u',b,rfl⟩
  ·by_cases hs:P.tl e=P.src
   ·rw [hs] at hu
    exact .inl ⟨F.s0 hu,F'.s0 hu⟩
   ·obtain ⟨c,w,hw⟩:=gZ (tD h F he hs)
    have e1:=F.fst hw hu
    have e2:=F'.fst hw hu
    obtain ⟨hc,hh⟩:=(h.dg (P.tl e) c).1 (by rw [hw];simp)
    have hp:=h.nU c hc
    rw [hh] at hp
    rw [← e1, ← e2]
    exact Et (d:=d) (e:=c) (by omega) hc
  ·have hu:P.outs (P.tl e)=u'++b::e::v:=by rw [hu];simp
   exact .inr ⟨b,⟨_,u',e,v,hu⟩,(F.gm hu).symm,(F'.gm hu).symm⟩
end
section
variable (h:P.Ok) {L R:Int→Int} {f0 f1:Int} {low:Int→Int} (F:P.gO L R f0 f1 low)
include h F
variable {hi:Int→Int} (H:P.Hi R f0 f1 hi)
include H
end
def Ml (t h:Int→Int) (l:List Int) (x:Int):Int:=match l.find? (fun i=>decide (t i=x)) with
 |some i=>h i
 |none=>x
def Mm (t h:Int→Int) (l:List Int) (x:Int):Nat→Int
 |0=>x
 |k+1=>Ml t h l (Mm t h l x k)
section
variable (h:P.Ok) {L R:Int→Int} {f0 f1:Int} {low:Int→Int} (F:P.gO L R f0 f1 low) {hi:Int→Int} (H:P.Hi R f0 f1 hi)
include h F H
end
end Go.Ab
end
section
namespace Go.Ab
open Go.Proofs
set_option maxRecDepth 10000
set_option linter.unusedSectionVars false
section
variable (g:Gr) (p:Pl)
def cK:Nat→Nat
 |0=>1
 |k+1=>cK k+((bA p (aq p k)).length - 1)
def FD (e:Int):Nat:=(bA p (kA g e)).findIdx (fun i=>decide (i=e))
def dS (x:Int):Int:=(cl g p x).headD 0
def lE (x:Int):Int:=(cl g p x).getLastD 0
def LK:Nat→Int→Int
 |0,_=>0
 |k+1,e=>if kA g e=aq p k then (if FD g p e=0 then (if k=0 then 0 else LK k (dS g p (aq p k))) else (cK p k:Int)+FD g p e - 1) else LK k e
def RK (r:Int):Nat→Int→Int
 |0,_=>0
 |k+1,e=>if kA g e=aq p k then (if FD g p e+1<(bA p (aq p k)).length then (cK p k:Int)+FD g p e else (if k=0 then r else RK r k (lE g p (aq p k)))) else RK r k e
def gS:Nat→List Int
 |0=> [aq p 0]
 |k+1=>gS k++List.replicate ((bA p (aq p k)).length - 1) (aq p k)
end
section
variable {g:Gr} {p:Pl}
theorem fQ:∀ {k:Nat},(gS p k).length=cK p k
 |0=>rfl
 |k+1=>by rw [gS,List.length_append,List.length_replicate,fQ,cK]
theorem ot:∀ {k:Nat},0<cK p k
 |0=>by simp [cK]
 |k+1=>by rw [cK];have:= @ot k;omega
theorem pY {k:Nat} :∀ {d:Nat},cK p k≤cK p (k+d)
 |0=>Nat.le_refl _
 |d+1=>by
  have:= @pY k d
  show _≤cK p (k+d+1)
  rw [cK];omega
theorem tE {k:Nat} {f:Nat} (hf:f<cK p k):∀ {d:Nat},(gS p (k+d)).getD f 0=(gS p k).getD f 0
 |0=>rfl
 |d+1=>by
  show (gS p (k+d+1)).getD f 0=_
  have:=pY (p:=p) (k:=k) (d:=d)
  rw [gS,List.getD_eq_getElem?_getD,List.getElem?_append_left (by rw [fQ];omega), ← List.getD_eq_getElem?_getD,tE hf]
theorem Cq {k f:Nat} (h1:cK p k≤f) (h2:f<cK p (k+1)):(gS p (k+1)).getD f 0=aq p k:=by
 rw [gS,List.getD_eq_getElem?_getD,List.getElem?_append_right (by rw [fQ];exact h1),List.getElem?_replicate,fQ,if_pos (by rw [cK] at h2;omega)]
 rfl
variable (h:cj g p)
include h
theorem mg {k:Nat} (hk:k<g.n.toNat) {u v:List Int} {e:Int} (he:bA p (aq p k)=u++e::v):kA g e=aq p k∧FD g p e=u.length:=by
 have hx:=aP h.2.1 hk
 have px:=bF h.2.1 hx.1 hx.2
 have h1:=(bR.1 (px.mem_iff.1 (show e∈bA p (aq p k) by rw [he];simp))).2
 have h1:kA g e=aq p k:=h1
 refine ⟨h1, ?_⟩
 have cC:(bA p (aq p k)).Nodup:=px.nodup_iff.2 cQ
 unfold FD
 rw [h1,he]
 rw [he,List.nodup_append] at cC
 rw [List.findIdx_append]
 have h2:u.findIdx (fun i=>decide (i=e))=u.length:=by
  rw [List.findIdx_eq_length]
  intro i hi
  exact decide_eq_false fun e2=>cC.2.2 i hi e (by simp) e2
 rw [h2,if_neg (by omega)]
 simp [List.findIdx_cons]
theorem yU {e:Int} {k:Nat} (hk:k<g.n.toNat) (he:kA g e=aq p k):∀ {d:Nat},k+1+d≤g.n.toNat→LK g p (k+1+d) e=LK g p (k+1) e
 |0,_=>rfl
 |d+1,hd=>by
  show LK g p (k+1+d+1) e=_
  rw [LK,if_neg (fun e2=>by have:=dh h.2.1 hk (show k+1+d<g.n.toNat by omega) (he.symm.trans e2);omega),yU hk he (by omega)]
theorem yV {r:Int} {e:Int} {k:Nat} (hk:k<g.n.toNat) (he:kA g e=aq p k):∀ {d:Nat},k+1+d≤g.n.toNat→RK g p r (k+1+d) e=RK g p r (k+1) e
 |0,_=>rfl
 |d+1,hd=>by
  show RK g p r (k+1+d+1) e=_
  rw [RK,if_neg (fun e2=>by have:=dh h.2.1 hk (show k+1+d<g.n.toNat by omega) (he.symm.trans e2);omega),yV hk he (by omega)]
theorem kD {e:Int} {k:Nat} (hk:k<g.n.toNat) (he:kA g e=aq p k) {j:Nat} (h1:k+1≤j) (h2:j≤g.n.toNat):LK g p j e=LK g p (k+1) e:=by
 obtain ⟨d,rfl⟩:=Nat.exists_eq_add_of_le h1
 exact yU h hk he h2
theorem fS {r:Int} {e:Int} {k:Nat} (hk:k<g.n.toNat) (he:kA g e=aq p k) {j:Nat} (h1:k+1≤j) (h2:j≤g.n.toNat):RK g p r j e=RK g p r (k+1) e:=by
 obtain ⟨d,rfl⟩:=Nat.exists_eq_add_of_le h1
 exact yV h hk he h2
theorem uT {k:Nat} (hk:k<g.n.toNat) {v:List Int} {e:Int} (he:bA p (aq p k)=e::v) {j:Nat} (h1:k+1≤j) (h2:j≤g.n.toNat):LK g p j e=if k=0 then 0 else LK g p k (dS g p (aq p k)):=by
 obtain ⟨a,b⟩:=mg h hk (u:= []) he
 rw [kD h hk a h1 h2,LK,if_pos a,if_pos (show FD g p e=0 from b)]
theorem yW {k:Nat} (hk:k<g.n.toNat) {u v:List Int} {e:Int} (he:bA p (aq p k)=u++e::v) (hu:u≠ []) {j:Nat} (h1:k+1≤j) (h2:j≤g.n.toNat):LK g p j e=(cK p k:Int)+u.length - 1:=by
 obtain ⟨a,b⟩:=mg h hk he
 have:=List.length_pos_iff.2 hu
 rw [kD h hk a h1 h2,LK,if_pos a,if_neg (by omega),b]
theorem rX {r:Int} {k:Nat} (hk:k<g.n.toNat) {u:List Int} {e:Int} (he:bA p (aq p k)=u++ [e]) {j:Nat} (h1:k+1≤j) (h2:j≤g.n.toNat):RK g p r j e=if k=0 then r else RK g p r k (lE g p (aq p k)):=by
 obtain ⟨a,b⟩:=mg h hk he
 rw [fS h hk a h1 h2,RK,if_pos a,if_neg (by rw [b,he];simp)]
theorem iq {r:Int} {k:Nat} (hk:k<g.n.toNat) {u v:List Int} {e c:Int} (he:bA p (aq p k)=u++e::c::v) {j:Nat} (h1:k+1≤j) (h2:j≤g.n.toNat):RK g p r j e=(cK p k:Int)+u.length:=by
 obtain ⟨a,b⟩:=mg h hk he
 rw [fS h hk a h1 h2,RK,if_pos a,if_pos (by rw [b,he];simp),b]
theorem ou {x:Int} {a:Int} {u:List Int} (hu:cl g p x=a::u):dS g p x=a:=by unfold dS;rw [hu];rfl
theorem kE {x:Int} {a:Int} {u:List Int} (hu:cl g p x=u++ [a]):lE g p x=a:=by unfold lE;rw [hu];simp
theorem yX {k:Nat} (hk:k<g.n.toNat) (hI:cl g p (aq p k)≠ []):k≠0:=fun h0=>by
 subst h0
 have:=jm h (aP h.2.1 hk)
 rw [fF h] at this
 exact hI (List.eq_nil_of_length_eq_zero this)
theorem wQ {k:Nat} (hk:k<g.n.toNat) {a:Int} (ha:a∈cl g p (aq p k)):∃j,j<k∧kA g a=aq p j:=by
 obtain ⟨h1,h2⟩:=((kC h (aP h.2.1 hk)).2 a).1 ha
 obtain ⟨j,h3,h4⟩:=rW h h1 hk h2
 exact ⟨j,h3,h4.symm⟩
def WK (g:Gr) (p:Pl) (k:Nat):List Int:=(iF (fK g p k).row).map (·.1)
theorem rY (hn:0<g.n.toNat):WK g p 1=bA p (aq p 0):=by
 have hx:=aP h.2.1 hn
 have px:=bF h.2.1 hx.1 hx.2
 have hno:eZ (aq p 0) (fK g p 0).row:=fun t ht=>by cases ht
 have hf:(fK g p 1).row=aV g (aq p 0) (bA p (aq p 0)):=by
  show (aB g (fK g p 0) (aq p 0) _).2.row=_
  rw [kT _ hno]
  show _++ []=_
  simp
 unfold WK
 rw [hf,kY (fun i hi=>(bR.1 (px.mem_iff.1 hi)).1.1),List.map_map]
 have e7:((fun t:It=>t.1) ∘ ia g (aq p 0))=id:=rfl
 rw [e7,List.map_id]
theorem kZ {k:Nat} (h0:k≠0) (hk:k<g.n.toNat):∃A C,WK g p k=A++cl g p (aq p k)++C∧cl g p (aq p k)≠ []∧WK g p (k+1)=A++bA p (aq p k)++C:=by
 have hm:=aC h.1
 obtain ⟨hi,fT,_⟩:=di hm h.2.1 (k:=k) (by omega) fun j hj=>h.2.2 j (by omega)
 have hR:=h.2.2 k hk
 have hx:=aP h.2.1 hk
 have px:=bF h.2.1 hx.1 hx.2
 have hn:bC g (aq p k)≠0:=fun hz=>by
  have O2:=aP h.2.1 (show 0<g.n.toNat by omega)
  have:=mZ h.1 hx O2 hz (fF h)
  exact h0 (dh h.2.1 hk (by omega) this)
 obtain ⟨a,c,e1,_,_,_,hl,e2⟩:=uQ hm hi.tofY hR hn (bA p (aq p k))
 refine ⟨a.map (·.1),c.map (·.1), ?_, ?_, ?_⟩
 ·rw [yS h hk];unfold WK;rw [e1,List.map_append,List.map_append];rfl
 ·intro h1
  have:=jm h hx
  rw [h1] at this
  exact hn this.symm
 ·unfold WK
  show (iF (aB g (fK g p k) (aq p k) _).2.row).map (·.1)=_
  rw [e2,List.map_append,List.map_append,kY (fun i hi=>(bR.1 (px.mem_iff.1 hi)).1.1),List.map_map]
  have e7:((fun t:It=>t.1) ∘ ia g (aq p k))=id:=rfl
  rw [e7,List.map_id]
theorem pZ {k:Nat} (hk:k≤g.n.toNat) {a:Int} (ha:a∈WK g p k):∃j,j<k∧kA g a=aq p j:=by
 have hm:=aC h.1
 obtain ⟨hi,fT,_⟩:=di hm h.2.1 (k:=k) (by omega) fun j hj=>h.2.2 j (by omega)
 obtain ⟨t,ht,rfl⟩:=List.mem_map.1 ha
 obtain ⟨h1,h2,_⟩:=nt hm hi.tofY ht
 obtain ⟨h4,h5⟩:=ig.1 ht
 have:=hi.tail t h4 h5
 rw [fT,h2] at this
 obtain ⟨j,hj,e⟩:=yP (by rw [bW h.2.1];omega) this
 exact ⟨j,hj,e.symm⟩
theorem yY {r:Int} {k:Nat} (hk:k<g.n.toNat) {j:Nat} (h1:k+1≤j) (h2:j≤g.n.toNat):gP (LK g p j) (RK g p r j) (if k=0 then 0 else LK g p k (dS g p (aq p k))) (bA p (aq p k)):=by
 refine ry (fun u a b v e=> ?_) fun a u e=>uT h hk e h1 h2
 rw [iq h hk e h1 h2,yW h hk (u:=u++ [a]) (v:=v) (e:=b) (by rw [e];simp) (by simp) h1 h2]
 simp;omega
theorem yZ {r:Int} {k:Nat} (hk:k<g.n.toNat) {j:Nat} (h1:k+1≤j) (h2:j≤g.n.toNat) (hO:bA p (aq p k)≠ []) (f:Int):iD (RK g p r j) f (bA p (aq p k))=if k=0 then r else RK g p r k (lE g p (aq p k)):=by
 obtain ⟨v,b,hv⟩:=cE hO
 rw [hv,ew,rX h hk hv h1 h2]
theorem kF {L R L' R':Int→Int} :∀ {W:List Int} {f:Int},(∀a∈W,L a=L' a∧R a=R' a)→(gP L R f W↔gP L' R' f W)
 | [],_,_=>Iff.rfl
 |a::W,f,hh=>by
  have h1:=hh a (List.mem_cons_self ..)
  simp only [gP,h1.1,h1.2,kF (W:=W) fun b hb=>hh b (List.mem_cons_of_mem _ hb)]
theorem rZ {R R':Int→Int} :∀ {W:List Int} {f:Int},(∀a∈W,R a=R' a)→iD R f W=iD R' f W
 | [],_,_=>rfl
 |a::W,f,hh=>by
  simp only [iD,hh a (List.mem_cons_self ..),rZ (W:=W) fun b hb=>hh b (List.mem_cons_of_mem _ hb)]
theorem xX {r:Int} (hI:nG g=true):∀ {k:Nat},1≤k→k<g.n.toNat→WK g p k≠ []→gP (LK g p k) (RK g p r k) 0 (WK g p k)∧iD (RK g p r k) 0 (WK g p k)=r
 |0,h1,_,_=>by omega
 |k+1,_,hk,hW=>by
  by_cases h0:k=0
  ·subst h0
   rw [rY h (by omega)] at hW ⊢
   have a:=yY (r:=r) h (k:=0) (by omega) (j:=1) (Nat.le_refl _) (by omega)
   have b:=yZ (r:=r) h (k:=0) (by omega) (j:=1) (Nat.le_refl _) (by omega) hW 0
   rw [if_pos rfl] at a b
   exact ⟨a,b⟩
  ·obtain ⟨A,C,e1,hne,e2⟩:=kZ h h0 (show k<g.n.toNat by omega)
   obtain ⟨l1,l2⟩:=xX hI (k:=k) (by omega) (by omega) (by rw [e1];simp [hne])
   have hO:bA p (aq p k)≠ []:=fun h1=>by
    have:=(dR h hI (aP h.2.1 (show k<g.n.toNat by omega))).1 h1
    have:=dh h.2.1 (show k<g.n.toNat by omega) (by omega) this
    omega
   have y4:∀a∈WK g p k,LK g p (k+1) a=LK g p k a∧RK g p r (k+1) a=RK g p r k a:=fun a ha=>by
    obtain ⟨j,hj,e⟩:=pZ h (by omega) ha
    exact ⟨by rw [kD h (by omega) e (j:=k+1) (by omega) (by omega),kD h (by omega) e (j:=k) (by omega) (by omega)],by rw [fS h (by omega) e (j:=k+1) (by omega) (by omega),fS h (by omega) e (j:=k) (by omega) (by omega)]⟩
   rw [← kF h y4] at l1
   rw [← rZ h fun a ha=>(y4 a ha).2] at l2
   rw [e1] at l1 l2 y4
   rw [e2]
   obtain ⟨a0,u0,DK⟩:=gZ hne
   obtain ⟨u,a,hu⟩:=cE hne
   obtain ⟨l3,l5⟩:=b7.1 l1
   obtain ⟨l4,l6⟩:=b7.1 l3
   have O3:LK g p (k+1) a0=iD (RK g p r (k+1)) 0 A:=by rw [DK] at l6;exact l6.1
   have I5:∀f,iD (RK g p r (k+1)) f (cl g p (aq p k))=RK g p r k (lE g p (aq p k)):=fun f=>by
    rw [kE h hu,hu,ew,(y4 a (by rw [hu];simp)).2]
   have hlk:=yY (r:=r) h (k:=k) (by omega) (j:=k+1) (Nat.le_refl _) (by omega)
   have Mn:=yZ (r:=r) h (k:=k) (by omega) (j:=k+1) (Nat.le_refl _) (by omega) hO
   rw [if_neg h0] at hlk Mn
   rw [ou h DK, ← (y4 a0 (by rw [DK];simp)).1,O3] at hlk
   refine ⟨?_, ?_⟩
   ·rw [b7,b7,cg,Mn]
    rw [cg,I5] at l5
    exact ⟨⟨l4,hlk⟩,l5⟩
   ·rw [cg,cg,Mn]
    rw [cg,cg,I5] at l2
    exact l2
theorem mh (hI:nG g=true) {r:Int} (hr:r<0∨cK p g.n.toNat≤r):(iG g p).gO (LK g p g.n.toNat) (RK g p r g.n.toNat) 0 r (fun f=>(gS p g.n.toNat).getD f.toNat 0):=by
 have hm:=aC h.1
 have hn:=aW hm
 have DE:∀ {x:Int} {l:List Int},(iG g p).outs x=l→l≠ []→∃k,k<g.n.toNat∧aq p k=x∧bA p (aq p k)=l:=fun {x l} h1 h2=>by
  by_cases hx:o6 g x
  ·obtain ⟨k,hk,rfl⟩:=fI h.2.1 hx.1 hx.2
   exact ⟨k,hk,rfl,by rw [← h1,ij hx]⟩
  ·rw [nr hx] at h1;exact absurd h1.symm h2
 have Mo:∀ {x:Int} {l:List Int},(iG g p).ins x=l→l≠ []→∃k,k<g.n.toNat∧aq p k=x∧cl g p (aq p k)=l:=fun {x l} h1 h2=>by
  by_cases hx:o6 g x
  ·obtain ⟨k,hk,rfl⟩:=fI h.2.1 hx.1 hx.2
   exact ⟨k,hk,rfl,by rw [← h1,jI hx]⟩
  ·rw [nq hx] at h1;exact absurd h1.symm h2
 have h0:(iG g p).src=aq p 0:=rfl
 have GC:∀k,0<cK p k:=fun k=>ot
 exact {
  ne:=by have:=GC g.n.toNat;omega
  gm:=fun {x u a b v} e=>by
   obtain ⟨k,hk,_,e2⟩:=DE e (by simp)
   rw [iq h hk e2 (by omega) (Nat.le_refl _),yW h hk (u:=u++ [a]) (v:=v) (e:=b) (by rw [e2];simp) (by simp) (by omega) (Nat.le_refl _)]
   simp;omega
  uI:=fun {x u a b v} e=>by
   obtain ⟨k,hk,_,e2⟩:=Mo e (by simp)
   have vm:=yX h hk (by rw [e2];simp)
   obtain ⟨A,C,e1,hne,_⟩:=kZ h vm hk
   have l1:=(xX (r:=r) h hI (k:=k) (by omega) hk (by rw [e1];simp [hne])).1
   have y4:∀a∈WK g p k,LK g p g.n.toNat a=LK g p k a∧RK g p r g.n.toNat a=RK g p r k a:=fun a ha=>by
    obtain ⟨j,hj,e⟩:=pZ h (by omega) ha
    exact ⟨by rw [kD h (by omega) e (j:=g.n.toNat) (by omega) (by omega),kD h (by omega) e (j:=k) (by omega) (by omega)],by rw [fS h (by omega) e (j:=g.n.toNat) (by omega) (by omega),fS h (by omega) e (j:=k) (by omega) (by omega)]⟩
   rw [← kF h y4,e1,e2,show A++(u++a::b::v)++C=(A++u)++a::b::(v++C) by simp] at l1
   exact BZ l1
  fst:=fun {x a u b v} e1 e2=>by
   obtain ⟨k,hk,hx,e3⟩:=DE e2 (by simp)
   have e4:cl g p (aq p k)=a::u:=by
    have CZ:o6 g x:=by rw [← hx];exact aP h.2.1 hk
    rw [hx, ← jI CZ];exact e1
   have vm:=yX h hk (by rw [e4];simp)
   obtain ⟨j,hj,et⟩:=wQ h hk (a:=a) (by rw [e4];simp)
   rw [uT h hk e3 (by omega) (Nat.le_refl _),if_neg vm,ou h e4,kD h (by omega) et (j:=g.n.toNat) (by omega) (Nat.le_refl _),kD h (by omega) et (j:=k) (by omega) (by omega)]
  CY:=fun {x a u b v} e1 e2=>by
   obtain ⟨k,hk,hx,e3⟩:=DE e2 (by simp)
   have e4:cl g p (aq p k)=u++ [a]:=by
    have CZ:o6 g x:=by rw [← hx];exact aP h.2.1 hk
    rw [hx, ← jI CZ];exact e1
   have vm:=yX h hk (by rw [e4];simp)
   obtain ⟨j,hj,et⟩:=wQ h hk (a:=a) (by rw [e4];simp)
   rw [rX h hk e3 (by omega) (Nat.le_refl _),if_neg vm,kE h e4,fS h (by omega) et (j:=g.n.toNat) (by omega) (Nat.le_refl _),fS h (by omega) et (j:=k) (by omega) (by omega)]
  s0:=fun {b v} e=>by
   obtain ⟨k,hk,hx,e3⟩:=DE e (by simp)
   have:k=0:=dh h.2.1 hk (by omega) hx
   rw [uT h hk e3 (by omega) (Nat.le_refl _),if_pos this]
  s1:=fun {b v} e=>by
   obtain ⟨k,hk,hx,e3⟩:=DE e (by simp)
   have:k=0:=dh h.2.1 hk (by omega) hx
   rw [rX h hk e3 (by omega) (Nat.le_refl _),if_pos this]
  new:=fun {x u a b v} e=>by
   obtain ⟨k,hk,hx,e3⟩:=DE e (by simp)
   have hR:=iq (r:=r) h hk e3 (j:=g.n.toNat) (by omega) (Nat.le_refl _)
   have hl:(bA p (aq p k)).length=u.length+(v.length+2):=by rw [e3];simp
   have yB:cK p (k+1)=cK p k+((bA p (aq p k)).length - 1):=rfl
   obtain ⟨d,hd⟩:=Nat.exists_eq_add_of_le (show k+1≤g.n.toNat by omega)
   have hmo:=pY (p:=p) (k:=k+1) (d:=d)
   rw [← hd] at hmo
   have:=GC k
   refine ⟨?_,by omega,by omega⟩
   show (gS p g.n.toNat).getD (RK g p r g.n.toNat a).toNat 0=x
   rw [hR,show ((cK p k:Int)+(u.length:Int)).toNat=cK p k+u.length by omega,hd,tE (by omega),Cq (by omega) (by omega),hx]
  new1:=fun {x u a b v u' a' b' v'} e1 e2 e3=>by
   obtain ⟨k,hk,hx,e4⟩:=DE e1 (by simp)
   have e5:bA p (aq p k)=u'++a'::b'::v':=by
    have CZ:o6 g x:=by rw [← hx];exact aP h.2.1 hk
    rw [hx, ← ij CZ];exact e2
   rw [iq h hk e4 (by omega) (Nat.le_refl _),iq h hk e5 (by omega) (Nat.le_refl _)] at e3
   have hl:u.length=u'.length:=by omega
   rw [e4] at e5
   have:=(List.append_inj e5 hl).2
   simp only [List.cons.injEq] at this
   exact this.1}
end
end Go.Ab
end
