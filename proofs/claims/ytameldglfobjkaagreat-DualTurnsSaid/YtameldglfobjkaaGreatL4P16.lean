/- A part of the proof. -/
import Derived.Test.YtameldglfobjkaaGreatL4P15
set_option linter.unusedSimpArgs false
set_option linter.unusedVariables false
section
namespace Go.Ab
open Go.Proofs
set_option maxRecDepth 10000
def kT (x:Int) (t:It):Bool:=decide (t.2.2=x)
structure BC (x:Int) (X:List It):Prop where
 fst:∃p X',X=p::X'∧p.2.2=x
 EX:∃X' q,X=X'++ [q]∧q.2.2=x
 al:∀t∈X,t.2.2=x∨t.2.2= -1
def fC (x:Int) (l:List It):Prop:=∀t∈l,t.2.2≠x
theorem fC.app {x:Int} {l m:List It} (h:fC x l) (h':fC x m):fC x (l++m):=fun t ht=>(List.mem_append.1 ht).elim (h t) (h' t)
theorem fC.left {x:Int} {l m:List It} (h:fC x (l++m)):fC x l:=fun t ht=>h t (List.mem_append.2 (.inl ht))
theorem fC.right {x:Int} {l m:List It} (h:fC x (l++m)):fC x m:=fun t ht=>h t (List.mem_append.2 (.inr ht))
theorem BC.Oi {x y:Int} {X:List It} (h:BC x X) (hxy:x≠y) (hy:0≤y):fC y X:=fun t ht e=>by
 rcases h.al t ht with h1|h1<;>omega
theorem kD {row:List It} {x:Int} :∀ {k:Nat},k≤row.length→e9 row x k=((row.take k).countP (kT x):Nat)
 |0,_=>by simp [e9]
 |k+1,h=>by
  rw [ec,kD (k:=k) (by omega),List.take_add_one,List.getElem?_eq_getElem (show k<row.length by omega),List.countP_append]
  simp only [Option.toList,List.countP_cons,List.countP_nil,kT,decide_eq_true_eq,List.getD_eq_getElem?_getD,List.getElem?_eq_getElem (show k<row.length by omega),Option.getD_some]
  split<;>simp
theorem BD {A X C:List It} {p:It} {X':List It} (h:X=p::X'):(A++X++C).getD A.length (0,0,0)=p:=by
 subst h;simp [List.getD_eq_getElem?_getD]
theorem BE {A X C:List It} {q:It} {X':List It} (h:X=X'++ [q]):(A++X++C).getD (A.length+X.length - 1) (0,0,0)=q:=by
 subst h
 have e:A.length+(X'++ [q]).length - 1=(A++X').length:=by simp
 rw [e,show A++(X'++ [q])++C=(A++X')++([q]++C) by simp]
 simp [List.getD_eq_getElem?_getD]
theorem BF {A L:List It} {j:Nat} (h:j<A.length):(A++L).getD j (0,0,0)∈A:=by
 rw [List.getD_eq_getElem?_getD,List.getElem?_append_left h,List.getElem?_eq_getElem h]
 exact List.getElem_mem h
theorem BG {A L:List It} {j:Nat} (h:A.length≤j) (h':j<(A++L).length):(A++L).getD j (0,0,0)∈L:=by
 rw [List.length_append] at h'
 rw [List.getD_eq_getElem?_getD,List.getElem?_append_right h,List.getElem?_eq_getElem (by omega)]
 exact List.getElem_mem _
theorem z8 {A X C:List It} {x:Int} (hA:fC x A) (hC:fC x C) (hX:BC x X):
 (aZ (A++X++C) x).1=(A.length:Int)∧(aZ (A++X++C) x).2.1=((A.length+X.length:Nat):Int)∧(aZ (A++X++C) x).2.2=(X.countP (kT x):Nat):=by
 have A4:(aZ (A++X++C) x).2.2=(X.countP (kT x):Nat):=by
  unfold aZ
  rw [jO,kD (Nat.le_refl _),List.take_length,List.countP_append,List.countP_append]
  have h1:A.countP (kT x)=0:=List.countP_eq_zero.2 fun t ht=>by simp [kT,hA t ht]
  have h2:C.countP (kT x)=0:=List.countP_eq_zero.2 fun t ht=>by simp [kT,hC t ht]
  rw [h1,h2];simp
 obtain ⟨p,X',e1,hp⟩:=hX.fst
 obtain ⟨RL,q,e2,hq⟩:=hX.EX
 have g1:=BD (A:=A) (C:=C) e1
 have g2:=BE (A:=A) (C:=C) e2
 have Nj:0<X.length:=by rw [e1];simp
 have hlen:(A++X++C).length=A.length+X.length+C.length:=by simp;omega
 rcases c8 (row:=A++X++C) (x:=x) (A++X++C).length with ⟨_,hno⟩|⟨a,b,c,hs,hab,kH,hc0,gh,ha,hb,hlo,hhi⟩
 ·exact absurd (by rw [g1];exact hp) (hno A.length (by omega))
 ·have hs':aZ (A++X++C) x=((a:Int),(b:Int),(c:Int)):=hs
  refine ⟨?_, ?_,A4⟩
  ·rw [hs']
   have h1:¬A.length<a:=fun h=>hlo _ h (by rw [g1];exact hp)
   have h2:¬a<A.length:=fun h=>hA _ (by have:=BF (L:=X++C) h;rw [← List.append_assoc] at this;exact this) ha
   simp only;omega
  ·rw [hs']
   have h1:¬b<A.length+X.length:=fun h=>hhi (A.length+X.length - 1) (by omega) (by omega) (by rw [g2];exact hq)
   have h2:¬A.length+X.length<b:=fun h=>hC _ (BG (A:=A++X) (j:=b - 1) (by simp;omega) (by omega)) hb
   simp only;omega
theorem sO {g:Gr} (hm:aP g=true) {f:Fr} (hi:gI g f) {A X C:List It} {x:Int} (h0:0≤x) (h1:x<g.n) (hp:x∉f.pl) (hr:f.row=A++X++C) (hA:fC x A) (hC:fC x C) (hX:BC x X)
 (hc:X.countP (kT x)=bt g x):aD g f x=true:=by
 rw [← oK hm hi,fP,if_neg (by rintro (h|h|h);omega;omega;exact hp h)]
 obtain ⟨e1,e2,e3⟩:=z8 hA hC hX
 rw [hr,e1,e2,e3,fR h0 h1,Bool.and_eq_true,decide_eq_true_eq]
 refine ⟨by rw [hc];rfl, ?_⟩
 rw [Bool.or_eq_true];right
 simp only [qm,Int.toNat_natCast]
 rw [List.take_append_of_le_length (by simp),List.take_of_length_le (by simp),List.drop_left,Bool.not_eq_true',List.any_eq_false]
 intro t ht
 simp only [kB,Bool.and_eq_true,decide_eq_true_eq]
 rcases hX.al t ht with h|h<;>simp [h]
theorem cr {g:Gr} (hm:aP g=true) {f:Fr} (hi:gI g f) {x:Int} (hR:aD g f x=true) (hn:bt g x≠0):
 ∃A X C,f.row=A++X++C∧fC x A∧fC x C∧BC x X∧X.countP (kT x)=bt g x:=by
 obtain ⟨h0,h1,h2⟩:=aT hR
 rw [← oK hm hi,fP,if_neg (by rintro (h|h|h);omega;omega;exact h2 h),fR h0 h1,Bool.and_eq_true,decide_eq_true_eq] at hR
 have hN:(aY (fun e=>e.2) g.es g.es.length x).length=bt g x:=rfl
 rw [hN,decide_eq_false hn,Bool.false_or] at hR
 obtain ⟨hc,hb⟩:=hR
 have A4:(f.row.countP (kT x):Int)=bt g x:=by
  rw [← hc];unfold aZ
  rw [jO,kD (Nat.le_refl _),List.take_length]
 rcases c8 (row:=f.row) (x:=x) f.row.length with ⟨hs,hno⟩|⟨a,b,c,hs,hab,kH,hc0,gh,ha,hb',hlo,hhi⟩
 ·have:aZ f.row x=(-1,0,0):=hs
  rw [this] at hc
  exfalso;simp only at hc;omega
 ·have hs':aZ f.row x=((a:Int),(b:Int),(c:Int)):=hs
  rw [hs'] at hb
  simp only [Int.toNat_natCast] at hb
  have hA:fC x (f.row.take a):=fun t ht=>by
   obtain ⟨j,hj,rfl⟩:=List.mem_iff_getElem.1 ht
   simp only [List.length_take] at hj
   have:=hlo j (by omega)
   rw [List.getD_eq_getElem?_getD,List.getElem?_eq_getElem (show j<f.row.length by omega)] at this
   simpa using this
  have hC:fC x (f.row.drop b):=fun t ht=>by
   obtain ⟨j,hj,rfl⟩:=List.mem_iff_getElem.1 ht
   simp only [List.length_drop] at hj
   have:=hhi (b+j) (by omega) (by omega)
   rw [List.getD_eq_getElem?_getD,List.getElem?_eq_getElem (show b+j<f.row.length by omega)] at this
   simpa using this
  have hrow:f.row=f.row.take a++(f.row.take b).drop a++f.row.drop b:=by
   have e1:f.row.take a=(f.row.take b).take a:=by rw [List.take_take,Nat.min_eq_left (by omega)]
   rw [e1,List.take_append_drop,List.take_append_drop]
  refine ⟨f.row.take a,(f.row.take b).drop a,f.row.drop b,hrow,hA,hC,⟨?_, ?_, ?_⟩, ?_⟩
  ·refine ⟨f.row.getD a (0,0,0),(f.row.take b).drop (a+1), ?_,ha⟩
   rw [List.drop_eq_getElem_cons (by simp;omega)]
   congr 1
   rw [List.getD_eq_getElem?_getD,List.getElem?_eq_getElem (show a<f.row.length by omega)]
   simp
  ·refine ⟨(f.row.take (b - 1)).drop a,f.row.getD (b - 1) (0,0,0), ?_,hb'⟩
   have e:f.row.take b=f.row.take (b - 1)++ [f.row.getD (b - 1) (0,0,0)]:=by
    conv=>lhs;rw [show b=b - 1+1 by omega]
    rw [List.take_add_one,List.getD_eq_getElem?_getD,List.getElem?_eq_getElem (show b - 1<f.row.length by omega)]
    rfl
   rw [e,List.drop_append_of_le_length (by simp;omega)]
  ·intro t ht
   rw [qm,Bool.not_eq_true',List.any_eq_false] at hb
   have:=hb t ht
   simp only [kB,Bool.and_eq_true,decide_eq_true_eq,not_and] at this
   by_cases h:t.2.2=x
   ·exact .inl h
   ·exact .inr (Decidable.byContradiction fun h'=>this h h')
  ·have h1:(f.row.take a).countP (kT x)=0:=List.countP_eq_zero.2 fun t ht=>by simp [kT,hA t ht]
   have h2:(f.row.drop b).countP (kT x)=0:=List.countP_eq_zero.2 fun t ht=>by simp [kT,hC t ht]
   rw [hrow,List.countP_append,List.countP_append,h1,h2] at A4
   omega
theorem gO {g:Gr} {f:Fr} {A X C:List It} {x:Int} (o:List Int) (hr:f.row=A++X++C) (hA:fC x A) (hC:fC x C) (hX:BC x X):
 aA g f x o=((X,0),⟨A++aL g x o++C,f.pl++ [x]⟩):=by
 obtain ⟨e1,e2,e3⟩:=z8 hA hC hX
 have e4:max (A.length:Int) 0=(A.length:Int):=by omega
 unfold aA
 rw [hr,e1,e2,e4,Int.toNat_natCast,Int.toNat_natCast]
 rw [List.take_append_of_le_length (show A.length+X.length≤(A++X).length by simp),List.take_of_length_le (show (A++X).length≤A.length+X.length by simp),List.drop_left]
 rw [show (A++X++C).take A.length=A by rw [List.append_assoc,List.take_left]]
 rw [show (A++X++C).drop (A.length+X.length)=C by rw [← List.length_append,List.drop_left]]
theorem gW {g:Gr} {f:Fr} {x:Int} (o:List Int) (hr:fC x f.row):aA g f x o=(([],0),⟨aL g x o++f.row,f.pl++ [x]⟩):=by
 have hs:aZ f.row x=(-1,0,0):=by
  rcases c8 (row:=f.row) (x:=x) f.row.length with ⟨hs,_⟩|⟨a,b,c,hs,hab,kH,hc0,gh,ha,hb',hlo,hhi⟩
  ·exact hs
  ·exact absurd ha (hr _ (aV (by omega)))
 have e4:max (-1:Int) 0=0:=by omega
 unfold aA
 rw [hs]
 simp [e4]
end Go.Ab
end
section
namespace Go.Ab
open Go.Proofs
set_option maxRecDepth 10000
structure xO (g:Gr) (f:Fr):Prop extends gI g f where
 tail:∀t∈f.row,0≤t.1→t.2.1∈f.pl
 head:∀t∈f.row,0≤t.1→t.2.2∉f.pl
 once:f.row.Pairwise fun s t=>0≤s.1→s.1≠t.1
 low:∀i,i<g.es.length→hd g i∈f.pl→tl g i∈f.pl
 src:(f.pl= []∧f.row= [])∨∃s∈f.pl,bt g s=0
theorem Aa (g:Gr):xO g ⟨[], []⟩:=
 {it:=by simp,pl:=by simp,DG:=by simp,tail:=by simp,head:=by simp,once:=by simp,low:=by simp,src:= .inl ⟨rfl,rfl⟩}
theorem vD {g:Gr} (hm:aP g=true) {f:Fr} (hi:xO g f) {x:Int} (hR:aD g f x=true) {i:Nat} (hl:i<g.es.length) (hx:hd g i=x):∃t∈f.row,t.1=i∧t.2.1=tl g i∧t.2.2=x:=by
 have hn:bt g x≠0:=by
  have:=pM (g:=g) (e:=(i:Int)) (by omega) (by omega)
  rw [Int.toNat_natCast,show (g.es.getD i (0,0)).2=x from hx] at this
  omega
 obtain ⟨A,X,C,hr,hA,hC,hX,hc⟩:=cr hm hi.togI hR hn
 have hN:(aY (fun e=>e.2) g.es g.es.length x).length=bt g x:=rfl
 have hok:∀t∈f.row,t.2.2=x→0≤t.1∧t.1<g.es.length∧t.2.1=(g.es.getD t.1.toNat (0,0)).1∧t.2.2=(g.es.getD t.1.toNat (0,0)).2:=fun t ht he=>by
  rcases hi.it t ht with ⟨_,h2⟩|h
  ·have:=(aT hR).1;omega
  ·exact h
 have hmem:∀t∈X,t∈f.row:=fun t ht=>by rw [hr];simp [ht]
 have Oj:=qJ (ms:=(X.filter (kT x)).map (·.1)) (os:=aY (fun e=>e.2) g.es g.es.length x)
 have key:∀i∈aY (fun e=>e.2) g.es g.es.length x,i∈(X.filter (kT x)).map (·.1):=by
  refine vC (ms:=(X.filter (kT x)).map (·.1)) (os:=aY (fun e=>e.2) g.es g.es.length x) ?_ ?_ ?_
  ·have h1:X.Pairwise fun s t=>0≤s.1→s.1≠t.1:=by
    have:=hi.once
    rw [hr,List.pairwise_append,List.pairwise_append] at this
    exact this.1.2.1
   have h2:=h1.filter (kT x)
   rw [List.Nodup,List.pairwise_map]
   refine h2.imp_of_mem fun {a b} ha hb h=>h ?_
   obtain ⟨yp,P7⟩:=List.mem_filter.1 ha
   exact (hok a (hmem a yp) (by simpa [kT] using P7)).1
  ·intro e he
   obtain ⟨t,ht,rfl⟩:=List.mem_map.1 he
   obtain ⟨ht1,ht2⟩:=List.mem_filter.1 ht
   have ht2:t.2.2=x:=by simpa [kT] using ht2
   obtain ⟨h1,h2,h3,h4⟩:=hok t (hmem t ht1) ht2
   simp only [aY,List.mem_map,List.mem_filter,List.mem_range,decide_eq_true_eq]
   exact ⟨t.1.toNat,⟨by omega,by rw [← h4];exact ht2⟩,by simp;omega⟩
  ·rw [hN, ← hc,List.length_map,List.countP_eq_length_filter]
 have hie:(i:Int)∈aY (fun e=>e.2) g.es g.es.length x:=by
  simp only [aY,List.mem_map,List.mem_filter,List.mem_range,decide_eq_true_eq]
  exact ⟨i,⟨hl,hx⟩,rfl⟩
 obtain ⟨t,ht,he⟩:=List.mem_map.1 (key _ hie)
 obtain ⟨ht1,ht2⟩:=List.mem_filter.1 ht
 have ht2:t.2.2=x:=by simpa [kT] using ht2
 obtain ⟨h1,h2,h3,h4⟩:=hok t (hmem t ht1) ht2
 refine ⟨t,hmem t ht1,he, ?_,ht2⟩
 rw [h3,he,Int.toNat_natCast];rfl
theorem kE {g:Gr} (hm:aP g=true) {f:Fr} (hi:gI g f) {x:Int} (h0:0≤x) (hn:bt g x=0):fC x f.row:=by
 intro t ht he
 rcases hi.it t ht with ⟨_,h2⟩|⟨h1,h2,_,h4⟩
 ·omega
 ·have:=pM h1 h2
  rw [← h4,he] at this
  omega
theorem iy {g:Gr} (hm:aP g=true) {f:Fr} (hi:gI g f) {x:Int} (hR:aD g f x=true):
 ∃A X C,f.row=A++X++C∧fC x A∧fC x C∧(∀t∈X,t.2.2=x∨t.2.2= -1)∧∀o,aA g f x o=((X,0),⟨A++aL g x o++C,f.pl++ [x]⟩):=by
 by_cases hn:bt g x=0
 ·have h:=kE hm hi (aT hR).1 hn
  exact ⟨[], [],f.row,by simp,fun t ht=>(by cases ht),h,fun t ht=>(by cases ht),fun o=>by rw [gW o h];simp⟩
 ·obtain ⟨A,X,C,hr,hA,hC,hX,_⟩:=cr hm hi hR hn
  exact ⟨A,X,C,hr,hA,hC,hX.al,fun o=>gO o hr hA hC hX⟩
theorem jQ {g:Gr} {x i:Int} (h:i∈bu g x):∃k:Nat,i=k∧k<g.es.length∧tl g k=x:=by
 obtain ⟨⟨h1,h2⟩,h3⟩:=fQ h
 exact ⟨i.toNat,by omega,by omega,h3⟩
theorem jR {g:Gr} {x:Int} {o:List Int} (ho:∀i∈o,i∈bu g x) {t:It} (h:t∈aL g x o):(t.1= -1∧t.2.2= -1)∨∃k:Nat,k<g.es.length∧t.1=k∧t.2.1=x∧t.2.2=hd g k∧tl g k=x∧t.1∈o:=by
 unfold aL at h
 split at h
 ·rw [List.mem_singleton] at h
  rw [h];exact .inl ⟨rfl,rfl⟩
 ·obtain ⟨i,Ol,rfl⟩:=List.mem_map.1 h
  obtain ⟨k,rfl,h1,h2⟩:=jQ (ho i Ol)
  exact .inr ⟨k,h1,rfl,rfl,by simp [fm];rfl,h2,Ol⟩
theorem pN {g:Gr} (hm:aP g=true) {f:Fr} (hi:xO g f) {x y:Int} (hx:x∉f.pl) (hR:aD g f y=true) {o:List Int} (ho:∀i∈o,i∈bu g x):fC y (aL g x o):=by
 intro t ht he
 rcases jR ho ht with ⟨_,h⟩|⟨k,h1,h2,h3,h4,h5,_⟩
 ·have:=(aT hR).1;omega
 ·obtain ⟨s,hs,e1,e2,e3⟩:=vD hm hi hR h1 (by rw [← h4];exact he)
  refine hx ?_
  rw [← h5, ← e2]
  exact hi.tail s hs (by omega)
theorem jS {g:Gr} (hm:aP g=true) {f:Fr} (hi:xO g f) {x:Int} (hR:aD g f x=true) {o:List Int} (ho:o.Perm (bu g x)):xO g (aA g f x o).2:=by
 have FT:∀i∈o,i∈bu g x:=fun i h=>ho.mem_iff.1 h
 have hx:=(aT hR).2.2
 have h0:=DJ hi.togI hR FT
 obtain ⟨A,X,C,hr,hA,hC,hX,hs⟩:=iy hm hi.togI hR
 have gw:(aA g f x o).2.pl=f.pl++ [x]:=rfl
 have hrow:(aA g f x o).2.row=A++aL g x o++C:=by rw [hs o]
 have Nk:∀t∈A,t∈f.row:=fun t ht=>by rw [hr];simp [ht]
 have Nl:∀t∈C,t∈f.row:=fun t ht=>by rw [hr];simp [ht]
 have Kq:=pN hm hi hx hR FT
 refine {togI:=h0,tail:= ?_,head:= ?_,once:= ?_,low:= ?_,src:= .inr ?_}
 ·intro t ht h1
  rw [gw]
  rw [hrow,List.mem_append,List.mem_append] at ht
  rcases ht with (ht|ht)|ht
  ·exact List.mem_append_left _ (hi.tail t (Nk t ht) h1)
  ·rcases jR FT ht with ⟨h,_⟩|⟨k,_,_,h3,_⟩
   ·omega
   ·rw [h3];simp
  ·exact List.mem_append_left _ (hi.tail t (Nl t ht) h1)
 ·intro t ht h1
  rw [gw,List.mem_append,List.mem_singleton]
  rw [hrow,List.mem_append,List.mem_append] at ht
  rcases ht with (ht|ht)|ht
  ·rintro (h|h)
   ·exact hi.head t (Nk t ht) h1 h
   ·exact hA t ht h
  ·rintro (h|h)
   ·rcases jR FT ht with ⟨h',_⟩|⟨k,hk,_,_,h4,h5,_⟩
    ·omega
    ·rw [h4] at h
     have:=hi.low k hk h
     rw [h5] at this;exact hx this
   ·exact Kq t ht h
  ·rintro (h|h)
   ·exact hi.head t (Nl t ht) h1 h
   ·exact hC t ht h
 ·have tf:=hi.once
  rw [hr,List.pairwise_append,List.pairwise_append] at tf
  obtain ⟨⟨P8,_,_⟩,P9,Nm⟩:=tf
  have old:∀s∈f.row,0≤s.1→∀t∈aL g x o,s.1≠t.1:=fun s hs h1 t ht e=>by
   rcases jR FT ht with ⟨h,_⟩|⟨k,hk,h2,h3,h4,h5,_⟩
   ·omega
   ·rcases hi.it s hs with ⟨h,_⟩|⟨_,_,h6,_⟩
    ·omega
    ·have:=hi.tail s hs h1
     rw [h6,e,h2,Int.toNat_natCast] at this
     exact hx (h5 ▸ this)
  rw [hrow,List.pairwise_append,List.pairwise_append]
  refine ⟨⟨P8, ?_,fun s hs t ht h1=>old s (Nk s hs) h1 t ht⟩,P9, ?_⟩
  ·unfold aL
   split
   ·simp
   ·refine List.pairwise_map.2 ((ho.nodup_iff.2 dc).imp fun {i j} (h:i≠j) _=> ?_)
    exact h
  ·intro s hs t ht h1
   rcases List.mem_append.1 hs with hs|hs
   ·exact Nm s (List.mem_append_left _ hs) t ht h1
   ·intro e
    exact old t (Nl t ht) (by omega) s hs e.symm
 ·intro i hl h
  rw [gw,List.mem_append,List.mem_singleton] at h ⊢
  left
  rcases h with h|h
  ·exact hi.low i hl h
  ·obtain ⟨t,ht,e1,e2,_⟩:=vD hm hi hR hl h
   rw [← e2]
   exact hi.tail t ht (by omega)
 ·rcases hi.src with ⟨h1,h2⟩|⟨s,hs,h⟩
  ·refine ⟨x,by rw [gw];simp, ?_⟩
   refine Decidable.byContradiction fun hn=> ?_
   obtain ⟨A,X,C,hr,_,_,hX,_⟩:=cr hm hi.togI hR hn
   obtain ⟨p,X',e,_⟩:=hX.fst
   rw [h2,e] at hr
   simp at hr
  ·exact ⟨s,by rw [gw];simp [hs],h⟩
theorem apart {x y:Int} (hx:0≤x) (hy:0≤y) (hxy:x≠y) {A X C B Y D:List It} (h:A++X++C=B++Y++D) (hX:BC x X) (hY:BC y Y):
 (∃M,B=A++X++M∧C=M++Y++D)∨(∃M,A=B++Y++M∧D=M++X++C):=by
 obtain ⟨p,X',HZ,hp⟩:=hX.fst
 obtain ⟨q,Y',Qa,hq⟩:=hY.fst
 have nX:q∉X:=fun h=>hX.Oi hxy hy q h hq
 have nY:p∉Y:=fun h=>hY.Oi (Ne.symm hxy) hx p h hp
 rw [show B++Y++D=B++(Y++D) by simp,List.append_eq_append_iff] at h
 rcases h with ⟨es,h1,h2⟩|⟨cs,h1,h2⟩
 ·exact .inl ⟨es,h1,by rw [h2];simp⟩
 ·match cs,h1,h2 with
  | [],h1,h2=>exact .inl ⟨[],by simpa using h1.symm,by simpa using h2.symm⟩
  |c::cs,h1,h2=>
   have Qb:c=q:=by rw [Qa] at h2;simp at h2;exact h2.1.symm
   rw [List.append_eq_append_iff] at h1
   rcases h1 with ⟨es,h3,h4⟩|⟨ds,h3,h4⟩
   ·exfalso;refine nX ?_
    rw [h4, ← Qb];simp
   ·rw [h4,List.append_assoc,List.append_eq_append_iff] at h2
    rcases h2 with ⟨es,h5,h6⟩|⟨bs,h5,h6⟩
    ·exact .inr ⟨es,by rw [h3,h5];simp,by rw [h6];simp⟩
    ·match bs,h5,h6 with
     | [],h5,h6=>exact .inr ⟨[],by rw [h3,h5];simp,by simpa using h6.symm⟩
     |b::bs,h5,h6=>
      exfalso;refine nY ?_
      have Qc:b=p:=by rw [HZ] at h6;simp at h6;exact h6.1.symm
      rw [h5, ← Qc];simp
theorem xP {g:Gr} (hm:aP g=true) {f:Fr} (hi:xO g f) {x y:Int} (hxy:x≠y) (Ac:aD g f x=true) (uf:aD g f y=true)
 {a b:List Int} (ha:a.Perm (bu g x)) (hb:b.Perm (bu g y)) {A X M Y D:List It} (hr:f.row=A++X++M++Y++D) (hX:BC x X) (hY:BC y Y)
 (cX:X.countP (kT x)=bt g x) (cY:Y.countP (kT y)=bt g y)
 (nA:fC x A) (nC:fC x (M++Y++D)) (nB:fC y (A++X++M)) (nD:fC y D):
 aD g (aA g f x a).2 y=true∧aD g (aA g f y b).2 x=true∧(aA g (aA g f x a).2 y b).2.row=(aA g (aA g f y b).2 x a).2.row∧
 (aA g f x a).1=(aA g (aA g f y b).2 x a).1∧(aA g f y b).1=(aA g (aA g f x a).2 y b).1:=by
 obtain ⟨x0,x1,x2⟩:=aT Ac
 obtain ⟨y0,y1,y2⟩:=aT uf
 have i1:=(jS hm hi Ac ha).togI
 have i2:=(jS hm hi uf hb).togI
 have ux:=pN hm hi x2 uf (fun i h=>ha.mem_iff.1 h)
 have uy:=pN hm hi y2 Ac (fun i h=>hb.mem_iff.1 h)
 have r1:f.row=A++X++(M++Y++D):=by rw [hr];simp
 have r2:f.row=(A++X++M)++Y++D:=by rw [hr]
 have e1:=gO (g:=g) a r1 nA nC hX
 have e2:=gO (g:=g) b r2 nB nD hY
 rw [e1] at i1 ⊢;rw [e2] at i2 ⊢
 have r3:A++aL g x a++(M++Y++D)=(A++aL g x a++M)++Y++D:=by simp
 have r4:A++X++M++aL g y b++D=A++X++(M++aL g y b++D):=by simp
 have n3:fC y (A++aL g x a++M):=((nB.left.left).app ux).app nB.right
 have n4:fC x (M++aL g y b++D):=(nC.left.left.app uy).app nC.right
 have e3:=gO (g:=g) (f:=⟨A++aL g x a++(M++Y++D),f.pl++ [x]⟩) b r3 n3 nD hY
 have e4:=gO (g:=g) (f:=⟨A++X++M++aL g y b++D,f.pl++ [y]⟩) a r4 nA n4 hX
 refine ⟨sO hm i1 y0 y1 ?_ r3 n3 nD hY cY,sO hm i2 x0 x1 ?_ r4 nA n4 hX cX, ?_, ?_, ?_⟩
 ·simp [y2,Ne.symm hxy]
 ·simp [x2,hxy]
 ·simp only [e3,e4];simp
 ·simp only [e4]
 ·simp only [e3]
theorem BH {g:Gr} (hm:aP g=true) {f:Fr} (hi:xO g f) {x y:Int} (hxy:x≠y) (Ac:aD g f x=true) (uf:aD g f y=true)
 {a b:List Int} (ha:a.Perm (bu g x)) (hb:b.Perm (bu g y)) (nx:bt g x≠0) (ny:bt g y≠0):
 aD g (aA g f x a).2 y=true∧aD g (aA g f y b).2 x=true∧(aA g (aA g f x a).2 y b).2.row=(aA g (aA g f y b).2 x a).2.row∧
 (aA g f x a).1=(aA g (aA g f y b).2 x a).1∧(aA g f y b).1=(aA g (aA g f x a).2 y b).1:=by
 obtain ⟨A,X,C,hr,hA,hC,hX,cX⟩:=cr hm hi.togI Ac nx
 obtain ⟨B,Y,D,hr',hB,hD,hY,cY⟩:=cr hm hi.togI uf ny
 rcases apart (aT Ac).1 (aT uf).1 hxy (hr.symm.trans hr') hX hY with ⟨M,rfl,rfl⟩|⟨M,rfl,rfl⟩
 ·exact xP hm hi hxy Ac uf ha hb (by rw [hr];simp) hX hY cX cY hA hC hB hD
 ·obtain ⟨h1,h2,h3,h4,h5⟩:=xP hm hi (Ne.symm hxy) uf Ac hb ha (by rw [hr'];simp) hY hX cY cX hB hD hA hC
  exact ⟨h2,h1,h3.symm,h5,h4⟩
theorem mg {g:Gr} {y:Int} :y∈bG (·.2) g↔(0≤y∧y<g.n)∧bt g y=0:=by
 simp only [bG,ig,List.mem_map,List.mem_filter,List.mem_range,decide_eq_true_eq]
 have he:∀x:Nat,x<g.n.toNat→(((di (·.2) g).getD x []).length=bt g (x:Int)):=by
  intro x hx
  have e:(di (·.2) g).getD x []=aY (·.2) g.es g.es.length (x:Int):=by
   simp [di,List.getD_eq_getElem?_getD,List.getElem?_range hx,lz]
  rw [e];rfl
 constructor
 ·rintro ⟨x,⟨hx,h0⟩,rfl⟩
  refine ⟨by simp;omega,by rw [he x hx] at h0;exact h0⟩
 ·rintro ⟨⟨h1,h2⟩,h3⟩
  have e:((y.toNat:Nat):Int)=y:=by omega
  exact ⟨y.toNat,⟨by omega,by rw [he _ (by omega),e];exact h3⟩,e⟩
theorem oL {g:Gr} (hc:(bZ g).1=0) {x y:Int} (hx:0≤x∧x<g.n) (hy:0≤y∧y<g.n) (nx:bt g x=0) (ny:bt g y=0):x=y:=by
 have h1:(bG (·.2) g).length≤1:=by
  unfold bZ gF at hc
  refine Nat.not_lt.1 fun h=> ?_
  split at hc
  ·cases hc
  split at hc
  ·cases hc
  split at hc
  ·cases hc
  split at hc
  ·cases hc
  cases hc
 have h2:=mg.2 ⟨hx,nx⟩
 have h3:=mg.2 ⟨hy,ny⟩
 match hb:bG (·.2) g with
 | []=>rw [hb] at h2;cases h2
 | [z]=>rw [hb,List.mem_singleton] at h2 h3;rw [h2,h3]
 |_::_::_=>rw [hb] at h1;simp at h1
theorem aE {g:Gr} (hc:(bZ g).1=0):aP g=true:=by
 unfold bZ gF at hc
 split at hc
 ·cases hc
 ·rename_i h;simpa using h
theorem xQ {g:Gr} (hc:(bZ g).1=0) {f:Fr} (hi:xO g f) {x y:Int} (hxy:x≠y) (Ac:aD g f x=true) (uf:aD g f y=true):bt g x≠0:=by
 intro nx
 have hm:=aE hc
 obtain ⟨x0,x1,x2⟩:=aT Ac
 obtain ⟨y0,y1,y2⟩:=aT uf
 rcases hi.src with ⟨h1,h2⟩|⟨s,hs,h⟩
 ·have ny:bt g y≠0:=fun ny=>hxy (oL hc ⟨x0,x1⟩ ⟨y0,y1⟩ nx ny)
  obtain ⟨A,X,C,hr,_,_,hX,_⟩:=cr hm hi.togI uf ny
  obtain ⟨p,X',e,_⟩:=hX.fst
  rw [h2,e] at hr
  simp at hr
 ·exact x2 (oL hc (hi.DG s hs) ⟨x0,x1⟩ h nx ▸ hs)
theorem BI {g:Gr} (hc:(bZ g).1=0) {f:Fr} (hi:xO g f) {x y:Int} (hxy:x≠y) (Ac:aD g f x=true) (uf:aD g f y=true)
 {a b:List Int} (ha:a.Perm (bu g x)) (hb:b.Perm (bu g y)):
 aD g (aA g f x a).2 y=true∧aD g (aA g f y b).2 x=true∧(aA g (aA g f x a).2 y b).2.row=(aA g (aA g f y b).2 x a).2.row∧
 (aA g f x a).1=(aA g (aA g f y b).2 x a).1∧(aA g f y b).1=(aA g (aA g f x a).2 y b).1:=
 BH (aE hc) hi hxy Ac uf ha hb (xQ hc hi hxy Ac uf) (xQ hc hi (Ne.symm hxy) uf Ac)
end Go.Ab
end
section
namespace Go.Ab
open Go.Proofs
attribute [local congr] ACall.congr gd.congr Nx.congr
set_option maxRecDepth 10000
set_option maxHeartbeats 4000000
def Ad (row:List It) (a b:Int):Nat→Int × Int
 |0=>(-1,0)
 |k+1=>if ((row.getD k (0,0,0)).2.2=a∨(row.getD k (0,0,0)).2.2=b)∧(row.getD k (0,0,0)).2.2≠(Ad row a b k).1 then ((row.getD k (0,0,0)).2.2,(Ad row a b k).2+1) else Ad row a b k
end Go.Ab
end
section
namespace Go.Ab
open Go.Proofs
attribute [local congr] ACall.congr gd.congr Nx.congr
set_option maxRecDepth 10000
set_option maxHeartbeats 4000000
def IN (row:List It) (i:Nat):Int:=(row.getD i (0,0,0)).2.2
def Nn (row:List It) (i j:Nat):Bool:=decide (IN row i≠ -1)&&decide (IN row j≠ -1)&&decide (IN row i≠IN row j)&&decide (4≤(Ad row (IN row i) (IN row j) row.length).2)
def Om (row:List It):Bool:=(List.range row.length).any fun i=>(List.range row.length).any (Nn row i)
end Go.Ab
end
section
namespace Go.Ab
open Go.Proofs
attribute [local congr] ACall.congr gd.congr Nx.congr
set_option maxRecDepth 10000
set_option maxHeartbeats 8000000
def T4 (row:List It) (a b c d:Nat):Prop:=0≤(row.getD a (0,0,0)).2.2∧0≤(row.getD b (0,0,0)).2.2∧(row.getD a (0,0,0)).2.2≠(row.getD b (0,0,0)).2.2∧(row.getD a (0,0,0)).2.2=(row.getD c (0,0,0)).2.2∧(row.getD b (0,0,0)).2.2=(row.getD d (0,0,0)).2.2
def Qd (row:List It):Prop:=∃a b c d,a<b∧b<c∧c<d∧d<row.length∧T4 row a b c d
end Go.Ab
end
section
namespace Go.Ab
open Go.Proofs
set_option maxRecDepth 10000
theorem xR {g:Gr} {f f':Fr} (hr:f.row=f'.row) (hp:f.pl.Perm f'.pl) (x:Int):aD g f x=aD g f' x:=by
 unfold aD
 rw [hr]
 by_cases h:x<0∨g.n≤x∨x∈f.pl
 ·rw [if_pos h,if_pos (by rw [← hp.mem_iff];exact h)]
 ·have h':¬(x<0∨g.n≤x∨x∈f'.pl):=by rw [← hp.mem_iff];exact h
  rw [if_neg h,if_neg h']
theorem iz:∀ {l m:List Int},l.Nodup→(∀i∈l,i∈m)→l.length≤m.length
 | [],_,_,_=>by simp
 |a::l,m,hn,hs=>by
  rw [List.nodup_cons] at hn
  have ha:=hs a (List.mem_cons_self ..)
  have:=iz hn.2 (m:=m.erase a) fun i hi=>(List.mem_erase_of_ne (fun e:i=a=>hn.1 (e ▸ hi))).2 (hs i (List.mem_cons_of_mem _ hi))
  rw [List.length_erase_of_mem ha] at this
  have:=List.length_pos_of_mem ha
  rw [List.length_cons];omega
theorem jT {g:Gr} {f:Fr} (hi:gI g f) (hf:(f.pl.length:Int)=g.n) {x:Int} (hx:0≤x∧x<g.n):x∈f.pl:=by
 refine Decidable.byContradiction fun h=> ?_
 have h1:(x::f.pl).Nodup:=List.nodup_cons.2 ⟨h,hi.pl⟩
 have h2:((List.range g.n.toNat).map Int.ofNat).length=g.n.toNat:=by simp
 have h3:=iz h1 (m:=(List.range g.n.toNat).map Int.ofNat) (fun y hy=>by
  rw [List.mem_map]
  have:0≤y∧y<g.n:=by
   rcases List.mem_cons.1 hy with h|h
   ·rw [h];exact hx
   ·exact hi.DG y h
  exact ⟨y.toNat,List.mem_range.2 (by omega),by simp;omega⟩)
 rw [h2,List.length_cons] at h3
 omega
def Tg (a b:Int) (row:List It):Prop:=∃l:List It,l.Sublist row∧l.map (fun t=>t.2.2)= [a,b,a,b]
def DK (a b:Int) (t:It):Bool:=decide (t.2.2=a)||decide (t.2.2=b)
theorem Tg.No {a b:Int} {row:List It} :Tg a b row↔Tg a b (row.filter (DK a b)):=by
 constructor
 ·rintro ⟨l,h,e⟩
  refine ⟨l, ?_,e⟩
  have h1:=h.filter (DK a b)
  rw [List.filter_eq_self.2] at h1
  ·exact h1
  ·intro t ht
   have:t.2.2∈l.map (fun t=>t.2.2):=List.mem_map.2 ⟨t,ht,rfl⟩
   rw [e] at this
   simp only [DK,Bool.or_eq_true,decide_eq_true_eq]
   simp only [List.mem_cons,List.not_mem_nil,or_false] at this
   omega
 ·rintro ⟨l,h,e⟩
  exact ⟨l,h.trans List.filter_sublist,e⟩
theorem Tg.keep {a b x:Int} (ha:0≤a) (hb:0≤b) (GC:a≠x) (u6:b≠x) {A X C u:List It} (hX:∀t∈X,t.2.2=x∨t.2.2= -1) (h:Tg a b (A++X++C)):Tg a b (A++u++C):=by
 rw [Tg.No] at h ⊢
 obtain ⟨l,h,e⟩:=h
 refine ⟨l,h.trans ?_,e⟩
 rw [List.filter_append,List.filter_append,List.filter_append,List.filter_append]
 have:X.filter (DK a b)= []:=List.filter_eq_nil_iff.2 fun t ht=>by
  simp only [DK,Bool.or_eq_true,decide_eq_true_eq]
  rcases hX t ht with h|h<;>omega
 rw [this,List.append_nil]
 exact List.Sublist.append_right (List.sublist_append_left _ _) _
theorem Tg.not {a b x:Int} (hab:a≠b) (hb0:0≤b) (ha0:0≤a) (hx:x=a∨x=b) {A X C:List It} (hA:fC x A) (hC:fC x C) (hX:∀t∈X,t.2.2=x∨t.2.2= -1):¬Tg a b (A++X++C):=by
 rintro ⟨l,h,e⟩
 rw [List.append_assoc,List.sublist_append_iff] at h
 obtain ⟨l1,l',rfl,h1,h'⟩:=h
 rw [List.sublist_append_iff] at h'
 obtain ⟨l2,l3,rfl,h2,h3⟩:=h'
 have k1:∀t∈l1,t.2.2≠x:=fun t ht=>hA t (h1.subset ht)
 have k2:∀t∈l2,t.2.2=x∨t.2.2= -1:=fun t ht=>hX t (h2.subset ht)
 have k3:∀t∈l3,t.2.2≠x:=fun t ht=>hC t (h3.subset ht)
 clear h1 h2 h3
 match l1,k1,e with
 |t1::t2::_,k1,e=>
  simp only [List.cons_append,List.map_cons,List.cons.injEq] at e
  rcases hx with h|h
  ·exact k1 t1 (by simp) (by omega)
  ·exact k1 t2 (by simp) (by omega)
 | [t1],k1,e=>
   simp only [List.cons_append,List.nil_append,List.map_cons,List.cons.injEq] at e
   rcases hx with h|h
   ·exact k1 t1 (by simp) (by omega)
   ·match l2,k2,e with
    | [],_,e=>
      match l3,k3,e with
      | [s1,s2,s3],k3,e=>
        simp only [List.nil_append,List.map_cons,List.map_nil,List.cons.injEq,and_true] at e
        exact k3 s1 (by simp) (by omega)
      | [],_,e=>simp at e
      | [_],_,e=>simp at e
      | [_,_],_,e=>simp at e
      |_::_::_::_::_,_,e=>simp at e
    |s1::s2::_,k2,e=>
     simp only [List.cons_append,List.map_cons,List.cons.injEq] at e
     rcases k2 s2 (by simp) with h|h<;>omega
    | [s1],k2,e=>
      match l3,k3,e with
      | [u1,u2],k3,e=>
        simp only [List.cons_append,List.nil_append,List.map_cons,List.map_nil,List.cons.injEq,and_true] at e
        exact k3 u2 (by simp) (by omega)
      | [],_,e=>simp at e
      | [_],_,e=>simp at e
      |_::_::_::_,_,e=>simp at e
 | [],_,e=>
   simp only [List.nil_append] at e
   match l2,k2,e with
   | [],_,e=>
     match l3,k3,e with
     | [],_,e=>simp at e
     | [_],_,e=>simp at e
     |s1::s2::_,k3,e=>
      simp only [List.nil_append,List.map_cons,List.cons.injEq] at e
      rcases hx with h|h
      ·exact k3 s1 (by simp) (by omega)
      ·exact k3 s2 (by simp) (by omega)
   |s1::s2::_,k2,e=>
    simp only [List.cons_append,List.map_cons,List.cons.injEq] at e
    have q1:=k2 s1 (by simp)
    have q2:=k2 s2 (by simp)
    omega
   | [s1],k2,e=>
     match l3,k3,e with
     | [],_,e=>simp at e
     | [_],_,e=>simp at e
     | [_,_],_,e=>simp at e
     |u1::u2::u3::_,k3,e=>
      simp only [List.cons_append,List.nil_append,List.map_cons,List.cons.injEq] at e
      have q1:=k2 s1 (by simp)
      exact k3 u2 (by simp) (by omega)
end Go.Ab
end
section
namespace Go.Ab
open Go.Proofs
set_option maxRecDepth 10000
theorem BJ {row:List It} {k:Nat} (h:k<row.length):row.take (k+1)=row.take k++ [row.getD k (0,0,0)]:=by
 rw [List.take_add_one,List.getD_eq_getElem?_getD,List.getElem?_eq_getElem h];rfl
theorem DL {row:List It} {i j:Nat} (h:i≤j):(row.take i).Sublist (row.take j):=by
 rw [show row.take i=(row.take j).take i by rw [List.take_take,Nat.min_eq_left h]]
 exact List.take_sublist _ _
theorem sP {row l:List It} {i j:Nat} (h:l.Sublist (row.take i)) (hij:i≤j) (hj:j<row.length):(l++ [row.getD j (0,0,0)]).Sublist (row.take (j+1)):=by
 rw [BJ hj]
 exact List.Sublist.append (h.trans (DL hij)) (List.Sublist.refl _)
def Np (a b:Int):List It→Prop
 | []=>True
 | [t]=>t.2.2=a∨t.2.2=b
 |s::t::l=>(s.2.2=a∨s.2.2=b)∧s.2.2≠t.2.2∧Np a b (t::l)
end Go.Ab
end
section
namespace Go.Ab
open Go.Proofs
set_option maxRecDepth 10000
structure Pl where
 ord:List Int
 outs:List (List Int)
def aq (p:Pl) (k:Nat):Int:=p.ord.getD k 0
def bF (p:Pl) (x:Int):List Int:=p.outs.getD x.toNat []
def bw (g:Gr) (p:Pl):Prop:=p.outs.length=g.n.toNat∧p.ord.Perm (iI g.n.toNat)∧∀x:Nat,x<g.n.toNat→(p.outs.getD x []).Perm (bu g x)
def fK (g:Gr) (p:Pl):Nat→Fr
 |0=>⟨[], []⟩
 |k+1=>(aA g (fK g p k) (aq p k) (bF p (aq p k))).2
def dU (g:Gr) (p:Pl) (k:Nat):List It:=(aA g (fK g p k) (aq p k) (bF p (aq p k))).1.1
def za (g:Gr) (p:Pl) (k:Nat):Bool:=aD g (fK g p k) (aq p k)
def dz (g:Gr) (p:Pl):Nat→List (List It)
 |0=>List.replicate g.n.toNat []
 |k+1=>(dz g p k).set (aq p k).toNat (dU g p k)
def iR (g:Gr) (p:Pl):Nat→Option Nat
 |0=>none
 |k+1=>match iR g p k with
  |some i=>some i
  |none=>if za g p k=true then none else some k
def bM (g:Gr) (p:Pl):Prop:=(bZ g).1=0∧bw g p∧∀k,k<g.n.toNat→za g p k=true
theorem eL {g:Gr} {p:Pl} :∀ {k:Nat},iR g p k=none↔∀j,j<k→za g p j=true
 |0=>by simp [iR]
 |k+1=>by
  rw [iR]
  cases h:iR g p k with
  |some i=>
   simp only [reduceCtorEq,false_iff]
   intro h2
   rw [eL.2 fun j hj=>h2 j (by omega)] at h
   cases h
  |none=>
   have ih:=eL.1 h
   simp only
   constructor
   ·intro h2 j hj
    by_cases hjk:j=k
    ·subst hjk
     refine Decidable.byContradiction fun hn=> ?_
     rw [if_neg hn] at h2;cases h2
    ·exact ih j (by omega)
   ·intro h2
    rw [if_pos (h2 k (by omega))]
theorem nu {g:Gr} {p:Pl} {i:Nat} :∀ {k:Nat},iR g p k=some i↔i<k∧za g p i=false∧∀j,j<i→za g p j=true
 |0=>by simp [iR]
 |k+1=>by
  rw [iR]
  cases h:iR g p k with
  |some i'=>
   have ih:=(nu (g:=g) (p:=p)).1 h
   simp only [Option.some.injEq]
   constructor
   ·rintro rfl
    exact ⟨by omega,ih.2⟩
   ·rintro ⟨h1,h2,h3⟩
    rcases Nat.lt_trichotomy i' i with h4|h4|h4
    ·rw [h3 i' h4] at ih;simp at ih
    ·exact h4
    ·rw [ih.2.2 i h4] at h2;cases h2
  |none=>
   have ih:=eL.1 h
   simp only
   constructor
   ·intro h2
    by_cases hk:za g p k=true
    ·rw [if_pos hk] at h2;cases h2
    ·rw [if_neg hk] at h2
     cases h2
     exact ⟨by omega,by simpa using hk,ih⟩
   ·rintro ⟨h1,h2,h3⟩
    have:i=k:=by
     by_cases h4:i<k
     ·rw [ih i h4] at h2;cases h2
     ·omega
    subst this
    rw [if_neg (by rw [h2];simp)]
theorem oM {n:Nat} :(iI n).length=n:=by simp [iI]
theorem bQ {g:Gr} {p:Pl} (h:bw g p):p.ord.length=g.n.toNat:=by rw [h.2.1.length_eq,oM]
theorem sQ {g:Gr} {p:Pl} (h:bw g p):p.ord.Nodup:=h.2.1.nodup_iff.2 ku
theorem aJ {g:Gr} {p:Pl} (h:bw g p) {k:Nat} (hk:k<g.n.toNat):0≤aq p k∧aq p k<g.n:=by
 have h1:aq p k∈p.ord:=aV (by rw [bQ h];exact hk)
 have:=dS.1 (h.2.1.mem_iff.1 h1)
 omega
theorem dM {g:Gr} {p:Pl} (h:bw g p) {i j:Nat} (hi:i<g.n.toNat) (hj:j<g.n.toNat) (e:aq p i=aq p j):i=j:=
 sj (sQ h) (by rw [bQ h];exact hi) (by rw [bQ h];exact hj) e
theorem fu {g:Gr} {p:Pl} (h:bw g p) {x:Int} (h0:0≤x) (h1:x<g.n):∃k,k<g.n.toNat∧aq p k=x:=by
 have:x∈p.ord:=h.2.1.mem_iff.2 (dS.2 (by omega))
 obtain ⟨k,hk,e⟩:=List.mem_iff_getElem.1 this
 refine ⟨k,by rw [← bQ h];exact hk, ?_⟩
 rw [aq,List.getD_eq_getElem?_getD,List.getElem?_eq_getElem hk,Option.getD_some,e]
theorem bN {g:Gr} {p:Pl} (h:bw g p) {x:Int} (h0:0≤x) (h1:x<g.n):(bF p x).Perm (bu g x):=by
 have:=h.2.2 x.toNat (by omega)
 rwa [show ((x.toNat:Nat):Int)=x by omega] at this
theorem iS {g:Gr} {p:Pl} (h:bw g p) {x:Int} (h0:0≤x) (h1:x<g.n):(bF p x).length≤g.es.length:=by
 rw [(bN h h0 h1).length_eq];exact xM
theorem de {g:Gr} (hm:aP g=true) {p:Pl} (h:bw g p):∀ {k:Nat},k≤g.n.toNat→(∀j,j<k→za g p j=true)→xO g (fK g p k)∧(fK g p k).pl=p.ord.take k∧(fK g p k).row.length≤k*(g.es.length+1)
 |0,_,_=>⟨Aa g,by simp [fK],by simp [fK]⟩
 |k+1,hk,hok=>by
  obtain ⟨h1,h2,h3⟩:=de hm h (k:=k) (by omega) fun j hj=>hok j (by omega)
  obtain ⟨x0,x1⟩:=aJ h (k:=k) (by omega)
  have hl:=BB (g:=g) (f:=fK g p k) (x:=aq p k) (o:=bF p (aq p k))
  have PI:=iS h x0 x1
  refine ⟨jS hm h1 (hok k (by omega)) (bN h x0 x1), ?_, ?_⟩
  ·show (fK g p k).pl++ [aq p k]=_
   rw [h2,List.take_add_one,List.getElem?_eq_getElem (by rw [bQ h];omega),aq,List.getD_eq_getElem?_getD,List.getElem?_eq_getElem (by rw [bQ h];omega)]
   rfl
  ·show (aA _ _ _ _).2.row.length≤_
   rw [Nat.add_mul];omega
theorem xS {g:Gr} {p:Pl} (h:bw g p) {k:Nat} (hk:k<g.n.toNat) (hR:za g p k=true):c9 g (fK g p k) (aq p k) (bF p (aq p k))=aA g (fK g p k) (aq p k) (bF p (aq p k)):=by
 have hp:=bN h (aJ h hk).1 (aJ h hk).2
 unfold c9
 have HV:aD g (fK g p k) (aq p k)=true:=hR
 rw [if_neg (by rw [HV];simp),if_neg]
 rintro (h|⟨i,h1,h2⟩)
 ·exact h hp.length_eq
 ·exact h2 (hp.mem_iff.2 h1)
theorem xT {g:Gr} {p:Pl} {k:Nat} (hR:za g p k=false):c9 g (fK g p k) (aq p k) (bF p (aq p k))=(([],3),fK g p k):=if_pos hR
theorem jU {g:Gr} {p:Pl} :∀ {k:Nat},(dz g p k).length=g.n.toNat
 |0=>by simp [dz]
 |k+1=>by rw [dz,List.length_set,jU]
theorem BK {α:Type} {l:List α} {i j:Nat} {a d:α} (hi:i<l.length):(l.set i a).getD j d=if j=i then a else l.getD j d:=by
 rw [List.getD_eq_getElem?_getD,List.getElem?_set,List.getD_eq_getElem?_getD]
 by_cases h:i=j
 ·subst h;simp [hi]
 ·rw [if_neg h,if_neg (Ne.symm h)]
theorem mh {g:Gr} {p:Pl} (h:bw g p):∀ {k:Nat},k≤g.n.toNat→∀ {i:Nat},i<k→(dz g p k).getD (aq p i).toNat []=dU g p i
 |0,_,i,hi=>by omega
 |k+1,hk,i,hi=>by
  have hm:=aJ h (k:=k) (by omega)
  rw [dz,BK (by rw [jU];omega)]
  by_cases e:i=k
  ·subst e;rw [if_pos rfl]
  ·have K3:=aJ h (k:=i) (by omega)
   rw [if_neg (fun h2=>e (dM h (by omega) (by omega) (by omega)))]
   exact mh h (by omega) (by omega)
theorem oN {l m:List Int} (h:gG l=m):l.Perm m:=by
 rw [← h];exact (List.mergeSort_perm l _).symm
theorem xU {n:Nat} :(iI n).Pairwise (· ≤ ·):=by
 unfold iI
 refine List.Pairwise.map _ (fun a b (h:a<b)=> ?_) List.pairwise_lt_range
 show (a:Int)≤b
 omega
theorem FX {g:Gr} (hm:aP g=true) {p:Pl} :(p.outs.length=g.n.toNat∧p.ord.length=g.n.toNat∧(∀i:Nat,i<(gG p.ord).length→(gG p.ord).getD i 0=i)∧∀x:Nat,x<p.outs.length→gG (p.outs.getD x [])=bq (·.1) g x)↔bw g p:=by
 constructor
 ·rintro ⟨h1,h2,h3,h4⟩
  refine ⟨h1,oN ?_,fun x hx=> ?_⟩
  ·refine List.ext_getElem (by rw [eH,h2,oM]) fun i h5 h6=> ?_
   have:=h3 i h5
   rw [List.getD_eq_getElem?_getD,List.getElem?_eq_getElem h5,Option.getD_some] at this
   rw [this];simp [iI]
  ·have:=h4 x (by omega)
   rw [fR (by omega) (by omega)] at this
   exact oN this
 ·intro h
  refine ⟨h.1,bQ h, ?_,fun x hx=> ?_⟩
  ·rw [sN h.2.1 xU]
   intro i hi
   rw [oM] at hi
   simp [iI,List.getD_eq_getElem?_getD,List.getElem?_range hi]
  ·rw [fR (by omega) (by have:=h.1;omega)]
   exact sN (h.2.2 x (by rw [← h.1];exact hx)) qn
theorem Ae {g:Gr} (hm:aP g=true) {p:Pl} :(fF p.ord g.n=true∧p.outs.length=g.n.toNat∧(∀x:Nat,x<p.outs.length→∀i∈p.outs.getD x [],i∈bu g x)∧p.outs.flatten.Nodup∧∀i:Nat,i<g.es.length→(i:Int)∈p.outs.flatten)↔bw g p:=by
 have hn:=aU hm
 constructor
 ·rintro ⟨h1,h2,h3,h4,h5⟩
  refine ⟨h2, ?_,fun x hx=> ?_⟩
  ·obtain ⟨e1,e2⟩:=b7.1 h1
   exact qJ ku e2 (by rw [oM];omega)
  ·have hxl:x<p.outs.length:=by omega
   have hmem:p.outs.getD x []∈p.outs:=aV hxl
   have b8:(p.outs.getD x []).Nodup:=by
    rw [List.Nodup,List.pairwise_flatten] at h4
    exact h4.1 _ hmem
   refine (List.perm_ext_iff_of_nodup b8 dc).2 fun i=>⟨h3 x hxl i,fun hi=> ?_⟩
   obtain ⟨k,rfl,hk,ht⟩:=jQ hi
   obtain ⟨l,hl,ck⟩:=List.mem_flatten.1 (h5 k hk)
   obtain ⟨y,hy,rfl⟩:=List.mem_iff_getElem.1 hl
   have e:p.outs.getD y []=p.outs[y]:=by rw [List.getD_eq_getElem?_getD,List.getElem?_eq_getElem hy];rfl
   rw [← e] at ck
   obtain ⟨k',e1,_,e2⟩:=jQ (h3 y hy _ ck)
   have:k=k':=by omega
   subst this
   have:x=y:=by omega
   subst this
   exact ck
 ·intro h
  refine ⟨b7.2 ⟨?_,fun x hx=>h.2.1.mem_iff.2 hx⟩,h.1,fun x hx i hi=>(h.2.2 x (by rw [← h.1];exact hx)).mem_iff.1 hi, ?_,fun i hi=> ?_⟩
  ·have:=bQ h;omega
  ·rw [List.Nodup,List.pairwise_flatten]
   constructor
   ·intro l hl
    obtain ⟨x,hx,rfl⟩:=List.mem_iff_getElem.1 hl
    have e:p.outs.getD x []=p.outs[x]:=by rw [List.getD_eq_getElem?_getD,List.getElem?_eq_getElem hx];rfl
    rw [← e]
    exact (h.2.2 x (by rw [← h.1];exact hx)).nodup_iff.2 dc
   ·refine List.pairwise_iff_getElem.2 fun x y hx hy hxy a ha b hb e=> ?_
    subst e
    have ex:p.outs.getD x []=p.outs[x]:=by rw [List.getD_eq_getElem?_getD,List.getElem?_eq_getElem hx];rfl
    have ey:p.outs.getD y []=p.outs[y]:=by rw [List.getD_eq_getElem?_getD,List.getElem?_eq_getElem hy];rfl
    rw [← ex] at ha
    rw [← ey] at hb
    obtain ⟨k,e1,_,e2⟩:=jQ ((h.2.2 x (by rw [← h.1];exact hx)).mem_iff.1 ha)
    obtain ⟨k',e3,_,e4⟩:=jQ ((h.2.2 y (by rw [← h.1];exact hy)).mem_iff.1 hb)
    have:k=k':=by omega
    subst this
    omega
  ·have ht:=(eA hm hi).1
   refine List.mem_flatten.2 ⟨p.outs.getD (tl g i).toNat [],aV (by rw [h.1];have:0≤tl g i∧tl g i<g.n:=ht;omega), ?_⟩
   have:0≤tl g i∧tl g i<g.n:=ht
   refine (h.2.2 _ (by omega)).mem_iff.2 ?_
   simp only [bu,aY,List.mem_map,List.mem_filter,List.mem_range,decide_eq_true_eq]
   exact ⟨i,⟨hi,by show tl g i=_;omega⟩,rfl⟩
end Go.Ab
end
section
namespace Go.Ab
open Go.Proofs
set_option maxRecDepth 10000
def ug (g:Gr) (p:Pl) (f:Fr) (x:Int):Fr:=(aA g f x (bF p x)).2
def Kr (g:Gr) (p:Pl):Nat→Fr→Prop
 |0,f=>(f.pl.length:Int)=g.n
 |m+1,f=>∃x,aD g f x=true∧Kr g p m (ug g p f x)
def Ks (rev:Bool) (l:List It):List It:=if rev=true then l.reverse else l
def DM (g:Gr) (f:Fr) (rev:Bool):Int:=match (Ks rev f.row).find? (fun t=>aD g f t.2.2) with
 |some t=>t.2.2
 |none=>(HX g f).headD (-1)
def Af (g:Gr) (p:Pl) (rev:Bool):Nat→Fr
 |0=>⟨[], []⟩
 |k+1=>ug g p (Af g p rev k) (DM g (Af g p rev k) rev)
def Ag (g:Gr) (p:Pl) (rev:Bool):Nat→List Int
 |0=>List.replicate g.n.toNat 0
 |k+1=>(Ag g p rev k).set (DM g (Af g p rev k) rev).toNat (k:Int)
def Qe (g:Gr) (p:Pl) (rev:Bool):List Int:=(List.range g.n.toNat).map fun k=>DM g (Af g p rev k) rev
end Go.Ab
end
section
namespace Go.Ab
open Go.Proofs
set_option maxRecDepth 10000
def Qf (f:Fr):Fr:=⟨f.row.reverse,f.pl⟩
def Qg (p:Pl):Pl:=⟨p.ord,p.outs.map List.reverse⟩
theorem fC.rev {x:Int} {l:List It} (h:fC x l):fC x l.reverse:=fun t ht=>h t (List.mem_reverse.1 ht)
theorem BC.rev {x:Int} {X:List It} (h:BC x X):BC x X.reverse:=
 ⟨by obtain ⟨X',q,h1,h2⟩:=h.EX;exact ⟨q,X'.reverse,by simp [h1],h2⟩,by obtain ⟨p,X',h1,h2⟩:=h.fst;exact ⟨X'.reverse,p,by simp [h1],h2⟩,fun t ht=>h.al t (List.mem_reverse.1 ht)⟩
end Go.Ab
end
section
namespace Go.Ab
open Go.Proofs
set_option maxRecDepth 10000
def loose (l:List It):List Int:=(l.filter fun t=>decide (t.1<0)).map fun t=>t.2.1
theorem uh {a b:List It} :loose (a++b)=loose a++loose b:=by simp [loose]
def Kt (g:Gr) (p:Pl):Nat→List Edge
 |0=> []
 |k+1=>Kt g p k++(loose (dU g p k)).map fun v=>(v,aq p k)
def lG (g:Gr) (p:Pl):List It:=(fK g p g.n.toNat).row
def newL (g:Gr) (p:Pl):List Edge:=if 1<(lG g p).length then (loose (lG g p)).map fun v=>(v,g.n) else []
def Ku (g:Gr) (p:Pl):List Edge:=Kt g p g.n.toNat++newL g p
def DN (g:Gr) (p:Pl):Gr:=⟨if 1<(lG g p).length then g.n+1 else g.n,g.es++Ku g p⟩
def Kv:Nat→List Edge→List (List Int)→List (List Int)
 |_, [],O=>O
 |m,e::N,O=>Kv (m+1) N (O.set e.1.toNat [(m:Int)])
def Nq (g:Gr) (p:Pl):Pl:=⟨if 1<(lG g p).length then p.ord++ [g.n] else p.ord,Kv g.es.length (Ku g p) (if 1<(lG g p).length then p.outs++ [[]] else p.outs)⟩
def Qh (g:Gr) (p:Pl) (x:Gr):List (List Int):=(List.range x.n.toNat).map fun v=>if 0<(p.outs.getD v []).length then p.outs.getD v [] else bu x (v:Int)
theorem oO {g:Gr} {p:Pl} (h:bw g p) {v:Int} (h0:0≤v) (h1:v<g.n):bu g v= []↔bF p v= []:=by
 have hp:=bN h h0 h1
 constructor
 ·intro e;rw [e] at hp;exact hp.eq_nil
 ·intro e;rw [e] at hp;exact hp.symm.eq_nil
end Go.Ab
end
section
namespace Go.Ab
open Go.Proofs
set_option maxRecDepth 10000
abbrev Act:=Int × List Int
def rA (a:Act):List D:= [.sc (.int .i64 a.1),sI a.2]
def sA (as':List Act):D:= .sl 2 (as'.map rA)
attribute [go_sem] sA
def Kw (g:Gr) (H6:List Act):Nat→Fr
 |0=>⟨[], []⟩
 |k+1=>(c9 g (Kw g H6 k) (H6.getD k (0, [])).1 (H6.getD k (0, [])).2).2
theorem GS {g:Gr} {f:Fr} (hi:gI g f):(f.pl.length:Int)≤g.n∨f.pl= []:=by
 by_cases h:f.pl= []
 ·exact .inr h
 ·left
  obtain ⟨y,hy⟩:=List.exists_mem_of_ne_nil _ h
  have:=hi.DG y hy
  have h3:=iz hi.pl (m:=(List.range g.n.toNat).map Int.ofNat) (fun y hy=>by
   rw [List.mem_map]
   have:=hi.DG y hy
   exact ⟨y.toNat,List.mem_range.2 (by omega),by simp;omega⟩)
  simp at h3
  omega
theorem xV (g:Gr) (hm:aP g=true) (f:Fr) (hi:xO g f) (x:Int) (outs:List Int) (hr:f.row.length≤300000) (hp:f.pl.length≤100000) (ho:outs.length≤17592186043904):
 Spec Tryz.prog 89 (Args [.ptr 10000 0,eN x, .d (sI outs)]) (mL g f) (.tup [.d (sT (c9 g f x outs).1.1),eN (c9 g f x outs).1.2]) (y6 g (c9 g f x outs).2):=by
 rw [← DH hm hi.togI]
 exact y8 g hm f x outs hr hp ho
end Go.Ab
end
section
namespace Go.Ab
open Go.Proofs
attribute [local congr] ACall.congr gd.congr Nx.congr
set_option maxRecDepth 10000
set_option maxHeartbeats 4000000
def ePl (p:Pl):AV:= .agg [.d (sI p.ord), .d (.sl 1 (vI p.outs))]
attribute [go_sem] ePl
structure oR (p:Pl):Prop where
 ord:p.ord.length≤17592186043904
 outs:p.outs.length≤9223372036854775807
 each:∀l∈p.outs,l.length≤17592186043904
theorem DO (g:Gr) (hm:aP g=true) (p:Pl) (hp:oR p) (res:Bool) (hr:res=true↔bw g p):Spec Tryz.prog 88 (Args [.d (vw g),ePl p]) [] (eB res) []:=by
 rw [← FX hm] at hr
 have hn:=aU hm
 have ho:=hp.ord
 have I0:=hp.outs
 by_cases h1:p.outs.length=g.n.toNat∧p.ord.length=g.n.toNat
 rotate_left
 ·have hres:res=false:=by
   rw [← Bool.not_eq_true,hr]
   rintro ⟨h2,h3,_⟩
   exact h1 ⟨h2,h3⟩
  subst hres
  by_cases h2:(p.outs.length:Int)=g.n
  ·have ak:decide ((p.outs.length:Int)=g.n)=true:=decide_eq_true h2
   have an:decide ((p.ord.length:Int)=g.n)=false:=decide_eq_false fun h3=>h1 ⟨by omega,by omega⟩
   (refine Spec.hd (C:=T.cfg [] []) (rs:= [.t 4]) (T.ai _ _) Tryz.func88 rfl rfl Tryz.ntmps88 Tryz.results88 (by simp [AObj.isNest]) (by simp [AObj.isNest]) (by kernel_rfl) T.mixed fun X hX hP hC aK cw=> ?_)
   repeat' (first|refine Rn.p ?_|(with_reducible apply And.intro)|((first|(refine hK _ ?_;clear hK K)|with_reducible intro K hK|refine Rs.p ?_|((with_reducible first|apply oP|apply oQ);exact rfl));try simp only [go_sem,simprocAttr,au,ak,an])|((with_reducible refine oD ?_ ?_);kernel_rfl)|((with_reducible intro h);try simp only [go_sem,simprocAttr,au,ak,an] at h)|omega|intro h)
  ·have ak:decide ((p.outs.length:Int)=g.n)=false:=decide_eq_false h2
   (refine Spec.hd (C:=T.cfg [] []) (rs:= [.t 4]) (T.ai _ _) Tryz.func88 rfl rfl Tryz.ntmps88 Tryz.results88 (by simp [AObj.isNest]) (by simp [AObj.isNest]) (by kernel_rfl) T.mixed fun X hX hP hC aK cw=> ?_)
   repeat' (first|refine Rn.p ?_|(with_reducible apply And.intro)|((first|(refine hK _ ?_;clear hK K)|with_reducible intro K hK|refine Rs.p ?_|((with_reducible first|apply oP|apply oQ);exact rfl));try simp only [go_sem,simprocAttr,au,ak])|((with_reducible refine oD ?_ ?_);kernel_rfl)|((with_reducible intro h);try simp only [go_sem,simprocAttr,au,ak] at h)|omega|intro h)
 have ak:decide ((p.outs.length:Int)=g.n)=true:=decide_eq_true (by omega)
 have an:decide ((p.ord.length:Int)=g.n)=true:=decide_eq_true (by omega)
 have ym:=eH p.ord
 (refine Spec.hd (C:=T.cfg [] []) (rs:= [.t 4]) (T.ai _ _) Tryz.func88 rfl rfl Tryz.ntmps88 Tryz.results88 (by simp [AObj.isNest]) (by simp [AObj.isNest]) (by kernel_rfl) T.mixed fun X hX hP hC aK cw=> ?_)
 repeat' (first|refine Rn.p ?_|(with_reducible apply And.intro)|((first|(refine hK _ ?_;clear hK K)|with_reducible intro K hK|refine Rs.p ?_|((with_reducible first|apply oP|apply oQ);exact rfl)|(refine az hX hC hP [(10000,31)] (cC p.ord) rfl rfl rfl ?_ ?_ ?_ ?_ ?_ ?_ ?_ ?_ ?_ ?_ ?_ ?_ ?_ ?_;(focus (simp only [go_sem,simprocAttr,au,ak,an];done));(iterate 12 (focus (simp [go_sem,simprocAttr,au,ak,an];done)));try simp only [List.map_cons,List.map_nil])|(refine aS hX hC hP [(10000,31)] (cj p.ord ho) rfl rfl rfl ?_ ?_ ?_ ?_ ?_ ?_ rfl rfl ?_ ?_;(focus (simp only [go_sem,simprocAttr,au,ak,an];done));(iterate 6 (focus (simp [go_sem,simprocAttr,au,ak,an];done)));try simp only [List.map_cons,List.map_nil]));try simp only [go_sem,simprocAttr,au,ak,an])|((with_reducible refine oD ?_ ?_);kernel_rfl)|((with_reducible intro h);try simp only [go_sem,simprocAttr,au,ak,an] at h)|omega|intro h)
 clear ak an
 refine ag (fun k:Nat=>k≤(gG p.ord).length∧∀i:Nat,i<k→(gG p.ord).getD i 0=i) (fun k=>⟨[(0, .d (vw g)),(3, .ptr 3 0),(32, .d (sI (gG p.ord))),(33,eN (gG p.ord).length),(34,eN k)], [(3, .box [.d (sI p.ord), .d (.sl 1 (vI p.outs))])]⟩) (fun k=>(gG p.ord).length - k) 0 (by simp) ?_ ?_
 ·(refine Le.of ?_ ?_<;>simp [go_sem,simprocAttr,au])
 rintro k ⟨hk,hg⟩
 rcases Nat.lt_or_ge k (gG p.ord).length with hlt|hge
 ·have hb:decide ((k:Int)<((gG p.ord).length:Int))=true:=decide_eq_true (by omega)
  by_cases he:(gG p.ord).getD k 0=k
  ·have an:decide ((gG p.ord).getD k 0=(k:Int))=true:=decide_eq_true he
   repeat' (first|refine Rn.p ?_|(with_reducible apply And.intro)|((first|(refine hK _ ?_;clear hK K)|with_reducible intro K hK|refine Rs.p ?_|((with_reducible first|apply oP|apply oQ);exact rfl)|(refine az hX hC hP [(10000,31)] (cC p.ord) rfl rfl rfl ?_ ?_ ?_ ?_ ?_ ?_ ?_ ?_ ?_ ?_ ?_ ?_ ?_ ?_;(focus (simp only [go_sem,simprocAttr,au,hb,an];done));(iterate 12 (focus (simp [go_sem,simprocAttr,au,hb,an];done)));try simp only [List.map_cons,List.map_nil])|(refine aS hX hC hP [(10000,31)] (cj p.ord ho) rfl rfl rfl ?_ ?_ ?_ ?_ ?_ ?_ rfl rfl ?_ ?_;(focus (simp only [go_sem,simprocAttr,au,hb,an];done));(iterate 6 (focus (simp [go_sem,simprocAttr,au,hb,an];done)));try simp only [List.map_cons,List.map_nil]));try simp only [go_sem,simprocAttr,au,hb,an])|((with_reducible refine oD ?_ ?_);kernel_rfl)|((with_reducible intro h);try simp only [go_sem,simprocAttr,au,hb,an] at h)|omega|intro h)
   refine ⟨k+1,⟨by omega,fun i hi=> ?_⟩, ?_,by omega⟩
   ·by_cases hik:i=k
    ·subst hik;exact he
    ·exact hg i (by omega)
   ·(refine Le.of ?_ ?_<;>simp [go_sem,simprocAttr,au,hb,an])
  ·have an:decide ((gG p.ord).getD k 0=(k:Int))=false:=decide_eq_false he
   have hres:res=false:=by
    rw [← Bool.not_eq_true,hr]
    rintro ⟨_,_,h3,_⟩
    exact he (h3 k hlt)
   subst hres
   repeat' (first|refine Rn.p ?_|(with_reducible apply And.intro)|((first|(refine hK _ ?_;clear hK K)|with_reducible intro K hK|refine Rs.p ?_|((with_reducible first|apply oP|apply oQ);exact rfl)|(refine az hX hC hP [(10000,31)] (cC p.ord) rfl rfl rfl ?_ ?_ ?_ ?_ ?_ ?_ ?_ ?_ ?_ ?_ ?_ ?_ ?_ ?_;(focus (simp only [go_sem,simprocAttr,au,hb,an];done));(iterate 12 (focus (simp [go_sem,simprocAttr,au,hb,an];done)));try simp only [List.map_cons,List.map_nil])|(refine aS hX hC hP [(10000,31)] (cj p.ord ho) rfl rfl rfl ?_ ?_ ?_ ?_ ?_ ?_ rfl rfl ?_ ?_;(focus (simp only [go_sem,simprocAttr,au,hb,an];done));(iterate 6 (focus (simp [go_sem,simprocAttr,au,hb,an];done)));try simp only [List.map_cons,List.map_nil]));try simp only [go_sem,simprocAttr,au,hb,an])|((with_reducible refine oD ?_ ?_);kernel_rfl)|((with_reducible intro h);try simp only [go_sem,simprocAttr,au,hb,an] at h)|omega|intro h)
 have hb:decide ((k:Int)<((gG p.ord).length:Int))=false:=decide_eq_false (by omega)
 repeat' (first|refine Rn.p ?_|(with_reducible apply And.intro)|((first|(refine hK _ ?_;clear hK K)|with_reducible intro K hK|refine Rs.p ?_|((with_reducible first|apply oP|apply oQ);exact rfl)|(refine az hX hC hP [(10000,31)] (cC p.ord) rfl rfl rfl ?_ ?_ ?_ ?_ ?_ ?_ ?_ ?_ ?_ ?_ ?_ ?_ ?_ ?_;(focus (simp only [go_sem,simprocAttr,au,hb];done));(iterate 12 (focus (simp [go_sem,simprocAttr,au,hb];done)));try simp only [List.map_cons,List.map_nil])|(refine aS hX hC hP [(10000,31)] (cj p.ord ho) rfl rfl rfl ?_ ?_ ?_ ?_ ?_ ?_ rfl rfl ?_ ?_;(focus (simp only [go_sem,simprocAttr,au,hb];done));(iterate 6 (focus (simp [go_sem,simprocAttr,au,hb];done)));try simp only [List.map_cons,List.map_nil]));try simp only [go_sem,simprocAttr,au,hb])|((with_reducible refine oD ?_ ?_);kernel_rfl)|((with_reducible intro h);try simp only [go_sem,simprocAttr,au,hb] at h)|omega|intro h)
 obtain rfl:k=(gG p.ord).length:=by omega
 clear hb hk
 refine ag (fun x:Nat=>x≤p.outs.length∧∀i:Nat,i<x→gG (p.outs.getD i [])=bq (·.1) g i) (fun x=>⟨[(0, .d (vw g)),(44, .d (.sl 1 (vI p.outs))),(45,eN p.outs.length),(46,eN x)], []⟩) (fun x=>p.outs.length - x) 0 (by simp) ?_ ?_
 ·refine Le.of ?_ ?_<;>simp [go_sem,simprocAttr,au]
 rintro x ⟨hx,vE⟩
 rcases Nat.lt_or_ge x p.outs.length with hxl|EY
 ·have hb:decide ((x:Int)<(p.outs.length:Int))=true:=decide_eq_true (by omega)
  have hv:=fq hxl
  have hl:=hp.each _ (aV (d:= []) hxl)
  have hn2:∀h:gG (p.outs.getD x [])=bq (·.1) g x,∀i:Nat,i<x+1→gG (p.outs.getD i [])=bq (·.1) g i:=fun h i hi=>by
   by_cases IP:i=x
   ·subst IP;exact h
   ·exact vE i (by omega)
  have tK:¬gG (p.outs.getD x [])=bq (·.1) g x→res=false:=fun h=>by
   rw [← Bool.not_eq_true,hr]
   rintro ⟨_,_,_,h4⟩
   exact h (h4 x hxl)
  generalize p.outs.getD x []=l at hv hl hn2 tK
  have Qi:=eH l
  by_cases he:gG l=bq (·.1) g x
  ·have an:decide (gG l=bq (·.1) g (x:Int))=true:=decide_eq_true he
   repeat' (first|refine Rn.p ?_|(with_reducible apply And.intro)|((first|(refine hK _ ?_;clear hK K)|with_reducible intro K hK|refine Rs.p ?_|((with_reducible first|apply oP|apply oQ);exact rfl)|(refine az hX hC hP [(10000,52)] (cC l) rfl rfl rfl ?_ ?_ ?_ ?_ ?_ ?_ ?_ ?_ ?_ ?_ ?_ ?_ ?_ ?_;(focus (simp only [go_sem,simprocAttr,hb,hv,an];done));(iterate 12 (focus (simp [go_sem,simprocAttr,hb,hv,an];done)));try simp only [List.map_cons,List.map_nil])|(refine aS hX hC hP [(10000,52)] (cj l hl) rfl rfl rfl ?_ ?_ ?_ ?_ ?_ ?_ rfl rfl ?_ ?_;(focus (simp only [go_sem,simprocAttr,hb,hv,an];done));(iterate 6 (focus (simp [go_sem,simprocAttr,hb,hv,an];done)));try simp only [List.map_cons,List.map_nil])|refine aa hX hC hP (gU g hm (x:Int)) rfl rfl rfl (by simp only [go_sem,simprocAttr,hb,hv,an]) rfl ?_|refine aa hX hC hP (eX (gG l) (bq (·.1) g x) (by omega)) rfl rfl rfl (by simp only [go_sem,simprocAttr,hb,hv,an]) rfl ?_);try simp only [go_sem,simprocAttr,hb,hv,an])|((with_reducible refine oD ?_ ?_);kernel_rfl)|((with_reducible intro h);try simp only [go_sem,simprocAttr,hb,hv,an] at h)|omega|intro h)
   refine ⟨x+1,⟨by omega,hn2 he⟩, ?_,by omega⟩
   (refine Le.of ?_ ?_<;>simp [go_sem,simprocAttr,hb,hv,an])
  ·have an:decide (gG l=bq (·.1) g (x:Int))=false:=decide_eq_false he
   have hres:=tK he
   subst hres
   repeat' (first|refine Rn.p ?_|(with_reducible apply And.intro)|((first|(refine hK _ ?_;clear hK K)|with_reducible intro K hK|refine Rs.p ?_|((with_reducible first|apply oP|apply oQ);exact rfl)|(refine az hX hC hP [(10000,52)] (cC l) rfl rfl rfl ?_ ?_ ?_ ?_ ?_ ?_ ?_ ?_ ?_ ?_ ?_ ?_ ?_ ?_;(focus (simp only [go_sem,simprocAttr,hb,hv,an];done));(iterate 12 (focus (simp [go_sem,simprocAttr,hb,hv,an];done)));try simp only [List.map_cons,List.map_nil])|(refine aS hX hC hP [(10000,52)] (cj l hl) rfl rfl rfl ?_ ?_ ?_ ?_ ?_ ?_ rfl rfl ?_ ?_;(focus (simp only [go_sem,simprocAttr,hb,hv,an];done));(iterate 6 (focus (simp [go_sem,simprocAttr,hb,hv,an];done)));try simp only [List.map_cons,List.map_nil])|refine aa hX hC hP (gU g hm (x:Int)) rfl rfl rfl (by simp only [go_sem,simprocAttr,hb,hv,an]) rfl ?_|refine aa hX hC hP (eX (gG l) (bq (·.1) g x) (by omega)) rfl rfl rfl (by simp only [go_sem,simprocAttr,hb,hv,an]) rfl ?_);try simp only [go_sem,simprocAttr,hb,hv,an])|((with_reducible refine oD ?_ ?_);kernel_rfl)|((with_reducible intro h);try simp only [go_sem,simprocAttr,hb,hv,an] at h)|omega|intro h)
 ·have hb:decide ((x:Int)<(p.outs.length:Int))=false:=decide_eq_false (by omega)
  obtain rfl:x=p.outs.length:=by omega
  have hres:res=true:=hr.2 ⟨h1.1,h1.2,fun i hi=>hg i (by omega),vE⟩
  subst hres
  repeat' (first|refine Rn.p ?_|(with_reducible apply And.intro)|((first|(refine hK _ ?_;clear hK K)|with_reducible intro K hK|refine Rs.p ?_|((with_reducible first|apply oP|apply oQ);exact rfl)|(refine az hX hC hP [(10000,52)] (cC l) rfl rfl rfl ?_ ?_ ?_ ?_ ?_ ?_ ?_ ?_ ?_ ?_ ?_ ?_ ?_ ?_;(focus (simp only [go_sem,simprocAttr,hb];done));(iterate 12 (focus (simp [go_sem,simprocAttr,hb];done)));try simp only [List.map_cons,List.map_nil])|(refine aS hX hC hP [(10000,52)] (cj l hl) rfl rfl rfl ?_ ?_ ?_ ?_ ?_ ?_ rfl rfl ?_ ?_;(focus (simp only [go_sem,simprocAttr,hb];done));(iterate 6 (focus (simp [go_sem,simprocAttr,hb];done)));try simp only [List.map_cons,List.map_nil])|refine aa hX hC hP (gU g hm (x:Int)) rfl rfl rfl (by simp only [go_sem,simprocAttr,hb]) rfl ?_|refine aa hX hC hP (eX (gG l) (bq (·.1) g x) (by omega)) rfl rfl rfl (by simp only [go_sem,simprocAttr,hb]) rfl ?_);try simp only [go_sem,simprocAttr,hb])|((with_reducible refine oD ?_ ?_);kernel_rfl)|((with_reducible intro h);try simp only [go_sem,simprocAttr,hb] at h)|omega|intro h)
end Go.Ab
end
section
namespace Go.Ab
open Go.Proofs
attribute [local congr] ACall.congr gd.congr Nx.congr
set_option maxRecDepth 10000
set_option maxHeartbeats 8000000
def nv (m:Nat) (fl:List Int):List Int:=(List.range m).map fun i:Nat=>if (i:Int)∈fl then (1:Int) else 0
theorem xW {m:Nat} {fl:List Int} :(nv m fl).length=m:=by simp [nv]
theorem BL {m:Nat} :nv m []=List.replicate m 0:=by
 refine List.ext_getElem (by simp [nv]) fun i h1 h2=> ?_
 simp [nv]
theorem Ah {m:Nat} {fl:List Int} {i:Nat} (h:i<m):(nv m fl).getD i 0=if (i:Int)∈fl then 1 else 0:=by
 simp [nv,List.getD_eq_getElem?_getD,List.getElem?_range h]
theorem DP {m:Nat} {fl:List Int} {i:Nat} (h:i<m):(nv m fl).set i 1=nv m (fl++ [(i:Int)]):=by
 refine List.ext_getElem (by simp [nv]) fun j h1 h2=> ?_
 rw [List.getElem_set]
 simp only [nv,List.getElem_map,List.getElem_range,List.mem_append,List.mem_singleton]
 by_cases e:i=j
 ·subst e;simp
 ·rw [if_neg e]
  have:¬(j:Int)=(i:Int):=by omega
  simp [this]
theorem DQ {outs:List (List Int)} {x k:Nat} (hx:x<outs.length):((outs.take x).flatten++(outs.getD x []).take k).Sublist outs.flatten:=by
 have e:outs=outs.take x++outs.getD x []::outs.drop (x+1):=by
  conv=>lhs;rw [← List.take_append_drop x outs]
  congr 1
  rw [List.drop_eq_getElem_cons hx,List.getD_eq_getElem?_getD,List.getElem?_eq_getElem hx]
  rfl
 conv=>rhs;rw [e]
 rw [List.flatten_append,List.flatten_cons]
 exact List.Sublist.append (List.Sublist.refl _) ((List.take_sublist _ _).trans (List.sublist_append_left _ _))
theorem zf {l:List Int} {k:Nat} (h:k<l.length):l.take (k+1)=l.take k++ [l.getD k 0]:=by
 rw [List.take_add_one,List.getD_eq_getElem?_getD,List.getElem?_eq_getElem h];rfl
theorem oS {g:Gr} {x i:Int} :i∈bu g x↔(0≤i∧i<g.es.length)∧(g.es.getD i.toNat (0,0)).1=x:=by
 constructor
 ·exact fQ
 ·rintro ⟨⟨h1,h2⟩,h3⟩
  simp only [bu,aY,List.mem_map,List.mem_filter,List.mem_range,decide_eq_true_eq]
  exact ⟨i.toNat,⟨by omega,h3⟩,by simp;omega⟩
theorem DR (g:Gr) (hl:g.es.length≤9223372036854775807) (p:Pl) (hp:oR p) (res:Bool) (hr:res=true↔(bZ g).1=0∧bw g p):Spec Tryz.prog 134 (Args [eG g,ePl p]) [] (eB res) []:=by
 have ho:p.ord.length≤9223372036854775807:=by have:=hp.ord;omega
 have I0:=hp.outs
 by_cases hc:(bZ g).1=0
 rotate_left
 ·have hres:res=false:=by
   rw [← Bool.not_eq_true,hr]
   rintro ⟨h,_⟩
   exact hc h
  subst hres
  have ak:decide ((bZ g).1=0)=false:=decide_eq_false hc
  (refine Spec.hd (C:=T.cfg [] []) (rs:= [.t 4]) (T.ai _ _) Tryz.func134 rfl rfl Tryz.ntmps134 Tryz.results134 (by simp [AObj.isNest]) (by simp [AObj.isNest]) (by kernel_rfl) T.mixed fun X hX hP hC aK cw=> ?_)
  repeat' (first|refine Rn.p ?_|(with_reducible apply And.intro)|((first|(refine hK _ ?_;clear hK K)|with_reducible intro K hK|refine Rs.p ?_|((with_reducible first|apply oP|apply oQ);exact rfl)|refine aa hX hC hP (aR g hl) rfl rfl rfl (by simp only [go_sem,simprocAttr,ak]) rfl ?_);try simp only [go_sem,simprocAttr,ak])|((with_reducible refine oD ?_ ?_);kernel_rfl)|((with_reducible intro h);try simp only [go_sem,simprocAttr,ak] at h)|omega|intro h)
 have ak:decide ((bZ g).1=0)=true:=decide_eq_true hc
 have hm:=aE hc
 have hn:=aU hm
 have hr:res=true↔bw g p:=by rw [hr];exact ⟨fun h=>h.2,fun h=>⟨hc,h⟩⟩
 rw [← Ae hm] at hr
 by_cases he:fF p.ord g.n=true∧p.outs.length=g.n.toNat
 rotate_left
 ·have hres:res=false:=by
   rw [← Bool.not_eq_true,hr]
   rintro ⟨h2,h3,_⟩
   exact he ⟨h2,h3⟩
  subst hres
  cases h2:fF p.ord g.n with
  |false=>
   (refine Spec.hd (C:=T.cfg [] []) (rs:= [.t 4]) (T.ai _ _) Tryz.func134 rfl rfl Tryz.ntmps134 Tryz.results134 (by simp [AObj.isNest]) (by simp [AObj.isNest]) (by kernel_rfl) T.mixed fun X hX hP hC aK cw=> ?_)
   repeat' (first|refine Rn.p ?_|(with_reducible apply And.intro)|((first|(refine hK _ ?_;clear hK K)|with_reducible intro K hK|refine Rs.p ?_|((with_reducible first|apply oP|apply oQ);exact rfl)|refine aa hX hC hP (aR g hl) rfl rfl rfl (by simp only [go_sem,simprocAttr,ak,h2]) rfl ?_|refine aa hX hC hP (cx p.ord g.n ho) rfl rfl rfl (by simp only [go_sem,simprocAttr,ak,h2]) rfl ?_);try simp only [go_sem,simprocAttr,ak,h2])|((with_reducible refine oD ?_ ?_);kernel_rfl)|((with_reducible intro h);try simp only [go_sem,simprocAttr,ak,h2] at h)|omega|intro h)
  |true=>
   have an:decide ((p.outs.length:Int)=g.n)=false:=decide_eq_false fun h3=>he ⟨h2,by omega⟩
   (refine Spec.hd (C:=T.cfg [] []) (rs:= [.t 4]) (T.ai _ _) Tryz.func134 rfl rfl Tryz.ntmps134 Tryz.results134 (by simp [AObj.isNest]) (by simp [AObj.isNest]) (by kernel_rfl) T.mixed fun X hX hP hC aK cw=> ?_)
   repeat' (first|refine Rn.p ?_|(with_reducible apply And.intro)|((first|(refine hK _ ?_;clear hK K)|with_reducible intro K hK|refine Rs.p ?_|((with_reducible first|apply oP|apply oQ);exact rfl)|refine aa hX hC hP (aR g hl) rfl rfl rfl (by simp only [go_sem,simprocAttr,ak,h2,an]) rfl ?_|refine aa hX hC hP (cx p.ord g.n ho) rfl rfl rfl (by simp only [go_sem,simprocAttr,ak,h2,an]) rfl ?_);try simp only [go_sem,simprocAttr,ak,h2,an])|((with_reducible refine oD ?_ ?_);kernel_rfl)|((with_reducible intro h);try simp only [go_sem,simprocAttr,ak,h2,an] at h)|omega|intro h)
 obtain ⟨qd,we⟩:=he
 have an:decide ((p.outs.length:Int)=g.n)=true:=decide_eq_true (by omega)
 (refine Spec.hd (C:=T.cfg [] []) (rs:= [.t 4]) (T.ai _ _) Tryz.func134 rfl rfl Tryz.ntmps134 Tryz.results134 (by simp [AObj.isNest]) (by simp [AObj.isNest]) (by kernel_rfl) T.mixed fun X hX hP hC aK cw=> ?_)
 repeat' (first|refine Rn.p ?_|(with_reducible apply And.intro)|((first|(refine hK _ ?_;clear hK K)|with_reducible intro K hK|refine Rs.p ?_|((with_reducible first|apply oP|apply oQ);exact rfl)|refine aa hX hC hP (aR g hl) rfl rfl rfl (by simp only [go_sem,simprocAttr,ak,qd,an]) rfl ?_|refine aa hX hC hP (cx p.ord g.n ho) rfl rfl rfl (by simp only [go_sem,simprocAttr,ak,qd,an]) rfl ?_);try simp only [go_sem,simprocAttr,ak,qd,an])|((with_reducible refine oD ?_ ?_);kernel_rfl)|((with_reducible intro h);try simp only [go_sem,simprocAttr,ak,qd,an] at h)|omega|intro h)
 clear ak an
 have FY:List.replicate g.es.length [D.sc (.int .i64 0)]=(nv g.es.length []).map rI:=by rw [BL,List.map_replicate];rfl
 rw [FY]
 clear FY
 refine ag (fun x:Nat=>x≤p.outs.length∧(p.outs.take x).flatten.Nodup∧∀y:Nat,y<x→∀i∈p.outs.getD y [],i∈bu g y) (fun x=>⟨[(2, .ptr 2 0),(3, .ptr 3 0),(5, .ref 32),(6,eN x)], [(32, .own 3 1 ((nv g.es.length (p.outs.take x).flatten).map rI)),(3, .box [.d (sI p.ord), .d (.sl 1 (vI p.outs))]),(2, .box [eN g.n, .d (sE g.es)])]⟩) (fun x=>p.outs.length - x) 0 (by simp) ?_ ?_
 ·refine Le.of ?_ ?_<;>simp [go_sem,simprocAttr]
 rintro x ⟨hx,b8,vE⟩
 rcases Nat.lt_or_ge x p.outs.length with hxl|EY
 ·have hb:decide ((x:Int)<(p.outs.length:Int))=true:=decide_eq_true (by omega)
  have hv:=fq hxl
  have hle:=hp.each _ (aV (d:= []) hxl)
  have hpre:=fun k=>DQ (k:=k) hxl
  have hnext:(p.outs.take (x+1)).flatten=(p.outs.take x).flatten++p.outs.getD x []:=by
   rw [List.take_add_one,List.flatten_append,List.getD_eq_getElem?_getD,List.getElem?_eq_getElem hxl];simp
  have iF:∀i∈p.outs.getD x [],i∉bu g x→res=false:=fun i hi hn=>by
   rw [← Bool.not_eq_true,hr]
   rintro ⟨_,_,h3,_⟩
   exact hn (h3 x hxl i hi)
  have tK:∀k,¬((p.outs.take x).flatten++(p.outs.getD x []).take k).Nodup→res=false:=fun k hn=>by
   rw [← Bool.not_eq_true,hr]
   rintro ⟨_,_,_,h4,_⟩
   exact hn (List.Nodup.sublist (hpre k) h4)
  have CU:(∀i∈p.outs.getD x [],i∈bu g x)→∀y:Nat,y<x+1→∀i∈p.outs.getD y [],i∈bu g y:=fun h y hy=>by
   by_cases e:y=x
   ·subst e;exact h
   ·exact vE y (by omega)
  generalize p.outs.getD x []=l at hv hle hpre hnext iF tK CU
  generalize (p.outs.take x).flatten=fl at b8 hpre hnext tK
  clear hpre
  repeat' (first|refine Rn.p ?_|(with_reducible apply And.intro)|((first|(refine hK _ ?_;clear hK K)|with_reducible intro K hK|refine Rs.p ?_|((with_reducible first|apply oP|apply oQ);exact rfl)|refine aa hX hC hP (aR g hl) rfl rfl rfl (by simp only [go_sem,simprocAttr,hb,hv]) rfl ?_|refine aa hX hC hP (cx p.ord g.n ho) rfl rfl rfl (by simp only [go_sem,simprocAttr,hb,hv]) rfl ?_);try simp only [go_sem,simprocAttr,hb,hv])|((with_reducible refine oD ?_ ?_);kernel_rfl)|((with_reducible intro h);try simp only [go_sem,simprocAttr,hb,hv] at h)|omega|intro h)
  clear hb
  refine ag (fun k:Nat=>k≤l.length∧(fl++l.take k).Nodup∧∀i∈l.take k,i∈bu g x) (fun k=>⟨[(2, .ptr 2 0),(3, .ptr 3 0),(5, .ref 32),(6,eN x),(7,eN k)], [(32, .own 3 1 ((nv g.es.length (fl++l.take k)).map rI)),(3, .box [.d (sI p.ord), .d (.sl 1 (vI p.outs))]),(2, .box [eN g.n, .d (sE g.es)])]⟩) (fun k=>l.length - k) 0 (by simpa using b8) ?_ ?_
  ·refine Le.of ?_ ?_<;>simp [go_sem,simprocAttr]
  rintro k ⟨hk,AX,IQ⟩
  rcases Nat.lt_or_ge k l.length with ck|Gx
  ·have ic:decide ((k:Int)<(l.length:Int))=true:=decide_eq_true (by omega)
   have Bz:=zf ck
   have him:=aV (d:=0) ck
   have gh:=xW (m:=g.es.length) (fl:=fl++l.take k)
   generalize hi:l.getD k 0=i at Bz him
   by_cases h0:i<0
   ·have hres:=iF i him (fun h=>by have:=(oS.1 h).1;omega)
    subst hres
    have ak:decide (i<0)=true:=decide_eq_true h0
    repeat' (first|refine Rn.p ?_|(with_reducible apply And.intro)|((first|(refine hK _ ?_;clear hK K)|with_reducible intro K hK|refine Rs.p ?_|((with_reducible first|apply oP|apply oQ);exact rfl)|refine aa hX hC hP (aR g hl) rfl rfl rfl (by simp only [go_sem,simprocAttr,ic,hv,hi,ak]) rfl ?_|refine aa hX hC hP (cx p.ord g.n ho) rfl rfl rfl (by simp only [go_sem,simprocAttr,ic,hv,hi,ak]) rfl ?_);try simp only [go_sem,simprocAttr,ic,hv,hi,ak])|((with_reducible refine oD ?_ ?_);kernel_rfl)|((with_reducible intro h);try simp only [go_sem,simprocAttr,ic,hv,hi,ak] at h)|omega|intro h)
   have ak:decide (i<0)=false:=decide_eq_false h0
   by_cases h1:(g.es.length:Int)≤i
   ·have hres:=iF i him (fun h=>by have:=(oS.1 h).1;omega)
    subst hres
    have an:decide ((g.es.length:Int)≤i)=true:=decide_eq_true h1
    repeat' (first|refine Rn.p ?_|(with_reducible apply And.intro)|((first|(refine hK _ ?_;clear hK K)|with_reducible intro K hK|refine Rs.p ?_|((with_reducible first|apply oP|apply oQ);exact rfl)|refine aa hX hC hP (aR g hl) rfl rfl rfl (by simp only [go_sem,simprocAttr,ic,hv,hi,ak,an,gh]) rfl ?_|refine aa hX hC hP (cx p.ord g.n ho) rfl rfl rfl (by simp only [go_sem,simprocAttr,ic,hv,hi,ak,an,gh]) rfl ?_);try simp only [go_sem,simprocAttr,ic,hv,hi,ak,an,gh])|((with_reducible refine oD ?_ ?_);kernel_rfl)|((with_reducible intro h);try simp only [go_sem,simprocAttr,ic,hv,hi,ak,an,gh] at h)|omega|intro h)
   have an:decide ((g.es.length:Int)≤i)=false:=decide_eq_false h1
   obtain ⟨e,rfl⟩:∃e:Nat,i=e:=⟨i.toNat,by omega⟩
   have hel:e<g.es.length:=by omega
   by_cases h2:(g.es.getD e (0,0)).1=x
   rotate_left
   ·have hres:=iF _ him (fun h=>h2 (by have:=(oS.1 h).2;rwa [Int.toNat_natCast] at this))
    subst hres
    have bH:decide ((g.es.getD e (0,0)).1=(x:Int))=false:=decide_eq_false h2
    repeat' (first|refine Rn.p ?_|(with_reducible apply And.intro)|((first|(refine hK _ ?_;clear hK K)|with_reducible intro K hK|refine Rs.p ?_|((with_reducible first|apply oP|apply oQ);exact rfl)|refine aa hX hC hP (aR g hl) rfl rfl rfl (by simp only [go_sem,simprocAttr,ic,hv,hi,ak,an,bH,gh]) rfl ?_|refine aa hX hC hP (cx p.ord g.n ho) rfl rfl rfl (by simp only [go_sem,simprocAttr,ic,hv,hi,ak,an,bH,gh]) rfl ?_);try simp only [go_sem,simprocAttr,ic,hv,hi,ak,an,bH,gh])|((with_reducible refine oD ?_ ?_);kernel_rfl)|((with_reducible intro h);try simp only [go_sem,simprocAttr,ic,hv,hi,ak,an,bH,gh] at h)|omega|intro h)
   have bH:decide ((g.es.getD e (0,0)).1=(x:Int))=true:=decide_eq_true h2
   have sR:=Ah (fl:=fl++l.take k) hel
   by_cases h3:(e:Int)∈fl++l.take k
   ·have hres:=tK (k+1) (fun h=>by
     rw [Bz, ← List.append_assoc,List.nodup_append] at h
     exact h.2.2 _ h3 _ (List.mem_singleton.2 rfl) rfl)
    subst hres
    rw [if_pos h3] at sR
    repeat' (first|refine Rn.p ?_|(with_reducible apply And.intro)|((first|(refine hK _ ?_;clear hK K)|with_reducible intro K hK|refine Rs.p ?_|((with_reducible first|apply oP|apply oQ);exact rfl)|refine aa hX hC hP (aR g hl) rfl rfl rfl (by simp only [go_sem,simprocAttr,ic,hv,hi,ak,an,bH,gh,sR]) rfl ?_|refine aa hX hC hP (cx p.ord g.n ho) rfl rfl rfl (by simp only [go_sem,simprocAttr,ic,hv,hi,ak,an,bH,gh,sR]) rfl ?_);try simp only [go_sem,simprocAttr,ic,hv,hi,ak,an,bH,gh,sR])|((with_reducible refine oD ?_ ?_);kernel_rfl)|((with_reducible intro h);try simp only [go_sem,simprocAttr,ic,hv,hi,ak,an,bH,gh,sR] at h)|omega|intro h)
   ·rw [if_neg h3] at sR
    have cL:=DP (fl:=fl++l.take k) hel
    rw [List.append_assoc, ← Bz] at cL
    repeat' (first|refine Rn.p ?_|(with_reducible apply And.intro)|((first|(refine hK _ ?_;clear hK K)|with_reducible intro K hK|refine Rs.p ?_|((with_reducible first|apply oP|apply oQ);exact rfl)|refine aa hX hC hP (aR g hl) rfl rfl rfl (by simp only [go_sem,simprocAttr,ic,hv,hi,ak,an,bH,gh,sR]) rfl ?_|refine aa hX hC hP (cx p.ord g.n ho) rfl rfl rfl (by simp only [go_sem,simprocAttr,ic,hv,hi,ak,an,bH,gh,sR]) rfl ?_);try simp only [go_sem,simprocAttr,ic,hv,hi,ak,an,bH,gh,sR])|((with_reducible refine oD ?_ ?_);kernel_rfl)|((with_reducible intro h);try simp only [go_sem,simprocAttr,ic,hv,hi,ak,an,bH,gh,sR] at h)|omega|intro h)
    refine ⟨k+1,⟨by omega, ?_, ?_⟩, ?_,by omega⟩
    ·rw [Bz, ← List.append_assoc,List.nodup_append]
     exact ⟨AX,by simp,fun a ha b hb h=>h3 (by rw [List.mem_singleton] at hb;rw [← hb, ← h];exact ha)⟩
    ·intro j hj
     rw [Bz,List.mem_append,List.mem_singleton] at hj
     rcases hj with hj|rfl
     ·exact IQ j hj
     ·exact oS.2 ⟨⟨by omega,by omega⟩,by rw [Int.toNat_natCast];exact h2⟩
    ·rw [← cL]
     refine Le.of ?_ ?_<;>simp [go_sem,simprocAttr,ic,hv,hi,ak,an,bH,gh,sR,rI]
  ·have ic:decide ((k:Int)<(l.length:Int))=false:=decide_eq_false (by omega)
   obtain rfl:k=l.length:=by omega
   rw [List.take_length] at AX IQ
   repeat' (first|refine Rn.p ?_|(with_reducible apply And.intro)|((first|(refine hK _ ?_;clear hK K)|with_reducible intro K hK|refine Rs.p ?_|((with_reducible first|apply oP|apply oQ);exact rfl)|refine aa hX hC hP (aR g hl) rfl rfl rfl (by simp only [go_sem,simprocAttr,ic,hv]) rfl ?_|refine aa hX hC hP (cx p.ord g.n ho) rfl rfl rfl (by simp only [go_sem,simprocAttr,ic,hv]) rfl ?_);try simp only [go_sem,simprocAttr,ic,hv])|((with_reducible refine oD ?_ ?_);kernel_rfl)|((with_reducible intro h);try simp only [go_sem,simprocAttr,ic,hv] at h)|omega|intro h)
   refine ⟨x+1,⟨by omega,by rw [hnext];exact AX,CU IQ⟩, ?_,by omega⟩
   rw [hnext]
   refine Le.of ?_ ?_<;>simp [go_sem,simprocAttr,ic,hv]
 have hb:decide ((x:Int)<(p.outs.length:Int))=false:=decide_eq_false (by omega)
 obtain rfl:x=p.outs.length:=by omega
 rw [List.take_length] at b8
 rw [List.take_length]
 have gh:=xW (m:=g.es.length) (fl:=p.outs.flatten)
 repeat' (first|refine Rn.p ?_|(with_reducible apply And.intro)|((first|(refine hK _ ?_;clear hK K)|with_reducible intro K hK|refine Rs.p ?_|((with_reducible first|apply oP|apply oQ);exact rfl)|refine aa hX hC hP (aR g hl) rfl rfl rfl (by simp only [go_sem,simprocAttr,hb]) rfl ?_|refine aa hX hC hP (cx p.ord g.n ho) rfl rfl rfl (by simp only [go_sem,simprocAttr,hb]) rfl ?_);try simp only [go_sem,simprocAttr,hb])|((with_reducible refine oD ?_ ?_);kernel_rfl)|((with_reducible intro h);try simp only [go_sem,simprocAttr,hb] at h)|omega|intro h)
 clear hb
 refine ag (fun k:Nat=>k≤g.es.length∧∀i:Nat,i<k→(i:Int)∈p.outs.flatten) (fun k=>⟨[(5, .ref 32),(9,eN k)], [(32, .own 3 1 ((nv g.es.length p.outs.flatten).map rI))]⟩) (fun k=>g.es.length - k) 0 (by simp) ?_ ?_
 ·refine Le.of ?_ ?_<;>simp [go_sem,simprocAttr]
 rintro k ⟨hk,IQ⟩
 rcases Nat.lt_or_ge k g.es.length with ck|Gx
 ·have ic:decide ((k:Int)<(g.es.length:Int))=true:=decide_eq_true (by omega)
  have sR:=Ah (fl:=p.outs.flatten) ck
  by_cases h3:(k:Int)∈p.outs.flatten
  ·rw [if_pos h3] at sR
   repeat' (first|refine Rn.p ?_|(with_reducible apply And.intro)|((first|(refine hK _ ?_;clear hK K)|with_reducible intro K hK|refine Rs.p ?_|((with_reducible first|apply oP|apply oQ);exact rfl)|refine aa hX hC hP (aR g hl) rfl rfl rfl (by simp only [go_sem,simprocAttr,ic,gh,sR]) rfl ?_|refine aa hX hC hP (cx p.ord g.n ho) rfl rfl rfl (by simp only [go_sem,simprocAttr,ic,gh,sR]) rfl ?_);try simp only [go_sem,simprocAttr,ic,gh,sR])|((with_reducible refine oD ?_ ?_);kernel_rfl)|((with_reducible intro h);try simp only [go_sem,simprocAttr,ic,gh,sR] at h)|omega|intro h)
   refine ⟨k+1,⟨by omega,fun i hi=> ?_⟩, ?_,by omega⟩
   ·by_cases e:i=k
    ·subst e;exact h3
    ·exact IQ i (by omega)
   ·(refine Le.of ?_ ?_<;>simp [go_sem,simprocAttr,ic,gh,sR])
  ·rw [if_neg h3] at sR
   have hres:res=false:=by
    rw [← Bool.not_eq_true,hr]
    rintro ⟨_,_,_,_,h5⟩
    exact h3 (h5 k ck)
   subst hres
   repeat' (first|refine Rn.p ?_|(with_reducible apply And.intro)|((first|(refine hK _ ?_;clear hK K)|with_reducible intro K hK|refine Rs.p ?_|((with_reducible first|apply oP|apply oQ);exact rfl)|refine aa hX hC hP (aR g hl) rfl rfl rfl (by simp only [go_sem,simprocAttr,ic,gh,sR]) rfl ?_|refine aa hX hC hP (cx p.ord g.n ho) rfl rfl rfl (by simp only [go_sem,simprocAttr,ic,gh,sR]) rfl ?_);try simp only [go_sem,simprocAttr,ic,gh,sR])|((with_reducible refine oD ?_ ?_);kernel_rfl)|((with_reducible intro h);try simp only [go_sem,simprocAttr,ic,gh,sR] at h)|omega|intro h)
 ·have ic:decide ((k:Int)<(g.es.length:Int))=false:=decide_eq_false (by omega)
  obtain rfl:k=g.es.length:=by omega
  have hres:res=true:=hr.2 ⟨qd,we,vE,b8,IQ⟩
  subst hres
  repeat' (first|refine Rn.p ?_|(with_reducible apply And.intro)|((first|(refine hK _ ?_;clear hK K)|with_reducible intro K hK|refine Rs.p ?_|((with_reducible first|apply oP|apply oQ);exact rfl)|refine aa hX hC hP (aR g hl) rfl rfl rfl (by simp only [go_sem,simprocAttr,ic,gh]) rfl ?_|refine aa hX hC hP (cx p.ord g.n ho) rfl rfl rfl (by simp only [go_sem,simprocAttr,ic,gh]) rfl ?_);try simp only [go_sem,simprocAttr,ic,gh])|((with_reducible refine oD ?_ ?_);kernel_rfl)|((with_reducible intro h);try simp only [go_sem,simprocAttr,ic,gh] at h)|omega|intro h)
end Go.Ab
end
section
namespace Go.Ab
open Go.Proofs
attribute [local congr] ACall.congr gd.congr Nx.congr
set_option maxRecDepth 10000
set_option maxHeartbeats 8000000
def bK (b:Bool) (g:Gr) (p:Pl):(List (List It) × List It) × Int × Int:=
 if b=false then (([], []),(1,0)) else
 match iR g p g.n.toNat with
 |some i=>(([], []),(3,(i:Int)))
 |none=>((dz g p g.n.toNat,(fK g p g.n.toNat).row),(0,0))
theorem DS {n:Nat} :List.replicate n [D.sl 3 []]=vT (List.replicate n []):=by simp [vT,sT]
theorem DT {ls:List (List It)} {k:Nat} {l:List It} :(vT ls).set k [sT l]=vT (ls.set k l):=by simp [vT,List.map_set]
theorem uj {g:Gr} {p:Pl} {k:Nat} :dz g p (k+1)=(dz g p k).set (aq p k).toNat (dU g p k):=rfl
theorem xX (g:Gr) (hl:g.es.length≤9223372036854775807) (p:Pl) (hp:oR p) (b:Bool) (hr:b=true↔(bZ g).1=0∧bw g p):
 Spec Tryz.prog 86 (Args [eG g,ePl p]) [] (.tup [.d (.sl 1 (vT (bK b g p).1.1)), .d (sT (bK b g p).1.2),eN (bK b g p).2.1,eN (bK b g p).2.2]) []:=by
 have hO:=DR g hl p hp b hr
 cases b with
 |false=>
  have hR:bK false g p=(([], []),(1,0)):=rfl
  rw [hR]
  (refine Spec.hd (C:=T.cfg [] []) (rs:= [.t 4, .t 5, .t 6, .t 7]) (T.ai _ _) Tryz.func86 rfl rfl Tryz.ntmps86 Tryz.results86 (by simp [AObj.isNest]) (by simp [AObj.isNest]) (by kernel_rfl) T.mixed fun X hX hP hC aK cw=> ?_)
  repeat' (first|refine Rn.p ?_|(with_reducible apply And.intro)|((first|(refine hK _ ?_;clear hK K)|with_reducible intro K hK|refine Rs.p ?_|((with_reducible first|apply oP|apply oQ);exact rfl)|refine aa hX hC hP (hO) rfl rfl rfl (by simp only [go_sem,simprocAttr,vT,List.map_nil]) rfl ?_);try simp only [go_sem,simprocAttr,vT,List.map_nil])|((with_reducible refine oD ?_ ?_);kernel_rfl)|((with_reducible intro h);try simp only [go_sem,simprocAttr,vT,List.map_nil] at h)|omega|intro h)
 |true=>
 obtain ⟨hc,pO⟩:=hr.1 rfl
 have hm:=aE hc
 have hn:=aU hm
 have hle:=bQ pO
 have hR:bK true g p=match iR g p g.n.toNat with
  |some i=>(([], []),(3,(i:Int)))
  |none=>((dz g p g.n.toNat,(fK g p g.n.toNat).row),(0,0)):=rfl
 generalize bK true g p=R at hR
 (refine Spec.hd (C:=T.cfg [] []) (rs:= [.t 4, .t 5, .t 6, .t 7]) (T.ai _ _) Tryz.func86 rfl rfl Tryz.ntmps86 Tryz.results86 (by simp [AObj.isNest]) (by simp [AObj.isNest]) (by kernel_rfl) T.mixed fun X hX hP hC aK cw=> ?_)
 repeat' (first|(show cl _ (.seq (.region 4 _ _) _) _ _;(refine oo 20 2 3 rfl rfl rfl ?_;simp only [List.set_cons_zero,List.set_cons_succ,go_sem,simprocAttr]);(refine oo 20 3 1 rfl rfl rfl ?_;simp only [List.set_cons_zero,List.set_cons_succ,go_sem,simprocAttr]))|refine Rn.p ?_|(with_reducible apply And.intro)|((first|(refine hK _ ?_;clear hK K)|with_reducible intro K hK|refine Rs.p ?_|((with_reducible first|apply oP|apply oQ);exact rfl)|refine aa hX hC hP (hO) rfl rfl rfl (by simp only [go_sem,simprocAttr]) rfl ?_);try simp only [go_sem,simprocAttr])|((with_reducible refine oD ?_ ?_);kernel_rfl)|((with_reducible intro h);try simp only [go_sem,simprocAttr] at h)|omega|intro h)
 rw [DS]
 refine ag (fun k:Nat=>k≤g.n.toNat∧∀j,j<k→za g p j=true) (fun k=>⟨[(2, .ptr 2 0),(3, .ptr 3 0),(8, .ptr 20 0),(9, .ref 23),(10,eN k)], [(23, .own 78 1 (vT (dz g p k))),(20, .box (jM g (fK g p k))),(3, .box [.d (sI p.ord), .d (.sl 1 (vI p.outs))]),(2, .box [eN g.n, .d (sE g.es)])]⟩) (fun k=>g.n.toNat - k) 0 (by simp) ?_ ?_
 ·refine Le.of ?_ ?_<;>simp [go_sem,simprocAttr,jM,fK,dz]
 rintro k ⟨hk,hok⟩
 obtain ⟨hi,_,hrl⟩:=de hm pO hk hok
 have hel:=jU (g:=g) (p:=p) (k:=k)
 rcases Nat.lt_or_ge k g.n.toNat with hlt|hge
 ·have hb:decide ((k:Int)<(p.ord.length:Int))=true:=decide_eq_true (by omega)
  have EZ:=aJ pO hlt
  have dV:=uj (g:=g) (p:=p) (k:=k)
  have BM:fK g p (k+1)=(aA g (fK g p k) (aq p k) (bF p (aq p k))).2:=rfl
  have vE:dU g p k=(aA g (fK g p k) (aq p k) (bF p (aq p k))).1.1:=rfl
  have hpk:=xS pO hlt
  have DU:=xT (g:=g) (p:=p) (k:=k)
  have hsk:za g p k=false→R=(([], []),(3,(k:Int))):=fun h=>by
   rw [hR,nu.2 ⟨hlt,h,hok⟩]
  have hmul:k*(g.es.length+1)≤64*129:=Nat.mul_le_mul (by omega) (by omega)
  have lZ:=iS pO EZ.1 EZ.2
  have kJ:p.ord.getD k 0=aq p k:=rfl
  have DV:(fK g p k).pl.length≤64:=by
   rcases GS hi.togI with h|h
   ·omega
   ·rw [h];simp
  obtain ⟨x,hx⟩:∃x:Nat,aq p k=x:=⟨(aq p k).toNat,by omega⟩
  rw [hx] at kJ BM vE hpk DU EZ lZ dV
  have hxl:x<p.outs.length:=by have:=pO.1;omega
  have hv:=fq hxl
  have hla:bF p (x:Int)=p.outs.getD x []:=by unfold bF;rw [Int.toNat_natCast]
  rw [hla] at BM vE hpk DU lZ
  rw [Int.toNat_natCast] at dV
  have kR:=xN g (by omega) (fK g p k) (x:Int) (p.outs.getD x []) (by omega) (by omega) (by omega)
  have cL:=DT (ls:=dz g p k) (k:=x) (l:=dU g p k)
  generalize p.outs.getD x []=o at hv BM vE hpk DU kR
  rw [← dV] at cL
  generalize fK g p k=f at BM vE hpk DU kR hi hrl DV
  cases vF:za g p k with
  |false=>
   rw [DU vF] at kR
   have H7:=hsk vF
   subst H7
   repeat' (first|refine Rn.p ?_|(with_reducible apply And.intro)|((first|(refine hK _ ?_;clear hK K)|with_reducible intro K hK|refine Rs.p ?_|((with_reducible first|apply oP|apply oQ);exact rfl)|(refine az hX hC hP [(10000,20)] (kR) rfl rfl rfl ?_ ?_ ?_ ?_ ?_ ?_ ?_ ?_ ?_ ?_ ?_ ?_ ?_ ?_;(focus (simp only [go_sem,simprocAttr,hb,kJ,hv,jM,vT,List.map_nil];done));(iterate 12 (focus (simp [go_sem,simprocAttr,hb,kJ,hv,jM,vT,List.map_nil];done)));try simp only [List.map_cons,List.map_nil]));try simp only [go_sem,simprocAttr,hb,kJ,hv,jM,vT,List.map_nil])|((with_reducible refine oD ?_ ?_);kernel_rfl)|((with_reducible intro h);try simp only [go_sem,simprocAttr,hb,kJ,hv,jM,vT,List.map_nil] at h)|omega|intro h)
  |true=>
   rw [hpk vF] at kR
   have iT:(aA g f (x:Int) o).1.2=0:=rfl
   rw [vE] at cL
   generalize aA g f (x:Int) o=su at BM vE kR iT cL
   have Kx:x<(dz g p k).length:=by omega
   generalize Qj:dz g p k=E at cL Kx hel
   have hvl:(vT E).length=E.length:=vT_length
   have Cb:=fun d=>mc Kx d
   repeat' (first|refine Rn.p ?_|(with_reducible apply And.intro)|((first|(refine hK _ ?_;clear hK K)|with_reducible intro K hK|refine Rs.p ?_|((with_reducible first|apply oP|apply oQ);exact rfl)|(refine az hX hC hP [(10000,20)] (kR) rfl rfl rfl ?_ ?_ ?_ ?_ ?_ ?_ ?_ ?_ ?_ ?_ ?_ ?_ ?_ ?_;(focus (simp only [go_sem,simprocAttr,hb,kJ,hv,jM,iT,cL,Cb,List.drop_succ_cons,List.drop_zero];done));(iterate 12 (focus (simp [go_sem,simprocAttr,hb,kJ,hv,jM,iT,cL,Cb,List.drop_succ_cons,List.drop_zero];done)));try simp only [List.map_cons,List.map_nil]));try simp only [go_sem,simprocAttr,hb,kJ,hv,jM,iT,cL,Cb,List.drop_succ_cons,List.drop_zero])|((with_reducible refine oD ?_ ?_);kernel_rfl)|((with_reducible intro h);try simp only [go_sem,simprocAttr,hb,kJ,hv,jM,iT,cL,Cb,List.drop_succ_cons,List.drop_zero] at h)|omega|intro h)
   refine ⟨k+1,⟨by omega,fun j hj=> ?_⟩, ?_,by omega⟩
   ·by_cases e:j=k
    ·subst e;exact vF
    ·exact hok j (by omega)
   ·rw [BM]
    have DW:(vT E).set x [D.sl 3 (List.map rT su.1.1)]=vT (dz g p (k+1)):=cL
    refine Le.of ?_ ?_<;>simp [go_sem,simprocAttr,hb,kJ,hv,jM,iT,cL,Cb,List.drop_succ_cons,List.drop_zero,DW]
 have hb:decide ((k:Int)<(p.ord.length:Int))=false:=decide_eq_false (by omega)
 obtain rfl:k=g.n.toNat:=by omega
 rw [eL.2 hok] at hR
 subst hR
 repeat' (first|refine Rn.p ?_|(with_reducible apply And.intro)|((first|(refine hK _ ?_;clear hK K)|with_reducible intro K hK|refine Rs.p ?_|((with_reducible first|apply oP|apply oQ);exact rfl));try simp only [go_sem,simprocAttr,hb,jM])|((with_reducible refine oD ?_ ?_);kernel_rfl)|((with_reducible intro h);try simp only [go_sem,simprocAttr,hb,jM] at h)|omega|intro h)
end Go.Ab
end
section
namespace Go.Ab
open Go.Proofs
attribute [local congr] ACall.congr gd.congr Nx.congr
set_option maxRecDepth 10000
set_option maxHeartbeats 8000000
theorem ji (g:Gr) (hl:g.es.length≤1000) (p:Pl) (hp:oR p) (b:Bool) (hr:b=true↔(bZ g).1=0∧bw g p):
 Spec Tryz.prog 38 (Args [eG g,ePl p]) [] (.tup [.d (.sl 1 (vT (bK b g p).1.1)), .d (sT (bK b g p).1.2),eF ((bK b g p).2.1,(bK b g p).2.2, [])]) []:=by
 by_cases hc:(bZ g).1=0
 rotate_left
 ·obtain rfl:b=false:=by
   rw [← Bool.not_eq_true,hr]
   exact fun h=>hc h.1
  have hR:bK false g p=(([], []),(1,0)):=rfl
  rw [hR]
  (refine Spec.hd (C:=T.cfg [] []) (rs:= [.t 4, .t 5, .c 6 64]) (T.ai _ _) Tryz.func38 rfl rfl Tryz.ntmps38 Tryz.results38 (by simp [AObj.isNest]) (by simp [AObj.isNest]) (by kernel_rfl) T.mixed fun X hX hP hC aK cw=> ?_)
  repeat' (first|refine Rn.p ?_|(with_reducible apply And.intro)|((first|(refine hK _ ?_;clear hK K)|with_reducible intro K hK|refine Rs.p ?_|((with_reducible first|apply oP|apply oQ);exact rfl)|refine aa hX hC hP (BA g hl hc) rfl rfl rfl (by simp only [go_sem,simprocAttr,vT,List.map_nil]) rfl ?_);try simp only [go_sem,simprocAttr,vT,List.map_nil])|((with_reducible refine oD ?_ ?_);kernel_rfl)|((with_reducible intro h);try simp only [go_sem,simprocAttr,vT,List.map_nil] at h)|omega|intro h)
 have hm:=aE hc
 have hn:=aU hm
 have hr:b=true↔bw g p:=by rw [hr];exact ⟨fun h=>h.2,fun h=>⟨hc,h⟩⟩
 have hO:=DO g hm p hp b hr
 cases b with
 |false=>
  have hR:bK false g p=(([], []),(1,0)):=rfl
  rw [hR]
  (refine Spec.hd (C:=T.cfg [] []) (rs:= [.t 4, .t 5, .c 6 64]) (T.ai _ _) Tryz.func38 rfl rfl Tryz.ntmps38 Tryz.results38 (by simp [AObj.isNest]) (by simp [AObj.isNest]) (by kernel_rfl) T.mixed fun X hX hP hC aK cw=> ?_)
  repeat' (first|refine Rn.p ?_|(with_reducible apply And.intro)|((first|(refine hK _ ?_;clear hK K)|with_reducible intro K hK|refine Rs.p ?_|((with_reducible first|apply oP|apply oQ);exact rfl)|(refine rQ hX hC hP [(10000,13)] (ud g hl hc hm) rfl rfl rfl ?_ ?_ ?_ ?_ ?_ ?_ ?_ ?_ ?_ ?_ ?_ ?_ ?_ ?_;(focus (simp only [go_sem,simprocAttr,vT,List.map_nil];done));(iterate 12 (focus (simp [go_sem,simprocAttr,vT,List.map_nil];done)));try simp only [List.map_cons,List.map_nil])|refine aa hX hC hP (fV g hm) rfl rfl rfl (by simp only [go_sem,simprocAttr,vT,List.map_nil]) rfl ?_|refine aa hX hC hP (hO) rfl rfl rfl (by simp only [go_sem,simprocAttr,vT,List.map_nil]) rfl ?_);try simp only [go_sem,simprocAttr,vT,List.map_nil])|((with_reducible refine oD ?_ ?_);kernel_rfl)|((with_reducible intro h);try simp only [go_sem,simprocAttr,vT,List.map_nil] at h)|omega|intro h)
 |true=>
 have pO:=hr.1 rfl
 have hle:=bQ pO
 have hR:bK true g p=match iR g p g.n.toNat with
  |some i=>(([], []),(3,(i:Int)))
  |none=>((dz g p g.n.toNat,(fK g p g.n.toNat).row),(0,0)):=rfl
 generalize bK true g p=R at hR
 (refine Spec.hd (C:=T.cfg [] []) (rs:= [.t 4, .t 5, .c 6 64]) (T.ai _ _) Tryz.func38 rfl rfl Tryz.ntmps38 Tryz.results38 (by simp [AObj.isNest]) (by simp [AObj.isNest]) (by kernel_rfl) T.mixed fun X hX hP hC aK cw=> ?_)
 repeat' (first|(show cl _ (.seq (.region 5 _ _) _) _ _;(refine oo 13 0 3 rfl rfl rfl ?_;simp only [List.set_cons_zero,List.set_cons_succ,go_sem,simprocAttr]);(refine xo hX 13 2 100 (.tip 3 1 []) rfl rfl rfl (by simp only [go_sem,simprocAttr]) (by decide) (by simp [go_sem,simprocAttr]) ⟨3,1,by decide, .inr rfl⟩ ?_;simp only [List.set_cons_zero,List.set_cons_succ,go_sem,simprocAttr]))|refine Rn.p ?_|(with_reducible apply And.intro)|((first|(refine hK _ ?_;clear hK K)|with_reducible intro K hK|refine Rs.p ?_|((with_reducible first|apply oP|apply oQ);exact rfl)|(refine rQ hX hC hP [(10000,13)] (ud g hl hc hm) rfl rfl rfl ?_ ?_ ?_ ?_ ?_ ?_ ?_ ?_ ?_ ?_ ?_ ?_ ?_ ?_;(focus (simp only [go_sem,simprocAttr];done));(iterate 12 (focus (simp [go_sem,simprocAttr];done)));try simp only [List.map_cons,List.map_nil])|refine aa hX hC hP (fV g hm) rfl rfl rfl (by simp only [go_sem,simprocAttr]) rfl ?_|refine aa hX hC hP (hO) rfl rfl rfl (by simp only [go_sem,simprocAttr]) rfl ?_);try simp only [go_sem,simprocAttr])|((with_reducible refine oD ?_ ?_);kernel_rfl)|((with_reducible intro h);try simp only [go_sem,simprocAttr] at h)|omega|intro h)
 rw [DS]
 refine ag (fun k:Nat=>k≤g.n.toNat∧∀j,j<k→za g p j=true) (fun k=>⟨[(3, .ptr 3 0),(4, .ref 28),(6, .ptr 6 0),(7, .ptr 13 0),(30, .d (sI p.ord)),(31,eN p.ord.length),(32,eN k)], [(28, .own 78 1 (vT (dz g p k))),(13, .box [.d (sT (fK g p k).row), .d (vw g), .ref 100]),(100, .tip 3 1 ((fK g p k).pl.map rI)),(6, .box [eN 0,eN 0, .nil 3]),(3, .box [.d (sI p.ord), .d (.sl 1 (vI p.outs))])]⟩) (fun k=>g.n.toNat - k) 0 (by simp) ?_ ?_
 ·refine Le.of ?_ ?_<;>simp [go_sem,simprocAttr,jM,fK,dz]
 rintro k ⟨hk,hok⟩
 obtain ⟨hi,_,hrl⟩:=de hm pO hk hok
 have hel:=jU (g:=g) (p:=p) (k:=k)
 have hmul:k*(g.es.length+1)≤64*129:=Nat.mul_le_mul (by omega) (by omega)
 rcases Nat.lt_or_ge k g.n.toNat with hlt|hge
 ·have hb:decide ((k:Int)<(p.ord.length:Int))=true:=decide_eq_true (by omega)
  have EZ:=aJ pO hlt
  have dV:=uj (g:=g) (p:=p) (k:=k)
  have BM:fK g p (k+1)=(aA g (fK g p k) (aq p k) (bF p (aq p k))).2:=rfl
  have vE:dU g p k=(aA g (fK g p k) (aq p k) (bF p (aq p k))).1.1:=rfl
  have hpk:=xS pO hlt
  have DU:=xT (g:=g) (p:=p) (k:=k)
  have hsk:za g p k=false→R=(([], []),(3,(k:Int))):=fun h=>by
   rw [hR,nu.2 ⟨hlt,h,hok⟩]
  have lZ:=iS pO EZ.1 EZ.2
  have kJ:p.ord.getD k 0=aq p k:=rfl
  have DV:(fK g p k).pl.length≤64:=by
   rcases GS hi.togI with h|h
   ·omega
   ·rw [h];simp
  obtain ⟨x,hx⟩:∃x:Nat,aq p k=x:=⟨(aq p k).toNat,by omega⟩
  rw [hx] at kJ BM vE hpk DU EZ lZ dV
  have hxl:x<p.outs.length:=by have:=pO.1;omega
  have hv:=fq hxl
  have hla:bF p (x:Int)=p.outs.getD x []:=by unfold bF;rw [Int.toNat_natCast]
  rw [hla] at BM vE hpk DU lZ
  rw [Int.toNat_natCast] at dV
  have kR:=xV g hm (fK g p k) hi (x:Int) (p.outs.getD x []) (by omega) (by omega) (by omega)
  have cL:=DT (ls:=dz g p k) (k:=x) (l:=dU g p k)
  generalize p.outs.getD x []=o at hv BM vE hpk DU kR
  rw [← dV] at cL
  generalize fK g p k=f at BM vE hpk DU kR hi hrl DV
  have Kx:x<(dz g p k).length:=by omega
  have hvl:(vT (dz g p k)).length=(dz g p k).length:=vT_length
  cases vF:za g p k with
  |false=>
   rw [DU vF] at kR
   simp only at kR
   have H7:=hsk vF
   subst H7
   repeat' (first|refine Rn.p ?_|(with_reducible apply And.intro)|((first|(refine hK _ ?_;clear hK K)|with_reducible intro K hK|refine Rs.p ?_|((with_reducible first|apply oP|apply oQ);exact rfl)|(refine az hX hC hP [(10000,13),(10001,100),(10002,101)] (kR) rfl rfl rfl ?_ ?_ ?_ ?_ ?_ ?_ ?_ ?_ ?_ ?_ ?_ ?_ ?_ ?_;(focus (simp only [go_sem,simprocAttr,hb,kJ,hv,mL,y6,List.map_nil];done));(iterate 12 (focus (simp [go_sem,simprocAttr,hb,kJ,hv,mL,y6,List.map_nil];done)));try simp only [List.map_cons,List.map_nil]));try simp only [go_sem,simprocAttr,hb,kJ,hv,mL,y6,List.map_nil])|((with_reducible refine oD ?_ ?_);kernel_rfl)|((with_reducible intro h);try simp only [go_sem,simprocAttr,hb,kJ,hv,mL,y6,List.map_nil] at h)|omega|intro h)
   all_goals rfl
  |true=>
   rw [hpk vF] at kR
   have iT:(aA g f (x:Int) o).1.2=0:=rfl
   rw [vE] at cL
   generalize aA g f (x:Int) o=su at BM vE kR iT cL
   generalize Qj:dz g p k=E at cL Kx hel hvl
   have Cb:=fun d=>mc Kx d
   repeat' (first|(show cl _ (.region 11 _ _) _ _;(refine iO hX 13 2 101 100 rfl rfl rfl (by first|exact .inl rfl|exact .inr rfl) (by decide) (by decide) ?_;simp only [List.set_cons_zero,List.set_cons_succ,go_sem,simprocAttr,hb,kJ,hv,mL,y6,iT,cL,Cb,List.drop_succ_cons,List.drop_zero]))|refine Rn.p ?_|(with_reducible apply And.intro)|((first|(refine hK _ ?_;clear hK K)|with_reducible intro K hK|refine Rs.p ?_|((with_reducible first|apply oP|apply oQ);exact rfl)|(refine az hX hC hP [(10000,13),(10001,100),(10002,101)] (kR) rfl rfl rfl ?_ ?_ ?_ ?_ ?_ ?_ ?_ ?_ ?_ ?_ ?_ ?_ ?_ ?_;(focus (simp only [go_sem,simprocAttr,hb,kJ,hv,mL,y6,iT,cL,Cb,List.drop_succ_cons,List.drop_zero];done));(iterate 12 (focus (simp [go_sem,simprocAttr,hb,kJ,hv,mL,y6,iT,cL,Cb,List.drop_succ_cons,List.drop_zero];done)));try simp only [List.map_cons,List.map_nil]));try simp only [go_sem,simprocAttr,hb,kJ,hv,mL,y6,iT,cL,Cb,List.drop_succ_cons,List.drop_zero])|((with_reducible refine oD ?_ ?_);kernel_rfl)|((with_reducible intro h);try simp only [go_sem,simprocAttr,hb,kJ,hv,mL,y6,iT,cL,Cb,List.drop_succ_cons,List.drop_zero] at h)|omega|intro h)
   refine ⟨k+1,⟨by omega,fun j hj=> ?_⟩, ?_,by omega⟩
   ·by_cases e:j=k
    ·subst e;exact vF
    ·exact hok j (by omega)
   ·rw [BM]
    have DW:(vT E).set x [D.sl 3 (List.map rT su.1.1)]=vT (dz g p (k+1)):=cL
    refine Le.of ?_ ?_<;>simp [go_sem,simprocAttr,hb,kJ,hv,mL,y6,iT,cL,Cb,List.drop_succ_cons,List.drop_zero,DW]
 have hb:decide ((k:Int)<(p.ord.length:Int))=false:=decide_eq_false (by omega)
 obtain rfl:k=g.n.toNat:=by omega
 rw [eL.2 hok] at hR
 subst hR
 repeat' (first|refine Rn.p ?_|(with_reducible apply And.intro)|((first|(refine hK _ ?_;clear hK K)|with_reducible intro K hK|refine Rs.p ?_|((with_reducible first|apply oP|apply oQ);exact rfl)|(refine qg hX hC hP 60 (Bx [vw g,sI (fK g p g.n.toNat).pl] (fK g p g.n.toNat).row (by omega)) rfl rfl rfl ?_ ?_ (by first|exact ⟨_,_,_,rfl,GP⟩|exact ⟨_,_,_,rfl,GQ⟩|exact ⟨_,_,_,rfl,GR⟩) rfl (by decide) ?_;(iterate 2 (focus (simp only [go_sem,simprocAttr,hb];done)));simp only [go_sem,simprocAttr,hb]));try simp only [go_sem,simprocAttr,hb])|((with_reducible refine oD ?_ ?_);kernel_rfl)|((with_reducible intro h);try simp only [go_sem,simprocAttr,hb] at h)|omega|intro h)
end Go.Ab
end
section
namespace Go.Ab
open Go.Proofs
attribute [local congr] ACall.congr gd.congr Nx.congr
set_option maxRecDepth 10000
set_option maxHeartbeats 8000000
def RM (n:Int) (es:List Edge) (ord:List Int) (O:List (List Int)):List (Nat × AObj):= [(10000, .box [eN n, .ref 10001, .ref 10002, .ref 10003]),(10001, .tip 56 2 (es.map rE)),(10002, .tip 3 1 (ord.map rI)),(10003, .own 25 1 (vI O))]
def RN (n:Int) (es:List Edge) (ord:List Int) (O:List (List Int)):List (Nat × AObj):= [(10000, .box [eN n, .ref 10004, .ref 10002, .ref 10003]),(10004, .tip 56 2 (es.map rE)),(10002, .tip 3 1 (ord.map rI)),(10003, .own 25 1 (vI O))]
def Qk (x:Int) (items:List It):List Edge:=(loose items).map fun v=>(v,x)
end Go.Ab
end
section
namespace Go.Ab
open Go.Proofs
attribute [local congr] ACall.congr gd.congr Nx.congr
set_option maxRecDepth 10000
set_option maxHeartbeats 16000000
def pz:Pl:=⟨[], []⟩
def Ql (b:Bool) (g:Gr) (p:Pl):Gr × Pl × Int:=
 if (bK b g p).2.1≠0 then (gz,pz,1) else if 64<(DN g p).n∨128<(DN g p).es.length then (gz,pz,10) else (DN g p,Nq g p,0)
theorem uk {b:Bool} {g:Gr} {p:Pl} (hr:b=true↔(bZ g).1=0∧bw g p) (h:(bK b g p).2.1=0):bM g p∧bK b g p=((dz g p g.n.toNat,lG g p),(0,0)):=by
 cases b with
 |false=>simp [bK] at h
 |true=>
  have hR:bK true g p=match iR g p g.n.toNat with
   |some i=>(([], []),(3,(i:Int)))
   |none=>((dz g p g.n.toNat,(fK g p g.n.toNat).row),(0,0)):=rfl
  cases hs:iR g p g.n.toNat with
  |some i=>rw [hR,hs] at h;simp at h
  |none=>
   obtain ⟨h1,h2⟩:=hr.1 rfl
   exact ⟨⟨h1,h2,eL.1 hs⟩,by rw [hR,hs];rfl⟩
end Go.Ab
end
section
namespace Go.Ab
open Go.Proofs
attribute [local congr] ACall.congr gd.congr Nx.congr
set_option maxRecDepth 10000
set_option maxHeartbeats 16000000
def Qm (p:Pl) (x:Gr) (k:Nat):List (List Int):=(List.range k).map fun v=>if 0<(p.outs.getD v []).length then p.outs.getD v [] else bu x (v:Int)
theorem zg {g:Gr} {p:Pl} (hr:bM g p):∀t∈lG g p,t.1<0:=by
 obtain ⟨hc,h,hok⟩:=hr
 have hm:=aE hc
 have hn:=aU hm
 obtain ⟨hi,gw,_⟩:=de hm h (k:=g.n.toNat) (Nat.le_refl _) hok
 intro t ht
 refine Decidable.byContradiction fun h0=> ?_
 rcases hi.it t ht with ⟨h1,_⟩|⟨h1,h2,_,h4⟩
 ·omega
 ·have Lg:=(eA hm (k:=t.1.toNat) (by omega)).2
  rw [← h4] at Lg
  refine hi.head t ht h1 (jT hi.togI ?_ Lg)
  rw [gw,List.length_take,bQ h];omega
end Go.Ab
end
section
namespace Go.Ab
open Go.Proofs
attribute [local congr] ACall.congr gd.congr Nx.congr
set_option maxRecDepth 10000
set_option maxHeartbeats 8000000
def qx (g:Gr) (p:Pl):Bool:=decide (200<g.es.length)||decide (100<p.ord.length)||decide (100<p.outs.length)||p.outs.any fun l=>decide (200<l.length)
theorem Ai {g:Gr} {p:Pl} (h:qx g p=false):g.es.length≤200∧p.ord.length≤100∧p.outs.length≤100∧∀l∈p.outs,l.length≤200:=by
 simp only [qx,Bool.or_eq_false_iff,decide_eq_false_iff_not,List.any_eq_false,decide_eq_true_eq] at h
 obtain ⟨⟨⟨h1,h2⟩,h3⟩,h4⟩:=h
 exact ⟨by omega,by omega,by omega,fun l hl=>by have:=h4 l hl;omega⟩
theorem xY {g:Gr} {p:Pl} (h:qx g p=false):oR p:=by
 obtain ⟨_,h1,h2,h3⟩:=Ai h
 exact ⟨by omega,by omega,fun l hl=>by have:=h3 l hl;omega⟩
structure Aj (p:Pl):Prop where
 ord:p.ord.length≤9223372036854775807
 outs:p.outs.length≤9223372036854775807
 each:∀l∈p.outs,l.length≤9223372036854775807
theorem vG (g:Gr) (p:Pl) (hl:g.es.length≤9223372036854775807) (hp:Aj p):Spec Tryz.prog 19 (Args [eG g,ePl p]) [] (eB (qx g p)) []:=by
 have ho:=hp.ord
 have hu:=hp.outs
 (refine Spec.hd (C:=T.cfg [] []) (rs:= [.t 4]) (T.ai _ _) Tryz.func19 rfl rfl Tryz.ntmps19 Tryz.results19 (by simp [AObj.isNest]) (by simp [AObj.isNest]) (by kernel_rfl) T.mixed fun X hX hP hC aK cw=> ?_)
 generalize hB:qx g p=B
 by_cases h1:200<g.es.length
 ·have ak:decide (200<(g.es.length:Int))=true:=decide_eq_true (by omega)
  have:B=true:=by rw [← hB,qx,decide_eq_true h1];rfl
  subst this
  repeat' (first|refine Rn.p ?_|(with_reducible apply And.intro)|((first|(refine hK _ ?_;clear hK K)|with_reducible intro K hK|refine Rs.p ?_|((with_reducible first|apply oP|apply oQ);exact rfl));try simp only [go_sem,simprocAttr,ak])|((with_reducible refine oD ?_ ?_);kernel_rfl)|((with_reducible intro h);try simp only [go_sem,simprocAttr,ak] at h)|omega|intro h)
 have ak:decide (200<(g.es.length:Int))=false:=decide_eq_false (by omega)
 by_cases h2:100<p.ord.length
 ·have an:decide (100<(p.ord.length:Int))=true:=decide_eq_true (by omega)
  have:B=true:=by rw [← hB,qx,decide_eq_true h2];simp
  subst this
  repeat' (first|refine Rn.p ?_|(with_reducible apply And.intro)|((first|(refine hK _ ?_;clear hK K)|with_reducible intro K hK|refine Rs.p ?_|((with_reducible first|apply oP|apply oQ);exact rfl));try simp only [go_sem,simprocAttr,ak,an])|((with_reducible refine oD ?_ ?_);kernel_rfl)|((with_reducible intro h);try simp only [go_sem,simprocAttr,ak,an] at h)|omega|intro h)
 have an:decide (100<(p.ord.length:Int))=false:=decide_eq_false (by omega)
 by_cases h3:100<p.outs.length
 ·have bH:decide (100<(p.outs.length:Int))=true:=decide_eq_true (by omega)
  have:B=true:=by rw [← hB,qx,decide_eq_true h3];simp
  subst this
  repeat' (first|refine Rn.p ?_|(with_reducible apply And.intro)|((first|(refine hK _ ?_;clear hK K)|with_reducible intro K hK|refine Rs.p ?_|((with_reducible first|apply oP|apply oQ);exact rfl));try simp only [go_sem,simprocAttr,ak,an,bH])|((with_reducible refine oD ?_ ?_);kernel_rfl)|((with_reducible intro h);try simp only [go_sem,simprocAttr,ak,an,bH] at h)|omega|intro h)
 have bH:decide (100<(p.outs.length:Int))=false:=decide_eq_false (by omega)
 have Lh:B=p.outs.any fun l=>decide (200<l.length):=by rw [← hB,qx,decide_eq_false h1,decide_eq_false h2,decide_eq_false h3];simp
 clear hB
 repeat' (first|refine Rn.p ?_|(with_reducible apply And.intro)|((first|(refine hK _ ?_;clear hK K)|with_reducible intro K hK|refine Rs.p ?_|((with_reducible first|apply oP|apply oQ);exact rfl));try simp only [go_sem,simprocAttr,ak,an,bH])|((with_reducible refine oD ?_ ?_);kernel_rfl)|((with_reducible intro h);try simp only [go_sem,simprocAttr,ak,an,bH] at h)|omega|intro h)
 refine ag (fun k:Nat=>k≤p.outs.length∧∀j,j<k→(p.outs.getD j []).length≤200) (fun k=>⟨[(24, .d (.sl 1 (vI p.outs))),(25,eN p.outs.length),(26,eN k)], []⟩) (fun k=>p.outs.length - k) 0 (by simp) ?_ ?_
 ·(refine Le.of ?_ ?_<;>simp [go_sem,simprocAttr])
 rintro k ⟨hk,hg⟩
 rcases Nat.lt_or_ge k p.outs.length with ck|Gx
 ·have hb:decide ((k:Int)<(p.outs.length:Int))=true:=decide_eq_true (by omega)
  have hv:=fq ck
  have hm:=aV (d:= []) ck
  have lZ:=hp.each _ hm
  by_cases h4:200<(p.outs.getD k []).length
  ·have hb4:decide (200<((p.outs.getD k []).length:Int))=true:=decide_eq_true (by omega)
   have:B=true:=by rw [Lh,List.any_eq_true];exact ⟨_,hm,decide_eq_true h4⟩
   subst this
   repeat' (first|refine Rn.p ?_|(with_reducible apply And.intro)|((first|(refine hK _ ?_;clear hK K)|with_reducible intro K hK|refine Rs.p ?_|((with_reducible first|apply oP|apply oQ);exact rfl));try simp only [go_sem,simprocAttr,hb,hv,hb4])|((with_reducible refine oD ?_ ?_);kernel_rfl)|((with_reducible intro h);try simp only [go_sem,simprocAttr,hb,hv,hb4] at h)|omega|intro h)
  ·have hb4:decide (200<((p.outs.getD k []).length:Int))=false:=decide_eq_false (by omega)
   repeat' (first|refine Rn.p ?_|(with_reducible apply And.intro)|((first|(refine hK _ ?_;clear hK K)|with_reducible intro K hK|refine Rs.p ?_|((with_reducible first|apply oP|apply oQ);exact rfl));try simp only [go_sem,simprocAttr,hb,hv,hb4])|((with_reducible refine oD ?_ ?_);kernel_rfl)|((with_reducible intro h);try simp only [go_sem,simprocAttr,hb,hv,hb4] at h)|omega|intro h)
   refine ⟨k+1,⟨by omega,fun j hj=> ?_⟩, ?_,by omega⟩
   ·by_cases e:j=k
    ·subst e;omega
    ·exact hg j (by omega)
   ·(refine Le.of ?_ ?_<;>simp [go_sem,simprocAttr,hb,hv,hb4])
 ·have hb:decide ((k:Int)<(p.outs.length:Int))=false:=decide_eq_false (by omega)
  have:B=false:=by
   rw [Lh,List.any_eq_false]
   intro l hl
   obtain ⟨j,hj,rfl⟩:=List.mem_iff_getElem.1 hl
   have:=hg j (by omega)
   rw [List.getD_eq_getElem?_getD,List.getElem?_eq_getElem hj,Option.getD_some] at this
   simp;omega
  subst this
  repeat' (first|refine Rn.p ?_|(with_reducible apply And.intro)|((first|(refine hK _ ?_;clear hK K)|with_reducible intro K hK|refine Rs.p ?_|((with_reducible first|apply oP|apply oQ);exact rfl));try simp only [go_sem,simprocAttr,hb])|((with_reducible refine oD ?_ ?_);kernel_rfl)|((with_reducible intro h);try simp only [go_sem,simprocAttr,hb] at h)|omega|intro h)
def jV (g:Gr):Bool:=decide ((bZ g).1=0)&&decide ((bG (·.1) g).length=1)
theorem sS (g:Gr) (hl:g.es.length≤1000):Spec Tryz.prog 39 (Args [eG g]) [] (eB (jV g)) []:=by
 by_cases hc:(bZ g).1=0
 ·have hm:=aE hc
  have ak:decide ((bZ g).1=0)=true:=decide_eq_true hc
  have hI:jV g=decide (((bG (·.1) g).length:Int)=1):=by
   unfold jV;rw [ak,Bool.true_and,decide_eq_decide];omega
  rw [hI]
  generalize kH:bG (·.1) g=bl
  have hS:=rX g hm
  rw [kH] at hS
  (refine Spec.hd (C:=T.cfg [] []) (rs:= [.t 2]) (T.ai _ _) Tryz.func39 rfl rfl Tryz.ntmps39 Tryz.results39 (by simp [AObj.isNest]) (by simp [AObj.isNest]) (by kernel_rfl) T.mixed fun X hX hP hC aK cw=> ?_)
  repeat' (first|refine Rn.p ?_|(with_reducible apply And.intro)|((first|(refine hK _ ?_;clear hK K)|with_reducible intro K hK|refine Rs.p ?_|((with_reducible first|apply oP|apply oQ);exact rfl)|refine aa hX hC hP (ko g hl) rfl rfl rfl (by simp only [go_sem,simprocAttr,ak]) rfl ?_|refine aa hX hC hP (fV g hm) rfl rfl rfl (by simp only [go_sem,simprocAttr,ak]) rfl ?_|refine aa hX hC hP (hS) rfl rfl rfl (by simp only [go_sem,simprocAttr,ak]) rfl ?_);try simp only [go_sem,simprocAttr,ak])|((with_reducible refine oD ?_ ?_);kernel_rfl)|((with_reducible intro h);try simp only [go_sem,simprocAttr,ak] at h)|omega|intro h)
 ·have ak:decide ((bZ g).1=0)=false:=decide_eq_false hc
  have hI:jV g=false:=by unfold jV;rw [ak];rfl
  rw [hI]
  (refine Spec.hd (C:=T.cfg [] []) (rs:= [.t 2]) (T.ai _ _) Tryz.func39 rfl rfl Tryz.ntmps39 Tryz.results39 (by simp [AObj.isNest]) (by simp [AObj.isNest]) (by kernel_rfl) T.mixed fun X hX hP hC aK cw=> ?_)
  repeat' (first|refine Rn.p ?_|(with_reducible apply And.intro)|((first|(refine hK _ ?_;clear hK K)|with_reducible intro K hK|refine Rs.p ?_|((with_reducible first|apply oP|apply oQ);exact rfl)|refine aa hX hC hP (ko g hl) rfl rfl rfl (by simp only [go_sem,simprocAttr,ak]) rfl ?_);try simp only [go_sem,simprocAttr,ak])|((with_reducible refine oD ?_ ?_);kernel_rfl)|((with_reducible intro h);try simp only [go_sem,simprocAttr,ak] at h)|omega|intro h)
theorem zh (g:Gr) (hl:g.es.length≤1000):Spec Tryz.prog 36 (Args [eG g]) [] (eB (jV g)) []:=by
 by_cases hc:(bZ g).1=0
 ·have hm:=aE hc
  have hn:=aU hm
  have ak:decide ((bZ g).1=0)=true:=decide_eq_true hc
  have hI:jV g=decide (((bG (·.1) g).length:Int)=1):=by
   unfold jV;rw [ak,Bool.true_and,decide_eq_decide];omega
  rw [hI]
  have hS:=cz g false hl (by omega)
  rw [show kq (!false)=(·.1) from rfl] at hS
  generalize bG (·.1) g=bl at hS
  (refine Spec.hd (C:=T.cfg [] []) (rs:= [.t 2]) (T.ai _ _) Tryz.func36 rfl rfl Tryz.ntmps36 Tryz.results36 (by simp [AObj.isNest]) (by simp [AObj.isNest]) (by kernel_rfl) T.mixed fun X hX hP hC aK cw=> ?_)
  repeat' (first|refine Rn.p ?_|(with_reducible apply And.intro)|((first|(refine hK _ ?_;clear hK K)|with_reducible intro K hK|refine Rs.p ?_|((with_reducible first|apply oP|apply oQ);exact rfl)|refine aa hX hC hP (aR g (by omega)) rfl rfl rfl (by simp only [go_sem,simprocAttr,ak]) rfl ?_|refine aa hX hC hP (hS) rfl rfl rfl (by simp only [go_sem,simprocAttr,ak]) rfl ?_);try simp only [go_sem,simprocAttr,ak])|((with_reducible refine oD ?_ ?_);kernel_rfl)|((with_reducible intro h);try simp only [go_sem,simprocAttr,ak] at h)|omega|intro h)
 ·have ak:decide ((bZ g).1=0)=false:=decide_eq_false hc
  have hI:jV g=false:=by unfold jV;rw [ak];rfl
  rw [hI]
  (refine Spec.hd (C:=T.cfg [] []) (rs:= [.t 2]) (T.ai _ _) Tryz.func36 rfl rfl Tryz.ntmps36 Tryz.results36 (by simp [AObj.isNest]) (by simp [AObj.isNest]) (by kernel_rfl) T.mixed fun X hX hP hC aK cw=> ?_)
  repeat' (first|refine Rn.p ?_|(with_reducible apply And.intro)|((first|(refine hK _ ?_;clear hK K)|with_reducible intro K hK|refine Rs.p ?_|((with_reducible first|apply oP|apply oQ);exact rfl)|refine aa hX hC hP (aR g (by omega)) rfl rfl rfl (by simp only [go_sem,simprocAttr,ak]) rfl ?_);try simp only [go_sem,simprocAttr,ak])|((with_reducible refine oD ?_ ?_);kernel_rfl)|((with_reducible intro h);try simp only [go_sem,simprocAttr,ak] at h)|omega|intro h)
end Go.Ab
end
section
namespace Go.Ab
open Go.Proofs
attribute [local congr] ACall.congr gd.congr Nx.congr
set_option maxRecDepth 10000
set_option maxHeartbeats 8000000
def RO:Gr:=⟨3, [(0,1),(0,2)]⟩
def RP:Pl:=⟨[0,1,2], [[0,1], [], []]⟩
def RQ:Gr:=⟨4, [(0,1),(0,2),(1,3),(2,3)]⟩
def RR:Pl:=⟨[0,1,2,3], [[0,1], [2], [3], []]⟩
end Go.Ab
end
section
namespace Go.Ab
def nm (names:List Int) (v:Int):Int:=names.getD v.toNat 0
structure iU (g:Gr) (names order:List Int):Prop where
 may:aP g=true
 H8:fF names g.n=true
 ord:fF order (g.es.length:Int)=true
section
variable {g:Gr} {names order:List Int} (h:iU g names order)
include h
theorem iU.len:(gA g names order).es.length=g.es.length:=by
 have:=(b7.1 h.ord).1
 simp only [gA,xF];omega
theorem iU.jc {i:Nat} (hi:i<g.es.length):∃j,j<g.es.length∧order.getD i 0=(j:Int)∧(gA g names order).es.getD i (0,0)=(nm names (tl g j),nm names (hd g j)):=by
 have o7:=(b7.1 h.ord).1
 have:=sk h.ord _ (gj (l:=order) (m:=i) (by omega))
 refine ⟨(order.getD i 0).toNat,by omega,by omega, ?_⟩
 simp only [gA,FN,nm,tl,hd]
 rw [List.getD_eq_getElem?_getD,List.getElem?_map,List.getElem?_range (by omega)]
 rfl
theorem iU.back {j:Nat} (hj:j<g.es.length):∃i,i<g.es.length∧order.getD i 0=(j:Int)∧(gA g names order).es.getD i (0,0)=(nm names (tl g j),nm names (hd g j)):=by
 obtain ⟨o7,hall⟩:=b7.1 h.ord
 obtain ⟨i,hi,hil,he⟩:=dy (hall (j:Int) (dS.2 (by omega)))
 obtain ⟨j',_,h2,h3⟩:=h.jc (i:=i) (by omega)
 have:j'=j:=by omega
 subst this
 exact ⟨i,by omega,he,h3⟩
theorem iU.inj {a b:Int} (ha:0≤a∧a<g.n) (hb:0≤b∧b<g.n) (e:nm names a=nm names b):a=b:=by
 have hnl:=(b7.1 h.H8).1
 have:=kz h.H8 (i:=a.toNat) (j:=b.toNat) (by omega) (by omega) e
 omega
theorem iU.range {a:Int} (ha:0≤a∧a<g.n):0≤nm names a∧nm names a<g.n:=by
 have hnl:=(b7.1 h.H8).1
 exact sk h.H8 _ (gj (by omega))
theorem iU.inv {a:Int} (ha:0≤a∧a<g.n):dA names (nm names a)=a:=by
 have hnl:=(b7.1 h.H8).1
 obtain ⟨k,hk,ck,he⟩:=dy (gj (l:=names) (m:=a.toNat) (by omega))
 have h2:=kz h.H8 ck (j:=a.toNat) (by omega) he
 have h3:dA names (nm names a)=k:=hk
 omega
theorem iU.of {v:Int} (hv:0≤v∧v<g.n):∃a,(0≤a∧a<g.n)∧nm names a=v:=by
 obtain ⟨hnl,hall⟩:=b7.1 h.H8
 obtain ⟨k,hk,ck,he⟩:=dy (hall v (dS.2 (by omega)))
 exact ⟨k,by omega,he⟩
theorem iU.may':aP (gA g names order)=true:=by
 have hn:=aU h.may
 have hlen:=h.len
 have hall:(gA g names order).es.any (ot (gA g names order))=false:=by
  rw [List.any_eq_false]
  intro e he
  obtain ⟨i,hi,rfl⟩:=List.getElem_of_mem he
  obtain ⟨j,hj,_,h3⟩:=h.jc (i:=i) (by omega)
  rw [List.getD_eq_getElem?_getD,List.getElem?_eq_getElem hi,Option.getD_some] at h3
  rw [h3]
  have h4:=h.range (bX h.may hj)
  have h5:=h.range (cW h.may hj)
  have e1:(gA g names order).n=g.n:=rfl
  simp only [ot,tr,e1,Bool.or_eq_true,decide_eq_true_eq]
  omega
 have e1:(gA g names order).n=g.n:=rfl
 simp only [aP,hall,e1,Bool.not_false,Bool.and_true,Bool.and_eq_true,decide_eq_true_eq]
 omega
omit h in
theorem pP {i j:Nat} (e:(gA g names order).es.getD i (0,0)=(nm names (tl g j),nm names (hd g j))):tl (gA g names order) i=nm names (tl g j)∧hd (gA g names order) i=nm names (hd g j):=⟨congrArg Prod.fst e,congrArg Prod.snd e⟩
theorem iU.loop:(0≤jH (gA g names order))↔0≤jH g:=by
 have key:∀g:Gr,(0≤jH g)↔∃i,i<g.es.length∧tl g i=hd g i:=by
  intro g
  have:=gR (fun e:Edge=>decide (e.1=e.2)) g.es
  rw [show (0≤jH g)↔g.es.any (fun e:Edge=>decide (e.1=e.2))=true from by rw [← this];simp [jH],List.any_eq_true]
  constructor
  ·rintro ⟨e,he,h2⟩
   obtain ⟨i,hi,rfl⟩:=List.getElem_of_mem he
   refine ⟨i,hi, ?_⟩
   simpa [tl,hd,List.getD_eq_getElem?_getD,List.getElem?_eq_getElem hi] using h2
  ·rintro ⟨i,hi,h2⟩
   refine ⟨_,List.getElem_mem hi, ?_⟩
   simpa [tl,hd,List.getD_eq_getElem?_getD,List.getElem?_eq_getElem hi] using h2
 rw [key,key,h.len]
 constructor
 ·rintro ⟨i,hi,e⟩
  obtain ⟨j,hj,_,h3⟩:=h.jc hi
  obtain ⟨e1,e2⟩:=pP h3
  exact ⟨j,hj,h.inj (bX h.may hj) (cW h.may hj) (by rw [← e1, ← e2,e])⟩
 ·rintro ⟨j,hj,e⟩
  obtain ⟨i,hi,_,h3⟩:=h.back hj
  obtain ⟨e1,e2⟩:=pP h3
  exact ⟨i,hi,by rw [e1,e2,e]⟩
omit h in
theorem um (g:Gr):(0≤eD g)↔∃i k,i<g.es.length∧k<g.es.length∧i≠k∧g.es.getD i (0,0)=g.es.getD k (0,0):=by
 have:=gR (nh g) (List.range g.es.length)
 rw [show (0≤eD g)↔(List.range g.es.length).any (nh g)=true from by rw [← this];simp [eD],List.any_eq_true]
 constructor
 ·rintro ⟨i,hi,h2⟩
  have hil:=List.mem_range.1 hi
  have h3:=of_decide_eq_true h2
  rw [List.mem_iff_getElem?] at h3
  obtain ⟨k,hk⟩:=h3
  rw [List.getElem?_take] at hk
  split at hk
  ·rename_i hki
   exact ⟨i,k,hil,by omega,by omega,by rw [List.getD_eq_getElem?_getD (i:=k),hk];rfl⟩
  ·cases hk
 ·rintro ⟨i,k,hi,hk,hne,e⟩
  have main:∀i k,k<i→i<g.es.length→g.es.getD i (0,0)=g.es.getD k (0,0)→nh g i=true:=by
   intro i k hki hi e
   refine decide_eq_true ?_
   rw [e,List.mem_iff_getElem?]
   refine ⟨k, ?_⟩
   rw [List.getElem?_take,if_pos hki,List.getD_eq_getElem?_getD,List.getElem?_eq_getElem (by omega)];rfl
  rcases Nat.lt_or_gt_of_ne hne with hlt|hgt
  ·exact ⟨k,List.mem_range.2 hk,main k i hlt hk e.symm⟩
  ·exact ⟨i,List.mem_range.2 hi,main i k hgt hi e⟩
theorem iU.Ky:(0≤eD (gA g names order))↔0≤eD g:=by
 have o7:=(b7.1 h.ord).1
 rw [um,um,h.len]
 constructor
 ·rintro ⟨i,k,hi,hk,hne,e⟩
  obtain ⟨j,hj,ho,h3⟩:=h.jc hi
  obtain ⟨j',hj',ho',Fm⟩:=h.jc hk
  refine ⟨j,j',hj,hj',fun e'=> ?_, ?_⟩
  ·subst e'
   exact hne (kz h.ord (by omega) (by omega) (by rw [ho,ho']))
  ·rw [h3,Fm,Prod.mk.injEq] at e
   have e1:=h.inj (bX h.may hj) (bX h.may hj') e.1
   have e2:=h.inj (cW h.may hj) (cW h.may hj') e.2
   exact Prod.ext e1 e2
 ·rintro ⟨j,j',hj,hj',hne,e⟩
  obtain ⟨i,hi,ho,h3⟩:=h.back hj
  obtain ⟨k,hk,ho',Fm⟩:=h.back hj'
  refine ⟨i,k,hi,hk,fun e'=> ?_, ?_⟩
  ·subst e';omega
  ·have e1:tl g j=tl g j':=congrArg Prod.fst e
   have e2:hd g j=hd g j':=congrArg Prod.snd e
   rw [h3,Fm,e1,e2]
theorem iU.Nr:B9 (gA g names order)=B9 g:=by
 rw [Bool.eq_iff_iff,zZ h.may',zZ h.may]
 constructor
 ·rintro ⟨r,hr⟩
  refine ⟨fun v=>r (nm names v),fun j hj=> ?_⟩
  obtain ⟨i,hi,_,h3⟩:=h.back hj
  obtain ⟨e1,e2⟩:=pP h3
  have:=hr i (by rw [h.len];exact hi)
  rwa [e1,e2] at this
 ·rintro ⟨r,hr⟩
  refine ⟨fun v=>r (dA names v),fun i hi=> ?_⟩
  rw [h.len] at hi
  obtain ⟨j,hj,_,h3⟩:=h.jc hi
  obtain ⟨e1,e2⟩:=pP h3
  have:=hr j hj
  rw [e1,e2];simp only;rw [h.inv (bX h.may hj),h.inv (cW h.may hj)]
  exact this
omit h in
theorem iA {g:Gr} {y:Int} :y∈bG (·.2) g↔(0≤y∧y<g.n)∧∀i,i<g.es.length→hd g i≠y:=by
 simp only [bG,ig,List.mem_map,List.mem_filter,List.mem_range,decide_eq_true_eq]
 have he:∀x:Nat,x<g.n.toNat→(((di (·.2) g).getD x []).length=0↔∀i,i<g.es.length→hd g i≠(x:Int)):=by
  intro x hx
  have e:(di (·.2) g).getD x []=aY (·.2) g.es g.es.length (x:Int):=by
   simp [di,List.getD_eq_getElem?_getD,List.getElem?_range hx,lz]
  rw [e,List.length_eq_zero_iff]
  simp only [aY,List.map_eq_nil_iff,List.filter_eq_nil_iff,List.mem_range,decide_eq_true_eq]
  rfl
 constructor
 ·rintro ⟨x,⟨hx,h0⟩,rfl⟩
  refine ⟨by simp;omega,(he x hx).1 h0⟩
 ·rintro ⟨⟨h1,h2⟩,h3⟩
  have e:((y.toNat:Nat):Int)=y:=by omega
  exact ⟨y.toNat,⟨by omega,(he _ (by omega)).2 (by rw [e];exact h3)⟩,e⟩
omit h in
theorem sV {f:Edge→Int} {g:Gr} :(bG f g).Nodup:=by
 unfold bG ig
 refine List.Pairwise.map _ (fun a b h e=>h (Int.ofNat.inj e)) (List.Pairwise.filter _ List.nodup_range)
theorem iU.bare:(bG (·.2) (gA g names order)).length=(bG (·.2) g).length:=by
 have e1:(gA g names order).n=g.n:=rfl
 have h1:((bG (·.2) g).map (nm names)).length≤(bG (·.2) (gA g names order)).length:=by
  refine Nat.le_trans (count_le _ (bG (·.2) (gA g names order)) ?_ ?_) List.countP_le_length
  ·rw [List.nodup_iff_pairwise_ne]
   refine List.Pairwise.map _ (fun a b h=>h) ?_
   refine List.Pairwise.imp_of_mem ?_ sV
   intro a b ha hb hab e
   exact hab (h.inj (iA.1 ha).1 (iA.1 hb).1 e)
  ·intro v hv
   obtain ⟨y,hy,rfl⟩:=List.mem_map.1 hv
   obtain ⟨hy1,hy2⟩:=iA.1 hy
   refine iA.2 ⟨h.range hy1,fun i hi e=> ?_⟩
   rw [h.len] at hi
   obtain ⟨j,hj,_,h3⟩:=h.jc hi
   rw [(pP h3).2] at e
   exact hy2 j hj (h.inj (cW h.may hj) hy1 e)
 have h2:((bG (·.2) (gA g names order)).map (dA names)).length≤(bG (·.2) g).length:=by
  have hsplit:∀v∈bG (·.2) (gA g names order),∃a,(0≤a∧a<g.n)∧nm names a=v:=fun v hv=>h.of (iA.1 hv).1
  refine Nat.le_trans (count_le _ (bG (·.2) g) ?_ ?_) List.countP_le_length
  ·rw [List.nodup_iff_pairwise_ne]
   refine List.Pairwise.map _ (fun a b h=>h) ?_
   refine List.Pairwise.imp_of_mem ?_ sV
   intro a b ha hb hab e
   obtain ⟨a',Fw,rfl⟩:=hsplit a ha
   obtain ⟨b',hb',rfl⟩:=hsplit b hb
   rw [h.inv Fw,h.inv hb'] at e
   exact hab (by rw [e])
  ·intro v hv
   obtain ⟨y,hy,rfl⟩:=List.mem_map.1 hv
   obtain ⟨a,ha,rfl⟩:=hsplit y hy
   rw [h.inv ha]
   refine iA.2 ⟨ha,fun j hj e=> ?_⟩
   obtain ⟨i,hi,_,h3⟩:=h.back hj
   refine (iA.1 hy).2 i (by rw [h.len];exact hi) ?_
   rw [(pP h3).2,e]
 simp only [List.length_map] at h1 h2
 omega
theorem iU.kind:(bZ (gA g names order)).1=(bZ g).1:=by
 have hm:=h.may'
 have hc:(0<(jF (gA g names order)).length)↔0<(jF g).length:=by
  have key:∀g:Gr,aP g=true→((0<(jF g).length)↔B9 g=false):=by
   intro g hm
   cases ho:B9 g with
   |true=>rw [FO hm ho];simp
   |false=>simp [(DC hm ho).1]
  rw [key _ hm,key _ h.may,h.Nr]
 have h1:=h.loop
 have h2:=h.Ky
 have h3:=h.bare
 simp only [bZ,gF,hm,h.may]
 simp only [Bool.true_eq_false,if_false,h1,h2,hc,h3]
 split
 ·rfl
 split
 ·rfl
 split
 ·rfl
 split<;>rfl
end
end Go.Ab
end
section
namespace Go.Ab
open Go.Proofs
set_option maxRecDepth 10000
def On:Nat→List Edge→Int→Option (Int × Int)
 |_, [],_=>none
 |m,e::N,v=>if e.1=v then some ((m:Int),e.2) else On (m+1) N v
def RS (m:Nat) (N:List Edge) (t:It):It:=if 0≤t.1 then t else match On m N t.2.1 with
 |some (i,h)=>(i,t.2.1,h)
 |none=>t
structure Oo (g:Gr) (p:Pl):Prop where
 run:bM g p
 n:(DN g p).n≤64
 es:(DN g p).es.length≤128
variable {g:Gr} {p:Pl}
end Go.Ab
end
section
namespace Go.Ab
open Go.Proofs
set_option maxRecDepth 10000
variable {g:Gr} {p:Pl}
theorem Ak {p:Pl} {k:Nat} {v:Int} (hk:k≤p.ord.length) (h:v∈p.ord.take k):∃j,j<k∧aq p j=v:=by
 obtain ⟨j,hj,e⟩:=List.mem_iff_getElem.1 h
 simp only [List.length_take] at hj
 refine ⟨j,by omega, ?_⟩
 rw [← e,aq,List.getD_eq_getElem?_getD,List.getElem?_eq_getElem (by omega)]
 simp
end Go.Ab
end
section
namespace Go.Ab
open Go.Proofs
set_option maxRecDepth 10000
variable {g:Gr} {p:Pl}
theorem pQ (hr:bM g p):bF p (aq p (g.n.toNat - 1))= []∧aq p (g.n.toNat - 1)∈loose (lG g p):=by
 have hm:=aE hr.1
 have hn:=aU hm
 obtain ⟨k,hk⟩:∃k,g.n.toNat=k+1:=⟨g.n.toNat - 1,by omega⟩
 obtain ⟨hi,_,_⟩:=de hm hr.2.1 (k:=k) (by omega) fun j hj=>hr.2.2 j (by omega)
 obtain ⟨A,X,C,hrw,_,_,_,hs⟩:=iy hm hi.togI (hr.2.2 k (by omega))
 have hL:lG g p=A++aL g (aq p k) (bF p (aq p k))++C:=by
  unfold lG;rw [hk]
  show (aA _ _ _ _).2.row=_
  rw [hs]
 have yy:g.n.toNat - 1=k:=by omega
 rw [yy]
 have lZ:=zg hr
 have hx:=aJ hr.2.1 (k:=k) (by omega)
 have h0:bF p (aq p k)= []:=by
  refine Decidable.byContradiction fun h0=> ?_
  have ha:aL g (aq p k) (bF p (aq p k))=(bF p (aq p k)).map (fm g (aq p k)):=if_neg h0
  obtain ⟨i,hi'⟩:=List.exists_mem_of_ne_nil _ h0
  have h1:=lZ (fm g (aq p k) i) (by rw [hL,ha];simp;exact .inr (.inl ⟨i,hi',rfl⟩))
  obtain ⟨e,rfl,_⟩:=jQ ((bN hr.2.1 hx.1 hx.2).mem_iff.1 hi')
  simp [fm] at h1
  omega
 refine ⟨h0, ?_⟩
 have ha:aL g (aq p k) (bF p (aq p k))= [(-1,aq p k, -1)]:=if_pos h0
 rw [hL,ha,uh,uh]
 simp [loose]
theorem mj {f:Edge→Int} {g:Gr} {y:Int} :y∈bG f g↔(0≤y∧y<g.n)∧aY f g.es g.es.length y= []:=by
 simp only [bG,ig,List.mem_map,List.mem_filter,List.mem_range,decide_eq_true_eq]
 have he:∀x:Nat,x<g.n.toNat→(((di f g).getD x []).length=0↔aY f g.es g.es.length (x:Int)= []):=by
  intro x hx
  have e:(di f g).getD x []=aY f g.es g.es.length (x:Int):=by
   simp [di,List.getD_eq_getElem?_getD,List.getElem?_range hx,lz]
  rw [e,List.length_eq_zero_iff]
 constructor
 ·rintro ⟨x,⟨hx,h0⟩,rfl⟩
  exact ⟨by simp;omega,(he x hx).1 h0⟩
 ·rintro ⟨⟨h1,h2⟩,h3⟩
  have e:((y.toNat:Nat):Int)=y:=by omega
  exact ⟨y.toNat,⟨by omega,(he _ (by omega)).2 (by rw [e];exact h3)⟩,e⟩
end Go.Ab
end
section
namespace Go.Ab
open Go.Proofs
set_option maxRecDepth 10000
def iJ (l:List It):List It:=l.filter fun t=>decide (0≤t.1)
theorem mo {a b:List It} :iJ (a++b)=iJ a++iJ b:=by simp [iJ]
theorem iV {l:List It} {t:It} :t∈iJ l↔t∈l∧0≤t.1:=by simp [iJ]
theorem qK {x:Int} {l:List It} (h:fC x l):fC x (iJ l):=fun t ht=>h t (iV.1 ht).1
def vH (x:Int) (l:List It):Prop:=∀t∈l,t.2.2=x
theorem mq {g:Gr} {x:Int} {o:List Int} (ho:∀i∈o,0≤i):iJ (aL g x o)=o.map (fm g x):=by
 unfold aL
 split
 ·rename_i h;subst h;rfl
 ·refine List.filter_eq_self.2 fun t ht=> ?_
  obtain ⟨i,hi,rfl⟩:=List.mem_map.1 ht
  exact decide_eq_true (ho i hi)
theorem uo {x:Int} :∀ {X Y c d:List It},vH x X→vH x Y→fC x c→fC x d→X++c=Y++d→X=Y∧c=d
 | [], [],c,d,_,_,_,_,e=>⟨rfl,e⟩
 | [],u::Y,c,d,_,hY,hc,_,e=>by
   simp only [List.nil_append] at e
   exact absurd (hY u (by simp)) (hc u (by rw [e];simp))
 |t::X, [],c,d,hX,_,_,hd,e=>by
  simp only [List.nil_append] at e
  exact absurd (hX t (by simp)) (hd t (by rw [← e];simp))
 |t::X,u::Y,c,d,hX,hY,hc,hd,e=>by
  simp only [List.cons_append,List.cons.injEq] at e
  obtain ⟨e1,e2⟩:=uo (fun s hs=>hX s (by simp [hs])) (fun s hs=>hY s (by simp [hs])) hc hd e.2
  exact ⟨by rw [e.1,e1],e2⟩
theorem xZ {x:Int} :∀ {a b X Y c d:List It},fC x a→fC x b→vH x X→vH x Y→fC x c→fC x d→X≠ []→Y≠ []→a++X++c=b++Y++d→a=b∧X=Y∧c=d
 |t::a, [],X,u::Y,c,d,ha,_,_,hY,_,_,_,_,e=>by
  simp only [List.cons_append,List.nil_append,List.cons.injEq] at e
  exact absurd (by rw [e.1];exact hY u (by simp)) (ha t (by simp))
 | [],t::b,u::X,Y,c,d,_,hb,hX,_,_,_,_,_,e=>by
   simp only [List.cons_append,List.nil_append,List.cons.injEq] at e
   exact absurd (by rw [← e.1];exact hX u (by simp)) (hb t (by simp))
 |t::a,u::b,X,Y,c,d,ha,hb,hX,hY,hc,hd,nX,nY,e=>by
  simp only [List.cons_append,List.cons.injEq] at e
  obtain ⟨e1,e2,e3⟩:=xZ (fun s hs=>ha s (by simp [hs])) (fun s hs=>hb s (by simp [hs])) hX hY hc hd nX nY e.2
  exact ⟨by rw [e.1,e1],e2,e3⟩
 | [], [],X,Y,c,d,_,_,hX,hY,hc,hd,_,_,e=>by
   refine ⟨rfl, ?_⟩
   simp only [List.nil_append] at e
   exact uo hX hY hc hd e
 | [],_::_, [],_,_,_,_,_,_,_,_,_,h,_,_=>absurd rfl h
 |_::_, [],_, [],_,_,_,_,_,_,_,_,_,h,_=>absurd rfl h
theorem DX {g:Gr} (hm:aP g=true) {f:Fr} (hi:gI g f) {x:Int} (hR:aD g f x=true) (hn:bt g x≠0):
 ∃a X c,iJ f.row=a++X++c∧fC x a∧fC x c∧vH x X∧X.length=bt g x∧∀o,iJ (aA g f x o).2.row=a++iJ (aL g x o)++c:=by
 obtain ⟨A,X,C,hr,hA,hC,hX,cX⟩:=cr hm hi hR hn
 have hx:=(aT hR).1
 have hmem:∀t∈X,t∈f.row:=fun t ht=>by rw [hr];simp [ht]
 have hiff:∀t∈X,(0≤t.1↔t.2.2=x):=fun t ht=>by
  have h1:=(hi.it t (hmem t ht)).head hm
  have h2:=hX.al t ht
  omega
 refine ⟨iJ A,iJ X,iJ C,by rw [hr,mo,mo],qK hA,qK hC,fun t ht=> ?_, ?_,fun o=> ?_⟩
 ·obtain ⟨h1,h2⟩:=iV.1 ht
  exact (hiff t h1).1 h2
 ·rw [← cX,iJ, ← List.countP_eq_length_filter]
  refine List.countP_congr fun t ht=> ?_
  simp only [kT,decide_eq_true_eq]
  exact hiff t ht
 ·rw [gO o hr hA hC hX]
  simp only [mo]
theorem FZ {g:Gr} (hm:aP g=true) {f:Fr} (hi:gI g f) {x:Int} (hR:aD g f x=true) (hn:bt g x≠0) {a X c:List It} (e:iJ f.row=a++X++c) (ha:fC x a) (hc:fC x c) (hX:vH x X) (nX:X≠ []) (o:List Int):
 iJ (aA g f x o).2.row=a++iJ (aL g x o)++c:=by
 obtain ⟨b,Y,d,e',hb,hd,hY,lY,hs⟩:=DX hm hi hR hn
 have nY:Y≠ []:=fun h=>hn (by rw [← lY,h];rfl)
 obtain ⟨e1,_,e3⟩:=xZ hb ha hY hX hd hc nY nX (e'.symm.trans e)
 rw [hs o,e1,e3]
theorem DY {g:Gr} (hm:aP g=true) {f:Fr} (hi:gI g f) {x:Int} (h0:0≤x) (h1:x<g.n) (hp:x∉f.pl) {a X c:List It} (e:iJ f.row=a++X++c) (ha:fC x a) (hc:fC x c) (hX:vH x X) (nX:X≠ []) (hl:X.length=bt g x):aD g f x=true:=by
 have hmem:∀j,j<f.row.length→y9 g (f.row.getD j (0,0,0)):=fun j hj=>hi.it _ (aV hj)
 have A4:f.row.countP (kT x)=X.length:=by
  have h2:f.row.countP (kT x)=(iJ f.row).countP (kT x):=by
   rw [iJ,List.countP_filter]
   refine List.countP_congr fun t ht=> ?_
   have:=(hi.it t ht).head hm
   simp only [kT,Bool.and_eq_true,decide_eq_true_eq]
   omega
  have c1:a.countP (kT x)=0:=List.countP_eq_zero.2 fun t ht=>by simp [kT,ha t ht]
  have c2:c.countP (kT x)=0:=List.countP_eq_zero.2 fun t ht=>by simp [kT,hc t ht]
  have c3:X.countP (kT x)=X.length:=List.countP_eq_length.2 fun t ht=>by simp [kT,hX t ht]
  rw [h2,e,List.countP_append,List.countP_append,c1,c2,c3]
  omega
 rw [← oK hm hi,fP,if_neg (by rintro (h|h|h);omega;omega;exact hp h),fR h0 h1,Bool.and_eq_true,decide_eq_true_eq]
 have hN:(aY (fun e=>e.2) g.es g.es.length x).length=bt g x:=rfl
 rw [hN]
 refine ⟨?_, ?_⟩
 ·unfold aZ
  rw [jO,kD (Nat.le_refl _),List.take_length,A4,hl]
 ·rw [Bool.or_eq_true];right
  rcases c8 (row:=f.row) (x:=x) f.row.length with ⟨hs,hno⟩|⟨p,q,n,hs,hab,kH,hc0,gh,hpx,Ns,hlo,hhi⟩
  ·have hs':aZ f.row x=(-1,0,0):=hs
   rw [hs'];simp [qm]
  ·have hs':aZ f.row x=((p:Int),(q:Int),(n:Int)):=hs
   rw [hs']
   simp only [Int.toNat_natCast,qm,Bool.not_eq_true']
   rw [← Bool.not_eq_true,ue kH]
   rintro ⟨j,h2,h3,h4⟩
   simp only [kB,Bool.and_eq_true,decide_eq_true_eq] at h4
   have hja:p<j:=by
    refine Nat.lt_of_le_of_ne h2 fun e=> ?_
    subst e;exact h4.1 hpx
   have hjb:j<q - 1:=by
    refine Nat.lt_of_le_of_ne (by omega) fun e=> ?_
    subst e;exact h4.1 Ns
   have hsub:=((sP (i:=j+1) (j:=q - 1) (sP (i:=p+1) (j:=j) (sP (i:=0) (j:=p) (List.nil_sublist _) (by omega) (by omega)) (by omega) (by omega)) (by omega) (by omega)).trans (List.take_sublist _ f.row)).filter fun t=>decide (0≤t.1)
   have hp1:=(hmem p (by omega)).head hm
   have Oq:=(hmem j (by omega)).head hm
   have hq1:=(hmem (q - 1) (by omega)).head hm
   generalize f.row.getD p (0,0,0)=s1 at hsub hp1 hpx
   generalize f.row.getD j (0,0,0)=s2 at hsub Oq h4
   generalize f.row.getD (q - 1) (0,0,0)=s3 at hsub hq1 Ns
   have hf:([]++ [s1]++ [s2]++ [s3]).filter (fun t=>decide (0≤t.1))= [s1,s2,s3]:=List.filter_eq_self.2 fun t ht=>by
    simp only [List.nil_append,List.cons_append,List.mem_cons,List.not_mem_nil,or_false] at ht
    rcases ht with rfl|rfl|rfl
    ·exact decide_eq_true (hp1.1.2 (by omega))
    ·exact decide_eq_true (Oq.1.2 h4.2)
    ·exact decide_eq_true (hq1.1.2 (by omega))
   rw [hf] at hsub
   have hsub: [s1,s2,s3].Sublist (a++(X++c)):=by rw [← List.append_assoc, ← e];exact hsub
   rw [List.sublist_append_iff] at hsub
   obtain ⟨l1,l',el,k1,k'⟩:=hsub
   rw [List.sublist_append_iff] at k'
   obtain ⟨l2,l3,rfl,k2,k3⟩:=k'
   match l1,el,k1 with
   |t::l1,el,k1=>
    simp only [List.cons_append,List.cons.injEq] at el
    exact ha t (k1.subset (by simp)) (by rw [← el.1];exact hpx)
   | [],el,_=>
     match l2,el,k2 with
     | [],el,_=>
       simp only [List.nil_append] at el
       exact hc s1 (k3.subset (by rw [← el];simp)) hpx
     | [t],el,_=>
       simp only [List.nil_append,List.cons_append,List.cons.injEq] at el
       exact hc s3 (k3.subset (by rw [← el.2];simp)) Ns
     |t::u::l2,el,k2=>
      simp only [List.nil_append,List.cons_append,List.cons.injEq] at el
      exact h4.1 (by rw [el.2.1];exact hX u (k2.subset (by simp)))
end Go.Ab
end
section
namespace Go.Ab
open Go.Proofs
set_option maxRecDepth 10000
def Kz (gone:List Int) (i:Nat):Bool:= !decide ((i:Int)∈gone)
def Iw (gone:List Int) (k:Nat):List Nat:=(List.range k).filter (Kz gone)
def Qn (gone:List Int) (k:Nat):Nat:=(Iw gone k).length
def Nt (gone:List Int) (es:List Edge) (k:Nat):List Edge:=(Iw gone k).map fun i=>es.getD i (0,0)
def Qo (g:Gr) (gone:List Int):Gr:=⟨g.n,Nt gone g.es g.es.length⟩
def Ot (gone:List Int) (i:Int):Int:=if i∈gone then -1 else (Qn gone i.toNat:Int)
def Nu (gone:List Int) (l:List Int):List Int:=(l.filter fun i=>decide (i∉gone)).map (Ot gone)
def Qp (p:Pl) (gone:List Int):Pl:=⟨p.ord,p.outs.map (Nu gone)⟩
variable {g:Gr} {p:Pl} {gone:List Int}
def Qq (gone:List Int) (t:It):It:=(Ot gone t.1,t.2.1,t.2.2)
def Qr (gone:List Int) (l:List It):List It:=(l.filter fun t=>decide (t.1∉gone)).map (Qq gone)
theorem fS (hr:bM g p):bt g (aq p 0)=0:=by
 have hm:=aE hr.1
 have hn:=aU hm
 refine Decidable.byContradiction fun hnz=> ?_
 obtain ⟨A,X,C,hrw,_,_,hX,_⟩:=cr hm (Aa g).togI (hr.2.2 0 (by omega)) hnz
 obtain ⟨q,X0,e1,_⟩:=hX.fst
 rw [e1] at hrw
 simp at hrw
end Go.Ab
end
section
namespace Go.Ab
open Go.Proofs
set_option maxRecDepth 10000
theorem vJ {g:Gr} (hm:aP g=true) {f:Fr} (hi:gI g f) {x:Int} (hR:aD g f x=true) (hn:bt g x≠0) (o:List Int):
 ∃a c,iJ f.row=a++iJ (aA g f x o).1.1++c∧fC x a∧fC x c∧vH x (iJ (aA g f x o).1.1)∧(iJ (aA g f x o).1.1).length=bt g x∧iJ (aA g f x o).2.row=a++iJ (aL g x o)++c:=by
 obtain ⟨A,X,C,hr,hA,hC,hX,hc⟩:=cr hm hi hR hn
 have hx:=(aT hR).1
 have hmem:∀t∈X,t∈f.row:=fun t ht=>by rw [hr];simp [ht]
 have hiff:∀t∈X,(0≤t.1↔t.2.2=x):=fun t ht=>by
  have h1:=(hi.it t (hmem t ht)).head hm
  have h2:=hX.al t ht
  constructor
  ·intro h;rcases h2 with h2|h2
   ·exact h2
   ·exact absurd h2 (h1.1.1 h)
  ·intro h;exact h1.1.2 (by omega)
 rw [gO o hr hA hC hX]
 refine ⟨iJ A,iJ C,by rw [hr,mo,mo],qK hA,qK hC,fun t ht=> ?_, ?_,by simp only [mo]⟩
 ·obtain ⟨h1,h2⟩:=iV.1 ht
  exact (hiff t h1).1 h2
 ·rw [← hc,iJ, ← List.countP_eq_length_filter]
  refine List.countP_congr fun t ht=> ?_
  simp only [kT,decide_eq_true_eq]
  exact hiff t ht
def cH (g:Gr) (p:Pl) (x:Int):List Int:=(iJ ((dz g p g.n.toNat).getD x.toNat [])).map (·.1)
def oT (g:Gr) (p:Pl) (f:Fr) (x:Int):List Int:=(iJ (aA g f x (bF p x)).1.1).map (·.1)
def qo (g:Gr) (p:Pl):Nat→Fr→Prop
 |0,f=>(f.pl.length:Int)=g.n
 |m+1,f=>∃x,aD g f x=true∧oT g p f x=cH g p x∧qo g p m (ug g p f x)
theorem sW {g:Gr} {p:Pl} :∀ {m:Nat} {f f':Fr},f.row=f'.row→f.pl.Perm f'.pl→qo g p m f→qo g p m f'
 |0,f,f',_,hp,h=>by
  have h:(f.pl.length:Int)=g.n:=h
  show (f'.pl.length:Int)=g.n
  rw [← hp.length_eq];exact h
 |m+1,f,f',hr,hp,⟨x,h1,h3,h2⟩=>by
  refine ⟨x,by rw [← xR hr hp];exact h1, ?_,sW ?_ ?_ h2⟩
  ·simp only [oT,aA,hr] at h3 ⊢;exact h3
  ·simp only [ug,aA,hr]
  ·exact hp.append_right _
theorem uq {g:Gr} (hc:(bZ g).1=0) {p:Pl} (hp:bw g p):∀ {m:Nat} {f:Fr},xO g f→(f.pl.length:Int)+(m+1:Nat)=g.n→qo g p (m+1) f→∀ {x:Int},aD g f x=true→oT g p f x=cH g p x∧qo g p m (ug g p f x)
 |m,f,hi,hl,⟨y,uf,Li,hcan⟩,x,hR=>by
  have hm:=aE hc
  by_cases hxy:x=y
  ·subst hxy;exact ⟨Li,hcan⟩
  have py:=bN hp (aT uf).1 (aT uf).2.1
  have px:=bN hp (aT hR).1 (aT hR).2.1
  have i2:=jS hm hi uf py
  match m,hl,hcan with
  |0,hl,hcan=>
   exfalso
   have h1:=jT i2.togI (by show ((f.pl++ [y]).length:Int)=g.n;simp;omega) (x:=x) ⟨(aT hR).1,(aT hR).2.1⟩
   have h2:x∈f.pl++ [y]:=h1
   simp [(aT hR).2.2,hxy] at h2
  |m+1,hl,hcan=>
   obtain ⟨h4,h5,h6,h7,h8⟩:=BI hc hi hxy hR uf px py
   obtain ⟨h9,h3⟩:=uq hc hp i2 (by show (((f.pl++ [y]).length:Nat):Int)+_=_;simp;omega) hcan h5
   refine ⟨?_,y,h4, ?_,sW h6.symm ?_ h3⟩
   ·unfold oT at h9 ⊢;rw [h7];exact h9
   ·unfold oT at Li ⊢;rw [h8] at Li;exact Li
   show (f.pl++ [y]++ [x]).Perm (f.pl++ [x]++ [y])
   rw [List.append_assoc,List.append_assoc]
   exact List.Perm.append_left _ (List.Perm.swap ..)
theorem ur {g:Gr} {p:Pl} (h:bM g p):∀ {d k:Nat},k+d=g.n.toNat→qo g p d (fK g p k)
 |0,k,hk=>by
  have hn:=aU (aE h.1)
  obtain ⟨_,gw,_⟩:=de (aE h.1) h.2.1 (k:=k) (by omega) fun j hj=>h.2.2 j (by omega)
  show ((fK g p k).pl.length:Int)=g.n
  rw [gw,List.length_take,bQ h.2.1];omega
 |d+1,k,hk=>⟨aq p k,h.2.2 k (by omega),by
   unfold cH
   rw [mh h.2.1 (Nat.le_refl _) (show k<g.n.toNat by omega)]
   rfl,ur h (k:=k+1) (by omega)⟩
theorem Al {g:Gr} (hc:(bZ g).1=0) {p:Pl} (hp:bw g p):∀ {m:Nat} {f:Fr},xO g f→qo g p m f→∀ {i:Nat},i<g.es.length→tl g i∈f.pl→hd g i∉f.pl→∃t∈f.row,t.1=(i:Int)
 |0,f,hi,h,i,hil,_,hh=>by
  have hr:=cW (aE hc) hil
  exact absurd (jT hi.togI h (x:=hd g i) hr) hh
 |m+1,f,hi,⟨x,hR,_,h⟩,i,hil,ht,hh=>by
  have hm:=aE hc
  have px:=bN hp (aT hR).1 (aT hR).2.1
  by_cases hx:hd g i=x
  ·obtain ⟨t,h1,h2,_⟩:=vD hm hi hR hil hx
   exact ⟨t,h1,h2⟩
  ·obtain ⟨t,h1,h2⟩:=Al hc hp (jS hm hi hR px) h hil (List.mem_append.2 (.inl ht)) (fun h1=>by
    rcases List.mem_append.1 h1 with h1|h1
    ·exact hh h1
    ·exact hx (by simpa using h1))
   obtain ⟨A,X,C,hr,_,_,_,hs⟩:=iy hm hi.togI hR
   rw [hs] at h1
   simp only [List.mem_append] at h1
   rcases h1 with (h1|h1)|h1
   ·exact ⟨t,by rw [hr];simp [h1],h2⟩
   ·rcases jR (fun i hi=>px.mem_iff.1 hi) h1 with ⟨h3,_⟩|⟨k,h3,h4,h5,_,h6,_⟩
    ·omega
    ·have:k=i:=by omega
     subst this
     exact absurd (h6 ▸ ht) (aT hR).2.2
   ·exact ⟨t,by rw [hr];simp [h1],h2⟩
def iB (g:Gr) (e:Int):Int:=(g.es.getD e.toNat (0,0)).1
def jj (g:Gr) (e:Int):Int:=(g.es.getD e.toNat (0,0)).2
def nw (g:Gr) (x:Int):Prop:=0≤x∧x<g.n
instance {g:Gr} {x:Int} :Decidable (nw g x):=inferInstanceAs (Decidable (0≤x∧x<g.n))
def lH (g:Gr) (p:Pl) (k:Nat) (W D:List Int):Prop:=∃f,xO g f∧f.pl=D∧W=(iJ f.row).map (·.1)∧qo g p k f∧(D.length:Int)+k=g.n∧aq p 0∈D
def DZ (g:Gr) (p:Pl) (x:Int):Nat:=((xD g.n.toNat p.ord p.ord.length).getD x.toNat 0).toNat
def bC (g:Gr) (p:Pl):PS:=
 {m:=g.es.length,src:=aq p 0,DD:=aq p (g.n.toNat - 1),tl:=iB g,hd:=jj g,ins:=fun x=>if nw g x then cH g p x else [],outs:=fun x=>if nw g x then bF p x else [],xG:=DZ g p,Row:=lH g p,k0:=g.n.toNat - 1}
theorem jk {g:Gr} {p:Pl} {x:Int} (h:nw g x):(bC g p).ins x=cH g p x:=if_pos h
theorem oU {g:Gr} {p:Pl} {x:Int} (h:¬nw g x):(bC g p).ins x= []:=if_neg h
theorem gP {g:Gr} {p:Pl} {x:Int} (h:nw g x):(bC g p).outs x=bF p x:=if_pos h
theorem oV {g:Gr} {p:Pl} {x:Int} (h:¬nw g x):(bC g p).outs x= []:=if_neg h
theorem cI {f:Edge→Int} {es:List Edge} {x e:Int} :e∈aY f es es.length x↔(0≤e∧e<es.length)∧f (es.getD e.toNat (0,0))=x:=by
 refine ⟨fQ,fun ⟨h1,h2⟩=> ?_⟩
 simp only [aY,List.mem_map,List.mem_filter,List.mem_range,decide_eq_true_eq]
 exact ⟨e.toNat,⟨by omega,h2⟩,by simp;omega⟩
section
variable {g:Gr} {p:Pl}
theorem Am (hm:aP g=true) (hp:bw g p) {k:Nat} (hk:k<g.n.toNat):DZ g p (aq p k)=k:=by
 have hE:=((Ae hm).2 hp).1
 have:=vj hE (p:=k) (k:=p.ord.length) (by rw [bQ hp];exact hk) (Nat.le_refl _)
 unfold DZ
 show ((xD _ _ _).getD (p.ord.getD k 0).toNat 0).toNat=k
 rw [this];simp
theorem sX (h:bM g p) {e:Int} (he:0≤e∧e<g.es.length) {k:Nat} (hk:k<g.n.toNat) (hx:jj g e=aq p k):∃j,j<k∧aq p j=iB g e:=by
 have hm:=aE h.1
 obtain ⟨hi,gw,_⟩:=de hm h.2.1 (k:=k) (by omega) fun j hj=>h.2.2 j (by omega)
 obtain ⟨t,h1,h2,h3,_⟩:=vD hm hi (h.2.2 k hk) (i:=e.toNat) (by omega) hx
 have h4:=hi.tail t h1 (by omega)
 rw [h3,gw] at h4
 exact Ak (by rw [bQ h.2.1];omega) h4
theorem oW (hm:aP g=true) {f:Fr} (hi:gI g f) {t:It} (ht:t∈iJ f.row):(0≤t.1∧t.1<g.es.length)∧t.2.1=iB g t.1∧t.2.2=jj g t.1:=by
 obtain ⟨h1,h2⟩:=iV.1 ht
 rcases hi.it t h1 with h3|h3
 ·omega
 ·exact ⟨⟨h3.1,h3.2.1⟩,h3.2.2.1,h3.2.2.2⟩
theorem D2 {f:Fr} (hi:xO g f):((iJ f.row).map (·.1)).Nodup:=by
 refine List.pairwise_map.2 ?_
 have:=hi.once.filter (fun t:It=>decide (0≤t.1))
 refine List.Pairwise.imp_of_mem (fun {s t} hs ht h1=>h1 (iV.1 hs).2) this
theorem F0 (hm:aP g=true) {f:Fr} (hi:xO g f) {x:Int} (hR:aD g f x=true):(oT g p f x).Nodup∧∀e,e∈oT g p f x↔(0≤e∧e<g.es.length)∧jj g e=x:=by
 by_cases hn:bt g x=0
 ·have hno:=kE hm hi.togI (aT hR).1 hn
  have e0:oT g p f x= []:=by unfold oT;rw [gW _ hno];rfl
  rw [e0]
  refine ⟨List.nodup_nil,fun e=>⟨fun h=>by (cases h),fun ⟨h1,h2⟩=> ?_⟩⟩
  have:=cI.2 ⟨h1,h2⟩
  have h3:aY (·.2) g.es g.es.length x= []:=List.eq_nil_of_length_eq_zero hn
  rw [h3] at this;cases this
 ·obtain ⟨a,c,e1,ha,hc,hX,hl,_⟩:=vJ hm hi.togI hR hn (bF p x)
  have b8:=D2 hi
  have hmem:∀t∈iJ (aA g f x (bF p x)).1.1,t∈iJ f.row:=fun t ht=>by rw [e1];simp [ht]
  rw [e1,List.map_append,List.map_append,List.nodup_append] at b8
  have JJ:(oT g p f x).Nodup:=(List.nodup_append.1 b8.1).2.1
  have hsub:∀e∈oT g p f x,e∈aY (·.2) g.es g.es.length x:=fun e he=>by
   obtain ⟨t,ht,rfl⟩:=List.mem_map.1 he
   obtain ⟨h1,_,h3⟩:=oW hm hi.togI (hmem t ht)
   exact cI.2 ⟨h1,by rw [← hX t ht,h3];rfl⟩
  have hlen:(aY (·.2) g.es g.es.length x).length=(oT g p f x).length:=by
   unfold oT;rw [List.length_map,hl];rfl
  exact ⟨JJ,fun e=>⟨fun he=>cI.1 (hsub e he),fun he=>vC JJ hsub hlen e (cI.2 he)⟩⟩
theorem An (h:bM g p) {k:Nat} (hk:k<g.n.toNat):cH g p (aq p k)=oT g p (fK g p k) (aq p k):=by
 unfold cH
 rw [mh h.2.1 (Nat.le_refl _) hk];rfl
theorem lI (h:bM g p) {x:Int} (hx:nw g x):(cH g p x).Nodup∧∀e,e∈cH g p x↔(0≤e∧e<g.es.length)∧jj g e=x:=by
 obtain ⟨k,hk,rfl⟩:=fu h.2.1 hx.1 hx.2
 have hm:=aE h.1
 obtain ⟨hi,_,_⟩:=de hm h.2.1 (k:=k) (by omega) fun j hj=>h.2.2 j (by omega)
 rw [An h hk]
 exact F0 hm hi (h.2.2 k hk)
theorem jW (h:bM g p) {x:Int} (hx:nw g x):(cH g p x).length=bt g x:=by
 obtain ⟨h1,h2⟩:=lI h hx
 refine Nat.le_antisymm ?_ ?_
 ·exact eW h1 fun e he=>cI.2 ((h2 e).1 he)
 ·exact eW dc fun e he=>(h2 e).2 (cI.1 he)
theorem eo (h:bM g p) (hI:jV g=true) {x:Int} (hx:nw g x):bF p x= []↔x=aq p (g.n.toNat - 1):=by
 have hm:=aE h.1
 have hn:=aU hm
 constructor
 ·intro h1
  have hs:=(pQ h).1
  have hsi:=aJ h.2.1 (k:=g.n.toNat - 1) (by omega)
  have b1:=mj (f:=(·.1)) (g:=g) (y:=x) |>.2 ⟨hx,(oO h.2.1 hx.1 hx.2).2 h1⟩
  have b2:=mj (f:=(·.1)) (g:=g) (y:=aq p (g.n.toNat - 1)) |>.2 ⟨hsi,(oO h.2.1 hsi.1 hsi.2).2 hs⟩
  have hl:(bG (·.1) g).length=1:=by
   unfold jV at hI
   simp only [Bool.and_eq_true,decide_eq_true_eq] at hI
   exact hI.2
  obtain ⟨y,hy⟩:=List.length_eq_one_iff.1 hl
  rw [hy,List.mem_singleton] at b1 b2
  rw [b1,b2]
 ·rintro rfl;exact (pQ h).1
theorem uu (h:bM g p) (hI:jV g=true) {f:Fr} (hi:xO g f):∀ {d k:Nat},k+d=g.n.toNat→k<g.n.toNat→aq p k∉f.pl→aq p (g.n.toNat - 1)∉f.pl
 |0,k,h1,h2,_=>by omega
 |d+1,k,h1,h2,h3=>by
  have hm:=aE h.1
  have hx:=aJ h.2.1 h2
  by_cases hs:bF p (aq p k)= []
  ·rw [(eo h hI hx).1 hs] at h3;exact h3
  ·obtain ⟨e,u,he⟩:=gN hs
   have o8:e∈bu g (aq p k):=(bN h.2.1 hx.1 hx.2).mem_iff.1 (by rw [he];simp)
   obtain ⟨qd,we⟩:=cI.1 o8
   have hh:=cW hm (i:=e.toNat) (by omega)
   obtain ⟨k',hk',e'⟩:=fu h.2.1 hh.1 hh.2
   obtain ⟨j,hj,e2⟩:=sX h qd hk' e'.symm
   have:j=k:=dM h.2.1 (by omega) h2 (e2.trans we)
   refine uu h hI hi (d:=g.n.toNat - k') (k:=k') (by omega) hk' fun h4=> ?_
   have:=hi.low e.toNat (by omega) (e' ▸ h4)
   have h5:tl g e.toNat=aq p k:=we
   exact h3 (h5 ▸ this)
 termination_by d=>d
theorem lH.nd {k:Nat} {W D:List Int} (h:lH g p k W D):W.Nodup:=by
 obtain ⟨f,hi,_,rfl,_⟩:=h;exact D2 hi
theorem lH.mem (h:bM g p) {k:Nat} {W D:List Int} (hr:lH g p k W D) (e:Int):e∈W↔(0≤e∧e<g.es.length)∧iB g e∈D∧jj g e∉D:=by
 have hm:=aE h.1
 obtain ⟨f,hi,rfl,rfl,hc,_⟩:=hr
 constructor
 ·intro he
  obtain ⟨t,ht,rfl⟩:=List.mem_map.1 he
  obtain ⟨h1,h2,h3⟩:=oW hm hi.togI ht
  obtain ⟨h4,h5⟩:=iV.1 ht
  exact ⟨h1,h2 ▸ hi.tail t h4 h5,h3 ▸ hi.head t h4 h5⟩
 ·rintro ⟨h1,h2,h3⟩
  obtain ⟨t,h4,h5⟩:=Al h.1 h.2.1 hi hc (i:=e.toNat) (by omega) h2 h3
  exact List.mem_map.2 ⟨t,iV.2 ⟨h4,by omega⟩,by omega⟩
theorem lH.next (h:bM g p) {k:Nat} {W D:List Int} (hr:lH g p (k+1) W D):∃x A C,W=A++(bC g p).ins x++C∧(bC g p).ins x≠ []:=by
 have hm:=aE h.1
 obtain ⟨f,hi,rfl,rfl,⟨x,hR,hg,_⟩,_,hs⟩:=hr
 obtain ⟨x0,x1,x2⟩:=aT hR
 have hx:nw g x:=⟨x0,x1⟩
 have hn:bt g x≠0:=fun h0=>by
  have:=oL h.1 (x:=x) (y:=aq p 0) hx (hi.DG _ hs) h0 (fS h)
  exact x2 (this ▸ hs)
 obtain ⟨a,c,e1,_,_,_,hl,_⟩:=vJ hm hi.togI hR hn (bF p x)
 refine ⟨x,a.map (·.1),c.map (·.1), ?_, ?_⟩
 ·rw [jk hx, ← hg,e1,List.map_append,List.map_append];rfl
 ·rw [jk hx]
  intro h0
  have:=jW h hx
  rw [h0] at this
  exact hn this.symm
theorem lH.step (h:bM g p) {k:Nat} {W D A C:List Int} {x:Int} (hr:lH g p k W D) (hW:W=A++(bC g p).ins x++C) (hI:(bC g p).ins x≠ []):∃k',k=k'+1∧lH g p k' (A++(bC g p).outs x++C) (D++ [x]):=by
 have hm:=aE h.1
 have hx:nw g x:=Decidable.byContradiction fun h0=>hI (oU h0)
 have b8:=hr.nd
 have hmem:=lH.mem h hr
 rw [jk hx] at hW hI
 rw [gP hx]
 obtain ⟨i1,i2⟩:=lI h hx
 obtain ⟨e0,u0,FH⟩:=gN hI
 have Ou:x∉D:=by
  have h1:=(i2 e0).1 (by rw [FH];simp)
  have h2:=(hmem e0).1 (by rw [hW,FH];simp)
  rw [h1.2] at h2;exact h2.2.2
 obtain ⟨f,hi,rfl,Ov,hc,hD,hs⟩:=hr
 rw [Ov] at hW b8
 obtain ⟨l1,c,e1,e2,e3⟩:=List.map_eq_append_iff.1 hW
 obtain ⟨a,X,e4,e5,e6⟩:=List.map_eq_append_iff.1 e2
 have hrow:iJ f.row=a++X++c:=by rw [e1,e4]
 rw [hrow,List.map_append,List.map_append,e5,e6,e3] at b8
 have hit:∀t∈a++X++c,(0≤t.1∧t.1<g.es.length)∧t.2.1=iB g t.1∧t.2.2=jj g t.1:=fun t ht=>oW hm hi.togI (by rw [hrow];exact ht)
 have hX:vH x X:=fun t ht=>by
  have h1:t.1∈cH g p x:=by rw [← e6];exact List.mem_map_of_mem ht
  rw [(hit t (by simp [ht])).2.2,((i2 _).1 h1).2]
 have hin:∀t∈a++X++c,t.2.2=x→t.1∈cH g p x:=fun t ht e=>by
  obtain ⟨h1,_,h3⟩:=hit t ht
  exact (i2 _).2 ⟨h1,by rw [← h3,e]⟩
 have ha:fC x a:=fun t ht e=>by
  have h1:=hin t (by simp [ht]) e
  have h2:t.1∈A:=by rw [← e5];exact List.mem_map_of_mem ht
  exact (List.nodup_append.1 (List.nodup_append.1 b8).1).2.2 _ h2 _ h1 rfl
 have Ow:fC x c:=fun t ht e=>by
  have h1:=hin t (by simp [ht]) e
  have h2:t.1∈C:=by rw [← e3];exact List.mem_map_of_mem ht
  exact (List.nodup_append.1 b8).2.2 _ (List.mem_append.2 (.inr h1)) _ h2 rfl
 have Nj:X.length=bt g x:=by rw [← jW h hx, ← e6,List.length_map]
 have nX:X≠ []:=fun h0=>hI (by rw [← e6,h0];rfl)
 have hR:=DY hm hi.togI hx.1 hx.2 Ou hrow ha Ow hX nX Nj
 have hn:bt g x≠0:=fun h0=>nX (List.eq_nil_of_length_eq_zero (Nj.trans h0))
 have px:=bN h.2.1 hx.1 hx.2
 cases k with
 |zero=>exact absurd (jT hi.togI (by omega) hx) Ou
 |succ k=>
  refine ⟨k,rfl,ug g p f x,jS hm hi hR px,rfl, ?_,(uq h.1 h.2.1 hi (by omega) hc hR).2, ?_,List.mem_append.2 (.inl hs)⟩
  ·have:=FZ hm hi.togI hR hn hrow ha Ow hX nX (bF p x)
   show _=(iJ (aA g f x (bF p x)).2.row).map (·.1)
   rw [this,List.map_append,List.map_append,e5,e3,mq (fun i hi=>by
    have:=cI.1 (px.mem_iff.1 hi);exact this.1.1),List.map_map]
   have e7:((fun t:It=>t.1) ∘ fm g x)=id:=rfl
   rw [e7,List.map_id]
  ·show (((f.pl++ [x]).length:Nat):Int)+_=_
   rw [List.length_append,List.length_singleton];omega
theorem BN (h:bM g p):lH g p (g.n.toNat - 1) (bF p (aq p 0)) [aq p 0]:=by
 have hm:=aE h.1
 have hn:=aU hm
 have hx:=aJ h.2.1 (k:=0) (by omega)
 obtain ⟨hi,gw,_⟩:=de hm h.2.1 (k:=1) (by omega) fun j hj=>h.2.2 j (by omega)
 have px:=bN h.2.1 hx.1 hx.2
 have hno:fC (aq p 0) (fK g p 0).row:=fun t ht=>by cases ht
 have hf:fK g p 1=⟨aL g (aq p 0) (bF p (aq p 0)), [aq p 0]⟩:=by
  show (aA g (fK g p 0) (aq p 0) _).2=_
  rw [gW _ hno]
  show (⟨_++ [], []++ [_]⟩:Fr)=_
  simp
 refine ⟨fK g p 1,hi,by rw [hf], ?_,ur h (by omega),by simp;omega,by simp⟩
 rw [hf]
 show _=(iJ (aL g (aq p 0) (bF p (aq p 0)))).map (·.1)
 rw [mq (fun i hi=>(cI.1 (px.mem_iff.1 hi)).1.1),List.map_map]
 have e7:((fun t:It=>t.1) ∘ fm g (aq p 0))=id:=rfl
 rw [e7,List.map_id]
theorem Ao (h:bM g p) (hI:jV g=true):(bC g p).Ok:=by
 have hm:=aE h.1
 have hn:=aU hm
 have h0:nw g (aq p 0):=aJ h.2.1 (by omega)
 exact {
  cq:=fun x e=>by
   show _↔(0≤e∧e<g.es.length)∧iB g e=x
   by_cases hx:nw g x
   ·rw [gP hx,(bN h.2.1 hx.1 hx.2).mem_iff];exact cI
   ·rw [oV hx]
    refine ⟨fun h=>by (cases h),fun ⟨h1,h2⟩=>absurd ?_ hx⟩
    rw [← h2];exact bX hm (i:=e.toNat) (by omega)
  cA:=fun x e=>by
   show _↔(0≤e∧e<g.es.length)∧jj g e=x
   by_cases hx:nw g x
   ·rw [jk hx];exact (lI h hx).2 e
   ·rw [oU hx]
    refine ⟨fun h=>by (cases h),fun ⟨h1,h2⟩=>absurd ?_ hx⟩
    rw [← h2];exact cW hm (i:=e.toNat) (by omega)
  kA:=fun x=>by
   by_cases hx:nw g x
   ·rw [gP hx,(bN h.2.1 hx.1 hx.2).nodup_iff];exact dc
   ·rw [oV hx];exact List.nodup_nil
  vn:=fun x=>by
   by_cases hx:nw g x
   ·rw [jk hx];exact (lI h hx).1
   ·rw [oU hx];exact List.nodup_nil
  nk:=fun e he=>by
   have he:0≤e∧e<g.es.length:=he
   have hh:=cW hm (i:=e.toNat) (by omega)
   obtain ⟨k,hk,e1⟩:=fu h.2.1 hh.1 hh.2
   obtain ⟨j,hj,e2⟩:=sX h he hk e1.symm
   show DZ g p (iB g e)<DZ g p (jj g e)
   have e3:jj g e=aq p k:=e1.symm
   rw [← e2,e3,Am hm h.2.1 hk,Am hm h.2.1 (by omega)]
   exact hj
  FP:=by
   show lH g p (g.n.toNat - 1) ((bC g p).outs (aq p 0)) [aq p 0]
   rw [gP h0];exact BN h
  sx:=fun hr=>lH.nd hr
  fW:=fun hr e=>lH.mem h hr e
  lF:=fun hr=>lH.next h hr
  oz:=fun hr h1 h2=>lH.step h hr h1 h2
  l7:=fun {W D} hr e he=>by
   obtain ⟨f,hi,rfl,_,_,hD,_⟩:=hr
   exact jT hi.togI (by omega) (cW hm (i:=e.toNat) (by have:=he.1;have:=he.2;have:e<g.es.length:=he.2;omega))
  vo:=fun {k W D} hr=>by obtain ⟨f,hi,rfl,_,_,_,hs⟩:=hr;exact hs
  qH:=fun {k W D} hr hs=>by
   obtain ⟨f,hi,rfl,_,_,hD,_⟩:=hr
   refine Decidable.byContradiction fun hk=> ?_
   have:∃k',k'<g.n.toNat∧aq p k'∉f.pl:=by
    refine Decidable.byContradiction fun hall=> ?_
    have hall:∀k',k'<g.n.toNat→aq p k'∈f.pl:=fun k' hk'=>Decidable.byContradiction fun h1=>hall ⟨k',hk',h1⟩
    have:=eW (l:=p.ord) (m:=f.pl) (sQ h.2.1) fun x hx=>by
     have hx:=dS.1 (h.2.1.2.1.mem_iff.1 hx)
     obtain ⟨k',h1,rfl⟩:=fu h.2.1 hx.1 (by omega)
     exact hall k' h1
    rw [bQ h.2.1] at this
    omega
   obtain ⟨k',h1,h2⟩:=this
   exact uu h hI hi (d:=g.n.toNat - k') (by omega) h1 h2 hs
  vp:=by
   show (bC g p).ins (aq p 0)= []
   rw [jk h0]
   have:=jW h h0
   rw [fS h] at this
   exact List.eq_nil_of_length_eq_zero this
  l8:=fun x hx=>by
   have EY:nw g x:=Decidable.byContradiction fun h0=>hx (oU h0)
   rw [gP EY]
   exact eo h hI EY}
end
end Go.Ab
end
section
namespace Go.Ab
open Go.Proofs
attribute [local congr] ACall.congr gd.congr Nx.congr
set_option maxRecDepth 20000
set_option maxHeartbeats 8000000
def Lj (g:Gr) (st:List Int) (x:Nat) (l:List Int):Nat→List Int
 |0=>st
 |j+1=>(Lj g st x l j).set x (max ((Lj g st x l j).getD x 0) ((Lj g st x l j).getD (iB g (l.getD j 0)).toNat 0+1))
def Ox (g:Gr):Nat→List Int
 |0=>List.replicate g.n.toNat 0
 |k+1=>Lj g (Ox g k) ((FK g).getD k 0).toNat (aY (fun e=>e.2) g.es g.es.length ((FK g).getD k 0)) (aY (fun e=>e.2) g.es g.es.length ((FK g).getD k 0)).length
def Oy (g:Gr):List Int:=Ox g (FK g).length
end Go.Ab
end
section
namespace Go.Ab
open Go.Proofs
set_option maxRecDepth 10000
set_option linter.unusedSectionVars false
structure Qs (g:Gr) (st:List Int) (D:List Int):Prop where
 out:∀v:Nat,(v:Int)∉D→st.getD v 0=0
 up:∀i,i<g.es.length→hd g i∈D→st.getD (tl g i).toNat 0+1≤st.getD (hd g i).toNat 0
 why:∀v:Nat,(v:Int)∈D→st.getD v 0=0∨∃i,i<g.es.length∧hd g i=v∧st.getD v 0=st.getD (tl g i).toNat 0+1
end Go.Ab
end
section
namespace Go.Ab
set_option maxRecDepth 10000
set_option linter.unusedSectionVars false
variable {P:PS}
structure PS.Hi (P:PS) (R:Int→Int) (f0 f1:Int) (hi:Int→Int):Prop where
 mid:∀ {x u a b v},P.ins x=u++a::b::v→hi (R a)=x
 h0:hi f0=P.DD
 h1:hi f1=P.DD
def PS.H9 (P:PS) (a:Int):Prop:=∃x u b v,P.outs x=u++a::b::v
section
variable (h:P.Ok) {L R:Int→Int} {f0 f1:Int} {low:Int→Int} (F:P.gm L R f0 f1 low)
include h F
theorem PS.Hi.Ca {hi:Int→Int} (H:P.Hi R f0 f1 hi):P.Ca.Hi L f1 f0 hi:=
 {mid:=fun {x u a b v} e=>by
   have e:=gV (show (P.ins x).reverse=_ from e)
   rw [← F.sD e];exact H.mid e
  h0:=H.h1
  h1:=H.h0}
theorem D3 {a:Int} (ha:P.H9 a):P.E a∧low (R a)=P.tl a∧R a≠f0∧R a≠f1:=by
 obtain ⟨x,u,b,v,e⟩:=ha
 obtain ⟨h1,h2⟩:=(h.cq x a).1 (by rw [e];simp)
 obtain ⟨h3,h4,h5⟩:=F.new e
 exact ⟨h1,by rw [h3,h2],h4,h5⟩
theorem F3 {a a':Int} (ha:P.H9 a) (Fw:P.H9 a') (e:R a=R a'):a=a':=by
 have t1:=(D3 h F ha).2.1
 have t2:=(D3 h F Fw).2.1
 obtain ⟨x,u,b,v,e1⟩:=ha
 obtain ⟨x',u',b',v',e2⟩:=Fw
 obtain ⟨_,h2⟩:=(h.cq x a).1 (by rw [e1];simp)
 obtain ⟨_,h3⟩:=(h.cq x' a').1 (by rw [e2];simp)
 have:x=x':=by rw [← h2, ← h3, ← t1, ← t2,e]
 subst this
 exact F.new1 e1 e2 e
theorem pR {e:Int} (he:P.E e) (hs:P.tl e≠P.src):P.ins (P.tl e)≠ []:=by
 obtain ⟨i,hi,rfl⟩:=vu h he
 obtain ⟨k,hr⟩:=yZ h (Nat.le_of_lt hi)
 obtain ⟨B,hB⟩:=vt h hi
 have hm:=(h.fW hr (P.sh i)).1 (by rw [hB];simp)
 obtain ⟨j,B,_,_,_,⟨u,hu⟩,_⟩:=ua h F hs (Nat.le_of_lt hi) hm.2.1
 rw [hu];simp
variable {L' R':Int→Int} {Oz OA:Int} {low':Int→Int} (F':P.gm L' R' Oz OA low')
include F'
theorem D4:∀ {d:Nat} {e:Int},P.xG (P.tl e)<d→P.E e→(R e=f1∧R' e=OA)∨∃a,P.H9 a∧P.xG (P.tl a)≤P.xG (P.tl e)∧R e=R a∧R' e=R' a
 |0,e,hd,_=>by omega
 |d+1,e,hd,he=>by
  have hem:=(h.cq (P.tl e) e).2 ⟨he,rfl⟩
  obtain ⟨u,v,hu⟩:=List.append_of_mem hem
  cases v with
  |cons b v=>exact .inr ⟨e,⟨_,u,b,v,hu⟩,Nat.le_refl _,rfl,rfl⟩
  |nil=>
   by_cases hs:P.tl e=P.src
   ·rw [hs] at hu
    exact .inl ⟨F.s1 hu,F'.s1 hu⟩
   ·obtain ⟨w,c,hw⟩:=c7 (pR h F he hs)
    have e1:=F.EX hw hu
    have e2:=F'.EX hw hu
    obtain ⟨hc,hh⟩:=(h.cA (P.tl e) c).1 (by rw [hw];simp)
    have hp:=h.nk c hc
    rw [hh] at hp
    rw [← e1, ← e2]
    rcases D4 (d:=d) (e:=c) (by omega) hc with h1|⟨a,h1,h2,h3⟩
    ·exact .inl h1
    ·exact .inr ⟨a,h1,by omega,h3⟩
theorem GU:∀ {d:Nat} {e:Int},P.xG (P.tl e)<d→P.E e→(L e=f0∧L' e=Oz)∨∃a,P.H9 a∧L e=R a∧L' e=R' a
 |0,e,hd,_=>by omega
 |d+1,e,hd,he=>by
  have hem:=(h.cq (P.tl e) e).2 ⟨he,rfl⟩
  obtain ⟨u,v,hu⟩:=List.append_of_mem hem
  rcases List.eq_nil_or_concat u with rfl|⟨u',b,rfl⟩
  ·by_cases hs:P.tl e=P.src
   ·rw [hs] at hu
    exact .inl ⟨F.s0 hu,F'.s0 hu⟩
   ·obtain ⟨c,w,hw⟩:=gN (pR h F he hs)
    have e1:=F.fst hw hu
    have e2:=F'.fst hw hu
    obtain ⟨hc,hh⟩:=(h.cA (P.tl e) c).1 (by rw [hw];simp)
    have hp:=h.nk c hc
    rw [hh] at hp
    rw [← e1, ← e2]
    exact GU (d:=d) (e:=c) (by omega) hc
  ·have hu:P.outs (P.tl e)=u'++b::e::v:=by rw [hu];simp
   exact .inr ⟨b,⟨_,u',e,v,hu⟩,(F.fX hu).symm,(F'.fX hu).symm⟩
end
section
variable (h:P.Ok) {L R:Int→Int} {f0 f1:Int} {low:Int→Int} (F:P.gm L R f0 f1 low)
include h F
variable {hi:Int→Int} (H:P.Hi R f0 f1 hi)
include H
end
def Nv (t h:Int→Int) (l:List Int) (x:Int):Int:=match l.find? (fun i=>decide (t i=x)) with
 |some i=>h i
 |none=>x
def Nw (t h:Int→Int) (l:List Int) (x:Int):Nat→Int
 |0=>x
 |k+1=>Nv t h l (Nw t h l x k)
section
variable (h:P.Ok) {L R:Int→Int} {f0 f1:Int} {low:Int→Int} (F:P.gm L R f0 f1 low) {hi:Int→Int} (H:P.Hi R f0 f1 hi)
include h F H
end
end Go.Ab
end
section
namespace Go.Ab
open Go.Proofs
set_option maxRecDepth 10000
set_option linter.unusedSectionVars false
section
variable (g:Gr) (p:Pl)
def cK:Nat→Nat
 |0=>1
 |k+1=>cK k+((bF p (aq p k)).length - 1)
def Ia (e:Int):Nat:=(bF p (iB g e)).findIdx (fun i=>decide (i=e))
def er (x:Int):Int:=(cH g p x).headD 0
def mM (x:Int):Int:=(cH g p x).getLastD 0
def LK:Nat→Int→Int
 |0,_=>0
 |k+1,e=>if iB g e=aq p k then (if Ia g p e=0 then (if k=0 then 0 else LK k (er g p (aq p k))) else (cK p k:Int)+Ia g p e - 1) else LK k e
def RK (r:Int):Nat→Int→Int
 |0,_=>0
 |k+1,e=>if iB g e=aq p k then (if Ia g p e+1<(bF p (aq p k)).length then (cK p k:Int)+Ia g p e else (if k=0 then r else RK r k (mM g p (aq p k)))) else RK r k e
def iC:Nat→List Int
 |0=> [aq p 0]
 |k+1=>iC k++List.replicate ((bF p (aq p k)).length - 1) (aq p k)
end
section
variable {g:Gr} {p:Pl}
theorem gq:∀ {k:Nat},(iC p k).length=cK p k
 |0=>rfl
 |k+1=>by rw [iC,List.length_append,List.length_replicate,gq,cK]
theorem pS:∀ {k:Nat},0<cK p k
 |0=>by simp [cK]
 |k+1=>by rw [cK];have:= @pS k;omega
theorem qL {k:Nat} :∀ {d:Nat},cK p k≤cK p (k+d)
 |0=>Nat.le_refl _
 |d+1=>by
  have:= @qL k d
  show _≤cK p (k+d+1)
  rw [cK];omega
theorem uv {k:Nat} {f:Nat} (hf:f<cK p k):∀ {d:Nat},(iC p (k+d)).getD f 0=(iC p k).getD f 0
 |0=>rfl
 |d+1=>by
  show (iC p (k+d+1)).getD f 0=_
  have:=qL (p:=p) (k:=k) (d:=d)
  rw [iC,List.getD_eq_getElem?_getD,List.getElem?_append_left (by rw [gq];omega), ← List.getD_eq_getElem?_getD,uv hf]
theorem D5 {k f:Nat} (h1:cK p k≤f) (h2:f<cK p (k+1)):(iC p (k+1)).getD f 0=aq p k:=by
 rw [iC,List.getD_eq_getElem?_getD,List.getElem?_append_right (by rw [gq];exact h1),List.getElem?_replicate,gq,if_pos (by rw [cK] at h2;omega)]
 rfl
variable (h:bM g p)
include h
theorem nE {k:Nat} (hk:k<g.n.toNat) {u v:List Int} {e:Int} (he:bF p (aq p k)=u++e::v):iB g e=aq p k∧Ia g p e=u.length:=by
 have hx:=aJ h.2.1 hk
 have px:=bN h.2.1 hx.1 hx.2
 have h1:=(cI.1 (px.mem_iff.1 (show e∈bF p (aq p k) by rw [he];simp))).2
 have h1:iB g e=aq p k:=h1
 refine ⟨h1, ?_⟩
 have b8:(bF p (aq p k)).Nodup:=px.nodup_iff.2 dc
 unfold Ia
 rw [h1,he]
 rw [he,List.nodup_append] at b8
 rw [List.findIdx_append]
 have h2:u.findIdx (fun i=>decide (i=e))=u.length:=by
  rw [List.findIdx_eq_length]
  intro i hi
  exact decide_eq_false fun e2=>b8.2.2 i hi e (by simp) e2
 rw [h2,if_neg (by omega)]
 simp [List.findIdx_cons]
theorem Ap {e:Int} {k:Nat} (hk:k<g.n.toNat) (he:iB g e=aq p k):∀ {d:Nat},k+1+d≤g.n.toNat→LK g p (k+1+d) e=LK g p (k+1) e
 |0,_=>rfl
 |d+1,hd=>by
  show LK g p (k+1+d+1) e=_
  rw [LK,if_neg (fun e2=>by have:=dM h.2.1 hk (show k+1+d<g.n.toNat by omega) (he.symm.trans e2);omega),Ap hk he (by omega)]
theorem Aq {r:Int} {e:Int} {k:Nat} (hk:k<g.n.toNat) (he:iB g e=aq p k):∀ {d:Nat},k+1+d≤g.n.toNat→RK g p r (k+1+d) e=RK g p r (k+1) e
 |0,_=>rfl
 |d+1,hd=>by
  show RK g p r (k+1+d+1) e=_
  rw [RK,if_neg (fun e2=>by have:=dM h.2.1 hk (show k+1+d<g.n.toNat by omega) (he.symm.trans e2);omega),Aq hk he (by omega)]
theorem lJ {e:Int} {k:Nat} (hk:k<g.n.toNat) (he:iB g e=aq p k) {j:Nat} (h1:k+1≤j) (h2:j≤g.n.toNat):LK g p j e=LK g p (k+1) e:=by
 obtain ⟨d,rfl⟩:=Nat.exists_eq_add_of_le h1
 exact Ap h hk he h2
theorem gB {r:Int} {e:Int} {k:Nat} (hk:k<g.n.toNat) (he:iB g e=aq p k) {j:Nat} (h1:k+1≤j) (h2:j≤g.n.toNat):RK g p r j e=RK g p r (k+1) e:=by
 obtain ⟨d,rfl⟩:=Nat.exists_eq_add_of_le h1
 exact Aq h hk he h2
theorem vK {k:Nat} (hk:k<g.n.toNat) {v:List Int} {e:Int} (he:bF p (aq p k)=e::v) {j:Nat} (h1:k+1≤j) (h2:j≤g.n.toNat):LK g p j e=if k=0 then 0 else LK g p k (er g p (aq p k)):=by
 obtain ⟨a,b⟩:=nE h hk (u:= []) he
 rw [lJ h hk a h1 h2,LK,if_pos a,if_pos (show Ia g p e=0 from b)]
theorem Ar {k:Nat} (hk:k<g.n.toNat) {u v:List Int} {e:Int} (he:bF p (aq p k)=u++e::v) (hu:u≠ []) {j:Nat} (h1:k+1≤j) (h2:j≤g.n.toNat):LK g p j e=(cK p k:Int)+u.length - 1:=by
 obtain ⟨a,b⟩:=nE h hk he
 have:=List.length_pos_iff.2 hu
 rw [lJ h hk a h1 h2,LK,if_pos a,if_neg (by omega),b]
theorem sY {r:Int} {k:Nat} (hk:k<g.n.toNat) {u:List Int} {e:Int} (he:bF p (aq p k)=u++ [e]) {j:Nat} (h1:k+1≤j) (h2:j≤g.n.toNat):RK g p r j e=if k=0 then r else RK g p r k (mM g p (aq p k)):=by
 obtain ⟨a,b⟩:=nE h hk he
 rw [gB h hk a h1 h2,RK,if_pos a,if_neg (by rw [b,he];simp)]
theorem iW {r:Int} {k:Nat} (hk:k<g.n.toNat) {u v:List Int} {e c:Int} (he:bF p (aq p k)=u++e::c::v) {j:Nat} (h1:k+1≤j) (h2:j≤g.n.toNat):RK g p r j e=(cK p k:Int)+u.length:=by
 obtain ⟨a,b⟩:=nE h hk he
 rw [gB h hk a h1 h2,RK,if_pos a,if_pos (by rw [b,he];simp),b]
theorem pT {x:Int} {a:Int} {u:List Int} (hu:cH g p x=a::u):er g p x=a:=by unfold er;rw [hu];rfl
theorem lK {x:Int} {a:Int} {u:List Int} (hu:cH g p x=u++ [a]):mM g p x=a:=by unfold mM;rw [hu];simp
theorem As {k:Nat} (hk:k<g.n.toNat) (hI:cH g p (aq p k)≠ []):k≠0:=fun h0=>by
 subst h0
 have:=jW h (aJ h.2.1 hk)
 rw [fS h] at this
 exact hI (List.eq_nil_of_length_eq_zero this)
theorem x3 {k:Nat} (hk:k<g.n.toNat) {a:Int} (ha:a∈cH g p (aq p k)):∃j,j<k∧iB g a=aq p j:=by
 obtain ⟨h1,h2⟩:=((lI h (aJ h.2.1 hk)).2 a).1 ha
 obtain ⟨j,h3,h4⟩:=sX h h1 hk h2
 exact ⟨j,h3,h4.symm⟩
def WK (g:Gr) (p:Pl) (k:Nat):List Int:=(iJ (fK g p k).row).map (·.1)
theorem sZ (hn:0<g.n.toNat):WK g p 1=bF p (aq p 0):=by
 have hx:=aJ h.2.1 hn
 have px:=bN h.2.1 hx.1 hx.2
 have hno:fC (aq p 0) (fK g p 0).row:=fun t ht=>by cases ht
 have hf:(fK g p 1).row=aL g (aq p 0) (bF p (aq p 0)):=by
  show (aA g (fK g p 0) (aq p 0) _).2.row=_
  rw [gW _ hno]
  show _++ []=_
  simp
 unfold WK
 rw [hf,mq (fun i hi=>(cI.1 (px.mem_iff.1 hi)).1.1),List.map_map]
 have e7:((fun t:It=>t.1) ∘ fm g (aq p 0))=id:=rfl
 rw [e7,List.map_id]
theorem mu {k:Nat} (h0:k≠0) (hk:k<g.n.toNat):∃A C,WK g p k=A++cH g p (aq p k)++C∧cH g p (aq p k)≠ []∧WK g p (k+1)=A++bF p (aq p k)++C:=by
 have hm:=aE h.1
 obtain ⟨hi,gw,_⟩:=de hm h.2.1 (k:=k) (by omega) fun j hj=>h.2.2 j (by omega)
 have hR:=h.2.2 k hk
 have hx:=aJ h.2.1 hk
 have px:=bN h.2.1 hx.1 hx.2
 have hn:bt g (aq p k)≠0:=fun hz=>by
  have Qt:=aJ h.2.1 (show 0<g.n.toNat by omega)
  have:=oL h.1 hx Qt hz (fS h)
  exact h0 (dM h.2.1 hk (by omega) this)
 obtain ⟨a,c,e1,_,_,_,hl,e2⟩:=vJ hm hi.togI hR hn (bF p (aq p k))
 refine ⟨a.map (·.1),c.map (·.1), ?_, ?_, ?_⟩
 ·rw [An h hk];unfold WK;rw [e1,List.map_append,List.map_append];rfl
 ·intro h1
  have:=jW h hx
  rw [h1] at this
  exact hn this.symm
 ·unfold WK
  show (iJ (aA g (fK g p k) (aq p k) _).2.row).map (·.1)=_
  rw [e2,List.map_append,List.map_append,mq (fun i hi=>(cI.1 (px.mem_iff.1 hi)).1.1),List.map_map]
  have e7:((fun t:It=>t.1) ∘ fm g (aq p k))=id:=rfl
  rw [e7,List.map_id]
theorem qM {k:Nat} (hk:k≤g.n.toNat) {a:Int} (ha:a∈WK g p k):∃j,j<k∧iB g a=aq p j:=by
 have hm:=aE h.1
 obtain ⟨hi,gw,_⟩:=de hm h.2.1 (k:=k) (by omega) fun j hj=>h.2.2 j (by omega)
 obtain ⟨t,ht,rfl⟩:=List.mem_map.1 ha
 obtain ⟨h1,h2,_⟩:=oW hm hi.togI ht
 obtain ⟨h4,h5⟩:=iV.1 ht
 have:=hi.tail t h4 h5
 rw [gw,h2] at this
 obtain ⟨j,hj,e⟩:=Ak (by rw [bQ h.2.1];omega) this
 exact ⟨j,hj,e.symm⟩
theorem Au {r:Int} {k:Nat} (hk:k<g.n.toNat) {j:Nat} (h1:k+1≤j) (h2:j≤g.n.toNat):gH (LK g p j) (RK g p r j) (if k=0 then 0 else LK g p k (er g p (aq p k))) (bF p (aq p k)):=by
 refine sF (fun u a b v e=> ?_) fun a u e=>vK h hk e h1 h2
 rw [iW h hk e h1 h2,Ar h hk (u:=u++ [a]) (v:=v) (e:=b) (by rw [e];simp) (by simp) h1 h2]
 simp;omega
theorem Av {r:Int} {k:Nat} (hk:k<g.n.toNat) {j:Nat} (h1:k+1≤j) (h2:j≤g.n.toNat) (hO:bF p (aq p k)≠ []) (f:Int):jf (RK g p r j) f (bF p (aq p k))=if k=0 then r else RK g p r k (mM g p (aq p k)):=by
 obtain ⟨v,b,hv⟩:=c7 hO
 rw [hv,fN,sY h hk hv h1 h2]
theorem lM {L R L' R':Int→Int} :∀ {W:List Int} {f:Int},(∀a∈W,L a=L' a∧R a=R' a)→(gH L R f W↔gH L' R' f W)
 | [],_,_=>Iff.rfl
 |a::W,f,hh=>by
  have h1:=hh a (List.mem_cons_self ..)
  simp only [gH,h1.1,h1.2,lM (W:=W) fun b hb=>hh b (List.mem_cons_of_mem _ hb)]
theorem s4 {R R':Int→Int} :∀ {W:List Int} {f:Int},(∀a∈W,R a=R' a)→jf R f W=jf R' f W
 | [],_,_=>rfl
 |a::W,f,hh=>by
  simp only [jf,hh a (List.mem_cons_self ..),s4 (W:=W) fun b hb=>hh b (List.mem_cons_of_mem _ hb)]
theorem zi {r:Int} (hI:jV g=true):∀ {k:Nat},1≤k→k<g.n.toNat→WK g p k≠ []→gH (LK g p k) (RK g p r k) 0 (WK g p k)∧jf (RK g p r k) 0 (WK g p k)=r
 |0,h1,_,_=>by omega
 |k+1,_,hk,hW=>by
  by_cases h0:k=0
  ·subst h0
   rw [sZ h (by omega)] at hW ⊢
   have a:=Au (r:=r) h (k:=0) (by omega) (j:=1) (Nat.le_refl _) (by omega)
   have b:=Av (r:=r) h (k:=0) (by omega) (j:=1) (Nat.le_refl _) (by omega) hW 0
   rw [if_pos rfl] at a b
   exact ⟨a,b⟩
  ·obtain ⟨A,C,e1,hne,e2⟩:=mu h h0 (show k<g.n.toNat by omega)
   obtain ⟨l1,l2⟩:=zi hI (k:=k) (by omega) (by omega) (by rw [e1];simp [hne])
   have hO:bF p (aq p k)≠ []:=fun h1=>by
    have:=(eo h hI (aJ h.2.1 (show k<g.n.toNat by omega))).1 h1
    have:=dM h.2.1 (show k<g.n.toNat by omega) (by omega) this
    omega
   have zj:∀a∈WK g p k,LK g p (k+1) a=LK g p k a∧RK g p r (k+1) a=RK g p r k a:=fun a ha=>by
    obtain ⟨j,hj,e⟩:=qM h (by omega) ha
    exact ⟨by rw [lJ h (by omega) e (j:=k+1) (by omega) (by omega),lJ h (by omega) e (j:=k) (by omega) (by omega)],by rw [gB h (by omega) e (j:=k+1) (by omega) (by omega),gB h (by omega) e (j:=k) (by omega) (by omega)]⟩
   rw [← lM h zj] at l1
   rw [← s4 h fun a ha=>(zj a ha).2] at l2
   rw [e1] at l1 l2 zj
   rw [e2]
   obtain ⟨a0,u0,FQ⟩:=gN hne
   obtain ⟨u,a,hu⟩:=c7 hne
   obtain ⟨l3,l5⟩:=cP.1 l1
   obtain ⟨l4,l6⟩:=cP.1 l3
   have Qu:LK g p (k+1) a0=jf (RK g p r (k+1)) 0 A:=by rw [FQ] at l6;exact l6.1
   have OB:∀f,jf (RK g p r (k+1)) f (cH g p (aq p k))=RK g p r k (mM g p (aq p k)):=fun f=>by
    rw [lK h hu,hu,fN,(zj a (by rw [hu];simp)).2]
   have hlk:=Au (r:=r) h (k:=k) (by omega) (j:=k+1) (Nat.le_refl _) (by omega)
   have Ny:=Av (r:=r) h (k:=k) (by omega) (j:=k+1) (Nat.le_refl _) (by omega) hO
   rw [if_neg h0] at hlk Ny
   rw [pT h FQ, ← (zj a0 (by rw [FQ];simp)).1,Qu] at hlk
   refine ⟨?_, ?_⟩
   ·rw [cP,cP,cZ,Ny]
    rw [cZ,OB] at l5
    exact ⟨⟨l4,hlk⟩,l5⟩
   ·rw [cZ,cZ,Ny]
    rw [cZ,cZ,OB] at l2
    exact l2
theorem nF (hI:jV g=true) {r:Int} (hr:r<0∨cK p g.n.toNat≤r):(bC g p).gm (LK g p g.n.toNat) (RK g p r g.n.toNat) 0 r (fun f=>(iC p g.n.toNat).getD f.toNat 0):=by
 have hm:=aE h.1
 have hn:=aU hm
 have FI:∀ {x:Int} {l:List Int},(bC g p).outs x=l→l≠ []→∃k,k<g.n.toNat∧aq p k=x∧bF p (aq p k)=l:=fun {x l} h1 h2=>by
  by_cases hx:nw g x
  ·obtain ⟨k,hk,rfl⟩:=fu h.2.1 hx.1 hx.2
   exact ⟨k,hk,rfl,by rw [← h1,gP hx]⟩
  ·rw [oV hx] at h1;exact absurd h1.symm h2
 have Nz:∀ {x:Int} {l:List Int},(bC g p).ins x=l→l≠ []→∃k,k<g.n.toNat∧aq p k=x∧cH g p (aq p k)=l:=fun {x l} h1 h2=>by
  by_cases hx:nw g x
  ·obtain ⟨k,hk,rfl⟩:=fu h.2.1 hx.1 hx.2
   exact ⟨k,hk,rfl,by rw [← h1,jk hx]⟩
  ·rw [oU hx] at h1;exact absurd h1.symm h2
 have h0:(bC g p).src=aq p 0:=rfl
 have Ji:∀k,0<cK p k:=fun k=>pS
 exact {
  ne:=by have:=Ji g.n.toNat;omega
  fX:=fun {x u a b v} e=>by
   obtain ⟨k,hk,_,e2⟩:=FI e (by simp)
   rw [iW h hk e2 (by omega) (Nat.le_refl _),Ar h hk (u:=u++ [a]) (v:=v) (e:=b) (by rw [e2];simp) (by simp) (by omega) (Nat.le_refl _)]
   simp;omega
  sD:=fun {x u a b v} e=>by
   obtain ⟨k,hk,_,e2⟩:=Nz e (by simp)
   have wT:=As h hk (by rw [e2];simp)
   obtain ⟨A,C,e1,hne,_⟩:=mu h wT hk
   have l1:=(zi (r:=r) h hI (k:=k) (by omega) hk (by rw [e1];simp [hne])).1
   have zj:∀a∈WK g p k,LK g p g.n.toNat a=LK g p k a∧RK g p r g.n.toNat a=RK g p r k a:=fun a ha=>by
    obtain ⟨j,hj,e⟩:=qM h (by omega) ha
    exact ⟨by rw [lJ h (by omega) e (j:=g.n.toNat) (by omega) (by omega),lJ h (by omega) e (j:=k) (by omega) (by omega)],by rw [gB h (by omega) e (j:=g.n.toNat) (by omega) (by omega),gB h (by omega) e (j:=k) (by omega) (by omega)]⟩
   rw [← lM h zj,e1,e2,show A++(u++a::b::v)++C=(A++u)++a::b::(v++C) by simp] at l1
   exact DE l1
  fst:=fun {x a u b v} e1 e2=>by
   obtain ⟨k,hk,hx,e3⟩:=FI e2 (by simp)
   have e4:cH g p (aq p k)=a::u:=by
    have EY:nw g x:=by rw [← hx];exact aJ h.2.1 hk
    rw [hx, ← jk EY];exact e1
   have wT:=As h hk (by rw [e4];simp)
   obtain ⟨j,hj,et⟩:=x3 h hk (a:=a) (by rw [e4];simp)
   rw [vK h hk e3 (by omega) (Nat.le_refl _),if_neg wT,pT h e4,lJ h (by omega) et (j:=g.n.toNat) (by omega) (Nat.le_refl _),lJ h (by omega) et (j:=k) (by omega) (by omega)]
  EX:=fun {x a u b v} e1 e2=>by
   obtain ⟨k,hk,hx,e3⟩:=FI e2 (by simp)
   have e4:cH g p (aq p k)=u++ [a]:=by
    have EY:nw g x:=by rw [← hx];exact aJ h.2.1 hk
    rw [hx, ← jk EY];exact e1
   have wT:=As h hk (by rw [e4];simp)
   obtain ⟨j,hj,et⟩:=x3 h hk (a:=a) (by rw [e4];simp)
   rw [sY h hk e3 (by omega) (Nat.le_refl _),if_neg wT,lK h e4,gB h (by omega) et (j:=g.n.toNat) (by omega) (Nat.le_refl _),gB h (by omega) et (j:=k) (by omega) (by omega)]
  s0:=fun {b v} e=>by
   obtain ⟨k,hk,hx,e3⟩:=FI e (by simp)
   have:k=0:=dM h.2.1 hk (by omega) hx
   rw [vK h hk e3 (by omega) (Nat.le_refl _),if_pos this]
  s1:=fun {b v} e=>by
   obtain ⟨k,hk,hx,e3⟩:=FI e (by simp)
   have:k=0:=dM h.2.1 hk (by omega) hx
   rw [sY h hk e3 (by omega) (Nat.le_refl _),if_pos this]
  new:=fun {x u a b v} e=>by
   obtain ⟨k,hk,hx,e3⟩:=FI e (by simp)
   have hR:=iW (r:=r) h hk e3 (j:=g.n.toNat) (by omega) (Nat.le_refl _)
   have hl:(bF p (aq p k)).length=u.length+(v.length+2):=by rw [e3];simp
   have GK:cK p (k+1)=cK p k+((bF p (aq p k)).length - 1):=rfl
   obtain ⟨d,hd⟩:=Nat.exists_eq_add_of_le (show k+1≤g.n.toNat by omega)
   have hmo:=qL (p:=p) (k:=k+1) (d:=d)
   rw [← hd] at hmo
   have:=Ji k
   refine ⟨?_,by omega,by omega⟩
   show (iC p g.n.toNat).getD (RK g p r g.n.toNat a).toNat 0=x
   rw [hR,show ((cK p k:Int)+(u.length:Int)).toNat=cK p k+u.length by omega,hd,uv (by omega),D5 (by omega) (by omega),hx]
  new1:=fun {x u a b v u' a' b' v'} e1 e2 e3=>by
   obtain ⟨k,hk,hx,e4⟩:=FI e1 (by simp)
   have e5:bF p (aq p k)=u'++a'::b'::v':=by
    have EY:nw g x:=by rw [← hx];exact aJ h.2.1 hk
    rw [hx, ← gP EY];exact e2
   rw [iW h hk e4 (by omega) (Nat.le_refl _),iW h hk e5 (by omega) (Nat.le_refl _)] at e3
   have hl:u.length=u'.length:=by omega
   rw [e4] at e5
   have:=(List.append_inj e5 hl).2
   simp only [List.cons.injEq] at this
   exact this.1}
end
end Go.Ab
end
