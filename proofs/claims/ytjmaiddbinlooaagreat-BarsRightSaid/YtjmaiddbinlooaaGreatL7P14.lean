/- A part of the proof. -/
import Derived.Test.YtjmaiddbinlooaaGreatL7P13
set_option linter.unusedSimpArgs false
set_option linter.unusedVariables false
section
namespace Go.Ab
open Go.Proofs
set_option maxRecDepth 10000
def BN (g:Gr) (t:It):Prop:=(t.1= -1∧t.2.2= -1)∨(0≤t.1∧t.1<g.es.length∧t.2.1=(g.es.getD t.1.toNat (0,0)).1∧t.2.2=(g.es.getD t.1.toNat (0,0)).2)
structure gV (g:Gr) (f:Fr):Prop where
 it:∀t∈f.row,BN g t
 pl:f.pl.Nodup
 HQ:∀x∈f.pl,0≤x∧x<g.n
theorem jT {row:List It} {x:Int} :∀k:Nat,(fu row x k).2.2=ig row x k
 |0=>rfl
 |k+1=>by
  rw [nI,gq]
  split
  ·show (fu row x k).2.2+1=_
   rw [jT k]
  ·exact jT k
theorem pR {row:List It} {x:Int} {j:Nat} :∀d:Nat,ig row x j≤ig row x (j+d)
 |0=>Int.le_refl _
 |d+1=>by
  have:=pR (row:=row) (x:=x) (j:=j) d
  rw [← Nat.add_assoc,gq]
  split<;>omega
theorem jU {row:List It} {x:Int} :∀ {k:Nat},(∀j,j<k→(row.getD j (0,0,0)).2.2≠x)→ig row x k=0
 |0,_=>rfl
 |k+1,h=>by
  rw [gq,if_neg (h k (by omega))]
  exact jU fun j hj=>h j (by omega)
theorem pS {row:List It} {x:Int} {b:Nat} :∀ {d:Nat},(∀j,b≤j→j<b+d→(row.getD j (0,0,0)).2.2≠x)→ig row x (b+d)=ig row x b
 |0,_=>rfl
 |d+1,h=>by
  rw [← Nat.add_assoc,gq,if_neg (h (b+d) (by omega) (by omega))]
  exact pS fun j h1 h2=>h j h1 (by omega)
theorem fA {f:Edge→Int} {g:Gr} {x:Int} (h0:0≤x) (h1:x<g.n):bk f g x=aD f g.es g.es.length x:=if_pos ⟨h0,h1⟩
theorem pT {g:Gr} {e:Int} (h0:0≤e) (h1:e<g.es.length):0<bE g (g.es.getD e.toNat (0,0)).2:=by
 refine List.length_pos_iff.2 fun h=> ?_
 have hm:e∈aD (·.2) g.es g.es.length (g.es.getD e.toNat (0,0)).2:=by
  simp only [aD,List.mem_map,List.mem_filter,List.mem_range,decide_eq_true_eq]
  exact ⟨e.toNat,⟨by omega,rfl⟩,by simp;omega⟩
 rw [h] at hm;cases hm
theorem uT {row:List It} {p:It→Bool} {a b:Nat} (hb:b≤row.length):((row.take b).drop a).any p=true↔∃j,a≤j∧j<b∧p (row.getD j (0,0,0))=true:=by
 rw [List.any_eq_true]
 constructor
 ·rintro ⟨t,ht,hp⟩
  obtain ⟨k,hk,rfl⟩:=List.mem_iff_getElem.1 ht
  simp only [List.length_drop,List.length_take] at hk
  refine ⟨a+k,by omega,by omega, ?_⟩
  rw [List.getD_eq_getElem?_getD,List.getElem?_eq_getElem (show a+k<row.length by omega)]
  simpa using hp
 ·rintro ⟨j,h1,h2,hp⟩
  rw [List.getD_eq_getElem?_getD,List.getElem?_eq_getElem (show j<row.length by omega)] at hp
  refine ⟨row[j], ?_,hp⟩
  refine List.mem_iff_getElem.2 ⟨j - a,by simp;omega, ?_⟩
  simp only [List.getElem_drop,List.getElem_take]
  congr 1;omega
theorem BN.head {g:Gr} (hm:aO g=true) {t:It} (h:BN g t):(0≤t.1↔t.2.2≠ -1)∧ -1≤t.2.2:=by
 rcases h with ⟨h1,h2⟩|⟨h1,h2,_,h4⟩
 ·omega
 ·obtain ⟨_,h5,_⟩:=dL hm (k:=t.1.toNat) (by omega)
  omega
theorem oP {g:Gr} (hm:aO g=true) {f:Fr} (hi:gV g f) (x:Int):gm g f x=aK g f x:=by
 by_cases hx:x<0∨g.n≤x∨x∈f.pl
 ·rw [gm,aK,if_pos hx,if_pos hx]
 rw [gm,aK,if_neg hx,if_neg hx]
 have hx0:0≤x∧x<g.n:=by
  constructor
  ·exact Int.not_lt.1 fun h=>hx (.inl h)
  ·exact Int.not_le.1 fun h=>hx (.inr (.inl h))
 have hmem:∀j,j<f.row.length→BN g (f.row.getD j (0,0,0)):=fun j hj=>hi.it _ (aW hj)
 rw [fA hx0.1 hx0.2]
 have hN:(aD (fun e=>e.2) g.es g.es.length x).length=bE g x:=rfl
 rw [hN]
 have HR:(aZ f.row x).2.2=ig f.row x f.row.length:=jT _
 by_cases h0:bE g x=0
 ·rw [if_pos h0,h0,decide_eq_true rfl,Bool.true_or,Bool.and_true,decide_eq_true_eq,HR,jU]
  ·rfl
  ·intro j hj he
   rcases hmem j hj with ⟨_,h2⟩|⟨h1,h2,_,h4⟩
   ·omega
   ·have:=pT h1 h2
    rw [← h4,he] at this
    omega
 ·rw [if_neg h0,decide_eq_false h0,Bool.false_or,HR]
  generalize bE g x=need at h0
  rcases eL (row:=f.row) (x:=x) f.row.length with ⟨hs,hno⟩|⟨a,b,c,hs,hab,j7,hc0,nQ,ha,hb,hlo,hhi⟩
  ·rw [jU hno]
   have e1:decide ((0:Int)=(need:Int))=false:=decide_eq_false (by omega)
   rw [e1,Bool.false_and,Bool.and_false]
  ·have hs':aZ f.row x=((a:Int),(b:Int),(c:Int)):=hs
   have K4:ig f.row x f.row.length=c:=by rw [← HR,hs']
   rw [hs',K4]
   simp only [Int.toNat_natCast]
   rw [Bool.and_comm]
   by_cases Jh:¬(c:Int)=need
   ·rw [decide_eq_false Jh,Bool.and_false,Bool.and_false]
   rw [Decidable.not_not] at Jh
   rw [decide_eq_true Jh,Bool.and_true,Bool.and_true,qt]
   congr 1
   rw [Bool.eq_iff_iff,uT j7,List.any_eq_true]
   have ma:ig f.row x a=0:=jU hlo
   have QG:ig f.row x (a+1)=1:=by rw [gq,if_pos ha,ma];rfl
   have mb:ig f.row x b=need:=by
    have h:=pS (row:=f.row) (x:=x) (b:=b) (d:=f.row.length - b) fun j h1 h2=>hhi j h1 (by omega)
    rw [show b+(f.row.length - b)=f.row.length by omega,K4] at h
    omega
   have QH:ig f.row x (b - 1)+1=need:=by
    have h:=gq (row:=f.row) (x:=x) (k:=b - 1)
    rw [if_pos hb,show b - 1+1=b by omega,mb] at h
    omega
   constructor
   ·rintro ⟨j,h1,h2,hp⟩
    simp only [kC,Bool.and_eq_true,decide_eq_true_eq] at hp
    have hja:j≠a:=fun e=>hp.1 (by rw [e];exact ha)
    have hjb:j≠b - 1:=fun e=>hp.1 (by rw [e];exact hb)
    have g1:=pR (row:=f.row) (x:=x) (j:=a+1) (j - (a+1))
    rw [show a+1+(j - (a+1))=j by omega] at g1
    have g2:=pR (row:=f.row) (x:=x) (j:=j) (b - 1 - j)
    rw [show j+(b - 1 - j)=b - 1 by omega] at g2
    exact ⟨j,List.mem_range.2 (by omega),uS.2 ⟨⟨hp.1,((hmem j (by omega)).head hm).1.2 hp.2⟩,by omega,by omega⟩⟩
   ·rintro ⟨j,hj,hl⟩
    have hj:=List.mem_range.1 hj
    obtain ⟨⟨h1,h2⟩,h3,h4⟩:=uS.1 hl
    refine ⟨j, ?_, ?_, ?_⟩
    ·refine Nat.not_lt.1 fun h=> ?_
     have:=jU (row:=f.row) (x:=x) (k:=j) fun i hi=>hlo i (by omega)
     omega
    ·refine Nat.not_le.1 fun h=> ?_
     have:=pS (row:=f.row) (x:=x) (b:=b) (d:=j - b) fun i h1 h2=>hhi i h1 (by omega)
     rw [show b+(j - b)=j by omega] at this
     omega
    ·simp only [kC,Bool.and_eq_true,decide_eq_true_eq]
     exact ⟨h1,((hmem j hj).head hm).1.1 h2⟩
theorem qS:∀ {ms os:List Int},ms.Nodup→(∀i∈ms,i∈os)→os.length=ms.length→os.Perm ms
 | [],os,_,_,hl=>by
   have h:os= []:=List.eq_nil_of_length_eq_zero (by simpa using hl)
   rw [h]
 |m::ms,os,hn,hs,hl=>by
  rw [List.nodup_cons] at hn
  have hm:=hs m (List.mem_cons_self ..)
  refine (List.perm_cons_erase hm).trans (List.Perm.cons m (qS hn.2 (fun j hj=> ?_) ?_))
  ·have:j≠m:=fun e=>hn.1 (e ▸ hj)
   exact (List.mem_erase_of_ne this).2 (hs j (List.mem_cons_of_mem _ hj))
  ·rw [List.length_erase_of_mem hm,hl];simp
theorem qu {g:Gr} {x:Int} :(b9 g x).Pairwise (· ≤ ·):=by
 unfold b9 aD
 refine List.Pairwise.map _ (fun a b (h:a<b)=> ?_) (List.Pairwise.filter _ List.pairwise_lt_range)
 show (a:Int)≤b
 omega
theorem ta {l m:List Int} (h:l.Perm m) (hm:m.Pairwise (· ≤ ·)):gU l=m:=by
 have h1:(gU l).Pairwise (· ≤ ·):=by
  have:=List.pairwise_mergeSort (le:=fun a b:Int=>decide (a≤b)) (by simp;omega) (by simp;omega) l
  simpa [gU] using this
 have h2:(gU l).Perm m:=(by unfold gU;exact (List.mergeSort_perm l _).trans h)
 exact h2.eq_of_pairwise (fun a b _ _ h1 h2=>Int.le_antisymm h1 h2) h1 hm
theorem aU {g:Gr} {f:Fr} {x:Int} (h:aK g f x=true):0≤x∧x<g.n∧x∉f.pl:=by
 unfold aK at h
 by_cases hx:x<0∨g.n≤x∨x∈f.pl
 ·rw [if_pos hx] at h;cases h
 ·exact ⟨Int.not_lt.1 fun h=>hx (.inl h),Int.not_le.1 fun h=>hx (.inr (.inl h)),fun h=>hx (.inr (.inr h))⟩
theorem DS {g:Gr} (hm:aO g=true) {f:Fr} (hi:gV g f) (x:Int) (outs:List Int):jr g f x outs=ij g f x outs:=by
 rw [jr,ij,oP hm hi]
 cases hR:aK g f x with
 |false=>rw [if_pos rfl,if_pos rfl]
 |true=>
  obtain ⟨h0,h1,h2⟩:=aU hR
  have ht:¬(true=false):=by simp
  rw [if_neg ht,if_neg ht,fA h0 h1]
  show (if gU outs≠b9 g x then _ else aF g f x outs)=_
  by_cases hs:gU outs=b9 g x
  ·rw [if_neg (fun h=>h hs),if_neg]
   rintro (h|⟨i,h3,h4⟩)
   ·exact h (by rw [← hs,eY])
   ·exact h4 (ya.1 (hs ▸ h3))
  ·rw [if_pos hs,if_pos]
   refine Decidable.byContradiction fun h=>hs ?_
   have hl:outs.length=(b9 g x).length:=Decidable.byContradiction fun e=>h (.inl e)
   exact ta (qS bU (fun i hi=>Decidable.byContradiction fun e=>h (.inr ⟨i,hi,e⟩)) hl) qu
theorem DT {g:Gr} {x:Int} {outs:List Int} (ho:∀i∈outs,i∈b9 g x):∀t∈aX g x outs,BN g t:=by
 intro t ht
 unfold aX at ht
 split at ht
 ·rw [List.mem_singleton] at ht
  rw [ht];exact .inl ⟨rfl,rfl⟩
 ·obtain ⟨i,hi,rfl⟩:=List.mem_map.1 ht
  obtain ⟨⟨h1,h2⟩,h3⟩:=eu (ho i hi)
  exact .inr ⟨h1,h2,h3.symm,rfl⟩
theorem DU {g:Gr} {f:Fr} (hi:gV g f) {x:Int} (hR:aK g f x=true) {outs:List Int} (ho:∀i∈outs,i∈b9 g x):gV g (aF g f x outs).2:=by
 obtain ⟨h0,h1,h2⟩:=aU hR
 refine ⟨fun t ht=> ?_, ?_,fun y hy=> ?_⟩
 ·simp only [aF,List.mem_append] at ht
  rcases ht with (ht|ht)|ht
  ·exact hi.it t (List.mem_of_mem_take ht)
  ·exact DT ho t ht
  ·exact hi.it t (List.mem_of_mem_drop ht)
 ·show (f.pl++ [x]).Nodup
  rw [List.nodup_append]
  refine ⟨hi.pl,by simp,fun a ha b hb e=>h2 ?_⟩
  rw [List.mem_singleton] at hb
  rw [← hb, ← e];exact ha
 ·have hy:y∈f.pl++ [x]:=hy
  rcases List.mem_append.1 hy with h|h
  ·exact hi.HQ y h
  ·rw [List.mem_singleton] at h
   rw [h];exact ⟨h0,h1⟩
end Go.Ab
end
section
namespace Go.Ab
open Go.Proofs
set_option maxRecDepth 10000
def kW (x:Int) (t:It):Bool:=decide (t.2.2=x)
structure BO (x:Int) (X:List It):Prop where
 fst:∃p X',X=p::X'∧p.2.2=x
 E3:∃X' q,X=X'++ [q]∧q.2.2=x
 al:∀t∈X,t.2.2=x∨t.2.2= -1
def fM (x:Int) (l:List It):Prop:=∀t∈l,t.2.2≠x
theorem fM.app {x:Int} {l m:List It} (h:fM x l) (h':fM x m):fM x (l++m):=fun t ht=>(List.mem_append.1 ht).elim (h t) (h' t)
theorem fM.left {x:Int} {l m:List It} (h:fM x (l++m)):fM x l:=fun t ht=>h t (List.mem_append.2 (.inl ht))
theorem fM.right {x:Int} {l m:List It} (h:fM x (l++m)):fM x m:=fun t ht=>h t (List.mem_append.2 (.inr ht))
theorem BO.NK {x y:Int} {X:List It} (h:BO x X) (hxy:x≠y) (hy:0≤y):fM y X:=fun t ht e=>by
 rcases h.al t ht with h1|h1<;>omega
theorem kE {row:List It} {x:Int} :∀ {k:Nat},k≤row.length→ig row x k=((row.take k).countP (kW x):Nat)
 |0,_=>by simp [ig]
 |k+1,h=>by
  rw [gq,kE (k:=k) (by omega),List.take_add_one,List.getElem?_eq_getElem (show k<row.length by omega),List.countP_append]
  simp only [Option.toList,List.countP_cons,List.countP_nil,kW,decide_eq_true_eq,List.getD_eq_getElem?_getD,List.getElem?_eq_getElem (show k<row.length by omega),Option.getD_some]
  split<;>simp
theorem BP {A X C:List It} {p:It} {X':List It} (h:X=p::X'):(A++X++C).getD A.length (0,0,0)=p:=by
 subst h;simp [List.getD_eq_getElem?_getD]
theorem BQ {A X C:List It} {q:It} {X':List It} (h:X=X'++ [q]):(A++X++C).getD (A.length+X.length - 1) (0,0,0)=q:=by
 subst h
 have e:A.length+(X'++ [q]).length - 1=(A++X').length:=by simp
 rw [e,show A++(X'++ [q])++C=(A++X')++([q]++C) by simp]
 simp [List.getD_eq_getElem?_getD]
theorem BR {A L:List It} {j:Nat} (h:j<A.length):(A++L).getD j (0,0,0)∈A:=by
 rw [List.getD_eq_getElem?_getD,List.getElem?_append_left h,List.getElem?_eq_getElem h]
 exact List.getElem_mem h
theorem BS {A L:List It} {j:Nat} (h:A.length≤j) (h':j<(A++L).length):(A++L).getD j (0,0,0)∈L:=by
 rw [List.length_append] at h'
 rw [List.getD_eq_getElem?_getD,List.getElem?_append_right h,List.getElem?_eq_getElem (by omega)]
 exact List.getElem_mem _
theorem Au {A X C:List It} {x:Int} (hA:fM x A) (hC:fM x C) (hX:BO x X):
 (aZ (A++X++C) x).1=(A.length:Int)∧(aZ (A++X++C) x).2.1=((A.length+X.length:Nat):Int)∧(aZ (A++X++C) x).2.2=(X.countP (kW x):Nat):=by
 have Bg:(aZ (A++X++C) x).2.2=(X.countP (kW x):Nat):=by
  unfold aZ
  rw [jT,kE (Nat.le_refl _),List.take_length,List.countP_append,List.countP_append]
  have h1:A.countP (kW x)=0:=List.countP_eq_zero.2 fun t ht=>by simp [kW,hA t ht]
  have h2:C.countP (kW x)=0:=List.countP_eq_zero.2 fun t ht=>by simp [kW,hC t ht]
  rw [h1,h2];simp
 obtain ⟨p,X',e1,hp⟩:=hX.fst
 obtain ⟨QI,q,e2,hq⟩:=hX.E3
 have g1:=BP (A:=A) (C:=C) e1
 have g2:=BQ (A:=A) (C:=C) e2
 have Mv:0<X.length:=by rw [e1];simp
 have hlen:(A++X++C).length=A.length+X.length+C.length:=by simp;omega
 rcases eL (row:=A++X++C) (x:=x) (A++X++C).length with ⟨_,hno⟩|⟨a,b,c,hs,hab,j7,hc0,nQ,ha,hb,hlo,hhi⟩
 ·exact absurd (by rw [g1];exact hp) (hno A.length (by omega))
 ·have hs':aZ (A++X++C) x=((a:Int),(b:Int),(c:Int)):=hs
  refine ⟨?_, ?_,Bg⟩
  ·rw [hs']
   have h1:¬A.length<a:=fun h=>hlo _ h (by rw [g1];exact hp)
   have h2:¬a<A.length:=fun h=>hA _ (by have:=BR (L:=X++C) h;rw [← List.append_assoc] at this;exact this) ha
   simp only;omega
  ·rw [hs']
   have h1:¬b<A.length+X.length:=fun h=>hhi (A.length+X.length - 1) (by omega) (by omega) (by rw [g2];exact hq)
   have h2:¬A.length+X.length<b:=fun h=>hC _ (BS (A:=A++X) (j:=b - 1) (by simp;omega) (by omega)) hb
   simp only;omega
theorem tc {g:Gr} (hm:aO g=true) {f:Fr} (hi:gV g f) {A X C:List It} {x:Int} (h0:0≤x) (h1:x<g.n) (hp:x∉f.pl) (hr:f.row=A++X++C) (hA:fM x A) (hC:fM x C) (hX:BO x X)
 (hc:X.countP (kW x)=bE g x):aK g f x=true:=by
 rw [← oP hm hi,gm,if_neg (by rintro (h|h|h);omega;omega;exact hp h)]
 obtain ⟨e1,e2,e3⟩:=Au hA hC hX
 rw [hr,e1,e2,e3,fA h0 h1,Bool.and_eq_true,decide_eq_true_eq]
 refine ⟨by rw [hc];rfl, ?_⟩
 rw [Bool.or_eq_true];right
 simp only [qt,Int.toNat_natCast]
 rw [List.take_append_of_le_length (by simp),List.take_of_length_le (by simp),List.drop_left,Bool.not_eq_true',List.any_eq_false]
 intro t ht
 simp only [kC,Bool.and_eq_true,decide_eq_true_eq]
 rcases hX.al t ht with h|h<;>simp [h]
theorem cT {g:Gr} (hm:aO g=true) {f:Fr} (hi:gV g f) {x:Int} (hR:aK g f x=true) (hn:bE g x≠0):
 ∃A X C,f.row=A++X++C∧fM x A∧fM x C∧BO x X∧X.countP (kW x)=bE g x:=by
 obtain ⟨h0,h1,h2⟩:=aU hR
 rw [← oP hm hi,gm,if_neg (by rintro (h|h|h);omega;omega;exact h2 h),fA h0 h1,Bool.and_eq_true,decide_eq_true_eq] at hR
 have hN:(aD (fun e=>e.2) g.es g.es.length x).length=bE g x:=rfl
 rw [hN,decide_eq_false hn,Bool.false_or] at hR
 obtain ⟨hc,hb⟩:=hR
 have Bg:(f.row.countP (kW x):Int)=bE g x:=by
  rw [← hc];unfold aZ
  rw [jT,kE (Nat.le_refl _),List.take_length]
 rcases eL (row:=f.row) (x:=x) f.row.length with ⟨hs,hno⟩|⟨a,b,c,hs,hab,j7,hc0,nQ,ha,hb',hlo,hhi⟩
 ·have:aZ f.row x=(-1,0,0):=hs
  rw [this] at hc
  exfalso;simp only at hc;omega
 ·have hs':aZ f.row x=((a:Int),(b:Int),(c:Int)):=hs
  rw [hs'] at hb
  simp only [Int.toNat_natCast] at hb
  have hA:fM x (f.row.take a):=fun t ht=>by
   obtain ⟨j,hj,rfl⟩:=List.mem_iff_getElem.1 ht
   simp only [List.length_take] at hj
   have:=hlo j (by omega)
   rw [List.getD_eq_getElem?_getD,List.getElem?_eq_getElem (show j<f.row.length by omega)] at this
   simpa using this
  have hC:fM x (f.row.drop b):=fun t ht=>by
   obtain ⟨j,hj,rfl⟩:=List.mem_iff_getElem.1 ht
   simp only [List.length_drop] at hj
   have:=hhi (b+j) (by omega) (by omega)
   rw [List.getD_eq_getElem?_getD,List.getElem?_eq_getElem (show b+j<f.row.length by omega)] at this
   simpa using this
  have hrow:f.row=f.row.take a++(f.row.take b).drop a++f.row.drop b:=by
   have e1:f.row.take a=(f.row.take b).take a:=by rw [List.take_take,Nat.min_eq_left (by omega)]
   rw [e1,List.take_append_drop,List.take_append_drop]
  refine ⟨f.row.take a,(f.row.take b).drop a,f.row.drop b,hrow,hA,hC,⟨?_, ?_, ?_⟩, ?_⟩
  ·refine ⟨f.row.getD a (0,0,0),(f.row.take b).drop (a+1), ?_,ha⟩
   rw [List.drop_eq_getElem_cons (by simp;omega)]
   congr 1
   rw [List.getD_eq_getElem?_getD,List.getElem?_eq_getElem (show a<f.row.length by omega)]
   simp
  ·refine ⟨(f.row.take (b - 1)).drop a,f.row.getD (b - 1) (0,0,0), ?_,hb'⟩
   have e:f.row.take b=f.row.take (b - 1)++ [f.row.getD (b - 1) (0,0,0)]:=by
    conv=>lhs;rw [show b=b - 1+1 by omega]
    rw [List.take_add_one,List.getD_eq_getElem?_getD,List.getElem?_eq_getElem (show b - 1<f.row.length by omega)]
    rfl
   rw [e,List.drop_append_of_le_length (by simp;omega)]
  ·intro t ht
   rw [qt,Bool.not_eq_true',List.any_eq_false] at hb
   have:=hb t ht
   simp only [kC,Bool.and_eq_true,decide_eq_true_eq,not_and] at this
   by_cases h:t.2.2=x
   ·exact .inl h
   ·exact .inr (Decidable.byContradiction fun h'=>this h h')
  ·have h1:(f.row.take a).countP (kW x)=0:=List.countP_eq_zero.2 fun t ht=>by simp [kW,hA t ht]
   have h2:(f.row.drop b).countP (kW x)=0:=List.countP_eq_zero.2 fun t ht=>by simp [kW,hC t ht]
   rw [hrow,List.countP_append,List.countP_append,h1,h2] at Bg
   omega
theorem kF {g:Gr} {f:Fr} {A X C:List It} {x:Int} (o:List Int) (hr:f.row=A++X++C) (hA:fM x A) (hC:fM x C) (hX:BO x X):
 aF g f x o=((X,0),⟨A++aX g x o++C,f.pl++ [x]⟩):=by
 obtain ⟨e1,e2,e3⟩:=Au hA hC hX
 have e4:max (A.length:Int) 0=(A.length:Int):=by omega
 unfold aF
 rw [hr,e1,e2,e4,Int.toNat_natCast,Int.toNat_natCast]
 rw [List.take_append_of_le_length (show A.length+X.length≤(A++X).length by simp),List.take_of_length_le (show (A++X).length≤A.length+X.length by simp),List.drop_left]
 rw [show (A++X++C).take A.length=A by rw [List.append_assoc,List.take_left]]
 rw [show (A++X++C).drop (A.length+X.length)=C by rw [← List.length_append,List.drop_left]]
theorem mB {g:Gr} {f:Fr} {x:Int} (o:List Int) (hr:fM x f.row):aF g f x o=(([],0),⟨aX g x o++f.row,f.pl++ [x]⟩):=by
 have hs:aZ f.row x=(-1,0,0):=by
  rcases eL (row:=f.row) (x:=x) f.row.length with ⟨hs,_⟩|⟨a,b,c,hs,hab,j7,hc0,nQ,ha,hb',hlo,hhi⟩
  ·exact hs
  ·exact absurd ha (hr _ (aW (by omega)))
 have e4:max (-1:Int) 0=0:=by omega
 unfold aF
 rw [hs]
 simp [e4]
end Go.Ab
end
section
namespace Go.Ab
open Go.Proofs
set_option maxRecDepth 10000
structure yc (g:Gr) (f:Fr):Prop extends gV g f where
 tail:∀t∈f.row,0≤t.1→t.2.1∈f.pl
 head:∀t∈f.row,0≤t.1→t.2.2∉f.pl
 once:f.row.Pairwise fun s t=>0≤s.1→s.1≠t.1
 low:∀i,i<g.es.length→hd g i∈f.pl→tl g i∈f.pl
 src:(f.pl= []∧f.row= [])∨∃s∈f.pl,bE g s=0
theorem Av (g:Gr):yc g ⟨[], []⟩:=
 {it:=by simp,pl:=by simp,HQ:=by simp,tail:=by simp,head:=by simp,once:=by simp,low:=by simp,src:= .inl ⟨rfl,rfl⟩}
theorem wu {g:Gr} (hm:aO g=true) {f:Fr} (hi:yc g f) {x:Int} (hR:aK g f x=true) {i:Nat} (hl:i<g.es.length) (hx:hd g i=x):∃t∈f.row,t.1=i∧t.2.1=tl g i∧t.2.2=x:=by
 have hn:bE g x≠0:=by
  have:=pT (g:=g) (e:=(i:Int)) (by omega) (by omega)
  rw [Int.toNat_natCast,show (g.es.getD i (0,0)).2=x from hx] at this
  omega
 obtain ⟨A,X,C,hr,hA,hC,hX,hc⟩:=cT hm hi.togV hR hn
 have hN:(aD (fun e=>e.2) g.es g.es.length x).length=bE g x:=rfl
 have hok:∀t∈f.row,t.2.2=x→0≤t.1∧t.1<g.es.length∧t.2.1=(g.es.getD t.1.toNat (0,0)).1∧t.2.2=(g.es.getD t.1.toNat (0,0)).2:=fun t ht he=>by
  rcases hi.it t ht with ⟨_,h2⟩|h
  ·have:=(aU hR).1;omega
  ·exact h
 have hmem:∀t∈X,t∈f.row:=fun t ht=>by rw [hr];simp [ht]
 have NL:=qS (ms:=(X.filter (kW x)).map (·.1)) (os:=aD (fun e=>e.2) g.es g.es.length x)
 have key:∀i∈aD (fun e=>e.2) g.es g.es.length x,i∈(X.filter (kW x)).map (·.1):=by
  refine zI (ms:=(X.filter (kW x)).map (·.1)) (os:=aD (fun e=>e.2) g.es g.es.length x) ?_ ?_ ?_
  ·have h1:X.Pairwise fun s t=>0≤s.1→s.1≠t.1:=by
    have:=hi.once
    rw [hr,List.pairwise_append,List.pairwise_append] at this
    exact this.1.2.1
   have h2:=h1.filter (kW x)
   rw [List.Nodup,List.pairwise_map]
   refine h2.imp_of_mem fun {a b} ha hb h=>h ?_
   obtain ⟨ha1,ha2⟩:=List.mem_filter.1 ha
   exact (hok a (hmem a ha1) (by simpa [kW] using ha2)).1
  ·intro e he
   obtain ⟨t,ht,rfl⟩:=List.mem_map.1 he
   obtain ⟨ht1,ht2⟩:=List.mem_filter.1 ht
   have ht2:t.2.2=x:=by simpa [kW] using ht2
   obtain ⟨h1,h2,h3,h4⟩:=hok t (hmem t ht1) ht2
   simp only [aD,List.mem_map,List.mem_filter,List.mem_range,decide_eq_true_eq]
   exact ⟨t.1.toNat,⟨by omega,by rw [← h4];exact ht2⟩,by simp;omega⟩
  ·rw [hN, ← hc,List.length_map,List.countP_eq_length_filter]
 have hie:(i:Int)∈aD (fun e=>e.2) g.es g.es.length x:=by
  simp only [aD,List.mem_map,List.mem_filter,List.mem_range,decide_eq_true_eq]
  exact ⟨i,⟨hl,hx⟩,rfl⟩
 obtain ⟨t,ht,he⟩:=List.mem_map.1 (key _ hie)
 obtain ⟨ht1,ht2⟩:=List.mem_filter.1 ht
 have ht2:t.2.2=x:=by simpa [kW] using ht2
 obtain ⟨h1,h2,h3,h4⟩:=hok t (hmem t ht1) ht2
 refine ⟨t,hmem t ht1,he, ?_,ht2⟩
 rw [h3,he,Int.toNat_natCast];rfl
theorem tf {g:Gr} (hm:aO g=true) {f:Fr} (hi:gV g f) {x:Int} (h0:0≤x) (hn:bE g x=0):fM x f.row:=by
 intro t ht he
 rcases hi.it t ht with ⟨_,h2⟩|⟨h1,h2,_,h4⟩
 ·omega
 ·have:=pT h1 h2
  rw [← h4,he] at this
  omega
theorem iP {g:Gr} (hm:aO g=true) {f:Fr} (hi:gV g f) {x:Int} (hR:aK g f x=true):
 ∃A X C,f.row=A++X++C∧fM x A∧fM x C∧(∀t∈X,t.2.2=x∨t.2.2= -1)∧∀o,aF g f x o=((X,0),⟨A++aX g x o++C,f.pl++ [x]⟩):=by
 by_cases hn:bE g x=0
 ·have h:=tf hm hi (aU hR).1 hn
  exact ⟨[], [],f.row,by simp,fun t ht=>(by cases ht),h,fun t ht=>(by cases ht),fun o=>by rw [mB o h];simp⟩
 ·obtain ⟨A,X,C,hr,hA,hC,hX,_⟩:=cT hm hi hR hn
  exact ⟨A,X,C,hr,hA,hC,hX.al,fun o=>kF o hr hA hC hX⟩
theorem jV {g:Gr} {x i:Int} (h:i∈b9 g x):∃k:Nat,i=k∧k<g.es.length∧tl g k=x:=by
 obtain ⟨⟨h1,h2⟩,h3⟩:=eu h
 exact ⟨i.toNat,by omega,by omega,h3⟩
theorem jW {g:Gr} {x:Int} {o:List Int} (ho:∀i∈o,i∈b9 g x) {t:It} (h:t∈aX g x o):(t.1= -1∧t.2.2= -1)∨∃k:Nat,k<g.es.length∧t.1=k∧t.2.1=x∧t.2.2=hd g k∧tl g k=x∧t.1∈o:=by
 unfold aX at h
 split at h
 ·rw [List.mem_singleton] at h
  rw [h];exact .inl ⟨rfl,rfl⟩
 ·obtain ⟨i,NM,rfl⟩:=List.mem_map.1 h
  obtain ⟨k,rfl,h1,h2⟩:=jV (ho i NM)
  exact .inr ⟨k,h1,rfl,rfl,by simp [je];rfl,h2,NM⟩
theorem pU {g:Gr} (hm:aO g=true) {f:Fr} (hi:yc g f) {x y:Int} (hx:x∉f.pl) (hR:aK g f y=true) {o:List Int} (ho:∀i∈o,i∈b9 g x):fM y (aX g x o):=by
 intro t ht he
 rcases jW ho ht with ⟨_,h⟩|⟨k,h1,h2,h3,h4,h5,_⟩
 ·have:=(aU hR).1;omega
 ·obtain ⟨s,hs,e1,e2,e3⟩:=wu hm hi hR h1 (by rw [← h4];exact he)
  refine hx ?_
  rw [← h5, ← e2]
  exact hi.tail s hs (by omega)
theorem jX {g:Gr} (hm:aO g=true) {f:Fr} (hi:yc g f) {x:Int} (hR:aK g f x=true) {o:List Int} (ho:o.Perm (b9 g x)):yc g (aF g f x o).2:=by
 have HN:∀i∈o,i∈b9 g x:=fun i h=>ho.mem_iff.1 h
 have hx:=(aU hR).2.2
 have h0:=DU hi.togV hR HN
 obtain ⟨A,X,C,hr,hA,hC,hX,hs⟩:=iP hm hi.togV hR
 have gM:(aF g f x o).2.pl=f.pl++ [x]:=rfl
 have hrow:(aF g f x o).2.row=A++aX g x o++C:=by rw [hs o]
 have Mw:∀t∈A,t∈f.row:=fun t ht=>by rw [hr];simp [ht]
 have Mx:∀t∈C,t∈f.row:=fun t ht=>by rw [hr];simp [ht]
 have Aw:=pU hm hi hx hR HN
 refine {togV:=h0,tail:= ?_,head:= ?_,once:= ?_,low:= ?_,src:= .inr ?_}
 ·intro t ht h1
  rw [gM]
  rw [hrow,List.mem_append,List.mem_append] at ht
  rcases ht with (ht|ht)|ht
  ·exact List.mem_append_left _ (hi.tail t (Mw t ht) h1)
  ·rcases jW HN ht with ⟨h,_⟩|⟨k,_,_,h3,_⟩
   ·omega
   ·rw [h3];simp
  ·exact List.mem_append_left _ (hi.tail t (Mx t ht) h1)
 ·intro t ht h1
  rw [gM,List.mem_append,List.mem_singleton]
  rw [hrow,List.mem_append,List.mem_append] at ht
  rcases ht with (ht|ht)|ht
  ·rintro (h|h)
   ·exact hi.head t (Mw t ht) h1 h
   ·exact hA t ht h
  ·rintro (h|h)
   ·rcases jW HN ht with ⟨h',_⟩|⟨k,hk,_,_,h4,h5,_⟩
    ·omega
    ·rw [h4] at h
     have:=hi.low k hk h
     rw [h5] at this;exact hx this
   ·exact Aw t ht h
  ·rintro (h|h)
   ·exact hi.head t (Mx t ht) h1 h
   ·exact hC t ht h
 ·have xk:=hi.once
  rw [hr,List.pairwise_append,List.pairwise_append] at xk
  obtain ⟨⟨Pe,_,_⟩,Pf,My⟩:=xk
  have old:∀s∈f.row,0≤s.1→∀t∈aX g x o,s.1≠t.1:=fun s hs h1 t ht e=>by
   rcases jW HN ht with ⟨h,_⟩|⟨k,hk,h2,h3,h4,h5,_⟩
   ·omega
   ·rcases hi.it s hs with ⟨h,_⟩|⟨_,_,h6,_⟩
    ·omega
    ·have:=hi.tail s hs h1
     rw [h6,e,h2,Int.toNat_natCast] at this
     exact hx (h5 ▸ this)
  rw [hrow,List.pairwise_append,List.pairwise_append]
  refine ⟨⟨Pe, ?_,fun s hs t ht h1=>old s (Mw s hs) h1 t ht⟩,Pf, ?_⟩
  ·unfold aX
   split
   ·simp
   ·refine List.pairwise_map.2 ((ho.nodup_iff.2 bU).imp fun {i j} (h:i≠j) _=> ?_)
    exact h
  ·intro s hs t ht h1
   rcases List.mem_append.1 hs with hs|hs
   ·exact My s (List.mem_append_left _ hs) t ht h1
   ·intro e
    exact old t (Mx t ht) (by omega) s hs e.symm
 ·intro i hl h
  rw [gM,List.mem_append,List.mem_singleton] at h ⊢
  left
  rcases h with h|h
  ·exact hi.low i hl h
  ·obtain ⟨t,ht,e1,e2,_⟩:=wu hm hi hR hl h
   rw [← e2]
   exact hi.tail t ht (by omega)
 ·rcases hi.src with ⟨h1,h2⟩|⟨s,hs,h⟩
  ·refine ⟨x,by rw [gM];simp, ?_⟩
   refine Decidable.byContradiction fun hn=> ?_
   obtain ⟨A,X,C,hr,_,_,hX,_⟩:=cT hm hi.togV hR hn
   obtain ⟨p,X',e,_⟩:=hX.fst
   rw [h2,e] at hr
   simp at hr
  ·exact ⟨s,by rw [gM];simp [hs],h⟩
theorem apart {x y:Int} (hx:0≤x) (hy:0≤y) (hxy:x≠y) {A X C B Y D:List It} (h:A++X++C=B++Y++D) (hX:BO x X) (hY:BO y Y):
 (∃M,B=A++X++M∧C=M++Y++D)∨(∃M,A=B++Y++M∧D=M++X++C):=by
 obtain ⟨p,X',Pg,hp⟩:=hX.fst
 obtain ⟨q,Y',Ph,hq⟩:=hY.fst
 have nX:q∉X:=fun h=>hX.NK hxy hy q h hq
 have nY:p∉Y:=fun h=>hY.NK (Ne.symm hxy) hx p h hp
 rw [show B++Y++D=B++(Y++D) by simp,List.append_eq_append_iff] at h
 rcases h with ⟨es,h1,h2⟩|⟨cs,h1,h2⟩
 ·exact .inl ⟨es,h1,by rw [h2];simp⟩
 ·match cs,h1,h2 with
  | [],h1,h2=>exact .inl ⟨[],by simpa using h1.symm,by simpa using h2.symm⟩
  |c::cs,h1,h2=>
   have Pj:c=q:=by rw [Ph] at h2;simp at h2;exact h2.1.symm
   rw [List.append_eq_append_iff] at h1
   rcases h1 with ⟨es,h3,h4⟩|⟨ds,h3,h4⟩
   ·exfalso;refine nX ?_
    rw [h4, ← Pj];simp
   ·rw [h4,List.append_assoc,List.append_eq_append_iff] at h2
    rcases h2 with ⟨es,h5,h6⟩|⟨bs,h5,h6⟩
    ·exact .inr ⟨es,by rw [h3,h5];simp,by rw [h6];simp⟩
    ·match bs,h5,h6 with
     | [],h5,h6=>exact .inr ⟨[],by rw [h3,h5];simp,by simpa using h6.symm⟩
     |b::bs,h5,h6=>
      exfalso;refine nY ?_
      have Pk:b=p:=by rw [Pg] at h6;simp at h6;exact h6.1.symm
      rw [h5, ← Pk];simp
theorem yd {g:Gr} (hm:aO g=true) {f:Fr} (hi:yc g f) {x y:Int} (hxy:x≠y) (Ax:aK g f x=true) (uU:aK g f y=true)
 {a b:List Int} (ha:a.Perm (b9 g x)) (hb:b.Perm (b9 g y)) {A X M Y D:List It} (hr:f.row=A++X++M++Y++D) (hX:BO x X) (hY:BO y Y)
 (cX:X.countP (kW x)=bE g x) (cY:Y.countP (kW y)=bE g y)
 (nA:fM x A) (nC:fM x (M++Y++D)) (nB:fM y (A++X++M)) (nD:fM y D):
 aK g (aF g f x a).2 y=true∧aK g (aF g f y b).2 x=true∧(aF g (aF g f x a).2 y b).2.row=(aF g (aF g f y b).2 x a).2.row∧
 (aF g f x a).1=(aF g (aF g f y b).2 x a).1∧(aF g f y b).1=(aF g (aF g f x a).2 y b).1:=by
 obtain ⟨x0,x1,x2⟩:=aU Ax
 obtain ⟨y0,y1,y2⟩:=aU uU
 have i1:=(jX hm hi Ax ha).togV
 have i2:=(jX hm hi uU hb).togV
 have ux:=pU hm hi x2 uU (fun i h=>ha.mem_iff.1 h)
 have uy:=pU hm hi y2 Ax (fun i h=>hb.mem_iff.1 h)
 have r1:f.row=A++X++(M++Y++D):=by rw [hr];simp
 have r2:f.row=(A++X++M)++Y++D:=by rw [hr]
 have e1:=kF (g:=g) a r1 nA nC hX
 have e2:=kF (g:=g) b r2 nB nD hY
 rw [e1] at i1 ⊢;rw [e2] at i2 ⊢
 have r3:A++aX g x a++(M++Y++D)=(A++aX g x a++M)++Y++D:=by simp
 have r4:A++X++M++aX g y b++D=A++X++(M++aX g y b++D):=by simp
 have n3:fM y (A++aX g x a++M):=((nB.left.left).app ux).app nB.right
 have n4:fM x (M++aX g y b++D):=(nC.left.left.app uy).app nC.right
 have e3:=kF (g:=g) (f:=⟨A++aX g x a++(M++Y++D),f.pl++ [x]⟩) b r3 n3 nD hY
 have e4:=kF (g:=g) (f:=⟨A++X++M++aX g y b++D,f.pl++ [y]⟩) a r4 nA n4 hX
 refine ⟨tc hm i1 y0 y1 ?_ r3 n3 nD hY cY,tc hm i2 x0 x1 ?_ r4 nA n4 hX cX, ?_, ?_, ?_⟩
 ·simp [y2,Ne.symm hxy]
 ·simp [x2,hxy]
 ·simp only [e3,e4];simp
 ·simp only [e4]
 ·simp only [e3]
theorem BU {g:Gr} (hm:aO g=true) {f:Fr} (hi:yc g f) {x y:Int} (hxy:x≠y) (Ax:aK g f x=true) (uU:aK g f y=true)
 {a b:List Int} (ha:a.Perm (b9 g x)) (hb:b.Perm (b9 g y)) (nx:bE g x≠0) (ny:bE g y≠0):
 aK g (aF g f x a).2 y=true∧aK g (aF g f y b).2 x=true∧(aF g (aF g f x a).2 y b).2.row=(aF g (aF g f y b).2 x a).2.row∧
 (aF g f x a).1=(aF g (aF g f y b).2 x a).1∧(aF g f y b).1=(aF g (aF g f x a).2 y b).1:=by
 obtain ⟨A,X,C,hr,hA,hC,hX,cX⟩:=cT hm hi.togV Ax nx
 obtain ⟨B,Y,D,hr',hB,hD,hY,cY⟩:=cT hm hi.togV uU ny
 rcases apart (aU Ax).1 (aU uU).1 hxy (hr.symm.trans hr') hX hY with ⟨M,rfl,rfl⟩|⟨M,rfl,rfl⟩
 ·exact yd hm hi hxy Ax uU ha hb (by rw [hr];simp) hX hY cX cY hA hC hB hD
 ·obtain ⟨h1,h2,h3,h4,h5⟩:=yd hm hi (Ne.symm hxy) uU Ax hb ha (by rw [hr'];simp) hY hX cY cX hB hD hA hC
  exact ⟨h2,h1,h3.symm,h5,h4⟩
theorem mC {g:Gr} {y:Int} :y∈bD (·.2) g↔(0≤y∧y<g.n)∧bE g y=0:=by
 simp only [bD,iG,List.mem_map,List.mem_filter,List.mem_range,decide_eq_true_eq]
 have he:∀x:Nat,x<g.n.toNat→(((cW (·.2) g).getD x []).length=bE g (x:Int)):=by
  intro x hx
  have e:(cW (·.2) g).getD x []=aD (·.2) g.es g.es.length (x:Int):=by
   simp [cW,List.getD_eq_getElem?_getD,List.getElem?_range hx,jR]
  rw [e];rfl
 constructor
 ·rintro ⟨x,⟨hx,h0⟩,rfl⟩
  refine ⟨by simp;omega,by rw [he x hx] at h0;exact h0⟩
 ·rintro ⟨⟨h1,h2⟩,h3⟩
  have e:((y.toNat:Nat):Int)=y:=by omega
  exact ⟨y.toNat,⟨by omega,by rw [he _ (by omega),e];exact h3⟩,e⟩
theorem oQ {g:Gr} (hc:(bJ g).1=0) {x y:Int} (hx:0≤x∧x<g.n) (hy:0≤y∧y<g.n) (nx:bE g x=0) (ny:bE g y=0):x=y:=by
 have h1:(bD (·.2) g).length≤1:=by
  unfold bJ gH at hc
  refine Nat.not_lt.1 fun h=> ?_
  split at hc
  ·cases hc
  split at hc
  ·cases hc
  split at hc
  ·cases hc
  split at hc
  ·cases hc
  cases hc
 have h2:=mC.2 ⟨hx,nx⟩
 have h3:=mC.2 ⟨hy,ny⟩
 match hb:bD (·.2) g with
 | []=>rw [hb] at h2;cases h2
 | [z]=>rw [hb,List.mem_singleton] at h2 h3;rw [h2,h3]
 |_::_::_=>rw [hb] at h1;simp at h1
theorem aC {g:Gr} (hc:(bJ g).1=0):aO g=true:=by
 unfold bJ gH at hc
 split at hc
 ·cases hc
 ·rename_i h;simpa using h
theorem ye {g:Gr} (hc:(bJ g).1=0) {f:Fr} (hi:yc g f) {x y:Int} (hxy:x≠y) (Ax:aK g f x=true) (uU:aK g f y=true):bE g x≠0:=by
 intro nx
 have hm:=aC hc
 obtain ⟨x0,x1,x2⟩:=aU Ax
 obtain ⟨y0,y1,y2⟩:=aU uU
 rcases hi.src with ⟨h1,h2⟩|⟨s,hs,h⟩
 ·have ny:bE g y≠0:=fun ny=>hxy (oQ hc ⟨x0,x1⟩ ⟨y0,y1⟩ nx ny)
  obtain ⟨A,X,C,hr,_,_,hX,_⟩:=cT hm hi.togV uU ny
  obtain ⟨p,X',e,_⟩:=hX.fst
  rw [h2,e] at hr
  simp at hr
 ·exact x2 (oQ hc (hi.HQ s hs) ⟨x0,x1⟩ h nx ▸ hs)
theorem BW {g:Gr} (hc:(bJ g).1=0) {f:Fr} (hi:yc g f) {x y:Int} (hxy:x≠y) (Ax:aK g f x=true) (uU:aK g f y=true)
 {a b:List Int} (ha:a.Perm (b9 g x)) (hb:b.Perm (b9 g y)):
 aK g (aF g f x a).2 y=true∧aK g (aF g f y b).2 x=true∧(aF g (aF g f x a).2 y b).2.row=(aF g (aF g f y b).2 x a).2.row∧
 (aF g f x a).1=(aF g (aF g f y b).2 x a).1∧(aF g f y b).1=(aF g (aF g f x a).2 y b).1:=
 BU (aC hc) hi hxy Ax uU ha hb (ye hc hi hxy Ax uU) (ye hc hi (Ne.symm hxy) uU Ax)
end Go.Ab
end
section
namespace Go.Ab
open Go.Proofs
attribute [local congr] ACall.congr
set_option maxRecDepth 10000
set_option maxHeartbeats 4000000
def Ay (row:List It) (a b:Int):Nat→Int × Int
 |0=>(-1,0)
 |k+1=>if ((row.getD k (0,0,0)).2.2=a∨(row.getD k (0,0,0)).2.2=b)∧(row.getD k (0,0,0)).2.2≠(Ay row a b k).1 then ((row.getD k (0,0,0)).2.2,(Ay row a b k).2+1) else Ay row a b k
end Go.Ab
end
section
namespace Go.Ab
open Go.Proofs
attribute [local congr] ACall.congr
set_option maxRecDepth 10000
set_option maxHeartbeats 4000000
def IP (row:List It) (i:Nat):Int:=(row.getD i (0,0,0)).2.2
def Mz (row:List It) (i j:Nat):Bool:=decide (IP row i≠ -1)&&decide (IP row j≠ -1)&&decide (IP row i≠IP row j)&&decide (4≤(Ay row (IP row i) (IP row j) row.length).2)
def NN (row:List It):Bool:=(List.range row.length).any fun i=>(List.range row.length).any (Mz row i)
end Go.Ab
end
section
namespace Go.Ab
open Go.Proofs
attribute [local congr] ACall.congr
set_option maxRecDepth 10000
set_option maxHeartbeats 8000000
def T4 (row:List It) (a b c d:Nat):Prop:=0≤(row.getD a (0,0,0)).2.2∧0≤(row.getD b (0,0,0)).2.2∧(row.getD a (0,0,0)).2.2≠(row.getD b (0,0,0)).2.2∧(row.getD a (0,0,0)).2.2=(row.getD c (0,0,0)).2.2∧(row.getD b (0,0,0)).2.2=(row.getD d (0,0,0)).2.2
def Pm (row:List It):Prop:=∃a b c d,a<b∧b<c∧c<d∧d<row.length∧T4 row a b c d
end Go.Ab
end
section
namespace Go.Ab
open Go.Proofs
set_option maxRecDepth 10000
theorem yf {g:Gr} {f f':Fr} (hr:f.row=f'.row) (hp:f.pl.Perm f'.pl) (x:Int):aK g f x=aK g f' x:=by
 unfold aK
 rw [hr]
 by_cases h:x<0∨g.n≤x∨x∈f.pl
 ·rw [if_pos h,if_pos (by rw [← hp.mem_iff];exact h)]
 ·have h':¬(x<0∨g.n≤x∨x∈f'.pl):=by rw [← hp.mem_iff];exact h
  rw [if_neg h,if_neg h']
theorem nL:∀ {l m:List Int},l.Nodup→(∀i∈l,i∈m)→l.length≤m.length
 | [],_,_,_=>by simp
 |a::l,m,hn,hs=>by
  rw [List.nodup_cons] at hn
  have ha:=hs a (List.mem_cons_self ..)
  have:=nL hn.2 (m:=m.erase a) fun i hi=>(List.mem_erase_of_ne (fun e:i=a=>hn.1 (e ▸ hi))).2 (hs i (List.mem_cons_of_mem _ hi))
  rw [List.length_erase_of_mem ha] at this
  have:=List.length_pos_of_mem ha
  rw [List.length_cons];omega
theorem jY {g:Gr} {f:Fr} (hi:gV g f) (hf:(f.pl.length:Int)=g.n) {x:Int} (hx:0≤x∧x<g.n):x∈f.pl:=by
 refine Decidable.byContradiction fun h=> ?_
 have h1:(x::f.pl).Nodup:=List.nodup_cons.2 ⟨h,hi.pl⟩
 have h2:((List.range g.n.toNat).map Int.ofNat).length=g.n.toNat:=by simp
 have h3:=nL h1 (m:=(List.range g.n.toNat).map Int.ofNat) (fun y hy=>by
  rw [List.mem_map]
  have:0≤y∧y<g.n:=by
   rcases List.mem_cons.1 hy with h|h
   ·rw [h];exact hx
   ·exact hi.HQ y h
  exact ⟨y.toNat,List.mem_range.2 (by omega),by simp;omega⟩)
 rw [h2,List.length_cons] at h3
 omega
def Tg (a b:Int) (row:List It):Prop:=∃l:List It,l.Sublist row∧l.map (fun t=>t.2.2)= [a,b,a,b]
def DV (a b:Int) (t:It):Bool:=decide (t.2.2=a)||decide (t.2.2=b)
theorem Tg.MA {a b:Int} {row:List It} :Tg a b row↔Tg a b (row.filter (DV a b)):=by
 constructor
 ·rintro ⟨l,h,e⟩
  refine ⟨l, ?_,e⟩
  have h1:=h.filter (DV a b)
  rw [List.filter_eq_self.2] at h1
  ·exact h1
  ·intro t ht
   have:t.2.2∈l.map (fun t=>t.2.2):=List.mem_map.2 ⟨t,ht,rfl⟩
   rw [e] at this
   simp only [DV,Bool.or_eq_true,decide_eq_true_eq]
   simp only [List.mem_cons,List.not_mem_nil,or_false] at this
   omega
 ·rintro ⟨l,h,e⟩
  exact ⟨l,h.trans List.filter_sublist,e⟩
theorem Tg.keep {a b x:Int} (ha:0≤a) (hb:0≤b) (EY:a≠x) (dy:b≠x) {A X C u:List It} (hX:∀t∈X,t.2.2=x∨t.2.2= -1) (h:Tg a b (A++X++C)):Tg a b (A++u++C):=by
 rw [Tg.MA] at h ⊢
 obtain ⟨l,h,e⟩:=h
 refine ⟨l,h.trans ?_,e⟩
 rw [List.filter_append,List.filter_append,List.filter_append,List.filter_append]
 have:X.filter (DV a b)= []:=List.filter_eq_nil_iff.2 fun t ht=>by
  simp only [DV,Bool.or_eq_true,decide_eq_true_eq]
  rcases hX t ht with h|h<;>omega
 rw [this,List.append_nil]
 exact List.Sublist.append_right (List.sublist_append_left _ _) _
theorem Tg.not {a b x:Int} (hab:a≠b) (hb0:0≤b) (ha0:0≤a) (hx:x=a∨x=b) {A X C:List It} (hA:fM x A) (hC:fM x C) (hX:∀t∈X,t.2.2=x∨t.2.2= -1):¬Tg a b (A++X++C):=by
 rintro ⟨l,h,e⟩
 rw [List.append_assoc,List.sublist_append_iff] at h
 obtain ⟨l1,l',rfl,h1,h'⟩:=h
 rw [List.sublist_append_iff] at h'
 obtain ⟨l2,l3,rfl,h2,h3⟩:=h'
 have k1:∀t∈l1,t.2.2≠x:=fun t ht=>hA t (h1.subset ht)
 have k2:∀t∈l2,t.2.2=x∨t.2.2= -1:=fun t ht=>hX t (h2.subset ht)
 have k3:∀t∈l3,t.2.2≠x:=fun t ht=>hC t (h3.subset ht)
 clear h1 h2 h3
 match l1,k1,e with
 |t1::t2::_,k1,e=>
  simp only [List.cons_append,List.map_cons,List.cons.injEq] at e
  rcases hx with h|h
  ·exact k1 t1 (by simp) (by omega)
  ·exact k1 t2 (by simp) (by omega)
 | [t1],k1,e=>
   simp only [List.cons_append,List.nil_append,List.map_cons,List.cons.injEq] at e
   rcases hx with h|h
   ·exact k1 t1 (by simp) (by omega)
   ·match l2,k2,e with
    | [],_,e=>
      match l3,k3,e with
      | [s1,s2,s3],k3,e=>
        simp only [List.nil_append,List.map_cons,List.map_nil,List.cons.injEq,and_true] at e
        exact k3 s1 (by simp) (by omega)
      | [],_,e=>simp at e
      | [_],_,e=>simp at e
      | [_,_],_,e=>simp at e
      |_::_::_::_::_,_,e=>simp at e
    |s1::s2::_,k2,e=>
     simp only [List.cons_append,List.map_cons,List.cons.injEq] at e
     rcases k2 s2 (by simp) with h|h<;>omega
    | [s1],k2,e=>
      match l3,k3,e with
      | [u1,u2],k3,e=>
        simp only [List.cons_append,List.nil_append,List.map_cons,List.map_nil,List.cons.injEq,and_true] at e
        exact k3 u2 (by simp) (by omega)
      | [],_,e=>simp at e
      | [_],_,e=>simp at e
      |_::_::_::_,_,e=>simp at e
 | [],_,e=>
   simp only [List.nil_append] at e
   match l2,k2,e with
   | [],_,e=>
     match l3,k3,e with
     | [],_,e=>simp at e
     | [_],_,e=>simp at e
     |s1::s2::_,k3,e=>
      simp only [List.nil_append,List.map_cons,List.cons.injEq] at e
      rcases hx with h|h
      ·exact k3 s1 (by simp) (by omega)
      ·exact k3 s2 (by simp) (by omega)
   |s1::s2::_,k2,e=>
    simp only [List.cons_append,List.map_cons,List.cons.injEq] at e
    have q1:=k2 s1 (by simp)
    have q2:=k2 s2 (by simp)
    omega
   | [s1],k2,e=>
     match l3,k3,e with
     | [],_,e=>simp at e
     | [_],_,e=>simp at e
     | [_,_],_,e=>simp at e
     |u1::u2::u3::_,k3,e=>
      simp only [List.cons_append,List.nil_append,List.map_cons,List.cons.injEq] at e
      have q1:=k2 s1 (by simp)
      exact k3 u2 (by simp) (by omega)
end Go.Ab
end
section
namespace Go.Ab
open Go.Proofs
set_option maxRecDepth 10000
theorem BX {row:List It} {k:Nat} (h:k<row.length):row.take (k+1)=row.take k++ [row.getD k (0,0,0)]:=by
 rw [List.take_add_one,List.getD_eq_getElem?_getD,List.getElem?_eq_getElem h];rfl
theorem DW {row:List It} {i j:Nat} (h:i≤j):(row.take i).Sublist (row.take j):=by
 rw [show row.take i=(row.take j).take i by rw [List.take_take,Nat.min_eq_left h]]
 exact List.take_sublist _ _
theorem tg {row l:List It} {i j:Nat} (h:l.Sublist (row.take i)) (hij:i≤j) (hj:j<row.length):(l++ [row.getD j (0,0,0)]).Sublist (row.take (j+1)):=by
 rw [BX hj]
 exact List.Sublist.append (h.trans (DW hij)) (List.Sublist.refl _)
def MB (a b:Int):List It→Prop
 | []=>True
 | [t]=>t.2.2=a∨t.2.2=b
 |s::t::l=>(s.2.2=a∨s.2.2=b)∧s.2.2≠t.2.2∧MB a b (t::l)
end Go.Ab
end
section
namespace Go.Ab
open Go.Proofs
attribute [local congr] ACall.congr
set_option maxRecDepth 10000
end Go.Ab
end
section
namespace Go.Ab
open Go.Proofs
attribute [local congr] ACall.congr
set_option maxRecDepth 10000
def MC (g:Gr) (out:List Int) (x:Nat) (i:Nat):Bool:=(List.range i).all fun j=> !decide (hd g j=(x:Int))||decide (tl g j∈out)
def Pn (g:Gr) (out:List Int) (k:Nat) (f:Bool):Prop:=k≤g.n.toNat∧(if f then 0<k∧wt g out (k - 1)=0∧∀j,j<k - 1→wt g out j≠0 else ∀j,j<k→wt g out j≠0)
def Po (out:List Int) (k:Nat) (f:Bool):List Int:=if f then out++ [((k - 1:Nat):Int)] else out
end Go.Ab
end
section
namespace Go.Ab
open Go.Proofs
attribute [local congr] ACall.congr
set_option maxRecDepth 10000
theorem Az {g:Gr} (hm:aO g=true):(bK g).length≤64:=by
 unfold bK
 have hf:=(dY hm).1.fuel
 have:=aT hm
 split<;>simp<;>omega
end Go.Ab
end
section
namespace Go.Ab
open Go.Proofs
set_option maxRecDepth 10000
structure Pl where
 ord:List Int
 outs:List (List Int)
def aq (p:Pl) (k:Nat):Int:=p.ord.getD k 0
def bB (p:Pl) (x:Int):List Int:=p.outs.getD x.toNat []
def bL (g:Gr) (p:Pl):Prop:=p.outs.length=g.n.toNat∧p.ord.Perm (dZ g.n.toNat)∧∀x:Nat,x<g.n.toNat→(p.outs.getD x []).Perm (b9 g x)
def fK (g:Gr) (p:Pl):Nat→Fr
 |0=>⟨[], []⟩
 |k+1=>(aF g (fK g p k) (aq p k) (bB p (aq p k))).2
def fQ (g:Gr) (p:Pl) (k:Nat):List It:=(aF g (fK g p k) (aq p k) (bB p (aq p k))).1.1
def Cs (g:Gr) (p:Pl) (k:Nat):Bool:=aK g (fK g p k) (aq p k)
def gr (g:Gr) (p:Pl):Nat→List (List It)
 |0=>List.replicate g.n.toNat []
 |k+1=>(gr g p k).set (aq p k).toNat (fQ g p k)
def jZ (g:Gr) (p:Pl):Nat→Option Nat
 |0=>none
 |k+1=>match jZ g p k with
  |some i=>some i
  |none=>if Cs g p k=true then none else some k
def cC (g:Gr) (p:Pl):Prop:=(bJ g).1=0∧bL g p∧∀k,k<g.n.toNat→Cs g p k=true
theorem gu {g:Gr} {p:Pl} :∀ {k:Nat},jZ g p k=none↔∀j,j<k→Cs g p j=true
 |0=>by simp [jZ]
 |k+1=>by
  rw [jZ]
  cases h:jZ g p k with
  |some i=>
   simp only [reduceCtorEq,false_iff]
   intro h2
   rw [gu.2 fun j hj=>h2 j (by omega)] at h
   cases h
  |none=>
   have ih:=gu.1 h
   simp only
   constructor
   ·intro h2 j hj
    by_cases hjk:j=k
    ·subst hjk
     refine Decidable.byContradiction fun hn=> ?_
     rw [if_neg hn] at h2;cases h2
    ·exact ih j (by omega)
   ·intro h2
    rw [if_pos (h2 k (by omega))]
theorem th {g:Gr} {p:Pl} {i:Nat} :∀ {k:Nat},jZ g p k=some i↔i<k∧Cs g p i=false∧∀j,j<i→Cs g p j=true
 |0=>by simp [jZ]
 |k+1=>by
  rw [jZ]
  cases h:jZ g p k with
  |some i'=>
   have ih:=(th (g:=g) (p:=p)).1 h
   simp only [Option.some.injEq]
   constructor
   ·rintro rfl
    exact ⟨by omega,ih.2⟩
   ·rintro ⟨h1,h2,h3⟩
    rcases Nat.lt_trichotomy i' i with h4|h4|h4
    ·rw [h3 i' h4] at ih;simp at ih
    ·exact h4
    ·rw [ih.2.2 i h4] at h2;cases h2
  |none=>
   have ih:=gu.1 h
   simp only
   constructor
   ·intro h2
    by_cases hk:Cs g p k=true
    ·rw [if_pos hk] at h2;cases h2
    ·rw [if_neg hk] at h2
     cases h2
     exact ⟨by omega,by simpa using hk,ih⟩
   ·rintro ⟨h1,h2,h3⟩
    have:i=k:=by
     by_cases h4:i<k
     ·rw [ih i h4] at h2;cases h2
     ·omega
    subst this
    rw [if_neg (by rw [h2];simp)]
theorem dm {n:Nat} :(dZ n).length=n:=by simp [dZ]
theorem bP {g:Gr} {p:Pl} (h:bL g p):p.ord.length=g.n.toNat:=by rw [h.2.1.length_eq,dm]
theorem tj {g:Gr} {p:Pl} (h:bL g p):p.ord.Nodup:=h.2.1.nodup_iff.2 e8
theorem aR {g:Gr} {p:Pl} (h:bL g p) {k:Nat} (hk:k<g.n.toNat):0≤aq p k∧aq p k<g.n:=by
 have h1:aq p k∈p.ord:=aW (by rw [bP h];exact hk)
 have:=cB.1 (h.2.1.mem_iff.1 h1)
 omega
theorem dP {g:Gr} {p:Pl} (h:bL g p) {i j:Nat} (hi:i<g.n.toNat) (hj:j<g.n.toNat) (e:aq p i=aq p j):i=j:=
 nG (tj h) (by rw [bP h];exact hi) (by rw [bP h];exact hj) e
theorem gA {g:Gr} {p:Pl} (h:bL g p) {x:Int} (h0:0≤x) (h1:x<g.n):∃k,k<g.n.toNat∧aq p k=x:=by
 have:x∈p.ord:=h.2.1.mem_iff.2 (cB.2 (by omega))
 obtain ⟨k,hk,e⟩:=List.mem_iff_getElem.1 this
 refine ⟨k,by rw [← bP h];exact hk, ?_⟩
 rw [aq,List.getD_eq_getElem?_getD,List.getElem?_eq_getElem hk,Option.getD_some,e]
theorem bH {g:Gr} {p:Pl} (h:bL g p) {x:Int} (h0:0≤x) (h1:x<g.n):(bB p x).Perm (b9 g x):=by
 have:=h.2.2 x.toNat (by omega)
 rwa [show ((x.toNat:Nat):Int)=x by omega] at this
theorem mD {g:Gr} {p:Pl} (h:bL g p) {x:Int} (h0:0≤x) (h1:x<g.n):(bB p x).length≤g.es.length:=by
 rw [(bH h h0 h1).length_eq];exact yb
theorem dQ {g:Gr} (hm:aO g=true) {p:Pl} (h:bL g p):∀ {k:Nat},k≤g.n.toNat→(∀j,j<k→Cs g p j=true)→yc g (fK g p k)∧(fK g p k).pl=p.ord.take k∧(fK g p k).row.length≤k*(g.es.length+1)
 |0,_,_=>⟨Av g,by simp [fK],by simp [fK]⟩
 |k+1,hk,hok=>by
  obtain ⟨h1,h2,h3⟩:=dQ hm h (k:=k) (by omega) fun j hj=>hok j (by omega)
  obtain ⟨x0,x1⟩:=aR h (k:=k) (by omega)
  have hl:=BM (g:=g) (f:=fK g p k) (x:=aq p k) (o:=bB p (aq p k))
  have x4:=mD h x0 x1
  refine ⟨jX hm h1 (hok k (by omega)) (bH h x0 x1), ?_, ?_⟩
  ·show (fK g p k).pl++ [aq p k]=_
   rw [h2,List.take_add_one,List.getElem?_eq_getElem (by rw [bP h];omega),aq,List.getD_eq_getElem?_getD,List.getElem?_eq_getElem (by rw [bP h];omega)]
   rfl
  ·show (aF _ _ _ _).2.row.length≤_
   rw [Nat.add_mul];omega
theorem DX {g:Gr} {p:Pl} (h:bL g p) {k:Nat} (hk:k<g.n.toNat) (hR:Cs g p k=true):ij g (fK g p k) (aq p k) (bB p (aq p k))=aF g (fK g p k) (aq p k) (bB p (aq p k)):=by
 have hp:=bH h (aR h hk).1 (aR h hk).2
 unfold ij
 have K3:aK g (fK g p k) (aq p k)=true:=hR
 rw [if_neg (by rw [K3];simp),if_neg]
 rintro (h|⟨i,h1,h2⟩)
 ·exact h hp.length_eq
 ·exact h2 (hp.mem_iff.2 h1)
theorem DY {g:Gr} {p:Pl} {k:Nat} (hR:Cs g p k=false):ij g (fK g p k) (aq p k) (bB p (aq p k))=(([],3),fK g p k):=if_pos hR
theorem oR {g:Gr} {p:Pl} :∀ {k:Nat},(gr g p k).length=g.n.toNat
 |0=>by simp [gr]
 |k+1=>by rw [gr,List.length_set,oR]
theorem BY {α:Type} {l:List α} {i j:Nat} {a d:α} (hi:i<l.length):(l.set i a).getD j d=if j=i then a else l.getD j d:=by
 rw [List.getD_eq_getElem?_getD,List.getElem?_set,List.getD_eq_getElem?_getD]
 by_cases h:i=j
 ·subst h;simp [hi]
 ·rw [if_neg h,if_neg (Ne.symm h)]
theorem oS {g:Gr} {p:Pl} (h:bL g p):∀ {k:Nat},k≤g.n.toNat→∀ {i:Nat},i<k→(gr g p k).getD (aq p i).toNat []=fQ g p i
 |0,_,i,hi=>by omega
 |k+1,hk,i,hi=>by
  have hm:=aR h (k:=k) (by omega)
  rw [gr,BY (by rw [oR];omega)]
  by_cases e:i=k
  ·subst e;rw [if_pos rfl]
  ·have Nx:=aR h (k:=i) (by omega)
   rw [if_neg (fun h2=>e (dP h (by omega) (by omega) (by omega)))]
   exact oS h (by omega) (by omega)
theorem oT {l m:List Int} (h:gU l=m):l.Perm m:=by
 rw [← h];exact (List.mergeSort_perm l _).symm
theorem yg {n:Nat} :(dZ n).Pairwise (· ≤ ·):=by
 unfold dZ
 refine List.Pairwise.map _ (fun a b (h:a<b)=> ?_) List.pairwise_lt_range
 show (a:Int)≤b
 omega
theorem FU {g:Gr} (hm:aO g=true) {p:Pl} :(p.outs.length=g.n.toNat∧p.ord.length=g.n.toNat∧(∀i:Nat,i<(gU p.ord).length→(gU p.ord).getD i 0=i)∧∀x:Nat,x<p.outs.length→gU (p.outs.getD x [])=bk (·.1) g x)↔bL g p:=by
 constructor
 ·rintro ⟨h1,h2,h3,h4⟩
  refine ⟨h1,oT ?_,fun x hx=> ?_⟩
  ·refine List.ext_getElem (by rw [eY,h2,dm]) fun i h5 h6=> ?_
   have:=h3 i h5
   rw [List.getD_eq_getElem?_getD,List.getElem?_eq_getElem h5,Option.getD_some] at this
   rw [this];simp [dZ]
  ·have:=h4 x (by omega)
   rw [fA (by omega) (by omega)] at this
   exact oT this
 ·intro h
  refine ⟨h.1,bP h, ?_,fun x hx=> ?_⟩
  ·rw [ta h.2.1 yg]
   intro i hi
   rw [dm] at hi
   simp [dZ,List.getD_eq_getElem?_getD,List.getElem?_range hi]
  ·rw [fA (by omega) (by have:=h.1;omega)]
   exact ta (h.2.2 x (by rw [← h.1];exact hx)) qu
theorem FV {g:Gr} (hm:aO g=true) {p:Pl} :(jS p.ord g.n=true∧p.outs.length=g.n.toNat∧(∀x:Nat,x<p.outs.length→∀i∈p.outs.getD x [],i∈b9 g x)∧p.outs.flatten.Nodup∧∀i:Nat,i<g.es.length→(i:Int)∈p.outs.flatten)↔bL g p:=by
 have hn:=aT hm
 constructor
 ·rintro ⟨h1,h2,h3,h4,h5⟩
  refine ⟨h2, ?_,fun x hx=> ?_⟩
  ·obtain ⟨e1,e2⟩:=bQ.1 h1
   exact qS e8 e2 (by rw [dm];omega)
  ·have hxl:x<p.outs.length:=by omega
   have hmem:p.outs.getD x []∈p.outs:=aW hxl
   have cI:(p.outs.getD x []).Nodup:=by
    rw [List.Nodup,List.pairwise_flatten] at h4
    exact h4.1 _ hmem
   refine (List.perm_ext_iff_of_nodup cI bU).2 fun i=>⟨h3 x hxl i,fun hi=> ?_⟩
   obtain ⟨k,rfl,hk,ht⟩:=jV hi
   obtain ⟨l,hl,bF⟩:=List.mem_flatten.1 (h5 k hk)
   obtain ⟨y,hy,rfl⟩:=List.mem_iff_getElem.1 hl
   have e:p.outs.getD y []=p.outs[y]:=by rw [List.getD_eq_getElem?_getD,List.getElem?_eq_getElem hy];rfl
   rw [← e] at bF
   obtain ⟨k',e1,_,e2⟩:=jV (h3 y hy _ bF)
   have:k=k':=by omega
   subst this
   have:x=y:=by omega
   subst this
   exact bF
 ·intro h
  refine ⟨bQ.2 ⟨?_,fun x hx=>h.2.1.mem_iff.2 hx⟩,h.1,fun x hx i hi=>(h.2.2 x (by rw [← h.1];exact hx)).mem_iff.1 hi, ?_,fun i hi=> ?_⟩
  ·have:=bP h;omega
  ·rw [List.Nodup,List.pairwise_flatten]
   constructor
   ·intro l hl
    obtain ⟨x,hx,rfl⟩:=List.mem_iff_getElem.1 hl
    have e:p.outs.getD x []=p.outs[x]:=by rw [List.getD_eq_getElem?_getD,List.getElem?_eq_getElem hx];rfl
    rw [← e]
    exact (h.2.2 x (by rw [← h.1];exact hx)).nodup_iff.2 bU
   ·refine List.pairwise_iff_getElem.2 fun x y hx hy hxy a ha b hb e=> ?_
    subst e
    have ex:p.outs.getD x []=p.outs[x]:=by rw [List.getD_eq_getElem?_getD,List.getElem?_eq_getElem hx];rfl
    have ey:p.outs.getD y []=p.outs[y]:=by rw [List.getD_eq_getElem?_getD,List.getElem?_eq_getElem hy];rfl
    rw [← ex] at ha
    rw [← ey] at hb
    obtain ⟨k,e1,_,e2⟩:=jV ((h.2.2 x (by rw [← h.1];exact hx)).mem_iff.1 ha)
    obtain ⟨k',e3,_,e4⟩:=jV ((h.2.2 y (by rw [← h.1];exact hy)).mem_iff.1 hb)
    have:k=k':=by omega
    subst this
    omega
  ·have ht:=(dL hm hi).1
   refine List.mem_flatten.2 ⟨p.outs.getD (tl g i).toNat [],aW (by rw [h.1];have:0≤tl g i∧tl g i<g.n:=ht;omega), ?_⟩
   have:0≤tl g i∧tl g i<g.n:=ht
   refine (h.2.2 _ (by omega)).mem_iff.2 ?_
   simp only [b9,aD,List.mem_map,List.mem_filter,List.mem_range,decide_eq_true_eq]
   exact ⟨i,⟨hi,by show tl g i=_;omega⟩,rfl⟩
end Go.Ab
end
section
namespace Go.Ab
open Go.Proofs
set_option maxRecDepth 10000
def uV (g:Gr) (p:Pl) (f:Fr) (x:Int):Fr:=(aF g f x (bB p x)).2
def J2 (g:Gr) (p:Pl):Nat→Fr→Prop
 |0,f=>(f.pl.length:Int)=g.n
 |m+1,f=>∃x,aK g f x=true∧J2 g p m (uV g p f x)
def J3 (rev:Bool) (l:List It):List It:=if rev=true then l.reverse else l
def DZ (g:Gr) (f:Fr) (rev:Bool):Int:=match (J3 rev f.row).find? (fun t=>aK g f t.2.2) with
 |some t=>t.2.2
 |none=>(HP g f).headD (-1)
def AA (g:Gr) (p:Pl) (rev:Bool):Nat→Fr
 |0=>⟨[], []⟩
 |k+1=>uV g p (AA g p rev k) (DZ g (AA g p rev k) rev)
def D2 (g:Gr) (p:Pl) (rev:Bool):Nat→List Int
 |0=>List.replicate g.n.toNat 0
 |k+1=>(D2 g p rev k).set (DZ g (AA g p rev k) rev).toNat (k:Int)
def Pp (g:Gr) (p:Pl) (rev:Bool):List Int:=(List.range g.n.toNat).map fun k=>DZ g (AA g p rev k) rev
end Go.Ab
end
section
namespace Go.Ab
open Go.Proofs
set_option maxRecDepth 10000
def Pq (f:Fr):Fr:=⟨f.row.reverse,f.pl⟩
def Pr (p:Pl):Pl:=⟨p.ord,p.outs.map List.reverse⟩
theorem fM.rev {x:Int} {l:List It} (h:fM x l):fM x l.reverse:=fun t ht=>h t (List.mem_reverse.1 ht)
theorem BO.rev {x:Int} {X:List It} (h:BO x X):BO x X.reverse:=
 ⟨by obtain ⟨X',q,h1,h2⟩:=h.E3;exact ⟨q,X'.reverse,by simp [h1],h2⟩,by obtain ⟨p,X',h1,h2⟩:=h.fst;exact ⟨X'.reverse,p,by simp [h1],h2⟩,fun t ht=>h.al t (List.mem_reverse.1 ht)⟩
end Go.Ab
end
section
namespace Go.Ab
open Go.Proofs
set_option maxRecDepth 10000
def loose (l:List It):List Int:=(l.filter fun t=>decide (t.1<0)).map fun t=>t.2.1
theorem uW {a b:List It} :loose (a++b)=loose a++loose b:=by simp [loose]
def J4 (g:Gr) (p:Pl):Nat→List Edge
 |0=> []
 |k+1=>J4 g p k++(loose (fQ g p k)).map fun v=>(v,aq p k)
def lN (g:Gr) (p:Pl):List It:=(fK g p g.n.toNat).row
def newL (g:Gr) (p:Pl):List Edge:=if 1<(lN g p).length then (loose (lN g p)).map fun v=>(v,g.n) else []
def J5 (g:Gr) (p:Pl):List Edge:=J4 g p g.n.toNat++newL g p
def D3 (g:Gr) (p:Pl):Gr:=⟨if 1<(lN g p).length then g.n+1 else g.n,g.es++J5 g p⟩
def J6:Nat→List Edge→List (List Int)→List (List Int)
 |_, [],O=>O
 |m,e::N,O=>J6 (m+1) N (O.set e.1.toNat [(m:Int)])
def MD (g:Gr) (p:Pl):Pl:=⟨if 1<(lN g p).length then p.ord++ [g.n] else p.ord,J6 g.es.length (J5 g p) (if 1<(lN g p).length then p.outs++ [[]] else p.outs)⟩
def Pt (g:Gr) (p:Pl) (x:Gr):List (List Int):=(List.range x.n.toNat).map fun v=>if 0<(p.outs.getD v []).length then p.outs.getD v [] else b9 x (v:Int)
theorem oU {g:Gr} {p:Pl} (h:bL g p) {v:Int} (h0:0≤v) (h1:v<g.n):b9 g v= []↔bB p v= []:=by
 have hp:=bH h h0 h1
 constructor
 ·intro e;rw [e] at hp;exact hp.eq_nil
 ·intro e;rw [e] at hp;exact hp.symm.eq_nil
end Go.Ab
end
section
namespace Go.Ab
open Go.Proofs
set_option maxRecDepth 10000
abbrev Act:=Int × List Int
def rA (a:Act):List D:= [.sc (.int .i64 a.1),sI a.2]
def sA (as':List Act):D:= .sl 2 (as'.map rA)
attribute [go_sem] sA
def J7 (g:Gr) (HS:List Act):Nat→Fr
 |0=>⟨[], []⟩
 |k+1=>(ij g (J7 g HS k) (HS.getD k (0, [])).1 (HS.getD k (0, [])).2).2
theorem J8 {g:Gr} {f:Fr} (hi:gV g f):(f.pl.length:Int)≤g.n∨f.pl= []:=by
 by_cases h:f.pl= []
 ·exact .inr h
 ·left
  obtain ⟨y,hy⟩:=List.exists_mem_of_ne_nil _ h
  have:=hi.HQ y hy
  have h3:=nL hi.pl (m:=(List.range g.n.toNat).map Int.ofNat) (fun y hy=>by
   rw [List.mem_map]
   have:=hi.HQ y hy
   exact ⟨y.toNat,List.mem_range.2 (by omega),by simp;omega⟩)
  simp at h3
  omega
theorem yh (g:Gr) (hm:aO g=true) (f:Fr) (hi:yc g f) (x:Int) (outs:List Int) (hr:f.row.length≤300000) (hp:f.pl.length≤100000) (ho:outs.length≤17592186043904):
 Spec Tryz.prog 86 (Args [.ptr 10000 0,eN x, .d (sI outs)]) (iU g f) (.tup [.d (sT (ij g f x outs).1.1),eN (ij g f x outs).1.2]) (s5 g (ij g f x outs).2):=by
 rw [← DS hm hi.togV]
 exact zH g hm f x outs hr hp ho
end Go.Ab
end
section
namespace Go.Ab
open Go.Proofs
attribute [local congr] ACall.congr
set_option maxRecDepth 10000
set_option maxHeartbeats 4000000
def ePl (p:Pl):AV:= .agg [.d (sI p.ord), .d (.sl 1 (vI p.outs))]
attribute [go_sem] ePl
structure uX (p:Pl):Prop where
 ord:p.ord.length≤17592186043904
 outs:p.outs.length≤9223372036854775807
 each:∀l∈p.outs,l.length≤17592186043904
theorem D4 (g:Gr) (hm:aO g=true) (p:Pl) (hp:uX p) (res:Bool) (hr:res=true↔bL g p):Spec Tryz.prog 85 (Args [.d (vw g),ePl p]) [] (eB res) []:=by
 rw [← FU hm] at hr
 have hn:=aT hm
 have ho:=hp.ord
 have KN:=hp.outs
 by_cases h1:p.outs.length=g.n.toNat∧p.ord.length=g.n.toNat
 rotate_left
 ·have hres:res=false:=by
   rw [← Bool.not_eq_true,hr]
   rintro ⟨h2,h3,_⟩
   exact h1 ⟨h2,h3⟩
  subst hres
  by_cases h2:(p.outs.length:Int)=g.n
  ·have au:decide ((p.outs.length:Int)=g.n)=true:=decide_eq_true h2
   have ak:decide ((p.ord.length:Int)=g.n)=false:=decide_eq_false fun h3=>h1 ⟨by omega,by omega⟩
   (refine Spec.intro (C:=T.cfg [] []) (rs:= [.t 4]) (T.aj _ _) Tryz.func85 rfl rfl Tryz.ntmps85 Tryz.results85 (by simp [AObj.isNest]) (by simp [AObj.isNest]) (by kernel_rfl) ?_;intro X hX hP hC aL aM vals hA;refine ⟨_,by simp,hA, ?_⟩;have af:X.P.follows .mixedOrders=true:=(by rw [hP];exact T.mixed);clear aL aM)
   repeat' (first|((first|((with_reducible (first|apply oA|apply oB));exact rfl;intro K hK)|(refine hK _ ?_;clear hK K)|((with_reducible (first|apply oG|apply oH));iterate 3 exact rfl)|((with_reducible apply oI);(iterate 2 exact rfl);intro K hK)|(with_reducible (first|apply wI|apply wJ|apply wK)));try simp only [go_sem,simprocAttr,ag,au,ak])|(with_reducible (first|apply oC|apply oJ|exact oK|apply wA|apply wB|apply wC hX hC|apply wD hX hC|apply wE hX hC af|apply wF hX hC af|apply wG|apply wH|apply And.intro))|((with_reducible refine oD ?_ ?_);kernel_rfl)|((with_reducible (first|apply oE|apply oF));(iterate 3 exact rfl);all_goals (intro h;first|(exact absurd h (by decide))|((try simp only [go_sem,simprocAttr,ag,au,ak] at h);(try with_reducible intro K hK);simp only [go_sem,simprocAttr,ag,au,ak])))|((first|((with_reducible apply wL);exact rfl)|((with_reducible apply wM);exact rfl));all_goals (try ((with_reducible intro h);first|(exact absurd h (by decide))|(try simp only [go_sem,simprocAttr,ag,au,ak] at h))))|omega|(intro h))
  ·have au:decide ((p.outs.length:Int)=g.n)=false:=decide_eq_false h2
   (refine Spec.intro (C:=T.cfg [] []) (rs:= [.t 4]) (T.aj _ _) Tryz.func85 rfl rfl Tryz.ntmps85 Tryz.results85 (by simp [AObj.isNest]) (by simp [AObj.isNest]) (by kernel_rfl) ?_;intro X hX hP hC aL aM vals hA;refine ⟨_,by simp,hA, ?_⟩;have af:X.P.follows .mixedOrders=true:=(by rw [hP];exact T.mixed);clear aL aM)
   repeat' (first|((first|((with_reducible (first|apply oA|apply oB));exact rfl;intro K hK)|(refine hK _ ?_;clear hK K)|((with_reducible (first|apply oG|apply oH));iterate 3 exact rfl)|((with_reducible apply oI);(iterate 2 exact rfl);intro K hK)|(with_reducible (first|apply wI|apply wJ|apply wK)));try simp only [go_sem,simprocAttr,ag,au])|(with_reducible (first|apply oC|apply oJ|exact oK|apply wA|apply wB|apply wC hX hC|apply wD hX hC|apply wE hX hC af|apply wF hX hC af|apply wG|apply wH|apply And.intro))|((with_reducible refine oD ?_ ?_);kernel_rfl)|((with_reducible (first|apply oE|apply oF));(iterate 3 exact rfl);all_goals (intro h;first|(exact absurd h (by decide))|((try simp only [go_sem,simprocAttr,ag,au] at h);(try with_reducible intro K hK);simp only [go_sem,simprocAttr,ag,au])))|((first|((with_reducible apply wL);exact rfl)|((with_reducible apply wM);exact rfl));all_goals (try ((with_reducible intro h);first|(exact absurd h (by decide))|(try simp only [go_sem,simprocAttr,ag,au] at h))))|omega|(intro h))
 have au:decide ((p.outs.length:Int)=g.n)=true:=decide_eq_true (by omega)
 have ak:decide ((p.ord.length:Int)=g.n)=true:=decide_eq_true (by omega)
 have EV:=eY p.ord
 (refine Spec.intro (C:=T.cfg [] []) (rs:= [.t 4]) (T.aj _ _) Tryz.func85 rfl rfl Tryz.ntmps85 Tryz.results85 (by simp [AObj.isNest]) (by simp [AObj.isNest]) (by kernel_rfl) ?_;intro X hX hP hC aL aM vals hA;refine ⟨_,by simp,hA, ?_⟩;have af:X.P.follows .mixedOrders=true:=(by rw [hP];exact T.mixed);clear aL aM)
 repeat' (first|((first|((with_reducible (first|apply oA|apply oB));exact rfl;intro K hK)|(refine hK _ ?_;clear hK K)|((with_reducible (first|apply oG|apply oH));iterate 3 exact rfl)|((with_reducible apply oI);(iterate 2 exact rfl);intro K hK)|(with_reducible (first|apply wI|apply wJ|apply wK)));try simp only [go_sem,simprocAttr,ag,au,ak])|(with_reducible (first|apply oC|apply oJ|exact oK|apply wA|apply wB|apply wC hX hC|apply wD hX hC|apply wE hX hC af|apply wF hX hC af|apply wG|apply wH|apply And.intro))|((with_reducible refine oD ?_ ?_);kernel_rfl)|((with_reducible (first|apply oE|apply oF));(iterate 3 exact rfl);all_goals (intro h;first|(exact absurd h (by decide))|((try simp only [go_sem,simprocAttr,ag,au,ak] at h);(try with_reducible intro K hK);simp only [go_sem,simprocAttr,ag,au,ak])))|((first|((with_reducible apply wL);exact rfl)|((with_reducible apply wM);exact rfl));all_goals (try ((with_reducible intro h);first|(exact absurd h (by decide))|(try simp only [go_sem,simprocAttr,ag,au,ak] at h))))|omega|((first|(refine az hX hC hP [(10000,31)] (cr p.ord) rfl rfl rfl ?_ ?_ ?_ ?_ ?_ ?_ ?_ ?_ ?_ ?_ ?_ ?_ ?_ ?_;(focus (simp only [go_sem,simprocAttr,ag,au,ak];done));(iterate 12 (focus (simp [go_sem,simprocAttr,ag,au,ak];done)));simp only [go_sem,simprocAttr,ag,au,ak,List.map_cons,List.map_nil])|(refine cF hX hC hP [(10000,31)] (bR p.ord ho) rfl rfl rfl ?_ ?_ ?_ ?_ ?_ ?_ rfl rfl ?_ ?_;(focus (simp only [go_sem,simprocAttr,ag,au,ak];done));(iterate 6 (focus (simp [go_sem,simprocAttr,ag,au,ak];done)));simp only [go_sem,simprocAttr,ag,au,ak,List.map_cons,List.map_nil]));try simp only [go_sem,simprocAttr,ag,au,ak])|(intro h))
 clear au ak
 refine ah (fun k:Nat=>k≤(gU p.ord).length∧∀i:Nat,i<k→(gU p.ord).getD i 0=i) (fun k=>⟨[(0, .d (vw g)),(3, .ptr 3 0),(32, .d (sI (gU p.ord))),(33,eN (gU p.ord).length),(34,eN k)], [(3, .box [.d (sI p.ord), .d (.sl 1 (vI p.outs))])]⟩) (fun k=>(gU p.ord).length - k) 0 (by simp) ?_ ?_
 ·(refine Le.of ?_ ?_<;>simp [go_sem,simprocAttr,ag])
 rintro k ⟨hk,hg⟩
 rcases Nat.lt_or_ge k (gU p.ord).length with hlt|hge
 ·have hb:decide ((k:Int)<((gU p.ord).length:Int))=true:=decide_eq_true (by omega)
  by_cases he:(gU p.ord).getD k 0=k
  ·have ak:decide ((gU p.ord).getD k 0=(k:Int))=true:=decide_eq_true he
   repeat' (first|((first|((with_reducible (first|apply oA|apply oB));exact rfl;intro K hK)|(refine hK _ ?_;clear hK K)|((with_reducible (first|apply oG|apply oH));iterate 3 exact rfl)|((with_reducible apply oI);(iterate 2 exact rfl);intro K hK)|(with_reducible (first|apply wI|apply wJ|apply wK)));try simp only [go_sem,simprocAttr,ag,hb,ak])|(with_reducible (first|apply oC|apply oJ|exact oK|apply wA|apply wB|apply wC hX hC|apply wD hX hC|apply wE hX hC af|apply wF hX hC af|apply wG|apply wH|apply And.intro))|((with_reducible refine oD ?_ ?_);kernel_rfl)|((with_reducible (first|apply oE|apply oF));(iterate 3 exact rfl);all_goals (intro h;first|(exact absurd h (by decide))|((try simp only [go_sem,simprocAttr,ag,hb,ak] at h);(try with_reducible intro K hK);simp only [go_sem,simprocAttr,ag,hb,ak])))|((first|((with_reducible apply wL);exact rfl)|((with_reducible apply wM);exact rfl));all_goals (try ((with_reducible intro h);first|(exact absurd h (by decide))|(try simp only [go_sem,simprocAttr,ag,hb,ak] at h))))|omega|((first|(refine az hX hC hP [(10000,31)] (cr p.ord) rfl rfl rfl ?_ ?_ ?_ ?_ ?_ ?_ ?_ ?_ ?_ ?_ ?_ ?_ ?_ ?_;(focus (simp only [go_sem,simprocAttr,ag,hb,ak];done));(iterate 12 (focus (simp [go_sem,simprocAttr,ag,hb,ak];done)));simp only [go_sem,simprocAttr,ag,hb,ak,List.map_cons,List.map_nil])|(refine cF hX hC hP [(10000,31)] (bR p.ord ho) rfl rfl rfl ?_ ?_ ?_ ?_ ?_ ?_ rfl rfl ?_ ?_;(focus (simp only [go_sem,simprocAttr,ag,hb,ak];done));(iterate 6 (focus (simp [go_sem,simprocAttr,ag,hb,ak];done)));simp only [go_sem,simprocAttr,ag,hb,ak,List.map_cons,List.map_nil]));try simp only [go_sem,simprocAttr,ag,hb,ak])|(intro h))
   refine ⟨k+1,⟨by omega,fun i hi=> ?_⟩, ?_,by omega⟩
   ·by_cases hik:i=k
    ·subst hik;exact he
    ·exact hg i (by omega)
   ·(refine Le.of ?_ ?_<;>simp [go_sem,simprocAttr,ag,hb,ak])
  ·have ak:decide ((gU p.ord).getD k 0=(k:Int))=false:=decide_eq_false he
   have hres:res=false:=by
    rw [← Bool.not_eq_true,hr]
    rintro ⟨_,_,h3,_⟩
    exact he (h3 k hlt)
   subst hres
   repeat' (first|((first|((with_reducible (first|apply oA|apply oB));exact rfl;intro K hK)|(refine hK _ ?_;clear hK K)|((with_reducible (first|apply oG|apply oH));iterate 3 exact rfl)|((with_reducible apply oI);(iterate 2 exact rfl);intro K hK)|(with_reducible (first|apply wI|apply wJ|apply wK)));try simp only [go_sem,simprocAttr,ag,hb,ak])|(with_reducible (first|apply oC|apply oJ|exact oK|apply wA|apply wB|apply wC hX hC|apply wD hX hC|apply wE hX hC af|apply wF hX hC af|apply wG|apply wH|apply And.intro))|((with_reducible refine oD ?_ ?_);kernel_rfl)|((with_reducible (first|apply oE|apply oF));(iterate 3 exact rfl);all_goals (intro h;first|(exact absurd h (by decide))|((try simp only [go_sem,simprocAttr,ag,hb,ak] at h);(try with_reducible intro K hK);simp only [go_sem,simprocAttr,ag,hb,ak])))|((first|((with_reducible apply wL);exact rfl)|((with_reducible apply wM);exact rfl));all_goals (try ((with_reducible intro h);first|(exact absurd h (by decide))|(try simp only [go_sem,simprocAttr,ag,hb,ak] at h))))|omega|((first|(refine az hX hC hP [(10000,31)] (cr p.ord) rfl rfl rfl ?_ ?_ ?_ ?_ ?_ ?_ ?_ ?_ ?_ ?_ ?_ ?_ ?_ ?_;(focus (simp only [go_sem,simprocAttr,ag,hb,ak];done));(iterate 12 (focus (simp [go_sem,simprocAttr,ag,hb,ak];done)));simp only [go_sem,simprocAttr,ag,hb,ak,List.map_cons,List.map_nil])|(refine cF hX hC hP [(10000,31)] (bR p.ord ho) rfl rfl rfl ?_ ?_ ?_ ?_ ?_ ?_ rfl rfl ?_ ?_;(focus (simp only [go_sem,simprocAttr,ag,hb,ak];done));(iterate 6 (focus (simp [go_sem,simprocAttr,ag,hb,ak];done)));simp only [go_sem,simprocAttr,ag,hb,ak,List.map_cons,List.map_nil]));try simp only [go_sem,simprocAttr,ag,hb,ak])|(intro h))
 have hb:decide ((k:Int)<((gU p.ord).length:Int))=false:=decide_eq_false (by omega)
 repeat' (first|((first|((with_reducible (first|apply oA|apply oB));exact rfl;intro K hK)|(refine hK _ ?_;clear hK K)|((with_reducible (first|apply oG|apply oH));iterate 3 exact rfl)|((with_reducible apply oI);(iterate 2 exact rfl);intro K hK)|(with_reducible (first|apply wI|apply wJ|apply wK)));try simp only [go_sem,simprocAttr,ag,hb])|(with_reducible (first|apply oC|apply oJ|exact oK|apply wA|apply wB|apply wC hX hC|apply wD hX hC|apply wE hX hC af|apply wF hX hC af|apply wG|apply wH|apply And.intro))|((with_reducible refine oD ?_ ?_);kernel_rfl)|((with_reducible (first|apply oE|apply oF));(iterate 3 exact rfl);all_goals (intro h;first|(exact absurd h (by decide))|((try simp only [go_sem,simprocAttr,ag,hb] at h);(try with_reducible intro K hK);simp only [go_sem,simprocAttr,ag,hb])))|((first|((with_reducible apply wL);exact rfl)|((with_reducible apply wM);exact rfl));all_goals (try ((with_reducible intro h);first|(exact absurd h (by decide))|(try simp only [go_sem,simprocAttr,ag,hb] at h))))|omega|((first|(refine az hX hC hP [(10000,31)] (cr p.ord) rfl rfl rfl ?_ ?_ ?_ ?_ ?_ ?_ ?_ ?_ ?_ ?_ ?_ ?_ ?_ ?_;(focus (simp only [go_sem,simprocAttr,ag,hb];done));(iterate 12 (focus (simp [go_sem,simprocAttr,ag,hb];done)));simp only [go_sem,simprocAttr,ag,hb,List.map_cons,List.map_nil])|(refine cF hX hC hP [(10000,31)] (bR p.ord ho) rfl rfl rfl ?_ ?_ ?_ ?_ ?_ ?_ rfl rfl ?_ ?_;(focus (simp only [go_sem,simprocAttr,ag,hb];done));(iterate 6 (focus (simp [go_sem,simprocAttr,ag,hb];done)));simp only [go_sem,simprocAttr,ag,hb,List.map_cons,List.map_nil]));try simp only [go_sem,simprocAttr,ag,hb])|(intro h))
 obtain rfl:k=(gU p.ord).length:=by omega
 clear hb hk
 refine ah (fun x:Nat=>x≤p.outs.length∧∀i:Nat,i<x→gU (p.outs.getD i [])=bk (·.1) g i) (fun x=>⟨[(0, .d (vw g)),(44, .d (.sl 1 (vI p.outs))),(45,eN p.outs.length),(46,eN x)], []⟩) (fun x=>p.outs.length - x) 0 (by simp) ?_ ?_
 ·refine Le.of ?_ ?_<;>simp [go_sem,simprocAttr,ag]
 rintro x ⟨hx,tQ⟩
 rcases Nat.lt_or_ge x p.outs.length with hxl|Ct
 ·have hb:decide ((x:Int)<(p.outs.length:Int))=true:=decide_eq_true (by omega)
  have hv:=kD hxl
  have hl:=hp.each _ (aW (d:= []) hxl)
  have hn2:∀h:gU (p.outs.getD x [])=bk (·.1) g x,∀i:Nat,i<x+1→gU (p.outs.getD i [])=bk (·.1) g i:=fun h i hi=>by
   by_cases IQ:i=x
   ·subst IQ;exact h
   ·exact tQ i (by omega)
  have yP:¬gU (p.outs.getD x [])=bk (·.1) g x→res=false:=fun h=>by
   rw [← Bool.not_eq_true,hr]
   rintro ⟨_,_,_,h4⟩
   exact h (h4 x hxl)
  generalize p.outs.getD x []=l at hv hl hn2 yP
  have Pu:=eY l
  by_cases he:gU l=bk (·.1) g x
  ·have ak:decide (gU l=bk (·.1) g (x:Int))=true:=decide_eq_true he
   repeat' (first|((first|((with_reducible (first|apply oA|apply oB));exact rfl;intro K hK)|(refine hK _ ?_;clear hK K)|((with_reducible (first|apply oG|apply oH));iterate 3 exact rfl)|((with_reducible apply oI);(iterate 2 exact rfl);intro K hK)|(with_reducible (first|apply wI|apply wJ|apply wK)));try simp only [go_sem,simprocAttr,hb,hv,ak])|(with_reducible (first|apply oC|apply oJ|exact oK|apply wA|apply wB|apply wC hX hC|apply wD hX hC|apply wE hX hC af|apply wF hX hC af|apply wG|apply wH|apply And.intro))|((with_reducible refine oD ?_ ?_);kernel_rfl)|((with_reducible (first|apply oE|apply oF));(iterate 3 exact rfl);all_goals (intro h;first|(exact absurd h (by decide))|((try simp only [go_sem,simprocAttr,hb,hv,ak] at h);(try with_reducible intro K hK);simp only [go_sem,simprocAttr,hb,hv,ak])))|((first|((with_reducible apply wL);exact rfl)|((with_reducible apply wM);exact rfl));all_goals (try ((with_reducible intro h);first|(exact absurd h (by decide))|(try simp only [go_sem,simprocAttr,hb,hv,ak] at h))))|omega|((first|(refine az hX hC hP [(10000,52)] (cr l) rfl rfl rfl ?_ ?_ ?_ ?_ ?_ ?_ ?_ ?_ ?_ ?_ ?_ ?_ ?_ ?_;(focus (simp only [go_sem,simprocAttr,hb,hv,ak];done));(iterate 12 (focus (simp [go_sem,simprocAttr,hb,hv,ak];done)));simp only [go_sem,simprocAttr,hb,hv,ak,List.map_cons,List.map_nil])|(refine cF hX hC hP [(10000,52)] (bR l hl) rfl rfl rfl ?_ ?_ ?_ ?_ ?_ ?_ rfl rfl ?_ ?_;(focus (simp only [go_sem,simprocAttr,hb,hv,ak];done));(iterate 6 (focus (simp [go_sem,simprocAttr,hb,hv,ak];done)));simp only [go_sem,simprocAttr,hb,hv,ak,List.map_cons,List.map_nil])|refine aa hX hC hP (iA g hm (x:Int)) rfl rfl rfl (by simp only [go_sem,simprocAttr,hb,hv,ak]) rfl ?_|refine aa hX hC hP (fz (gU l) (bk (·.1) g x) (by omega)) rfl rfl rfl (by simp only [go_sem,simprocAttr,hb,hv,ak]) rfl ?_);try simp only [go_sem,simprocAttr,hb,hv,ak])|(intro h))
   refine ⟨x+1,⟨by omega,hn2 he⟩, ?_,by omega⟩
   (refine Le.of ?_ ?_<;>simp [go_sem,simprocAttr,hb,hv,ak])
  ·have ak:decide (gU l=bk (·.1) g (x:Int))=false:=decide_eq_false he
   have hres:=yP he
   subst hres
   repeat' (first|((first|((with_reducible (first|apply oA|apply oB));exact rfl;intro K hK)|(refine hK _ ?_;clear hK K)|((with_reducible (first|apply oG|apply oH));iterate 3 exact rfl)|((with_reducible apply oI);(iterate 2 exact rfl);intro K hK)|(with_reducible (first|apply wI|apply wJ|apply wK)));try simp only [go_sem,simprocAttr,hb,hv,ak])|(with_reducible (first|apply oC|apply oJ|exact oK|apply wA|apply wB|apply wC hX hC|apply wD hX hC|apply wE hX hC af|apply wF hX hC af|apply wG|apply wH|apply And.intro))|((with_reducible refine oD ?_ ?_);kernel_rfl)|((with_reducible (first|apply oE|apply oF));(iterate 3 exact rfl);all_goals (intro h;first|(exact absurd h (by decide))|((try simp only [go_sem,simprocAttr,hb,hv,ak] at h);(try with_reducible intro K hK);simp only [go_sem,simprocAttr,hb,hv,ak])))|((first|((with_reducible apply wL);exact rfl)|((with_reducible apply wM);exact rfl));all_goals (try ((with_reducible intro h);first|(exact absurd h (by decide))|(try simp only [go_sem,simprocAttr,hb,hv,ak] at h))))|omega|((first|(refine az hX hC hP [(10000,52)] (cr l) rfl rfl rfl ?_ ?_ ?_ ?_ ?_ ?_ ?_ ?_ ?_ ?_ ?_ ?_ ?_ ?_;(focus (simp only [go_sem,simprocAttr,hb,hv,ak];done));(iterate 12 (focus (simp [go_sem,simprocAttr,hb,hv,ak];done)));simp only [go_sem,simprocAttr,hb,hv,ak,List.map_cons,List.map_nil])|(refine cF hX hC hP [(10000,52)] (bR l hl) rfl rfl rfl ?_ ?_ ?_ ?_ ?_ ?_ rfl rfl ?_ ?_;(focus (simp only [go_sem,simprocAttr,hb,hv,ak];done));(iterate 6 (focus (simp [go_sem,simprocAttr,hb,hv,ak];done)));simp only [go_sem,simprocAttr,hb,hv,ak,List.map_cons,List.map_nil])|refine aa hX hC hP (iA g hm (x:Int)) rfl rfl rfl (by simp only [go_sem,simprocAttr,hb,hv,ak]) rfl ?_|refine aa hX hC hP (fz (gU l) (bk (·.1) g x) (by omega)) rfl rfl rfl (by simp only [go_sem,simprocAttr,hb,hv,ak]) rfl ?_);try simp only [go_sem,simprocAttr,hb,hv,ak])|(intro h))
 ·have hb:decide ((x:Int)<(p.outs.length:Int))=false:=decide_eq_false (by omega)
  obtain rfl:x=p.outs.length:=by omega
  have hres:res=true:=hr.2 ⟨h1.1,h1.2,fun i hi=>hg i (by omega),tQ⟩
  subst hres
  repeat' (first|((first|((with_reducible (first|apply oA|apply oB));exact rfl;intro K hK)|(refine hK _ ?_;clear hK K)|((with_reducible (first|apply oG|apply oH));iterate 3 exact rfl)|((with_reducible apply oI);(iterate 2 exact rfl);intro K hK)|(with_reducible (first|apply wI|apply wJ|apply wK)));try simp only [go_sem,simprocAttr,hb])|(with_reducible (first|apply oC|apply oJ|exact oK|apply wA|apply wB|apply wC hX hC|apply wD hX hC|apply wE hX hC af|apply wF hX hC af|apply wG|apply wH|apply And.intro))|((with_reducible refine oD ?_ ?_);kernel_rfl)|((with_reducible (first|apply oE|apply oF));(iterate 3 exact rfl);all_goals (intro h;first|(exact absurd h (by decide))|((try simp only [go_sem,simprocAttr,hb] at h);(try with_reducible intro K hK);simp only [go_sem,simprocAttr,hb])))|((first|((with_reducible apply wL);exact rfl)|((with_reducible apply wM);exact rfl));all_goals (try ((with_reducible intro h);first|(exact absurd h (by decide))|(try simp only [go_sem,simprocAttr,hb] at h))))|omega|((first|(refine az hX hC hP [(10000,52)] (cr l) rfl rfl rfl ?_ ?_ ?_ ?_ ?_ ?_ ?_ ?_ ?_ ?_ ?_ ?_ ?_ ?_;(focus (simp only [go_sem,simprocAttr,hb];done));(iterate 12 (focus (simp [go_sem,simprocAttr,hb];done)));simp only [go_sem,simprocAttr,hb,List.map_cons,List.map_nil])|(refine cF hX hC hP [(10000,52)] (bR l hl) rfl rfl rfl ?_ ?_ ?_ ?_ ?_ ?_ rfl rfl ?_ ?_;(focus (simp only [go_sem,simprocAttr,hb];done));(iterate 6 (focus (simp [go_sem,simprocAttr,hb];done)));simp only [go_sem,simprocAttr,hb,List.map_cons,List.map_nil])|refine aa hX hC hP (iA g hm (x:Int)) rfl rfl rfl (by simp only [go_sem,simprocAttr,hb]) rfl ?_|refine aa hX hC hP (fz (gU l) (bk (·.1) g x) (by omega)) rfl rfl rfl (by simp only [go_sem,simprocAttr,hb]) rfl ?_);try simp only [go_sem,simprocAttr,hb])|(intro h))
end Go.Ab
end
section
namespace Go.Ab
open Go.Proofs
attribute [local congr] ACall.congr
set_option maxRecDepth 10000
set_option maxHeartbeats 8000000
def Pv (m:Nat) (fl:List Int):List Int:=(List.range m).map fun i:Nat=>if (i:Int)∈fl then (1:Int) else 0
end Go.Ab
end
section
namespace Go.Ab
open Go.Proofs
attribute [local congr] ACall.congr
set_option maxRecDepth 10000
set_option maxHeartbeats 8000000
def dn (b:Bool) (g:Gr) (p:Pl):(List (List It) × List It) × Int × Int:=
 if b=false then (([], []),(1,0)) else
 match jZ g p g.n.toNat with
 |some i=>(([], []),(3,(i:Int)))
 |none=>((gr g p g.n.toNat,(fK g p g.n.toNat).row),(0,0))
theorem HT {n:Nat} :List.replicate n [D.sl 3 []]=vT (List.replicate n []):=by simp [vT,sT]
theorem HU {ls:List (List It)} {k:Nat} {l:List It} :(vT ls).set k [sT l]=vT (ls.set k l):=by simp [vT,List.map_set]
theorem BZ {g:Gr} {p:Pl} {k:Nat} :gr g p (k+1)=(gr g p k).set (aq p k).toNat (fQ g p k):=rfl
end Go.Ab
end
section
namespace Go.Ab
open Go.Proofs
attribute [local congr] ACall.congr
set_option maxRecDepth 10000
set_option maxHeartbeats 8000000
theorem mS (g:Gr) (hl:g.es.length≤1000) (p:Pl) (hp:uX p) (b:Bool) (hr:b=true↔(bJ g).1=0∧bL g p):
 Spec Tryz.prog 46 (Args [eG g,ePl p]) [] (.tup [.d (.sl 1 (vT (dn b g p).1.1)), .d (sT (dn b g p).1.2),eF ((dn b g p).2.1,(dn b g p).2.2, [])]) []:=by
 by_cases hc:(bJ g).1=0
 rotate_left
 ·obtain rfl:b=false:=by
   rw [← Bool.not_eq_true,hr]
   exact fun h=>hc h.1
  have hR:dn false g p=(([], []),(1,0)):=rfl
  rw [hR]
  (refine Spec.intro (C:=T.cfg [] []) (rs:= [.t 4, .t 5, .c 6 82]) (T.aj _ _) Tryz.func46 rfl rfl Tryz.ntmps46 Tryz.results46 (by simp [AObj.isNest]) (by simp [AObj.isNest]) (by kernel_rfl) ?_;intro X hX hP hC aL aM vals hA;refine ⟨_,by simp,hA, ?_⟩;have af:X.P.follows .mixedOrders=true:=(by rw [hP];exact T.mixed);clear aL aM)
  repeat' (first|((first|((with_reducible (first|apply oA|apply oB));exact rfl;intro K hK)|(refine hK _ ?_;clear hK K)|((with_reducible (first|apply oG|apply oH));iterate 3 exact rfl)|((with_reducible apply oI);(iterate 2 exact rfl);intro K hK)|(with_reducible (first|apply wI|apply wJ|apply wK)));try simp only [go_sem,simprocAttr,vT,List.map_nil])|(with_reducible (first|apply oC|apply oJ|exact oK|apply wA|apply wB|apply wC hX hC|apply wD hX hC|apply wE hX hC af|apply wF hX hC af|apply wG|apply wH|apply And.intro))|((with_reducible refine oD ?_ ?_);kernel_rfl)|((with_reducible (first|apply oE|apply oF));(iterate 3 exact rfl);all_goals (intro h;first|(exact absurd h (by decide))|((try simp only [go_sem,simprocAttr,vT,List.map_nil] at h);(try with_reducible intro K hK);simp only [go_sem,simprocAttr,vT,List.map_nil])))|((first|((with_reducible apply wL);exact rfl)|((with_reducible apply wM);exact rfl));all_goals (try ((with_reducible intro h);first|(exact absurd h (by decide))|(try simp only [go_sem,simprocAttr,vT,List.map_nil] at h))))|omega|((first|refine aa hX hC hP (BL g hl hc) rfl rfl rfl (by simp only [go_sem,simprocAttr,vT,List.map_nil]) rfl ?_);try simp only [go_sem,simprocAttr,vT,List.map_nil])|(intro h))
 have hm:=aC hc
 have hn:=aT hm
 have hr:b=true↔bL g p:=by rw [hr];exact ⟨fun h=>h.2,fun h=>⟨hc,h⟩⟩
 have hO:=D4 g hm p hp b hr
 cases b with
 |false=>
  have hR:dn false g p=(([], []),(1,0)):=rfl
  rw [hR]
  (refine Spec.intro (C:=T.cfg [] []) (rs:= [.t 4, .t 5, .c 6 82]) (T.aj _ _) Tryz.func46 rfl rfl Tryz.ntmps46 Tryz.results46 (by simp [AObj.isNest]) (by simp [AObj.isNest]) (by kernel_rfl) ?_;intro X hX hP hC aL aM vals hA;refine ⟨_,by simp,hA, ?_⟩;have af:X.P.follows .mixedOrders=true:=(by rw [hP];exact T.mixed);clear aL aM)
  repeat' (first|((first|((with_reducible (first|apply oA|apply oB));exact rfl;intro K hK)|(refine hK _ ?_;clear hK K)|((with_reducible (first|apply oG|apply oH));iterate 3 exact rfl)|((with_reducible apply oI);(iterate 2 exact rfl);intro K hK)|(with_reducible (first|apply wI|apply wJ|apply wK)));try simp only [go_sem,simprocAttr,vT,List.map_nil])|(with_reducible (first|apply oC|apply oJ|exact oK|apply wA|apply wB|apply wC hX hC|apply wD hX hC|apply wE hX hC af|apply wF hX hC af|apply wG|apply wH|apply And.intro))|((with_reducible refine oD ?_ ?_);kernel_rfl)|((with_reducible (first|apply oE|apply oF));(iterate 3 exact rfl);all_goals (intro h;first|(exact absurd h (by decide))|((try simp only [go_sem,simprocAttr,vT,List.map_nil] at h);(try with_reducible intro K hK);simp only [go_sem,simprocAttr,vT,List.map_nil])))|((first|((with_reducible apply wL);exact rfl)|((with_reducible apply wM);exact rfl));all_goals (try ((with_reducible intro h);first|(exact absurd h (by decide))|(try simp only [go_sem,simprocAttr,vT,List.map_nil] at h))))|omega|((first|(refine sF hX hC hP [(10000,13)] (uR g hl hc hm) rfl rfl rfl ?_ ?_ ?_ ?_ ?_ ?_ ?_ ?_ ?_ ?_ ?_ ?_ ?_ ?_;(focus (simp only [go_sem,simprocAttr,vT,List.map_nil];done));(iterate 12 (focus (simp [go_sem,simprocAttr,vT,List.map_nil];done)));simp only [go_sem,simprocAttr,vT,List.map_nil,List.map_cons,List.map_nil])|refine aa hX hC hP (eW g hm) rfl rfl rfl (by simp only [go_sem,simprocAttr,vT,List.map_nil]) rfl ?_|refine aa hX hC hP (hO) rfl rfl rfl (by simp only [go_sem,simprocAttr,vT,List.map_nil]) rfl ?_);try simp only [go_sem,simprocAttr,vT,List.map_nil])|(intro h))
 |true=>
 have IS:=hr.1 rfl
 have hle:=bP IS
 have hR:dn true g p=match jZ g p g.n.toNat with
  |some i=>(([], []),(3,(i:Int)))
  |none=>((gr g p g.n.toNat,(fK g p g.n.toNat).row),(0,0)):=rfl
 generalize dn true g p=R at hR
 (refine Spec.intro (C:=T.cfg [] []) (rs:= [.t 4, .t 5, .c 6 82]) (T.aj _ _) Tryz.func46 rfl rfl Tryz.ntmps46 Tryz.results46 (by simp [AObj.isNest]) (by simp [AObj.isNest]) (by kernel_rfl) ?_;intro X hX hP hC aL aM vals hA;refine ⟨_,by simp,hA, ?_⟩;have af:X.P.follows .mixedOrders=true:=(by rw [hP];exact T.mixed);clear aL aM)
 repeat' (first|((first|((with_reducible (first|apply oA|apply oB));exact rfl;intro K hK)|(refine hK _ ?_;clear hK K)|((with_reducible (first|apply oG|apply oH));iterate 3 exact rfl)|((with_reducible apply oI);(iterate 2 exact rfl);intro K hK)|(with_reducible (first|apply wI|apply wJ|apply wK)));try simp only [go_sem,simprocAttr])|(show dw _ (.seq (.region 5 _ _) _) _ _;(refine xS 13 0 3 rfl rfl rfl ?_;simp only [LA.app,ASt.put,ASt.kill,putM,rml,List.set_cons_zero,List.set_cons_succ,go_sem,simprocAttr]);(refine gF hX 13 2 100 (.tip 3 1 []) rfl rfl rfl (by simp only [go_sem,simprocAttr]) (by decide) (by simp [go_sem,simprocAttr]) ⟨3,1,by decide, .inr rfl⟩ ?_;simp only [LA.app,ASt.put,ASt.kill,subT,rmk,putM,rml,kl,AV.sub,AV.subs,AObj.sub,List.set_cons_zero,List.set_cons_succ,go_sem,simprocAttr]))|(with_reducible (first|apply oC|apply oJ|exact oK|apply wA|apply wB|apply wC hX hC|apply wD hX hC|apply wE hX hC af|apply wF hX hC af|apply wG|apply wH|apply And.intro))|((with_reducible refine oD ?_ ?_);kernel_rfl)|((with_reducible (first|apply oE|apply oF));(iterate 3 exact rfl);all_goals (intro h;first|(exact absurd h (by decide))|((try simp only [go_sem,simprocAttr] at h);(try with_reducible intro K hK);simp only [go_sem,simprocAttr])))|((first|((with_reducible apply wL);exact rfl)|((with_reducible apply wM);exact rfl));all_goals (try ((with_reducible intro h);first|(exact absurd h (by decide))|(try simp only [go_sem,simprocAttr] at h))))|omega|((first|(refine sF hX hC hP [(10000,13)] (uR g hl hc hm) rfl rfl rfl ?_ ?_ ?_ ?_ ?_ ?_ ?_ ?_ ?_ ?_ ?_ ?_ ?_ ?_;(focus (simp only [go_sem,simprocAttr];done));(iterate 12 (focus (simp [go_sem,simprocAttr];done)));simp only [go_sem,simprocAttr,List.map_cons,List.map_nil])|refine aa hX hC hP (eW g hm) rfl rfl rfl (by simp only [go_sem,simprocAttr]) rfl ?_|refine aa hX hC hP (hO) rfl rfl rfl (by simp only [go_sem,simprocAttr]) rfl ?_);try simp only [go_sem,simprocAttr])|(intro h))
 rw [HT]
 refine ah (fun k:Nat=>k≤g.n.toNat∧∀j,j<k→Cs g p j=true) (fun k=>⟨[(3, .ptr 3 0),(4, .ref 28),(6, .ptr 6 0),(7, .ptr 13 0),(30, .d (sI p.ord)),(31,eN p.ord.length),(32,eN k)], [(28, .own 80 1 (vT (gr g p k))),(13, .box [.d (sT (fK g p k).row), .d (vw g), .ref 100]),(100, .tip 3 1 ((fK g p k).pl.map rI)),(6, .box [eN 0,eN 0, .nil 3]),(3, .box [.d (sI p.ord), .d (.sl 1 (vI p.outs))])]⟩) (fun k=>g.n.toNat - k) 0 (by simp) ?_ ?_
 ·refine Le.of ?_ ?_<;>simp [go_sem,simprocAttr,Pa,fK,gr]
 rintro k ⟨hk,hok⟩
 obtain ⟨hi,_,hrl⟩:=dQ hm IS hk hok
 have hel:=oR (g:=g) (p:=p) (k:=k)
 have hmul:k*(g.es.length+1)≤64*129:=Nat.mul_le_mul (by omega) (by omega)
 rcases Nat.lt_or_ge k g.n.toNat with hlt|hge
 ·have hb:decide ((k:Int)<(p.ord.length:Int))=true:=decide_eq_true (by omega)
  have IT:=aR IS hlt
  have eV:=BZ (g:=g) (p:=p) (k:=k)
  have IU:fK g p (k+1)=(aF g (fK g p k) (aq p k) (bB p (aq p k))).2:=rfl
  have tQ:fQ g p k=(aF g (fK g p k) (aq p k) (bB p (aq p k))).1.1:=rfl
  have hpk:=DX IS hlt
  have J9:=DY (g:=g) (p:=p) (k:=k)
  have hsk:Cs g p k=false→R=(([], []),(3,(k:Int))):=fun h=>by
   rw [hR,th.2 ⟨hlt,h,hok⟩]
  have kV:=mD IS IT.1 IT.2
  have lu:p.ord.getD k 0=aq p k:=rfl
  have Ka:(fK g p k).pl.length≤64:=by
   rcases J8 hi.togV with h|h
   ·omega
   ·rw [h];simp
  obtain ⟨x,hx⟩:∃x:Nat,aq p k=x:=⟨(aq p k).toNat,by omega⟩
  rw [hx] at lu IU tQ hpk J9 IT kV eV
  have hxl:x<p.outs.length:=by have:=IS.1;omega
  have hv:=kD hxl
  have hla:bB p (x:Int)=p.outs.getD x []:=by unfold bB;rw [Int.toNat_natCast]
  rw [hla] at IU tQ hpk J9 kV
  rw [Int.toNat_natCast] at eV
  have nM:=yh g hm (fK g p k) hi (x:Int) (p.outs.getD x []) (by omega) (by omega) (by omega)
  have eA:=HU (ls:=gr g p k) (k:=x) (l:=fQ g p k)
  generalize p.outs.getD x []=o at hv IU tQ hpk J9 nM
  rw [← eV] at eA
  generalize fK g p k=f at IU tQ hpk J9 nM hi hrl Ka
  have NO:x<(gr g p k).length:=by omega
  have hvl:(vT (gr g p k)).length=(gr g p k).length:=vT_length
  cases FW:Cs g p k with
  |false=>
   rw [J9 FW] at nM
   simp only at nM
   have K5:=hsk FW
   subst K5
   repeat' (first|((first|((with_reducible (first|apply oA|apply oB));exact rfl;intro K hK)|(refine hK _ ?_;clear hK K)|((with_reducible (first|apply oG|apply oH));iterate 3 exact rfl)|((with_reducible apply oI);(iterate 2 exact rfl);intro K hK)|(with_reducible (first|apply wI|apply wJ|apply wK)));try simp only [go_sem,simprocAttr,hb,lu,hv,iU,s5,List.map_nil])|(with_reducible (first|apply oC|apply oJ|exact oK|apply wA|apply wB|apply wC hX hC|apply wD hX hC|apply wE hX hC af|apply wF hX hC af|apply wG|apply wH|apply And.intro))|((with_reducible refine oD ?_ ?_);kernel_rfl)|((with_reducible (first|apply oE|apply oF));(iterate 3 exact rfl);all_goals (intro h;first|(exact absurd h (by decide))|((try simp only [go_sem,simprocAttr,hb,lu,hv,iU,s5,List.map_nil] at h);(try with_reducible intro K hK);simp only [go_sem,simprocAttr,hb,lu,hv,iU,s5,List.map_nil])))|((first|((with_reducible apply wL);exact rfl)|((with_reducible apply wM);exact rfl));all_goals (try ((with_reducible intro h);first|(exact absurd h (by decide))|(try simp only [go_sem,simprocAttr,hb,lu,hv,iU,s5,List.map_nil] at h))))|omega|((first|(refine az hX hC hP [(10000,13),(10001,100),(10002,101)] (nM) rfl rfl rfl ?_ ?_ ?_ ?_ ?_ ?_ ?_ ?_ ?_ ?_ ?_ ?_ ?_ ?_;(focus (simp only [go_sem,simprocAttr,hb,lu,hv,iU,s5,List.map_nil];done));(iterate 12 (focus (simp [go_sem,simprocAttr,hb,lu,hv,iU,s5,List.map_nil];done)));simp only [go_sem,simprocAttr,hb,lu,hv,iU,s5,List.map_nil,List.map_cons,List.map_nil]));try simp only [go_sem,simprocAttr,hb,lu,hv,iU,s5,List.map_nil])|(intro h))
   all_goals rfl
  |true=>
   rw [hpk FW] at nM
   have lP:(aF g f (x:Int) o).1.2=0:=rfl
   rw [tQ] at eA
   generalize aF g f (x:Int) o=su at IU tQ nM lP eA
   generalize QJ:gr g p k=E at eA NO hel hvl
   have E7:=fun d=>qR NO d
   repeat' (first|((first|((with_reducible (first|apply oA|apply oB));exact rfl;intro K hK)|(refine hK _ ?_;clear hK K)|((with_reducible (first|apply oG|apply oH));iterate 3 exact rfl)|((with_reducible apply oI);(iterate 2 exact rfl);intro K hK)|(with_reducible (first|apply wI|apply wJ|apply wK)));try simp only [go_sem,simprocAttr,hb,lu,hv,iU,s5,lP,eA,E7,List.drop_succ_cons,List.drop_zero])|(show dw _ (.region 11 _ _) _ _;(refine c7 hX 13 2 101 100 rfl rfl rfl (by first|exact .inl rfl|exact .inr rfl) (by decide) (by decide) ?_;simp only [LA.app,ASt.put,ASt.kill,subT,rmk,putM,rml,kl,AV.sub,AV.subs,AObj.sub,List.set_cons_zero,List.set_cons_succ,go_sem,simprocAttr,hb,lu,hv,iU,s5,lP,eA,E7,List.drop_succ_cons,List.drop_zero]))|(with_reducible (first|apply oC|apply oJ|exact oK|apply wA|apply wB|apply wC hX hC|apply wD hX hC|apply wE hX hC af|apply wF hX hC af|apply wG|apply wH|apply And.intro))|((with_reducible refine oD ?_ ?_);kernel_rfl)|((with_reducible (first|apply oE|apply oF));(iterate 3 exact rfl);all_goals (intro h;first|(exact absurd h (by decide))|((try simp only [go_sem,simprocAttr,hb,lu,hv,iU,s5,lP,eA,E7,List.drop_succ_cons,List.drop_zero] at h);(try with_reducible intro K hK);simp only [go_sem,simprocAttr,hb,lu,hv,iU,s5,lP,eA,E7,List.drop_succ_cons,List.drop_zero])))|((first|((with_reducible apply wL);exact rfl)|((with_reducible apply wM);exact rfl));all_goals (try ((with_reducible intro h);first|(exact absurd h (by decide))|(try simp only [go_sem,simprocAttr,hb,lu,hv,iU,s5,lP,eA,E7,List.drop_succ_cons,List.drop_zero] at h))))|omega|((first|(refine az hX hC hP [(10000,13),(10001,100),(10002,101)] (nM) rfl rfl rfl ?_ ?_ ?_ ?_ ?_ ?_ ?_ ?_ ?_ ?_ ?_ ?_ ?_ ?_;(focus (simp only [go_sem,simprocAttr,hb,lu,hv,iU,s5,lP,eA,E7,List.drop_succ_cons,List.drop_zero];done));(iterate 12 (focus (simp [go_sem,simprocAttr,hb,lu,hv,iU,s5,lP,eA,E7,List.drop_succ_cons,List.drop_zero];done)));simp only [go_sem,simprocAttr,hb,lu,hv,iU,s5,lP,eA,E7,List.drop_succ_cons,List.drop_zero,List.map_cons,List.map_nil]));try simp only [go_sem,simprocAttr,hb,lu,hv,iU,s5,lP,eA,E7,List.drop_succ_cons,List.drop_zero])|(intro h))
   refine ⟨k+1,⟨by omega,fun j hj=> ?_⟩, ?_,by omega⟩
   ·by_cases e:j=k
    ·subst e;exact FW
    ·exact hok j (by omega)
   ·rw [IU]
    have Kb:(vT E).set x [D.sl 3 (List.map rT su.1.1)]=vT (gr g p (k+1)):=eA
    refine Le.of ?_ ?_<;>simp [go_sem,simprocAttr,hb,lu,hv,iU,s5,lP,eA,E7,List.drop_succ_cons,List.drop_zero,Kb]
 have hb:decide ((k:Int)<(p.ord.length:Int))=false:=decide_eq_false (by omega)
 obtain rfl:k=g.n.toNat:=by omega
 rw [gu.2 hok] at hR
 subst hR
 repeat' (first|((first|((with_reducible (first|apply oA|apply oB));exact rfl;intro K hK)|(refine hK _ ?_;clear hK K)|((with_reducible (first|apply oG|apply oH));iterate 3 exact rfl)|((with_reducible apply oI);(iterate 2 exact rfl);intro K hK)|(with_reducible (first|apply wI|apply wJ|apply wK)));try simp only [go_sem,simprocAttr,hb])|(with_reducible (first|apply oC|apply oJ|exact oK|apply wA|apply wB|apply wC hX hC|apply wD hX hC|apply wE hX hC af|apply wF hX hC af|apply wG|apply wH|apply And.intro))|((with_reducible refine oD ?_ ?_);kernel_rfl)|((with_reducible (first|apply oE|apply oF));(iterate 3 exact rfl);all_goals (intro h;first|(exact absurd h (by decide))|((try simp only [go_sem,simprocAttr,hb] at h);(try with_reducible intro K hK);simp only [go_sem,simprocAttr,hb])))|((first|((with_reducible apply wL);exact rfl)|((with_reducible apply wM);exact rfl));all_goals (try ((with_reducible intro h);first|(exact absurd h (by decide))|(try simp only [go_sem,simprocAttr,hb] at h))))|omega|((first|(refine qn hX hC hP 60 (BJ [vw g,sI (fK g p g.n.toNat).pl] (fK g p g.n.toNat).row (by omega)) rfl rfl rfl ?_ ?_ (by first|exact ⟨_,_,_,rfl,uN⟩|exact ⟨_,_,_,rfl,uO⟩|exact ⟨_,_,_,rfl,uQ⟩) rfl (by decide) ?_;(iterate 2 (focus (simp only [go_sem,simprocAttr,hb];done)));simp only [go_sem,simprocAttr,hb]));try simp only [go_sem,simprocAttr,hb])|(intro h))
end Go.Ab
end
section
namespace Go.Ab
open Go.Proofs
attribute [local congr] ACall.congr
set_option maxRecDepth 10000
set_option maxHeartbeats 8000000
def QK (n:Int) (es:List Edge) (ord:List Int) (O:List (List Int)):List (Nat × AObj):= [(10000, .box [eN n, .ref 10001, .ref 10002, .ref 10003]),(10001, .tip 58 2 (es.map rE)),(10002, .tip 3 1 (ord.map rI)),(10003, .own 25 1 (vI O))]
def QL (n:Int) (es:List Edge) (ord:List Int) (O:List (List Int)):List (Nat × AObj):= [(10000, .box [eN n, .ref 10004, .ref 10002, .ref 10003]),(10004, .tip 58 2 (es.map rE)),(10002, .tip 3 1 (ord.map rI)),(10003, .own 25 1 (vI O))]
def Pw (x:Int) (items:List It):List Edge:=(loose items).map fun v=>(v,x)
end Go.Ab
end
section
namespace Go.Ab
open Go.Proofs
attribute [local congr] ACall.congr
set_option maxRecDepth 10000
set_option maxHeartbeats 16000000
def pz:Pl:=⟨[], []⟩
def Px (b:Bool) (g:Gr) (p:Pl):Gr × Pl × Int:=
 if (dn b g p).2.1≠0 then (gz,pz,1) else if 64<(D3 g p).n∨128<(D3 g p).es.length then (gz,pz,10) else (D3 g p,MD g p,0)
theorem uY {b:Bool} {g:Gr} {p:Pl} (hr:b=true↔(bJ g).1=0∧bL g p) (h:(dn b g p).2.1=0):cC g p∧dn b g p=((gr g p g.n.toNat,lN g p),(0,0)):=by
 cases b with
 |false=>simp [dn] at h
 |true=>
  have hR:dn true g p=match jZ g p g.n.toNat with
   |some i=>(([], []),(3,(i:Int)))
   |none=>((gr g p g.n.toNat,(fK g p g.n.toNat).row),(0,0)):=rfl
  cases hs:jZ g p g.n.toNat with
  |some i=>rw [hR,hs] at h;simp at h
  |none=>
   obtain ⟨h1,h2⟩:=hr.1 rfl
   exact ⟨⟨h1,h2,gu.1 hs⟩,by rw [hR,hs];rfl⟩
end Go.Ab
end
section
namespace Go.Ab
open Go.Proofs
attribute [local congr] ACall.congr
set_option maxRecDepth 10000
set_option maxHeartbeats 16000000
def Py (p:Pl) (x:Gr) (k:Nat):List (List Int):=(List.range k).map fun v=>if 0<(p.outs.getD v []).length then p.outs.getD v [] else b9 x (v:Int)
theorem zJ {g:Gr} {p:Pl} (hr:cC g p):∀t∈lN g p,t.1<0:=by
 obtain ⟨hc,h,hok⟩:=hr
 have hm:=aC hc
 have hn:=aT hm
 obtain ⟨hi,gM,_⟩:=dQ hm h (k:=g.n.toNat) (Nat.le_refl _) hok
 intro t ht
 refine Decidable.byContradiction fun h0=> ?_
 rcases hi.it t ht with ⟨h1,_⟩|⟨h1,h2,_,h4⟩
 ·omega
 ·have HV:=(dL hm (k:=t.1.toNat) (by omega)).2
  rw [← h4] at HV
  refine hi.head t ht h1 (jY hi.togV ?_ HV)
  rw [gM,List.length_take,bP h];omega
end Go.Ab
end
section
namespace Go.Ab
open Go.Proofs
attribute [local congr] ACall.congr
set_option maxRecDepth 10000
set_option maxHeartbeats 8000000
def D5 (g:Gr) (p:Pl):Bool:=decide (200<g.es.length)||decide (100<p.ord.length)||decide (100<p.outs.length)||p.outs.any fun l=>decide (200<l.length)
theorem wv {g:Gr} {p:Pl} (h:D5 g p=false):g.es.length≤200∧p.ord.length≤100∧p.outs.length≤100∧∀l∈p.outs,l.length≤200:=by
 simp only [D5,Bool.or_eq_false_iff,decide_eq_false_iff_not,List.any_eq_false,decide_eq_true_eq] at h
 obtain ⟨⟨⟨h1,h2⟩,h3⟩,h4⟩:=h
 exact ⟨by omega,by omega,by omega,fun l hl=>by have:=h4 l hl;omega⟩
theorem yj {g:Gr} {p:Pl} (h:D5 g p=false):uX p:=by
 obtain ⟨_,h1,h2,h3⟩:=wv h
 exact ⟨by omega,by omega,fun l hl=>by have:=h3 l hl;omega⟩
structure GB (p:Pl):Prop where
 ord:p.ord.length≤9223372036854775807
 outs:p.outs.length≤9223372036854775807
 each:∀l∈p.outs,l.length≤9223372036854775807
theorem mT (p:Pl) (hp:GB p):Spec Tryz.prog 44 (Args [ePl p,ePl p]) [] (eB true) []:=by
 have ho:=hp.ord
 have hu:=hp.outs
 (refine Spec.intro (C:=T.cfg [] []) (rs:= [.t 4]) (T.aj _ _) Tryz.func44 rfl rfl Tryz.ntmps44 Tryz.results44 (by simp [AObj.isNest]) (by simp [AObj.isNest]) (by kernel_rfl) ?_;intro X hX hP hC aL aM vals hA;refine ⟨_,by simp,hA, ?_⟩;have af:X.P.follows .mixedOrders=true:=(by rw [hP];exact T.mixed);clear aL aM)
 repeat' (first|((first|((with_reducible (first|apply oA|apply oB));exact rfl;intro K hK)|(refine hK _ ?_;clear hK K)|((with_reducible (first|apply oG|apply oH));iterate 3 exact rfl)|((with_reducible apply oI);(iterate 2 exact rfl);intro K hK)|(with_reducible (first|apply wI|apply wJ|apply wK)));try simp only [go_sem,simprocAttr,decide_true])|(with_reducible (first|apply oC|apply oJ|exact oK|apply wA|apply wB|apply wC hX hC|apply wD hX hC|apply wE hX hC af|apply wF hX hC af|apply wG|apply wH|apply And.intro))|((with_reducible refine oD ?_ ?_);kernel_rfl)|((with_reducible (first|apply oE|apply oF));(iterate 3 exact rfl);all_goals (intro h;first|(exact absurd h (by decide))|((try simp only [go_sem,simprocAttr,decide_true] at h);(try with_reducible intro K hK);simp only [go_sem,simprocAttr,decide_true])))|((first|((with_reducible apply wL);exact rfl)|((with_reducible apply wM);exact rfl));all_goals (try ((with_reducible intro h);first|(exact absurd h (by decide))|(try simp only [go_sem,simprocAttr,decide_true] at h))))|omega|(intro h))
 refine ah (fun k:Nat=>k≤p.ord.length) (fun k=>⟨[(2, .ptr 2 0),(3, .ptr 3 0),(5,eN k)], [(2, .box [.d (sI p.ord), .d (.sl 1 (vI p.outs))]),(3, .box [.d (sI p.ord), .d (.sl 1 (vI p.outs))])]⟩) (fun k=>p.ord.length - k) 0 (by simp) ?_ ?_
 ·(refine Le.of ?_ ?_<;>simp [go_sem,simprocAttr,decide_true])
 rintro k hk
 rcases Nat.lt_or_ge k p.ord.length with bF|yM
 ·have hb:decide ((k:Int)<(p.ord.length:Int))=true:=decide_eq_true (by omega)
  repeat' (first|((first|((with_reducible (first|apply oA|apply oB));exact rfl;intro K hK)|(refine hK _ ?_;clear hK K)|((with_reducible (first|apply oG|apply oH));iterate 3 exact rfl)|((with_reducible apply oI);(iterate 2 exact rfl);intro K hK)|(with_reducible (first|apply wI|apply wJ|apply wK)));try simp only [go_sem,simprocAttr,decide_true,hb])|(with_reducible (first|apply oC|apply oJ|exact oK|apply wA|apply wB|apply wC hX hC|apply wD hX hC|apply wE hX hC af|apply wF hX hC af|apply wG|apply wH|apply And.intro))|((with_reducible refine oD ?_ ?_);kernel_rfl)|((with_reducible (first|apply oE|apply oF));(iterate 3 exact rfl);all_goals (intro h;first|(exact absurd h (by decide))|((try simp only [go_sem,simprocAttr,decide_true,hb] at h);(try with_reducible intro K hK);simp only [go_sem,simprocAttr,decide_true,hb])))|((first|((with_reducible apply wL);exact rfl)|((with_reducible apply wM);exact rfl));all_goals (try ((with_reducible intro h);first|(exact absurd h (by decide))|(try simp only [go_sem,simprocAttr,decide_true,hb] at h))))|omega|(intro h))
  refine ⟨k+1,by omega, ?_,by omega⟩
  (refine Le.of ?_ ?_<;>simp [go_sem,simprocAttr,decide_true,hb])
 have hb:decide ((k:Int)<(p.ord.length:Int))=false:=decide_eq_false (by omega)
 repeat' (first|((first|((with_reducible (first|apply oA|apply oB));exact rfl;intro K hK)|(refine hK _ ?_;clear hK K)|((with_reducible (first|apply oG|apply oH));iterate 3 exact rfl)|((with_reducible apply oI);(iterate 2 exact rfl);intro K hK)|(with_reducible (first|apply wI|apply wJ|apply wK)));try simp only [go_sem,simprocAttr,decide_true,hb])|(with_reducible (first|apply oC|apply oJ|exact oK|apply wA|apply wB|apply wC hX hC|apply wD hX hC|apply wE hX hC af|apply wF hX hC af|apply wG|apply wH|apply And.intro))|((with_reducible refine oD ?_ ?_);kernel_rfl)|((with_reducible (first|apply oE|apply oF));(iterate 3 exact rfl);all_goals (intro h;first|(exact absurd h (by decide))|((try simp only [go_sem,simprocAttr,decide_true,hb] at h);(try with_reducible intro K hK);simp only [go_sem,simprocAttr,decide_true,hb])))|((first|((with_reducible apply wL);exact rfl)|((with_reducible apply wM);exact rfl));all_goals (try ((with_reducible intro h);first|(exact absurd h (by decide))|(try simp only [go_sem,simprocAttr,decide_true,hb] at h))))|omega|(intro h))
 clear hb hk yM
 refine ah (fun k:Nat=>k≤p.outs.length) (fun k=>⟨[(2, .ptr 2 0),(3, .ptr 3 0),(6,eN k)], [(2, .box [.d (sI p.ord), .d (.sl 1 (vI p.outs))]),(3, .box [.d (sI p.ord), .d (.sl 1 (vI p.outs))])]⟩) (fun k=>p.outs.length - k) 0 (by simp) ?_ ?_
 ·(refine Le.of ?_ ?_<;>simp [go_sem,simprocAttr])
 rintro k hk
 rcases Nat.lt_or_ge k p.outs.length with bF|yM
 ·have hb:decide ((k:Int)<(p.outs.length:Int))=true:=decide_eq_true (by omega)
  have hv:=kD bF
  have kV:=hp.each _ (aW (d:= []) bF)
  generalize p.outs.getD k []=l at hv kV
  repeat' (first|((first|((with_reducible (first|apply oA|apply oB));exact rfl;intro K hK)|(refine hK _ ?_;clear hK K)|((with_reducible (first|apply oG|apply oH));iterate 3 exact rfl)|((with_reducible apply oI);(iterate 2 exact rfl);intro K hK)|(with_reducible (first|apply wI|apply wJ|apply wK)));try simp only [go_sem,simprocAttr,decide_true,hb,hv])|(with_reducible (first|apply oC|apply oJ|exact oK|apply wA|apply wB|apply wC hX hC|apply wD hX hC|apply wE hX hC af|apply wF hX hC af|apply wG|apply wH|apply And.intro))|((with_reducible refine oD ?_ ?_);kernel_rfl)|((with_reducible (first|apply oE|apply oF));(iterate 3 exact rfl);all_goals (intro h;first|(exact absurd h (by decide))|((try simp only [go_sem,simprocAttr,decide_true,hb,hv] at h);(try with_reducible intro K hK);simp only [go_sem,simprocAttr,decide_true,hb,hv])))|((first|((with_reducible apply wL);exact rfl)|((with_reducible apply wM);exact rfl));all_goals (try ((with_reducible intro h);first|(exact absurd h (by decide))|(try simp only [go_sem,simprocAttr,decide_true,hb,hv] at h))))|omega|(intro h))
  refine ah (fun j:Nat=>j≤l.length) (fun j=>⟨[(2, .ptr 2 0),(3, .ptr 3 0),(6,eN k),(7,eN j)], [(2, .box [.d (sI p.ord), .d (.sl 1 (vI p.outs))]),(3, .box [.d (sI p.ord), .d (.sl 1 (vI p.outs))])]⟩) (fun j=>l.length - j) 0 (by simp) ?_ ?_
  ·(refine Le.of ?_ ?_<;>simp [go_sem,simprocAttr])
  rintro j hj
  rcases Nat.lt_or_ge j l.length with hjl|IN
  ·have tR:decide ((j:Int)<(l.length:Int))=true:=decide_eq_true (by omega)
   repeat' (first|((first|((with_reducible (first|apply oA|apply oB));exact rfl;intro K hK)|(refine hK _ ?_;clear hK K)|((with_reducible (first|apply oG|apply oH));iterate 3 exact rfl)|((with_reducible apply oI);(iterate 2 exact rfl);intro K hK)|(with_reducible (first|apply wI|apply wJ|apply wK)));try simp only [go_sem,simprocAttr,decide_true,tR,hv])|(with_reducible (first|apply oC|apply oJ|exact oK|apply wA|apply wB|apply wC hX hC|apply wD hX hC|apply wE hX hC af|apply wF hX hC af|apply wG|apply wH|apply And.intro))|((with_reducible refine oD ?_ ?_);kernel_rfl)|((with_reducible (first|apply oE|apply oF));(iterate 3 exact rfl);all_goals (intro h;first|(exact absurd h (by decide))|((try simp only [go_sem,simprocAttr,decide_true,tR,hv] at h);(try with_reducible intro K hK);simp only [go_sem,simprocAttr,decide_true,tR,hv])))|((first|((with_reducible apply wL);exact rfl)|((with_reducible apply wM);exact rfl));all_goals (try ((with_reducible intro h);first|(exact absurd h (by decide))|(try simp only [go_sem,simprocAttr,decide_true,tR,hv] at h))))|omega|(intro h))
   refine ⟨j+1,by omega, ?_,by omega⟩
   (refine Le.of ?_ ?_<;>simp [go_sem,simprocAttr,decide_true,tR,hv])
  ·have tR:decide ((j:Int)<(l.length:Int))=false:=decide_eq_false (by omega)
   repeat' (first|((first|((with_reducible (first|apply oA|apply oB));exact rfl;intro K hK)|(refine hK _ ?_;clear hK K)|((with_reducible (first|apply oG|apply oH));iterate 3 exact rfl)|((with_reducible apply oI);(iterate 2 exact rfl);intro K hK)|(with_reducible (first|apply wI|apply wJ|apply wK)));try simp only [go_sem,simprocAttr,decide_true,tR,hv])|(with_reducible (first|apply oC|apply oJ|exact oK|apply wA|apply wB|apply wC hX hC|apply wD hX hC|apply wE hX hC af|apply wF hX hC af|apply wG|apply wH|apply And.intro))|((with_reducible refine oD ?_ ?_);kernel_rfl)|((with_reducible (first|apply oE|apply oF));(iterate 3 exact rfl);all_goals (intro h;first|(exact absurd h (by decide))|((try simp only [go_sem,simprocAttr,decide_true,tR,hv] at h);(try with_reducible intro K hK);simp only [go_sem,simprocAttr,decide_true,tR,hv])))|((first|((with_reducible apply wL);exact rfl)|((with_reducible apply wM);exact rfl));all_goals (try ((with_reducible intro h);first|(exact absurd h (by decide))|(try simp only [go_sem,simprocAttr,decide_true,tR,hv] at h))))|omega|(intro h))
   refine ⟨k+1,by omega, ?_,by omega⟩
   (refine Le.of ?_ ?_<;>simp [go_sem,simprocAttr,decide_true,tR,hv])
 ·have hb:decide ((k:Int)<(p.outs.length:Int))=false:=decide_eq_false (by omega)
  repeat' (first|((first|((with_reducible (first|apply oA|apply oB));exact rfl;intro K hK)|(refine hK _ ?_;clear hK K)|((with_reducible (first|apply oG|apply oH));iterate 3 exact rfl)|((with_reducible apply oI);(iterate 2 exact rfl);intro K hK)|(with_reducible (first|apply wI|apply wJ|apply wK)));try simp only [go_sem,simprocAttr,decide_true,hb])|(with_reducible (first|apply oC|apply oJ|exact oK|apply wA|apply wB|apply wC hX hC|apply wD hX hC|apply wE hX hC af|apply wF hX hC af|apply wG|apply wH|apply And.intro))|((with_reducible refine oD ?_ ?_);kernel_rfl)|((with_reducible (first|apply oE|apply oF));(iterate 3 exact rfl);all_goals (intro h;first|(exact absurd h (by decide))|((try simp only [go_sem,simprocAttr,decide_true,hb] at h);(try with_reducible intro K hK);simp only [go_sem,simprocAttr,decide_true,hb])))|((first|((with_reducible apply wL);exact rfl)|((with_reducible apply wM);exact rfl));all_goals (try ((with_reducible intro h);first|(exact absurd h (by decide))|(try simp only [go_sem,simprocAttr,decide_true,hb] at h))))|omega|(intro h))
def pn (g:Gr):Bool:=decide ((bJ g).1=0)&&decide ((bD (·.1) g).length=1)
theorem tq (g:Gr) (hl:g.es.length≤1000):Spec Tryz.prog 51 (Args [eG g]) [] (eB (pn g)) []:=by
 by_cases hc:(bJ g).1=0
 ·have hm:=aC hc
  have au:decide ((bJ g).1=0)=true:=decide_eq_true hc
  have hI:pn g=decide (((bD (·.1) g).length:Int)=1):=by
   unfold pn;rw [au,Bool.true_and,decide_eq_decide];omega
  rw [hI]
  generalize j7:bD (·.1) g=bl
  have hS:=sP g hm
  rw [j7] at hS
  (refine Spec.intro (C:=T.cfg [] []) (rs:= [.t 2]) (T.aj _ _) Tryz.func51 rfl rfl Tryz.ntmps51 Tryz.results51 (by simp [AObj.isNest]) (by simp [AObj.isNest]) (by kernel_rfl) ?_;intro X hX hP hC aL aM vals hA;refine ⟨_,by simp,hA, ?_⟩;have af:X.P.follows .mixedOrders=true:=(by rw [hP];exact T.mixed);clear aL aM)
  repeat' (first|((first|((with_reducible (first|apply oA|apply oB));exact rfl;intro K hK)|(refine hK _ ?_;clear hK K)|((with_reducible (first|apply oG|apply oH));iterate 3 exact rfl)|((with_reducible apply oI);(iterate 2 exact rfl);intro K hK)|(with_reducible (first|apply wI|apply wJ|apply wK)));try simp only [go_sem,simprocAttr,au])|(with_reducible (first|apply oC|apply oJ|exact oK|apply wA|apply wB|apply wC hX hC|apply wD hX hC|apply wE hX hC af|apply wF hX hC af|apply wG|apply wH|apply And.intro))|((with_reducible refine oD ?_ ?_);kernel_rfl)|((with_reducible (first|apply oE|apply oF));(iterate 3 exact rfl);all_goals (intro h;first|(exact absurd h (by decide))|((try simp only [go_sem,simprocAttr,au] at h);(try with_reducible intro K hK);simp only [go_sem,simprocAttr,au])))|((first|((with_reducible apply wL);exact rfl)|((with_reducible apply wM);exact rfl));all_goals (try ((with_reducible intro h);first|(exact absurd h (by decide))|(try simp only [go_sem,simprocAttr,au] at h))))|omega|((first|refine aa hX hC hP (iK g hl) rfl rfl rfl (by simp only [go_sem,simprocAttr,au]) rfl ?_|refine aa hX hC hP (eW g hm) rfl rfl rfl (by simp only [go_sem,simprocAttr,au]) rfl ?_|refine aa hX hC hP (hS) rfl rfl rfl (by simp only [go_sem,simprocAttr,au]) rfl ?_);try simp only [go_sem,simprocAttr,au])|(intro h))
 ·have au:decide ((bJ g).1=0)=false:=decide_eq_false hc
  have hI:pn g=false:=by unfold pn;rw [au];rfl
  rw [hI]
  (refine Spec.intro (C:=T.cfg [] []) (rs:= [.t 2]) (T.aj _ _) Tryz.func51 rfl rfl Tryz.ntmps51 Tryz.results51 (by simp [AObj.isNest]) (by simp [AObj.isNest]) (by kernel_rfl) ?_;intro X hX hP hC aL aM vals hA;refine ⟨_,by simp,hA, ?_⟩;have af:X.P.follows .mixedOrders=true:=(by rw [hP];exact T.mixed);clear aL aM)
  repeat' (first|((first|((with_reducible (first|apply oA|apply oB));exact rfl;intro K hK)|(refine hK _ ?_;clear hK K)|((with_reducible (first|apply oG|apply oH));iterate 3 exact rfl)|((with_reducible apply oI);(iterate 2 exact rfl);intro K hK)|(with_reducible (first|apply wI|apply wJ|apply wK)));try simp only [go_sem,simprocAttr,au])|(with_reducible (first|apply oC|apply oJ|exact oK|apply wA|apply wB|apply wC hX hC|apply wD hX hC|apply wE hX hC af|apply wF hX hC af|apply wG|apply wH|apply And.intro))|((with_reducible refine oD ?_ ?_);kernel_rfl)|((with_reducible (first|apply oE|apply oF));(iterate 3 exact rfl);all_goals (intro h;first|(exact absurd h (by decide))|((try simp only [go_sem,simprocAttr,au] at h);(try with_reducible intro K hK);simp only [go_sem,simprocAttr,au])))|((first|((with_reducible apply wL);exact rfl)|((with_reducible apply wM);exact rfl));all_goals (try ((with_reducible intro h);first|(exact absurd h (by decide))|(try simp only [go_sem,simprocAttr,au] at h))))|omega|((first|refine aa hX hC hP (iK g hl) rfl rfl rfl (by simp only [go_sem,simprocAttr,au]) rfl ?_);try simp only [go_sem,simprocAttr,au])|(intro h))
end Go.Ab
end
section
namespace Go.Ab
open Go.Proofs
attribute [local congr] ACall.congr
set_option maxRecDepth 10000
set_option maxHeartbeats 8000000
def g16:Gr:=⟨3, [(0,1),(0,2)]⟩
def QM:Pl:=⟨[0,1,2], [[0,1], [], []]⟩
def QN:Gr:=⟨4, [(0,1),(0,2),(1,3),(2,3)]⟩
def QO:Pl:=⟨[0,1,2,3], [[0,1], [2], [3], []]⟩
end Go.Ab
end
section
namespace Go.Ab
open Go.Proofs
attribute [local congr] ACall.congr
set_option maxRecDepth 10000
def QS (l:List Int) (k:Nat):Bool:=(List.range k).all fun i=>decide (l.getD i 0=(i:Int))
def FX (g:Gr) (names order:List Int) (k:Nat):List Edge:=(List.range k).map fun i=>(names.getD (g.es.getD (order.getD i 0).toNat (0,0)).1.toNat 0,names.getD (g.es.getD (order.getD i 0).toNat (0,0)).2.toNat 0)
def gO (g:Gr) (names order:List Int):Gr:=⟨g.n,FX g names order order.length⟩
theorem ym {g:Gr} {names order:List Int} {k:Nat} :(FX g names order k).length=k:=by simp [FX]
def Kc (g:Gr) (names order:List Int):Bool:=aO g&&jS names g.n&&jS order g.es.length
def Pz (g:Gr) (names order:List Int):Gr:=if Kc g names order then gO g names order else ⟨0, []⟩
end Go.Ab
end
section
namespace Go.Ab
def Ed (g:Gr) (a b:Int):Prop:=∃i,i<g.es.length∧tl g i=a∧hd g i=b
def Ke (g:Gr) (l:List Int):Prop:=∀i,i<l.length→Ed g (l.getD i 0) (l.getD ((i+1) % l.length) 0)
def D6 (g:Gr) (way:List Int) (at_:Int):Prop:=∀p,p<way.length→Ed g ((way++ [at_]).getD (p+1) 0) (way.getD p 0)
theorem pV {l:List Int} {a:Int} :(l++ [a]).getD l.length 0=a:=by
 rw [List.getD_eq_getElem?_getD,List.getElem?_append_right (Nat.le_refl _)];simp
theorem tr {g:Gr} (hm:aO g=true):∀(f:Nat) (way:List Int) (a:Nat),a<g.n.toNat→(a:Int)∉aJ g→D6 g way a→left g way≤f→
 D6 g (kB g (cw g (aJ g)) f way a).1 (kB g (cw g (aJ g)) f way a).2∧0≤(kB g (cw g (aJ g)) f way a).2∧(kB g (cw g (aJ g)) f way a).2∈(kB g (cw g (aJ g)) f way a).1
 |f,way,a,ha,hn,hc,hl=>by
  by_cases hmem:(a:Int)∈way
  ·rw [jO (.inr hmem)]
   exact ⟨hc,by simp only;omega,hmem⟩
  ·have hla:=iH ha hmem
   cases f with
   |zero=>omega
   |succ f=>
    obtain ⟨⟨i,hi,PA,jy,JZ⟩,_⟩:=sW hm (HJ hm ha hn)
    have htr:=bG hm hi
    rw [jy] at htr
    obtain ⟨b,HK⟩:∃b:Nat,jd g (cw g (aJ g)) a=b:=⟨(jd g (cw g (aJ g)) a).toNat,by omega⟩
    rw [HK] at JZ htr jy
    have e1:kB g (cw g (aJ g)) (f+1) way a=kB g (cw g (aJ g)) f (way++ [(a:Int)]) b:=by
     simp only [kB];rw [if_neg (by intro h;rcases h with h|h;omega;exact hmem h),HK]
    rw [e1]
    refine tr hm f (way++ [(a:Int)]) b (by omega) JZ ?_ (by omega)
    intro p hp
    rw [List.length_append,List.length_singleton] at hp
    by_cases gM:p<way.length
    ·have:=hc p gM
     rw [lK (by simp;omega),lK gM]
     exact this
    ·have:p=way.length:=by omega
     subst this
     have e2:=pV (l:=way++ [(a:Int)]) (a:=(b:Int))
     rw [List.length_append,List.length_singleton] at e2
     rw [e2,pV]
     exact ⟨i,hi,jy,PA⟩
theorem pW {l:List Int} {k p:Nat} :(l.drop k).getD p 0=l.getD (k+p) 0:=by
 rw [List.getD_eq_getElem?_getD,List.getElem?_drop, ← List.getD_eq_getElem?_getD]
theorem Ke.ME {g:Gr} {l:List Int} (h:∀p,p<l.length→Ed g (l.getD ((p+1) % l.length) 0) (l.getD p 0)) (h0:0<l.length):Ke g (kO l.reverse):=by
 have K2:0<l.reverse.length:=by simpa using h0
 obtain ⟨k,A6,hk2,_⟩:=dG (iI K2)
 rw [List.length_reverse] at hk2
 have e1:kO l.reverse=l.reverse.drop k++l.reverse.take k:=by simp only [kO,A6,Int.toNat_natCast]
 have hlen:(kO l.reverse).length=l.length:=by rw [e1];simp;omega
 have hg:∀i,i<l.length→(kO l.reverse).getD i 0=l.getD (l.length - 1 - (i+k) % l.length) 0:=by
  intro i hi
  rw [e1,List.getD_eq_getElem?_getD]
  by_cases hik:i<l.length - k
  ·rw [List.getElem?_append_left (by simp;omega),List.getElem?_drop,List.getElem?_reverse (by omega),Nat.mod_eq_of_lt (by omega), ← List.getD_eq_getElem?_getD]
   congr 1;omega
  ·rw [List.getElem?_append_right (by simp;omega),List.length_drop,List.length_reverse,List.getElem?_take,if_pos (by omega),List.getElem?_reverse (by omega), ← List.getD_eq_getElem?_getD]
   have:(i+k) % l.length=i+k - l.length:=by rw [Nat.mod_eq_sub_mod (by omega),Nat.mod_eq_of_lt (by omega)]
   rw [this];congr 1;omega
 intro i hi
 rw [hlen] at hi ⊢
 rw [hg i hi,hg _ (Nat.mod_lt _ h0)]
 have hmm:((i+1) % l.length+k) % l.length=((i+k) % l.length+1) % l.length:=by
  rw [Nat.mod_add_mod,Nat.mod_add_mod];congr 1;omega
 rw [hmm]
 have hj:=Nat.mod_lt (i+k) h0
 generalize (i+k) % l.length=j at hj ⊢
 by_cases uZ:j+1<l.length
 ·rw [Nat.mod_eq_of_lt uZ]
  have:=h (l.length - 1 - (j+1)) (by omega)
  rw [Nat.mod_eq_of_lt (by omega),show l.length - 1 - (j+1)+1=l.length - 1 - j from by omega] at this
  exact this
 ·have:j+1=l.length:=by omega
  rw [this,Nat.mod_self]
  have:=h (l.length - 1) (by omega)
  rw [show l.length - 1+1=l.length from by omega,Nat.mod_self] at this
  rw [show l.length - 1 - j=0 from by omega]
  exact this
def MF (g:Gr):Prop:=∃r:Int→Nat,∀i,i<g.es.length→r (tl g i)<r (hd g i)
theorem qT {g:Gr} (hm:aO g=true):oM g=true↔MF g:=by
 constructor
 ·intro h
  refine ⟨fun v=>((x9 g.n.toNat (aJ g) (aJ g).length).getD v.toNat 0).toNat,fun i hi=> ?_⟩
  have h1:=DQ (BH hm h) hi
  have h2:=sY (n:=g.n.toNat) (l:=aJ g) (k:=(aJ g).length) (y:=(tl g i).toNat)
  simp only;omega
 ·rintro ⟨r,hr⟩
  cases h:oM g with
  |true=>rfl
  |false=>
   exfalso
   obtain ⟨y,hy,hn⟩:=Ar hm h
   have key:∀(p:Nat) (y:Nat),y<g.n.toNat→(y:Int)∉aJ g→r y=p→False:=by
    intro p
    induction p using Nat.strongRecOn with
    |_ p ih=>
     intro y hy hn hp
     obtain ⟨t,i,hi,h1,rfl,h2⟩:=HJ hm hy hn
     have htr:=bG hm hi
     have hlt:=hr i hi
     rw [h1,hp] at hlt
     have e:((tl g i).toNat:Int)=tl g i:=by omega
     exact ih (r (tl g i)) hlt (tl g i).toNat (by omega) (by rw [e];exact h2) (by rw [e])
   exact key _ y hy hn rfl
theorem AB {g:Gr} (hm:aO g=true) (h:oM g=true):jN g= []:=by
 have hall:=(bQ.1 (oN hm h)).2
 have hn:=aT hm
 rcases start_eq hm with ⟨h1,h2⟩|⟨a,ha,h1,h2,h3⟩
 ·have:jM g=([], -1):=by
   unfold jM;rw [h1];exact jO (.inl (by omega)) _
  simp only [jN,this]
  rw [if_pos (by omega)]
 ·exact absurd (hall a (cB.2 (by omega))) h3
theorem tu {g:Gr} (hm:aO g=true) (h:oM g=false):0<(jN g).length∧Ke g (jN g):=by
 obtain ⟨y,hy,PB⟩:=Ar hm h
 have hn:=aT hm
 rcases start_eq hm with ⟨h1,h2⟩|⟨a,ha,h1,h2,h3⟩
 ·exfalso
  rcases fZ (f:=fun n:Int=>decide (0<n)) (l:=cw g (aJ g)) 0 with ⟨_,h4⟩|⟨k,h4,_⟩
  ·have h5:=(pQ hm hy).2 PB
   have h6:=h4 ((cw g (aJ g)).getD y 0) (by rw [List.getD_eq_getElem?_getD,kz hy];exact List.mem_of_getElem? (kz hy))
   rw [lE hy] at h6
   exact absurd h5 (of_decide_eq_false h6)
  ·omega
 ·obtain ⟨h4,h5,h6⟩:=tr hm g.n.toNat [] a ha h3 (fun p hp=>by simp at hp) wg
  have hw:jM g=kB g (cw g (aJ g)) g.n.toNat [] a:=by unfold jM;rw [h1]
  rw [← hw] at h4 h5 h6
  obtain ⟨k,A6,hk2,JV⟩:=dG h6
  have hc:jN g=kO ((jM g).1.drop k).reverse:=by
   simp only [jN]
   rw [if_neg (by omega),A6,Int.toNat_natCast]
  have hlen:((jM g).1.drop k).length=(jM g).1.length - k:=by simp
  have h0:0<((jM g).1.drop k).length:=by omega
  refine ⟨?_, ?_⟩
  ·rw [hc]
   simp only [kO,List.length_append,List.length_drop,List.length_take,List.length_reverse]
   omega
  ·rw [hc]
   refine Ke.ME (fun p hp=> ?_) h0
   rw [hlen] at hp ⊢
   have h7:=h4 (k+p) (by omega)
   rw [pW (p:=p)]
   by_cases uZ:p+1<(jM g).1.length - k
   ·rw [Nat.mod_eq_of_lt uZ,pW]
    rw [lK (by omega)] at h7
    exact h7
   ·have:p+1=(jM g).1.length - k:=by omega
    rw [this,Nat.mod_self,pW,Nat.add_zero,JV]
    rw [show k+p+1=(jM g).1.length from by omega,pV] at h7
    exact h7
end Go.Ab
end
section
namespace Go.Ab
def nm (names:List Int) (v:Int):Int:=names.getD v.toNat 0
structure jf (g:Gr) (names order:List Int):Prop where
 may:aO g=true
 HW:jS names g.n=true
 ord:jS order (g.es.length:Int)=true
section
variable {g:Gr} {names order:List Int} (h:jf g names order)
include h
theorem jf.len:(gO g names order).es.length=g.es.length:=by
 have:=(bQ.1 h.ord).1
 simp only [gO,ym];omega
theorem jf.jl {i:Nat} (hi:i<g.es.length):∃j,j<g.es.length∧order.getD i 0=(j:Int)∧(gO g names order).es.getD i (0,0)=(nm names (tl g j),nm names (hd g j)):=by
 have Ag:=(bQ.1 h.ord).1
 have:=lM h.ord _ (iL (l:=order) (m:=i) (by omega))
 refine ⟨(order.getD i 0).toNat,by omega,by omega, ?_⟩
 simp only [gO,FX,nm,tl,hd]
 rw [List.getD_eq_getElem?_getD,List.getElem?_map,List.getElem?_range (by omega)]
 rfl
theorem jf.back {j:Nat} (hj:j<g.es.length):∃i,i<g.es.length∧order.getD i 0=(j:Int)∧(gO g names order).es.getD i (0,0)=(nm names (tl g j),nm names (hd g j)):=by
 obtain ⟨Ag,hall⟩:=bQ.1 h.ord
 obtain ⟨i,hi,hil,he⟩:=dG (hall (j:Int) (cB.2 (by omega)))
 obtain ⟨j',_,h2,h3⟩:=h.jl (i:=i) (by omega)
 have:j'=j:=by omega
 subst this
 exact ⟨i,by omega,he,h3⟩
theorem jf.inj {a b:Int} (ha:0≤a∧a<g.n) (hb:0≤b∧b<g.n) (e:nm names a=nm names b):a=b:=by
 have hnl:=(bQ.1 h.HW).1
 have:=iM h.HW (i:=a.toNat) (j:=b.toNat) (by omega) (by omega) e
 omega
theorem jf.range {a:Int} (ha:0≤a∧a<g.n):0≤nm names a∧nm names a<g.n:=by
 have hnl:=(bQ.1 h.HW).1
 exact lM h.HW _ (iL (by omega))
theorem jf.inv {a:Int} (ha:0≤a∧a<g.n):dF names (nm names a)=a:=by
 have hnl:=(bQ.1 h.HW).1
 obtain ⟨k,hk,bF,he⟩:=dG (iL (l:=names) (m:=a.toNat) (by omega))
 have h2:=iM h.HW bF (j:=a.toNat) (by omega) he
 have h3:dF names (nm names a)=k:=hk
 omega
theorem jf.of {v:Int} (hv:0≤v∧v<g.n):∃a,(0≤a∧a<g.n)∧nm names a=v:=by
 obtain ⟨hnl,hall⟩:=bQ.1 h.HW
 obtain ⟨k,hk,bF,he⟩:=dG (hall v (cB.2 (by omega)))
 exact ⟨k,by omega,he⟩
theorem jf.may':aO (gO g names order)=true:=by
 have hn:=aT h.may
 have hlen:=h.len
 have hall:(gO g names order).es.any (ow (gO g names order))=false:=by
  rw [List.any_eq_false]
  intro e he
  obtain ⟨i,hi,rfl⟩:=List.getElem_of_mem he
  obtain ⟨j,hj,_,h3⟩:=h.jl (i:=i) (by omega)
  rw [List.getD_eq_getElem?_getD,List.getElem?_eq_getElem hi,Option.getD_some] at h3
  rw [h3]
  have h4:=h.range (bG h.may hj)
  have h5:=h.range (b8 h.may hj)
  have e1:(gO g names order).n=g.n:=rfl
  simp only [ow,tY,e1,Bool.or_eq_true,decide_eq_true_eq]
  omega
 have e1:(gO g names order).n=g.n:=rfl
 simp only [aO,hall,e1,Bool.not_false,Bool.and_true,Bool.and_eq_true,decide_eq_true_eq]
 omega
omit h in
theorem pX {i j:Nat} (e:(gO g names order).es.getD i (0,0)=(nm names (tl g j),nm names (hd g j))):tl (gO g names order) i=nm names (tl g j)∧hd (gO g names order) i=nm names (hd g j):=⟨congrArg Prod.fst e,congrArg Prod.snd e⟩
theorem jf.loop:(0≤jP (gO g names order))↔0≤jP g:=by
 have key:∀g:Gr,(0≤jP g)↔∃i,i<g.es.length∧tl g i=hd g i:=by
  intro g
  have:=fW (fun e:Edge=>decide (e.1=e.2)) g.es
  rw [show (0≤jP g)↔g.es.any (fun e:Edge=>decide (e.1=e.2))=true from by rw [← this];simp [jP],List.any_eq_true]
  constructor
  ·rintro ⟨e,he,h2⟩
   obtain ⟨i,hi,rfl⟩:=List.getElem_of_mem he
   refine ⟨i,hi, ?_⟩
   simpa [tl,hd,List.getD_eq_getElem?_getD,List.getElem?_eq_getElem hi] using h2
  ·rintro ⟨i,hi,h2⟩
   refine ⟨_,List.getElem_mem hi, ?_⟩
   simpa [tl,hd,List.getD_eq_getElem?_getD,List.getElem?_eq_getElem hi] using h2
 rw [key,key,h.len]
 constructor
 ·rintro ⟨i,hi,e⟩
  obtain ⟨j,hj,_,h3⟩:=h.jl hi
  obtain ⟨e1,e2⟩:=pX h3
  exact ⟨j,hj,h.inj (bG h.may hj) (b8 h.may hj) (by rw [← e1, ← e2,e])⟩
 ·rintro ⟨j,hj,e⟩
  obtain ⟨i,hi,_,h3⟩:=h.back hj
  obtain ⟨e1,e2⟩:=pX h3
  exact ⟨i,hi,by rw [e1,e2,e]⟩
omit h in
theorem u5 (g:Gr):(0≤eZ g)↔∃i k,i<g.es.length∧k<g.es.length∧i≠k∧g.es.getD i (0,0)=g.es.getD k (0,0):=by
 have:=fW (nv g) (List.range g.es.length)
 rw [show (0≤eZ g)↔(List.range g.es.length).any (nv g)=true from by rw [← this];simp [eZ],List.any_eq_true]
 constructor
 ·rintro ⟨i,hi,h2⟩
  have hil:=List.mem_range.1 hi
  have h3:=of_decide_eq_true h2
  rw [List.mem_iff_getElem?] at h3
  obtain ⟨k,hk⟩:=h3
  rw [List.getElem?_take] at hk
  split at hk
  ·rename_i hki
   exact ⟨i,k,hil,by omega,by omega,by rw [List.getD_eq_getElem?_getD (i:=k),hk];rfl⟩
  ·cases hk
 ·rintro ⟨i,k,hi,hk,hne,e⟩
  have main:∀i k,k<i→i<g.es.length→g.es.getD i (0,0)=g.es.getD k (0,0)→nv g i=true:=by
   intro i k hki hi e
   refine decide_eq_true ?_
   rw [e,List.mem_iff_getElem?]
   refine ⟨k, ?_⟩
   rw [List.getElem?_take,if_pos hki,List.getD_eq_getElem?_getD,List.getElem?_eq_getElem (by omega)];rfl
  rcases Nat.lt_or_gt_of_ne hne with hlt|hgt
  ·exact ⟨k,List.mem_range.2 hk,main k i hlt hk e.symm⟩
  ·exact ⟨i,List.mem_range.2 hi,main i k hgt hi e⟩
theorem jf.Kf:(0≤eZ (gO g names order))↔0≤eZ g:=by
 have Ag:=(bQ.1 h.ord).1
 rw [u5,u5,h.len]
 constructor
 ·rintro ⟨i,k,hi,hk,hne,e⟩
  obtain ⟨j,hj,ho,h3⟩:=h.jl hi
  obtain ⟨j',hj',ho',Ft⟩:=h.jl hk
  refine ⟨j,j',hj,hj',fun e'=> ?_, ?_⟩
  ·subst e'
   exact hne (iM h.ord (by omega) (by omega) (by rw [ho,ho']))
  ·rw [h3,Ft,Prod.mk.injEq] at e
   have e1:=h.inj (bG h.may hj) (bG h.may hj') e.1
   have e2:=h.inj (b8 h.may hj) (b8 h.may hj') e.2
   exact Prod.ext e1 e2
 ·rintro ⟨j,j',hj,hj',hne,e⟩
  obtain ⟨i,hi,ho,h3⟩:=h.back hj
  obtain ⟨k,hk,ho',Ft⟩:=h.back hj'
  refine ⟨i,k,hi,hk,fun e'=> ?_, ?_⟩
  ·subst e';omega
  ·have e1:tl g j=tl g j':=congrArg Prod.fst e
   have e2:hd g j=hd g j':=congrArg Prod.snd e
   rw [h3,Ft,e1,e2]
theorem jf.MG:oM (gO g names order)=oM g:=by
 rw [Bool.eq_iff_iff,qT h.may',qT h.may]
 constructor
 ·rintro ⟨r,hr⟩
  refine ⟨fun v=>r (nm names v),fun j hj=> ?_⟩
  obtain ⟨i,hi,_,h3⟩:=h.back hj
  obtain ⟨e1,e2⟩:=pX h3
  have:=hr i (by rw [h.len];exact hi)
  rwa [e1,e2] at this
 ·rintro ⟨r,hr⟩
  refine ⟨fun v=>r (dF names v),fun i hi=> ?_⟩
  rw [h.len] at hi
  obtain ⟨j,hj,_,h3⟩:=h.jl hi
  obtain ⟨e1,e2⟩:=pX h3
  have:=hr j hj
  rw [e1,e2];simp only;rw [h.inv (bG h.may hj),h.inv (b8 h.may hj)]
  exact this
omit h in
theorem gI {g:Gr} {y:Int} :y∈bD (·.2) g↔(0≤y∧y<g.n)∧∀i,i<g.es.length→hd g i≠y:=by
 simp only [bD,iG,List.mem_map,List.mem_filter,List.mem_range,decide_eq_true_eq]
 have he:∀x:Nat,x<g.n.toNat→(((cW (·.2) g).getD x []).length=0↔∀i,i<g.es.length→hd g i≠(x:Int)):=by
  intro x hx
  have e:(cW (·.2) g).getD x []=aD (·.2) g.es g.es.length (x:Int):=by
   simp [cW,List.getD_eq_getElem?_getD,List.getElem?_range hx,jR]
  rw [e,List.length_eq_zero_iff]
  simp only [aD,List.map_eq_nil_iff,List.filter_eq_nil_iff,List.mem_range,decide_eq_true_eq]
  rfl
 constructor
 ·rintro ⟨x,⟨hx,h0⟩,rfl⟩
  refine ⟨by simp;omega,(he x hx).1 h0⟩
 ·rintro ⟨⟨h1,h2⟩,h3⟩
  have e:((y.toNat:Nat):Int)=y:=by omega
  exact ⟨y.toNat,⟨by omega,(he _ (by omega)).2 (by rw [e];exact h3)⟩,e⟩
omit h in
theorem tv {f:Edge→Int} {g:Gr} :(bD f g).Nodup:=by
 unfold bD iG
 refine List.Pairwise.map _ (fun a b h e=>h (Int.ofNat.inj e)) (List.Pairwise.filter _ List.nodup_range)
theorem jf.bare:(bD (·.2) (gO g names order)).length=(bD (·.2) g).length:=by
 have e1:(gO g names order).n=g.n:=rfl
 have h1:((bD (·.2) g).map (nm names)).length≤(bD (·.2) (gO g names order)).length:=by
  refine Nat.le_trans (count_le _ (bD (·.2) (gO g names order)) ?_ ?_) List.countP_le_length
  ·rw [List.nodup_iff_pairwise_ne]
   refine List.Pairwise.map _ (fun a b h=>h) ?_
   refine List.Pairwise.imp_of_mem ?_ tv
   intro a b ha hb hab e
   exact hab (h.inj (gI.1 ha).1 (gI.1 hb).1 e)
  ·intro v hv
   obtain ⟨y,hy,rfl⟩:=List.mem_map.1 hv
   obtain ⟨hy1,hy2⟩:=gI.1 hy
   refine gI.2 ⟨h.range hy1,fun i hi e=> ?_⟩
   rw [h.len] at hi
   obtain ⟨j,hj,_,h3⟩:=h.jl hi
   rw [(pX h3).2] at e
   exact hy2 j hj (h.inj (b8 h.may hj) hy1 e)
 have h2:((bD (·.2) (gO g names order)).map (dF names)).length≤(bD (·.2) g).length:=by
  have hsplit:∀v∈bD (·.2) (gO g names order),∃a,(0≤a∧a<g.n)∧nm names a=v:=fun v hv=>h.of (gI.1 hv).1
  refine Nat.le_trans (count_le _ (bD (·.2) g) ?_ ?_) List.countP_le_length
  ·rw [List.nodup_iff_pairwise_ne]
   refine List.Pairwise.map _ (fun a b h=>h) ?_
   refine List.Pairwise.imp_of_mem ?_ tv
   intro a b ha hb hab e
   obtain ⟨a',Mk,rfl⟩:=hsplit a ha
   obtain ⟨b',hb',rfl⟩:=hsplit b hb
   rw [h.inv Mk,h.inv hb'] at e
   exact hab (by rw [e])
  ·intro v hv
   obtain ⟨y,hy,rfl⟩:=List.mem_map.1 hv
   obtain ⟨a,ha,rfl⟩:=hsplit y hy
   rw [h.inv ha]
   refine gI.2 ⟨ha,fun j hj e=> ?_⟩
   obtain ⟨i,hi,_,h3⟩:=h.back hj
   refine (gI.1 hy).2 i (by rw [h.len];exact hi) ?_
   rw [(pX h3).2,e]
 simp only [List.length_map] at h1 h2
 omega
theorem jf.kind:(bJ (gO g names order)).1=(bJ g).1:=by
 have hm:=h.may'
 have hc:(0<(jN (gO g names order)).length)↔0<(jN g).length:=by
  have key:∀g:Gr,aO g=true→((0<(jN g).length)↔oM g=false):=by
   intro g hm
   cases ho:oM g with
   |true=>rw [AB hm ho];simp
   |false=>simp [(tu hm ho).1]
  rw [key _ hm,key _ h.may,h.MG]
 have h1:=h.loop
 have h2:=h.Kf
 have h3:=h.bare
 simp only [bJ,gH,hm,h.may]
 simp only [Bool.true_eq_false,if_false,h1,h2,hc,h3]
 split
 ·rfl
 split
 ·rfl
 split
 ·rfl
 split<;>rfl
end
theorem B4 {g:Gr} (hm:aO g=true):
 (bJ g).1=13∧(bJ g).2.2= []∧oM g=false∨(bJ g).1=14∧(bJ g).2.2= []∨(bJ g).1=15∧oM g=false∧Ke g (bJ g).2.2∨
 (bJ g).1=16∧oM g=true∧(∀a∈(bJ g).2.2,∀i,i<g.es.length→hd g i≠a)∨(bJ g).1=0∧(bJ g).2.2= []∧oM g=true:=by
 unfold bJ gH
 rw [if_neg (by simp [hm])]
 split
 ·rename_i hl
  refine .inl ⟨rfl,rfl, ?_⟩
  cases ho:oM g with
  |false=>rfl
  |true=>
   exfalso
   obtain ⟨r,hr⟩:=(qT hm).1 ho
   have:=fW (fun e:Edge=>decide (e.1=e.2)) g.es
   have h2:g.es.any (fun e:Edge=>decide (e.1=e.2))=true:=by rw [← this];exact decide_eq_true hl
   obtain ⟨e,he,h3⟩:=List.any_eq_true.1 h2
   obtain ⟨i,hi,rfl⟩:=List.getElem_of_mem he
   have h4:=hr i hi
   have h5:tl g i=hd g i:=by simpa [tl,hd,List.getD_eq_getElem?_getD,List.getElem?_eq_getElem hi] using h3
   rw [h5] at h4;omega
 split
 ·exact .inr (.inl ⟨rfl,rfl⟩)
 split
 ·rename_i hc
  refine .inr (.inr (.inl ⟨rfl, ?_⟩))
  cases ho:oM g with
  |false=>exact ⟨rfl,(tu hm ho).2⟩
  |true=>rw [AB hm ho] at hc;simp at hc
 rename_i hc
 have ho:oM g=true:=by
  cases ho:oM g with
  |true=>rfl
  |false=>exact absurd (tu hm ho).1 hc
 split
 ·refine .inr (.inr (.inr (.inl ⟨rfl,ho,fun a ha=> ?_⟩)))
  exact (gI.1 (List.mem_of_mem_take ha)).2
 ·exact .inr (.inr (.inr (.inr ⟨rfl,rfl,ho⟩)))
end Go.Ab
end
section
namespace Go.Ab
open Go.Proofs
set_option maxRecDepth 10000
def NP:Nat→List Edge→Int→Option (Int × Int)
 |_, [],_=>none
 |m,e::N,v=>if e.1=v then some ((m:Int),e.2) else NP (m+1) N v
def QT (m:Nat) (N:List Edge) (t:It):It:=if 0≤t.1 then t else match NP m N t.2.1 with
 |some (i,h)=>(i,t.2.1,h)
 |none=>t
structure NQ (g:Gr) (p:Pl):Prop where
 run:cC g p
 n:(D3 g p).n≤64
 es:(D3 g p).es.length≤128
variable {g:Gr} {p:Pl}
end Go.Ab
end
section
namespace Go.Ab
open Go.Proofs
set_option maxRecDepth 10000
variable {g:Gr} {p:Pl}
theorem AD {p:Pl} {k:Nat} {v:Int} (hk:k≤p.ord.length) (h:v∈p.ord.take k):∃j,j<k∧aq p j=v:=by
 obtain ⟨j,hj,e⟩:=List.mem_iff_getElem.1 h
 simp only [List.length_take] at hj
 refine ⟨j,by omega, ?_⟩
 rw [← e,aq,List.getD_eq_getElem?_getD,List.getElem?_eq_getElem (by omega)]
 simp
end Go.Ab
end
section
namespace Go.Ab
open Go.Proofs
set_option maxRecDepth 10000
variable {g:Gr} {p:Pl}
theorem pY (hr:cC g p):bB p (aq p (g.n.toNat - 1))= []∧aq p (g.n.toNat - 1)∈loose (lN g p):=by
 have hm:=aC hr.1
 have hn:=aT hm
 obtain ⟨k,hk⟩:∃k,g.n.toNat=k+1:=⟨g.n.toNat - 1,by omega⟩
 obtain ⟨hi,_,_⟩:=dQ hm hr.2.1 (k:=k) (by omega) fun j hj=>hr.2.2 j (by omega)
 obtain ⟨A,X,C,hrw,_,_,_,hs⟩:=iP hm hi.togV (hr.2.2 k (by omega))
 have hL:lN g p=A++aX g (aq p k) (bB p (aq p k))++C:=by
  unfold lN;rw [hk]
  show (aF _ _ _ _).2.row=_
  rw [hs]
 have A6:g.n.toNat - 1=k:=by omega
 rw [A6]
 have kV:=zJ hr
 have hx:=aR hr.2.1 (k:=k) (by omega)
 have h0:bB p (aq p k)= []:=by
  refine Decidable.byContradiction fun h0=> ?_
  have ha:aX g (aq p k) (bB p (aq p k))=(bB p (aq p k)).map (je g (aq p k)):=if_neg h0
  obtain ⟨i,hi'⟩:=List.exists_mem_of_ne_nil _ h0
  have h1:=kV (je g (aq p k) i) (by rw [hL,ha];simp;exact .inr (.inl ⟨i,hi',rfl⟩))
  obtain ⟨e,rfl,_⟩:=jV ((bH hr.2.1 hx.1 hx.2).mem_iff.1 hi')
  simp [je] at h1
  omega
 refine ⟨h0, ?_⟩
 have ha:aX g (aq p k) (bB p (aq p k))= [(-1,aq p k, -1)]:=if_pos h0
 rw [hL,ha,uW,uW]
 simp [loose]
theorem mE {f:Edge→Int} {g:Gr} {y:Int} :y∈bD f g↔(0≤y∧y<g.n)∧aD f g.es g.es.length y= []:=by
 simp only [bD,iG,List.mem_map,List.mem_filter,List.mem_range,decide_eq_true_eq]
 have he:∀x:Nat,x<g.n.toNat→(((cW f g).getD x []).length=0↔aD f g.es g.es.length (x:Int)= []):=by
  intro x hx
  have e:(cW f g).getD x []=aD f g.es g.es.length (x:Int):=by
   simp [cW,List.getD_eq_getElem?_getD,List.getElem?_range hx,jR]
  rw [e,List.length_eq_zero_iff]
 constructor
 ·rintro ⟨x,⟨hx,h0⟩,rfl⟩
  exact ⟨by simp;omega,(he x hx).1 h0⟩
 ·rintro ⟨⟨h1,h2⟩,h3⟩
  have e:((y.toNat:Nat):Int)=y:=by omega
  exact ⟨y.toNat,⟨by omega,(he _ (by omega)).2 (by rw [e];exact h3)⟩,e⟩
end Go.Ab
end
section
namespace Go.Ab
open Go.Proofs
set_option maxRecDepth 10000
def js (l:List It):List It:=l.filter fun t=>decide (0≤t.1)
theorem mF {a b:List It} :js (a++b)=js a++js b:=by simp [js]
theorem jg {l:List It} {t:It} :t∈js l↔t∈l∧0≤t.1:=by simp [js]
theorem qU {x:Int} {l:List It} (h:fM x l):fM x (js l):=fun t ht=>h t (jg.1 ht).1
def wz (x:Int) (l:List It):Prop:=∀t∈l,t.2.2=x
theorem mG {g:Gr} {x:Int} {o:List Int} (ho:∀i∈o,0≤i):js (aX g x o)=o.map (je g x):=by
 unfold aX
 split
 ·rename_i h;subst h;rfl
 ·refine List.filter_eq_self.2 fun t ht=> ?_
  obtain ⟨i,hi,rfl⟩:=List.mem_map.1 ht
  exact decide_eq_true (ho i hi)
theorem u6 {x:Int} :∀ {X Y c d:List It},wz x X→wz x Y→fM x c→fM x d→X++c=Y++d→X=Y∧c=d
 | [], [],c,d,_,_,_,_,e=>⟨rfl,e⟩
 | [],u::Y,c,d,_,hY,hc,_,e=>by
   simp only [List.nil_append] at e
   exact absurd (hY u (by simp)) (hc u (by rw [e];simp))
 |t::X, [],c,d,hX,_,_,hd,e=>by
  simp only [List.nil_append] at e
  exact absurd (hX t (by simp)) (hd t (by rw [← e];simp))
 |t::X,u::Y,c,d,hX,hY,hc,hd,e=>by
  simp only [List.cons_append,List.cons.injEq] at e
  obtain ⟨e1,e2⟩:=u6 (fun s hs=>hX s (by simp [hs])) (fun s hs=>hY s (by simp [hs])) hc hd e.2
  exact ⟨by rw [e.1,e1],e2⟩
theorem yo {x:Int} :∀ {a b X Y c d:List It},fM x a→fM x b→wz x X→wz x Y→fM x c→fM x d→X≠ []→Y≠ []→a++X++c=b++Y++d→a=b∧X=Y∧c=d
 |t::a, [],X,u::Y,c,d,ha,_,_,hY,_,_,_,_,e=>by
  simp only [List.cons_append,List.nil_append,List.cons.injEq] at e
  exact absurd (by rw [e.1];exact hY u (by simp)) (ha t (by simp))
 | [],t::b,u::X,Y,c,d,_,hb,hX,_,_,_,_,_,e=>by
   simp only [List.cons_append,List.nil_append,List.cons.injEq] at e
   exact absurd (by rw [← e.1];exact hX u (by simp)) (hb t (by simp))
 |t::a,u::b,X,Y,c,d,ha,hb,hX,hY,hc,hd,nX,nY,e=>by
  simp only [List.cons_append,List.cons.injEq] at e
  obtain ⟨e1,e2,e3⟩:=yo (fun s hs=>ha s (by simp [hs])) (fun s hs=>hb s (by simp [hs])) hX hY hc hd nX nY e.2
  exact ⟨by rw [e.1,e1],e2,e3⟩
 | [], [],X,Y,c,d,_,_,hX,hY,hc,hd,_,_,e=>by
   refine ⟨rfl, ?_⟩
   simp only [List.nil_append] at e
   exact u6 hX hY hc hd e
 | [],_::_, [],_,_,_,_,_,_,_,_,_,h,_,_=>absurd rfl h
 |_::_, [],_, [],_,_,_,_,_,_,_,_,_,h,_=>absurd rfl h
theorem D7 {g:Gr} (hm:aO g=true) {f:Fr} (hi:gV g f) {x:Int} (hR:aK g f x=true) (hn:bE g x≠0):
 ∃a X c,js f.row=a++X++c∧fM x a∧fM x c∧wz x X∧X.length=bE g x∧∀o,js (aF g f x o).2.row=a++js (aX g x o)++c:=by
 obtain ⟨A,X,C,hr,hA,hC,hX,cX⟩:=cT hm hi hR hn
 have hx:=(aU hR).1
 have hmem:∀t∈X,t∈f.row:=fun t ht=>by rw [hr];simp [ht]
 have hiff:∀t∈X,(0≤t.1↔t.2.2=x):=fun t ht=>by
  have h1:=(hi.it t (hmem t ht)).head hm
  have h2:=hX.al t ht
  omega
 refine ⟨js A,js X,js C,by rw [hr,mF,mF],qU hA,qU hC,fun t ht=> ?_, ?_,fun o=> ?_⟩
 ·obtain ⟨h1,h2⟩:=jg.1 ht
  exact (hiff t h1).1 h2
 ·rw [← cX,js, ← List.countP_eq_length_filter]
  refine List.countP_congr fun t ht=> ?_
  simp only [kW,decide_eq_true_eq]
  exact hiff t ht
 ·rw [kF o hr hA hC hX]
  simp only [mF]
theorem FY {g:Gr} (hm:aO g=true) {f:Fr} (hi:gV g f) {x:Int} (hR:aK g f x=true) (hn:bE g x≠0) {a X c:List It} (e:js f.row=a++X++c) (ha:fM x a) (hc:fM x c) (hX:wz x X) (nX:X≠ []) (o:List Int):
 js (aF g f x o).2.row=a++js (aX g x o)++c:=by
 obtain ⟨b,Y,d,e',hb,hd,hY,lY,hs⟩:=D7 hm hi hR hn
 have nY:Y≠ []:=fun h=>hn (by rw [← lY,h];rfl)
 obtain ⟨e1,_,e3⟩:=yo hb ha hY hX hd hc nY nX (e'.symm.trans e)
 rw [hs o,e1,e3]
theorem D8 {g:Gr} (hm:aO g=true) {f:Fr} (hi:gV g f) {x:Int} (h0:0≤x) (h1:x<g.n) (hp:x∉f.pl) {a X c:List It} (e:js f.row=a++X++c) (ha:fM x a) (hc:fM x c) (hX:wz x X) (nX:X≠ []) (hl:X.length=bE g x):aK g f x=true:=by
 have hmem:∀j,j<f.row.length→BN g (f.row.getD j (0,0,0)):=fun j hj=>hi.it _ (aW hj)
 have Bg:f.row.countP (kW x)=X.length:=by
  have h2:f.row.countP (kW x)=(js f.row).countP (kW x):=by
   rw [js,List.countP_filter]
   refine List.countP_congr fun t ht=> ?_
   have:=(hi.it t ht).head hm
   simp only [kW,Bool.and_eq_true,decide_eq_true_eq]
   omega
  have c1:a.countP (kW x)=0:=List.countP_eq_zero.2 fun t ht=>by simp [kW,ha t ht]
  have c2:c.countP (kW x)=0:=List.countP_eq_zero.2 fun t ht=>by simp [kW,hc t ht]
  have c3:X.countP (kW x)=X.length:=List.countP_eq_length.2 fun t ht=>by simp [kW,hX t ht]
  rw [h2,e,List.countP_append,List.countP_append,c1,c2,c3]
  omega
 rw [← oP hm hi,gm,if_neg (by rintro (h|h|h);omega;omega;exact hp h),fA h0 h1,Bool.and_eq_true,decide_eq_true_eq]
 have hN:(aD (fun e=>e.2) g.es g.es.length x).length=bE g x:=rfl
 rw [hN]
 refine ⟨?_, ?_⟩
 ·unfold aZ
  rw [jT,kE (Nat.le_refl _),List.take_length,Bg,hl]
 ·rw [Bool.or_eq_true];right
  rcases eL (row:=f.row) (x:=x) f.row.length with ⟨hs,hno⟩|⟨p,q,n,hs,hab,j7,hc0,nQ,hpx,MH,hlo,hhi⟩
  ·have hs':aZ f.row x=(-1,0,0):=hs
   rw [hs'];simp [qt]
  ·have hs':aZ f.row x=((p:Int),(q:Int),(n:Int)):=hs
   rw [hs']
   simp only [Int.toNat_natCast,qt,Bool.not_eq_true']
   rw [← Bool.not_eq_true,uT j7]
   rintro ⟨j,h2,h3,h4⟩
   simp only [kC,Bool.and_eq_true,decide_eq_true_eq] at h4
   have hja:p<j:=by
    refine Nat.lt_of_le_of_ne h2 fun e=> ?_
    subst e;exact h4.1 hpx
   have hjb:j<q - 1:=by
    refine Nat.lt_of_le_of_ne (by omega) fun e=> ?_
    subst e;exact h4.1 MH
   have hsub:=((tg (i:=j+1) (j:=q - 1) (tg (i:=p+1) (j:=j) (tg (i:=0) (j:=p) (List.nil_sublist _) (by omega) (by omega)) (by omega) (by omega)) (by omega) (by omega)).trans (List.take_sublist _ f.row)).filter fun t=>decide (0≤t.1)
   have hp1:=(hmem p (by omega)).head hm
   have hj1:=(hmem j (by omega)).head hm
   have hq1:=(hmem (q - 1) (by omega)).head hm
   generalize f.row.getD p (0,0,0)=s1 at hsub hp1 hpx
   generalize f.row.getD j (0,0,0)=s2 at hsub hj1 h4
   generalize f.row.getD (q - 1) (0,0,0)=s3 at hsub hq1 MH
   have hf:([]++ [s1]++ [s2]++ [s3]).filter (fun t=>decide (0≤t.1))= [s1,s2,s3]:=List.filter_eq_self.2 fun t ht=>by
    simp only [List.nil_append,List.cons_append,List.mem_cons,List.not_mem_nil,or_false] at ht
    rcases ht with rfl|rfl|rfl
    ·exact decide_eq_true (hp1.1.2 (by omega))
    ·exact decide_eq_true (hj1.1.2 h4.2)
    ·exact decide_eq_true (hq1.1.2 (by omega))
   rw [hf] at hsub
   have hsub: [s1,s2,s3].Sublist (a++(X++c)):=by rw [← List.append_assoc, ← e];exact hsub
   rw [List.sublist_append_iff] at hsub
   obtain ⟨l1,l',el,k1,k'⟩:=hsub
   rw [List.sublist_append_iff] at k'
   obtain ⟨l2,l3,rfl,k2,k3⟩:=k'
   match l1,el,k1 with
   |t::l1,el,k1=>
    simp only [List.cons_append,List.cons.injEq] at el
    exact ha t (k1.subset (by simp)) (by rw [← el.1];exact hpx)
   | [],el,_=>
     match l2,el,k2 with
     | [],el,_=>
       simp only [List.nil_append] at el
       exact hc s1 (k3.subset (by rw [← el];simp)) hpx
     | [t],el,_=>
       simp only [List.nil_append,List.cons_append,List.cons.injEq] at el
       exact hc s3 (k3.subset (by rw [← el.2];simp)) MH
     |t::u::l2,el,k2=>
      simp only [List.nil_append,List.cons_append,List.cons.injEq] at el
      exact h4.1 (by rw [el.2.1];exact hX u (k2.subset (by simp)))
end Go.Ab
end
section
namespace Go.Ab
open Go.Proofs
set_option maxRecDepth 10000
def Kg (gone:List Int) (i:Nat):Bool:= !decide ((i:Int)∈gone)
def IB (gone:List Int) (k:Nat):List Nat:=(List.range k).filter (Kg gone)
def PC (gone:List Int) (k:Nat):Nat:=(IB gone k).length
def MI (gone:List Int) (es:List Edge) (k:Nat):List Edge:=(IB gone k).map fun i=>es.getD i (0,0)
def PD (g:Gr) (gone:List Int):Gr:=⟨g.n,MI gone g.es g.es.length⟩
def NR (gone:List Int) (i:Int):Int:=if i∈gone then -1 else (PC gone i.toNat:Int)
def MJ (gone:List Int) (l:List Int):List Int:=(l.filter fun i=>decide (i∉gone)).map (NR gone)
def PE (p:Pl) (gone:List Int):Pl:=⟨p.ord,p.outs.map (MJ gone)⟩
variable {g:Gr} {p:Pl} {gone:List Int}
def PF (gone:List Int) (t:It):It:=(NR gone t.1,t.2.1,t.2.2)
def PG (gone:List Int) (l:List It):List It:=(l.filter fun t=>decide (t.1∉gone)).map (PF gone)
theorem gv (hr:cC g p):bE g (aq p 0)=0:=by
 have hm:=aC hr.1
 have hn:=aT hm
 refine Decidable.byContradiction fun hnz=> ?_
 obtain ⟨A,X,C,hrw,_,_,hX,_⟩:=cT hm (Av g).togV (hr.2.2 0 (by omega)) hnz
 obtain ⟨q,X0,e1,_⟩:=hX.fst
 rw [e1] at hrw
 simp at hrw
end Go.Ab
end
section
namespace Go.Ab
open Go.Proofs
set_option maxRecDepth 10000
theorem wN {g:Gr} (hm:aO g=true) {f:Fr} (hi:gV g f) {x:Int} (hR:aK g f x=true) (hn:bE g x≠0) (o:List Int):
 ∃a c,js f.row=a++js (aF g f x o).1.1++c∧fM x a∧fM x c∧wz x (js (aF g f x o).1.1)∧(js (aF g f x o).1.1).length=bE g x∧js (aF g f x o).2.row=a++js (aX g x o)++c:=by
 obtain ⟨A,X,C,hr,hA,hC,hX,hc⟩:=cT hm hi hR hn
 have hx:=(aU hR).1
 have hmem:∀t∈X,t∈f.row:=fun t ht=>by rw [hr];simp [ht]
 have hiff:∀t∈X,(0≤t.1↔t.2.2=x):=fun t ht=>by
  have h1:=(hi.it t (hmem t ht)).head hm
  have h2:=hX.al t ht
  constructor
  ·intro h;rcases h2 with h2|h2
   ·exact h2
   ·exact absurd h2 (h1.1.1 h)
  ·intro h;exact h1.1.2 (by omega)
 rw [kF o hr hA hC hX]
 refine ⟨js A,js C,by rw [hr,mF,mF],qU hA,qU hC,fun t ht=> ?_, ?_,by simp only [mF]⟩
 ·obtain ⟨h1,h2⟩:=jg.1 ht
  exact (hiff t h1).1 h2
 ·rw [← hc,js, ← List.countP_eq_length_filter]
  refine List.countP_congr fun t ht=> ?_
  simp only [kW,decide_eq_true_eq]
  exact hiff t ht
def cE (g:Gr) (p:Pl) (x:Int):List Int:=(js ((gr g p g.n.toNat).getD x.toNat [])).map (·.1)
def oV (g:Gr) (p:Pl) (f:Fr) (x:Int):List Int:=(js (aF g f x (bB p x)).1.1).map (·.1)
def qv (g:Gr) (p:Pl):Nat→Fr→Prop
 |0,f=>(f.pl.length:Int)=g.n
 |m+1,f=>∃x,aK g f x=true∧oV g p f x=cE g p x∧qv g p m (uV g p f x)
theorem tw {g:Gr} {p:Pl} :∀ {m:Nat} {f f':Fr},f.row=f'.row→f.pl.Perm f'.pl→qv g p m f→qv g p m f'
 |0,f,f',_,hp,h=>by
  have h:(f.pl.length:Int)=g.n:=h
  show (f'.pl.length:Int)=g.n
  rw [← hp.length_eq];exact h
 |m+1,f,f',hr,hp,⟨x,h1,h3,h2⟩=>by
  refine ⟨x,by rw [← yf hr hp];exact h1, ?_,tw ?_ ?_ h2⟩
  ·simp only [oV,aF,hr] at h3 ⊢;exact h3
  ·simp only [uV,aF,hr]
  ·exact hp.append_right _
theorem u7 {g:Gr} (hc:(bJ g).1=0) {p:Pl} (hp:bL g p):∀ {m:Nat} {f:Fr},yc g f→(f.pl.length:Int)+(m+1:Nat)=g.n→qv g p (m+1) f→∀ {x:Int},aK g f x=true→oV g p f x=cE g p x∧qv g p m (uV g p f x)
 |m,f,hi,hl,⟨y,uU,K6,hcan⟩,x,hR=>by
  have hm:=aC hc
  by_cases hxy:x=y
  ·subst hxy;exact ⟨K6,hcan⟩
  have py:=bH hp (aU uU).1 (aU uU).2.1
  have px:=bH hp (aU hR).1 (aU hR).2.1
  have i2:=jX hm hi uU py
  match m,hl,hcan with
  |0,hl,hcan=>
   exfalso
   have h1:=jY i2.togV (by show ((f.pl++ [y]).length:Int)=g.n;simp;omega) (x:=x) ⟨(aU hR).1,(aU hR).2.1⟩
   have h2:x∈f.pl++ [y]:=h1
   simp [(aU hR).2.2,hxy] at h2
  |m+1,hl,hcan=>
   obtain ⟨h4,h5,h6,h7,h8⟩:=BW hc hi hxy hR uU px py
   obtain ⟨h9,h3⟩:=u7 hc hp i2 (by show (((f.pl++ [y]).length:Nat):Int)+_=_;simp;omega) hcan h5
   refine ⟨?_,y,h4, ?_,tw h6.symm ?_ h3⟩
   ·unfold oV at h9 ⊢;rw [h7];exact h9
   ·unfold oV at K6 ⊢;rw [h8] at K6;exact K6
   show (f.pl++ [y]++ [x]).Perm (f.pl++ [x]++ [y])
   rw [List.append_assoc,List.append_assoc]
   exact List.Perm.append_left _ (List.Perm.swap ..)
theorem u9 {g:Gr} {p:Pl} (h:cC g p):∀ {d k:Nat},k+d=g.n.toNat→qv g p d (fK g p k)
 |0,k,hk=>by
  have hn:=aT (aC h.1)
  obtain ⟨_,gM,_⟩:=dQ (aC h.1) h.2.1 (k:=k) (by omega) fun j hj=>h.2.2 j (by omega)
  show ((fK g p k).pl.length:Int)=g.n
  rw [gM,List.length_take,bP h.2.1];omega
 |d+1,k,hk=>⟨aq p k,h.2.2 k (by omega),by
   unfold cE
   rw [oS h.2.1 (Nat.le_refl _) (show k<g.n.toNat by omega)]
   rfl,u9 h (k:=k+1) (by omega)⟩
theorem AE {g:Gr} (hc:(bJ g).1=0) {p:Pl} (hp:bL g p):∀ {m:Nat} {f:Fr},yc g f→qv g p m f→∀ {i:Nat},i<g.es.length→tl g i∈f.pl→hd g i∉f.pl→∃t∈f.row,t.1=(i:Int)
 |0,f,hi,h,i,hil,_,hh=>by
  have hr:=b8 (aC hc) hil
  exact absurd (jY hi.togV h (x:=hd g i) hr) hh
 |m+1,f,hi,⟨x,hR,_,h⟩,i,hil,ht,hh=>by
  have hm:=aC hc
  have px:=bH hp (aU hR).1 (aU hR).2.1
  by_cases hx:hd g i=x
  ·obtain ⟨t,h1,h2,_⟩:=wu hm hi hR hil hx
   exact ⟨t,h1,h2⟩
  ·obtain ⟨t,h1,h2⟩:=AE hc hp (jX hm hi hR px) h hil (List.mem_append.2 (.inl ht)) (fun h1=>by
    rcases List.mem_append.1 h1 with h1|h1
    ·exact hh h1
    ·exact hx (by simpa using h1))
   obtain ⟨A,X,C,hr,_,_,_,hs⟩:=iP hm hi.togV hR
   rw [hs] at h1
   simp only [List.mem_append] at h1
   rcases h1 with (h1|h1)|h1
   ·exact ⟨t,by rw [hr];simp [h1],h2⟩
   ·rcases jW (fun i hi=>px.mem_iff.1 hi) h1 with ⟨h3,_⟩|⟨k,h3,h4,h5,_,h6,_⟩
    ·omega
    ·have:k=i:=by omega
     subst this
     exact absurd (h6 ▸ ht) (aU hR).2.2
   ·exact ⟨t,by rw [hr];simp [h1],h2⟩
def kU (g:Gr) (e:Int):Int:=(g.es.getD e.toNat (0,0)).1
def tS (g:Gr) (e:Int):Int:=(g.es.getD e.toNat (0,0)).2
def nN (g:Gr) (x:Int):Prop:=0≤x∧x<g.n
instance {g:Gr} {x:Int} :Decidable (nN g x):=inferInstanceAs (Decidable (0≤x∧x<g.n))
def lQ (g:Gr) (p:Pl) (k:Nat) (W D:List Int):Prop:=∃f,yc g f∧f.pl=D∧W=(js f.row).map (·.1)∧qv g p k f∧(D.length:Int)+k=g.n∧aq p 0∈D
def D9 (g:Gr) (p:Pl) (x:Int):Nat:=((x9 g.n.toNat p.ord p.ord.length).getD x.toNat 0).toNat
def jt (g:Gr) (p:Pl):PS:=
 {m:=g.es.length,src:=aq p 0,Hy:=aq p (g.n.toNat - 1),tl:=kU g,hd:=tS g,ins:=fun x=>if nN g x then cE g p x else [],outs:=fun x=>if nN g x then bB p x else [],EZ:=D9 g p,Row:=lQ g p,k0:=g.n.toNat - 1}
theorem kG {g:Gr} {p:Pl} {x:Int} (h:nN g x):(jt g p).ins x=cE g p x:=if_pos h
theorem oW {g:Gr} {p:Pl} {x:Int} (h:¬nN g x):(jt g p).ins x= []:=if_neg h
theorem jh {g:Gr} {p:Pl} {x:Int} (h:nN g x):(jt g p).outs x=bB p x:=if_pos h
theorem oZ {g:Gr} {p:Pl} {x:Int} (h:¬nN g x):(jt g p).outs x= []:=if_neg h
theorem bV {f:Edge→Int} {es:List Edge} {x e:Int} :e∈aD f es es.length x↔(0≤e∧e<es.length)∧f (es.getD e.toNat (0,0))=x:=by
 refine ⟨eu,fun ⟨h1,h2⟩=> ?_⟩
 simp only [aD,List.mem_map,List.mem_filter,List.mem_range,decide_eq_true_eq]
 exact ⟨e.toNat,⟨by omega,h2⟩,by simp;omega⟩
section
variable {g:Gr} {p:Pl}
theorem AF (hm:aO g=true) (hp:bL g p) {k:Nat} (hk:k<g.n.toNat):D9 g p (aq p k)=k:=by
 have hE:=((FV hm).2 hp).1
 have:=wk hE (p:=k) (k:=p.ord.length) (by rw [bP hp];exact hk) (Nat.le_refl _)
 unfold D9
 show ((x9 _ _ _).getD (p.ord.getD k 0).toNat 0).toNat=k
 rw [this];simp
theorem tA (h:cC g p) {e:Int} (he:0≤e∧e<g.es.length) {k:Nat} (hk:k<g.n.toNat) (hx:tS g e=aq p k):∃j,j<k∧aq p j=kU g e:=by
 have hm:=aC h.1
 obtain ⟨hi,gM,_⟩:=dQ hm h.2.1 (k:=k) (by omega) fun j hj=>h.2.2 j (by omega)
 obtain ⟨t,h1,h2,h3,_⟩:=wu hm hi (h.2.2 k hk) (i:=e.toNat) (by omega) hx
 have h4:=hi.tail t h1 (by omega)
 rw [h3,gM] at h4
 exact AD (by rw [bP h.2.1];omega) h4
theorem o4 (hm:aO g=true) {f:Fr} (hi:gV g f) {t:It} (ht:t∈js f.row):(0≤t.1∧t.1<g.es.length)∧t.2.1=kU g t.1∧t.2.2=tS g t.1:=by
 obtain ⟨h1,h2⟩:=jg.1 ht
 rcases hi.it t h1 with h3|h3
 ·omega
 ·exact ⟨⟨h3.1,h3.2.1⟩,h3.2.2.1,h3.2.2.2⟩
theorem Ea {f:Fr} (hi:yc g f):((js f.row).map (·.1)).Nodup:=by
 refine List.pairwise_map.2 ?_
 have:=hi.once.filter (fun t:It=>decide (0≤t.1))
 refine List.Pairwise.imp_of_mem (fun {s t} hs ht h1=>h1 (jg.1 hs).2) this
theorem FZ (hm:aO g=true) {f:Fr} (hi:yc g f) {x:Int} (hR:aK g f x=true):(oV g p f x).Nodup∧∀e,e∈oV g p f x↔(0≤e∧e<g.es.length)∧tS g e=x:=by
 by_cases hn:bE g x=0
 ·have hno:=tf hm hi.togV (aU hR).1 hn
  have e0:oV g p f x= []:=by unfold oV;rw [mB _ hno];rfl
  rw [e0]
  refine ⟨List.nodup_nil,fun e=>⟨fun h=>by (cases h),fun ⟨h1,h2⟩=> ?_⟩⟩
  have:=bV.2 ⟨h1,h2⟩
  have h3:aD (·.2) g.es g.es.length x= []:=List.eq_nil_of_length_eq_zero hn
  rw [h3] at this;cases this
 ·obtain ⟨a,c,e1,ha,hc,hX,hl,_⟩:=wN hm hi.togV hR hn (bB p x)
  have cI:=Ea hi
  have hmem:∀t∈js (aF g f x (bB p x)).1.1,t∈js f.row:=fun t ht=>by rw [e1];simp [ht]
  rw [e1,List.map_append,List.map_append,List.nodup_append] at cI
  have F0:(oV g p f x).Nodup:=(List.nodup_append.1 cI.1).2.1
  have hsub:∀e∈oV g p f x,e∈aD (·.2) g.es g.es.length x:=fun e he=>by
   obtain ⟨t,ht,rfl⟩:=List.mem_map.1 he
   obtain ⟨h1,_,h3⟩:=o4 hm hi.togV (hmem t ht)
   exact bV.2 ⟨h1,by rw [← hX t ht,h3];rfl⟩
  have hlen:(aD (·.2) g.es g.es.length x).length=(oV g p f x).length:=by
   unfold oV;rw [List.length_map,hl];rfl
  exact ⟨F0,fun e=>⟨fun he=>bV.1 (hsub e he),fun he=>zI F0 hsub hlen e (bV.2 he)⟩⟩
theorem AG (h:cC g p) {k:Nat} (hk:k<g.n.toNat):cE g p (aq p k)=oV g p (fK g p k) (aq p k):=by
 unfold cE
 rw [oS h.2.1 (Nat.le_refl _) hk];rfl
theorem lR (h:cC g p) {x:Int} (hx:nN g x):(cE g p x).Nodup∧∀e,e∈cE g p x↔(0≤e∧e<g.es.length)∧tS g e=x:=by
 obtain ⟨k,hk,rfl⟩:=gA h.2.1 hx.1 hx.2
 have hm:=aC h.1
 obtain ⟨hi,_,_⟩:=dQ hm h.2.1 (k:=k) (by omega) fun j hj=>h.2.2 j (by omega)
 rw [AG h hk]
 exact FZ hm hi (h.2.2 k hk)
theorem j0 (h:cC g p) {x:Int} (hx:nN g x):(cE g p x).length=bE g x:=by
 obtain ⟨h1,h2⟩:=lR h hx
 refine Nat.le_antisymm ?_ ?_
 ·exact ff h1 fun e he=>bV.2 ((h2 e).1 he)
 ·exact ff bU fun e he=>(h2 e).2 (bV.1 he)
theorem eM (h:cC g p) (hI:pn g=true) {x:Int} (hx:nN g x):bB p x= []↔x=aq p (g.n.toNat - 1):=by
 have hm:=aC h.1
 have hn:=aT hm
 constructor
 ·intro h1
  have hs:=(pY h).1
  have hsi:=aR h.2.1 (k:=g.n.toNat - 1) (by omega)
  have b1:=mE (f:=(·.1)) (g:=g) (y:=x) |>.2 ⟨hx,(oU h.2.1 hx.1 hx.2).2 h1⟩
  have b2:=mE (f:=(·.1)) (g:=g) (y:=aq p (g.n.toNat - 1)) |>.2 ⟨hsi,(oU h.2.1 hsi.1 hsi.2).2 hs⟩
  have hl:(bD (·.1) g).length=1:=by
   unfold pn at hI
   simp only [Bool.and_eq_true,decide_eq_true_eq] at hI
   exact hI.2
  obtain ⟨y,hy⟩:=List.length_eq_one_iff.1 hl
  rw [hy,List.mem_singleton] at b1 b2
  rw [b1,b2]
 ·rintro rfl;exact (pY h).1
theorem va (h:cC g p) (hI:pn g=true) {f:Fr} (hi:yc g f):∀ {d k:Nat},k+d=g.n.toNat→k<g.n.toNat→aq p k∉f.pl→aq p (g.n.toNat - 1)∉f.pl
 |0,k,h1,h2,_=>by omega
 |d+1,k,h1,h2,h3=>by
  have hm:=aC h.1
  have hx:=aR h.2.1 h2
  by_cases hs:bB p (aq p k)= []
  ·rw [(eM h hI hx).1 hs] at h3;exact h3
  ·obtain ⟨e,u,he⟩:=jb hs
   have w5:e∈b9 g (aq p k):=(bH h.2.1 hx.1 hx.2).mem_iff.1 (by rw [he];simp)
   obtain ⟨uq,yO⟩:=bV.1 w5
   have hh:=b8 hm (i:=e.toNat) (by omega)
   obtain ⟨k',hk',e'⟩:=gA h.2.1 hh.1 hh.2
   obtain ⟨j,hj,e2⟩:=tA h uq hk' e'.symm
   have:j=k:=dP h.2.1 (by omega) h2 (e2.trans yO)
   refine va h hI hi (d:=g.n.toNat - k') (k:=k') (by omega) hk' fun h4=> ?_
   have:=hi.low e.toNat (by omega) (e' ▸ h4)
   have h5:tl g e.toNat=aq p k:=yO
   exact h3 (h5 ▸ this)
 termination_by d=>d
theorem lQ.nd {k:Nat} {W D:List Int} (h:lQ g p k W D):W.Nodup:=by
 obtain ⟨f,hi,_,rfl,_⟩:=h;exact Ea hi
theorem lQ.mem (h:cC g p) {k:Nat} {W D:List Int} (hr:lQ g p k W D) (e:Int):e∈W↔(0≤e∧e<g.es.length)∧kU g e∈D∧tS g e∉D:=by
 have hm:=aC h.1
 obtain ⟨f,hi,rfl,rfl,hc,_⟩:=hr
 constructor
 ·intro he
  obtain ⟨t,ht,rfl⟩:=List.mem_map.1 he
  obtain ⟨h1,h2,h3⟩:=o4 hm hi.togV ht
  obtain ⟨h4,h5⟩:=jg.1 ht
  exact ⟨h1,h2 ▸ hi.tail t h4 h5,h3 ▸ hi.head t h4 h5⟩
 ·rintro ⟨h1,h2,h3⟩
  obtain ⟨t,h4,h5⟩:=AE h.1 h.2.1 hi hc (i:=e.toNat) (by omega) h2 h3
  exact List.mem_map.2 ⟨t,jg.2 ⟨h4,by omega⟩,by omega⟩
theorem lQ.next (h:cC g p) {k:Nat} {W D:List Int} (hr:lQ g p (k+1) W D):∃x A C,W=A++(jt g p).ins x++C∧(jt g p).ins x≠ []:=by
 have hm:=aC h.1
 obtain ⟨f,hi,rfl,rfl,⟨x,hR,hg,_⟩,_,hs⟩:=hr
 obtain ⟨x0,x1,x2⟩:=aU hR
 have hx:nN g x:=⟨x0,x1⟩
 have hn:bE g x≠0:=fun h0=>by
  have:=oQ h.1 (x:=x) (y:=aq p 0) hx (hi.HQ _ hs) h0 (gv h)
  exact x2 (this ▸ hs)
 obtain ⟨a,c,e1,_,_,_,hl,_⟩:=wN hm hi.togV hR hn (bB p x)
 refine ⟨x,a.map (·.1),c.map (·.1), ?_, ?_⟩
 ·rw [kG hx, ← hg,e1,List.map_append,List.map_append];rfl
 ·rw [kG hx]
  intro h0
  have:=j0 h hx
  rw [h0] at this
  exact hn this.symm
theorem lQ.step (h:cC g p) {k:Nat} {W D A C:List Int} {x:Int} (hr:lQ g p k W D) (hW:W=A++(jt g p).ins x++C) (hI:(jt g p).ins x≠ []):∃k',k=k'+1∧lQ g p k' (A++(jt g p).outs x++C) (D++ [x]):=by
 have hm:=aC h.1
 have hx:nN g x:=Decidable.byContradiction fun h0=>hI (oW h0)
 have cI:=hr.nd
 have hmem:=lQ.mem h hr
 rw [kG hx] at hW hI
 rw [jh hx]
 obtain ⟨i1,i2⟩:=lR h hx
 obtain ⟨e0,u0,FP⟩:=jb hI
 have NS:x∉D:=by
  have h1:=(i2 e0).1 (by rw [FP];simp)
  have h2:=(hmem e0).1 (by rw [hW,FP];simp)
  rw [h1.2] at h2;exact h2.2.2
 obtain ⟨f,hi,rfl,PI,hc,hD,hs⟩:=hr
 rw [PI] at hW cI
 obtain ⟨l1,c,e1,e2,e3⟩:=List.map_eq_append_iff.1 hW
 obtain ⟨a,X,e4,e5,e6⟩:=List.map_eq_append_iff.1 e2
 have hrow:js f.row=a++X++c:=by rw [e1,e4]
 rw [hrow,List.map_append,List.map_append,e5,e6,e3] at cI
 have hit:∀t∈a++X++c,(0≤t.1∧t.1<g.es.length)∧t.2.1=kU g t.1∧t.2.2=tS g t.1:=fun t ht=>o4 hm hi.togV (by rw [hrow];exact ht)
 have hX:wz x X:=fun t ht=>by
  have h1:t.1∈cE g p x:=by rw [← e6];exact List.mem_map_of_mem ht
  rw [(hit t (by simp [ht])).2.2,((i2 _).1 h1).2]
 have hin:∀t∈a++X++c,t.2.2=x→t.1∈cE g p x:=fun t ht e=>by
  obtain ⟨h1,_,h3⟩:=hit t ht
  exact (i2 _).2 ⟨h1,by rw [← h3,e]⟩
 have ha:fM x a:=fun t ht e=>by
  have h1:=hin t (by simp [ht]) e
  have h2:t.1∈A:=by rw [← e5];exact List.mem_map_of_mem ht
  exact (List.nodup_append.1 (List.nodup_append.1 cI).1).2.2 _ h2 _ h1 rfl
 have NT:fM x c:=fun t ht e=>by
  have h1:=hin t (by simp [ht]) e
  have h2:t.1∈C:=by rw [← e3];exact List.mem_map_of_mem ht
  exact (List.nodup_append.1 cI).2.2 _ (List.mem_append.2 (.inr h1)) _ h2 rfl
 have Mv:X.length=bE g x:=by rw [← j0 h hx, ← e6,List.length_map]
 have nX:X≠ []:=fun h0=>hI (by rw [← e6,h0];rfl)
 have hR:=D8 hm hi.togV hx.1 hx.2 NS hrow ha NT hX nX Mv
 have hn:bE g x≠0:=fun h0=>nX (List.eq_nil_of_length_eq_zero (Mv.trans h0))
 have px:=bH h.2.1 hx.1 hx.2
 cases k with
 |zero=>exact absurd (jY hi.togV (by omega) hx) NS
 |succ k=>
  refine ⟨k,rfl,uV g p f x,jX hm hi hR px,rfl, ?_,(u7 h.1 h.2.1 hi (by omega) hc hR).2, ?_,List.mem_append.2 (.inl hs)⟩
  ·have:=FY hm hi.togV hR hn hrow ha NT hX nX (bB p x)
   show _=(js (aF g f x (bB p x)).2.row).map (·.1)
   rw [this,List.map_append,List.map_append,e5,e3,mG (fun i hi=>by
    have:=bV.1 (px.mem_iff.1 hi);exact this.1.1),List.map_map]
   have e7:((fun t:It=>t.1) ∘ je g x)=id:=rfl
   rw [e7,List.map_id]
  ·show (((f.pl++ [x]).length:Nat):Int)+_=_
   rw [List.length_append,List.length_singleton];omega
theorem B5 (h:cC g p):lQ g p (g.n.toNat - 1) (bB p (aq p 0)) [aq p 0]:=by
 have hm:=aC h.1
 have hn:=aT hm
 have hx:=aR h.2.1 (k:=0) (by omega)
 obtain ⟨hi,gM,_⟩:=dQ hm h.2.1 (k:=1) (by omega) fun j hj=>h.2.2 j (by omega)
 have px:=bH h.2.1 hx.1 hx.2
 have hno:fM (aq p 0) (fK g p 0).row:=fun t ht=>by cases ht
 have hf:fK g p 1=⟨aX g (aq p 0) (bB p (aq p 0)), [aq p 0]⟩:=by
  show (aF g (fK g p 0) (aq p 0) _).2=_
  rw [mB _ hno]
  show (⟨_++ [], []++ [_]⟩:Fr)=_
  simp
 refine ⟨fK g p 1,hi,by rw [hf], ?_,u9 h (by omega),by simp;omega,by simp⟩
 rw [hf]
 show _=(js (aX g (aq p 0) (bB p (aq p 0)))).map (·.1)
 rw [mG (fun i hi=>(bV.1 (px.mem_iff.1 hi)).1.1),List.map_map]
 have e7:((fun t:It=>t.1) ∘ je g (aq p 0))=id:=rfl
 rw [e7,List.map_id]
theorem AH (h:cC g p) (hI:pn g=true):(jt g p).Ok:=by
 have hm:=aC h.1
 have hn:=aT hm
 have h0:nN g (aq p 0):=aR h.2.1 (by omega)
 exact {
  jI:=fun x e=>by
   show _↔(0≤e∧e<g.es.length)∧kU g e=x
   by_cases hx:nN g x
   ·rw [jh hx,(bH h.2.1 hx.1 hx.2).mem_iff];exact bV
   ·rw [oZ hx]
    refine ⟨fun h=>by (cases h),fun ⟨h1,h2⟩=>absurd ?_ hx⟩
    rw [← h2];exact bG hm (i:=e.toNat) (by omega)
  dO:=fun x e=>by
   show _↔(0≤e∧e<g.es.length)∧tS g e=x
   by_cases hx:nN g x
   ·rw [kG hx];exact (lR h hx).2 e
   ·rw [oW hx]
    refine ⟨fun h=>by (cases h),fun ⟨h1,h2⟩=>absurd ?_ hx⟩
    rw [← h2];exact b8 hm (i:=e.toNat) (by omega)
  oq:=fun x=>by
   by_cases hx:nN g x
   ·rw [jh hx,(bH h.2.1 hx.1 hx.2).nodup_iff];exact bU
   ·rw [oZ hx];exact List.nodup_nil
  zk:=fun x=>by
   by_cases hx:nN g x
   ·rw [kG hx];exact (lR h hx).1
   ·rw [oW hx];exact List.nodup_nil
  pJ:=fun e he=>by
   have he:0≤e∧e<g.es.length:=he
   have hh:=b8 hm (i:=e.toNat) (by omega)
   obtain ⟨k,hk,e1⟩:=gA h.2.1 hh.1 hh.2
   obtain ⟨j,hj,e2⟩:=tA h he hk e1.symm
   show D9 g p (kU g e)<D9 g p (tS g e)
   have e3:tS g e=aq p k:=e1.symm
   rw [← e2,e3,AF hm h.2.1 hk,AF hm h.2.1 (by omega)]
   exact hj
  FJ:=by
   show lQ g p (g.n.toNat - 1) ((jt g p).outs (aq p 0)) [aq p 0]
   rw [jh h0];exact B5 h
  nj:=fun hr=>lQ.nd hr
  eS:=fun hr e=>lQ.mem h hr e
  lB:=fun hr=>lQ.next h hr
  ot:=fun hr h1 h2=>lQ.step h hr h1 h2
  mz:=fun {W D} hr e he=>by
   obtain ⟨f,hi,rfl,_,_,hD,_⟩:=hr
   exact jY hi.togV (by omega) (b8 hm (i:=e.toNat) (by have:=he.1;have:=he.2;have:e<g.es.length:=he.2;omega))
  qL:=fun {k W D} hr=>by obtain ⟨f,hi,rfl,_,_,_,hs⟩:=hr;exact hs
  qM:=fun {k W D} hr hs=>by
   obtain ⟨f,hi,rfl,_,_,hD,_⟩:=hr
   refine Decidable.byContradiction fun hk=> ?_
   have:∃k',k'<g.n.toNat∧aq p k'∉f.pl:=by
    refine Decidable.byContradiction fun hall=> ?_
    have hall:∀k',k'<g.n.toNat→aq p k'∈f.pl:=fun k' hk'=>Decidable.byContradiction fun h1=>hall ⟨k',hk',h1⟩
    have:=ff (l:=p.ord) (m:=f.pl) (tj h.2.1) fun x hx=>by
     have hx:=cB.1 (h.2.1.2.1.mem_iff.1 hx)
     obtain ⟨k',h1,rfl⟩:=gA h.2.1 hx.1 (by omega)
     exact hall k' h1
    rw [bP h.2.1] at this
    omega
   obtain ⟨k',h1,h2⟩:=this
   exact va h hI hi (d:=g.n.toNat - k') (by omega) h1 h2 hs
  vQ:=by
   show (jt g p).ins (aq p 0)= []
   rw [kG h0]
   have:=j0 h h0
   rw [gv h] at this
   exact List.eq_nil_of_length_eq_zero this
  qN:=fun x hx=>by
   have Ct:nN g x:=Decidable.byContradiction fun h0=>hx (oW h0)
   rw [jh Ct]
   exact eM h hI Ct}
end
end Go.Ab
end
section
namespace Go.Ab
open Go.Proofs
set_option maxRecDepth 10000
structure wO (g:Gr) (p:Pl) (k:Nat) (e:Int):Prop where
 e0:0≤e
 e1:e<g.es.length
 low:kU g e∈p.ord.take k
 top:tS g e∉p.ord.take k
structure NU (g:Gr) (p:Pl) (L:Nat→Int→Int→Prop):Prop where
 up:∀e:Int,0≤e→e<g.es.length→∀k,k<g.n.toNat→aq p k=tS g e→kU g e∈p.ord.take k
 QU:∀k,k<g.n.toNat→∀a b c:Int,wO g p k a→wO g p k b→wO g p k c→tS g a=aq p k→tS g c=aq p k→L k a b→L k b c→tS g b=aq p k
 keep:∀k,k<g.n.toNat→∀a b:Int,wO g p k a→wO g p k b→tS g a≠aq p k→tS g b≠aq p k→L k a b→L (k+1) a b
 left:∀k,k<g.n.toNat→∀a b c:Int,wO g p k a→wO g p k b→tS g a≠aq p k→tS g b=aq p k→c∈bB p (aq p k)→L k a b→L (k+1) a c
 right:∀k,k<g.n.toNat→∀a b c:Int,wO g p k a→wO g p k b→tS g a≠aq p k→tS g b=aq p k→c∈bB p (aq p k)→L k b a→L (k+1) c a
 outs:∀k,k<g.n.toNat→(bB p (aq p k)).Pairwise (L (k+1))
section
variable {g:Gr} {p:Pl}
end
end Go.Ab
end
