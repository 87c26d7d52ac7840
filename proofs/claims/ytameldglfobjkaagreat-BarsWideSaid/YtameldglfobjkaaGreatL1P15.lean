/- A part of the proof. -/
import Derived.Test.YtameldglfobjkaaGreatL1P14
set_option linter.unusedSimpArgs false
set_option linter.unusedVariables false
section
namespace Go.Ab
open Go.Proofs
set_option maxRecDepth 10000
def Bi (g:Gr) (t:It):Prop:=(t.1= -1∧t.2.2= -1)∨(0≤t.1∧t.1<g.es.length∧t.2.1=(g.es.getD t.1.toNat (0,0)).1∧t.2.2=(g.es.getD t.1.toNat (0,0)).2)
structure gK (g:Gr) (f:Fr):Prop where
 it:∀t∈f.row,Bi g t
 pl:f.pl.Nodup
 Dl:∀x∈f.pl,0≤x∧x<g.n
theorem jA {row:List It} {x:Int} :∀k:Nat,(cE row x k).2.2=fq row x k
 |0=>rfl
 |k+1=>by
  rw [iz,ec]
  split
  ·show (cE row x k).2.2+1=_
   rw [jA k]
  ·exact jA k
theorem pK {row:List It} {x:Int} {j:Nat} :∀d:Nat,fq row x j≤fq row x (j+d)
 |0=>Int.le_refl _
 |d+1=>by
  have:=pK (row:=row) (x:=x) (j:=j) d
  rw [← Nat.add_assoc,ec]
  split<;>omega
theorem jB {row:List It} {x:Int} :∀ {k:Nat},(∀j,j<k→(row.getD j (0,0,0)).2.2≠x)→fq row x k=0
 |0,_=>rfl
 |k+1,h=>by
  rw [ec,if_neg (h k (by omega))]
  exact jB fun j hj=>h j (by omega)
theorem pL {row:List It} {x:Int} {b:Nat} :∀ {d:Nat},(∀j,b≤j→j<b+d→(row.getD j (0,0,0)).2.2≠x)→fq row x (b+d)=fq row x b
 |0,_=>rfl
 |d+1,h=>by
  rw [← Nat.add_assoc,ec,if_neg (h (b+d) (by omega) (by omega))]
  exact pL fun j h1 h2=>h j h1 (by omega)
theorem fe {f:Edge→Int} {g:Gr} {x:Int} (h0:0≤x) (h1:x<g.n):bq f g x=aL f g.es g.es.length x:=if_pos ⟨h0,h1⟩
theorem pM {g:Gr} {e:Int} (h0:0≤e) (h1:e<g.es.length):0<bB g (g.es.getD e.toNat (0,0)).2:=by
 refine List.length_pos_iff.2 fun h=> ?_
 have hm:e∈aL (·.2) g.es g.es.length (g.es.getD e.toNat (0,0)).2:=by
  simp only [aL,List.mem_map,List.mem_filter,List.mem_range,decide_eq_true_eq]
  exact ⟨e.toNat,⟨by omega,rfl⟩,by simp;omega⟩
 rw [h] at hm;cases hm
theorem tX {row:List It} {p:It→Bool} {a b:Nat} (hb:b≤row.length):((row.take b).drop a).any p=true↔∃j,a≤j∧j<b∧p (row.getD j (0,0,0))=true:=by
 rw [List.any_eq_true]
 constructor
 ·rintro ⟨t,ht,hp⟩
  obtain ⟨k,hk,rfl⟩:=List.mem_iff_getElem.1 ht
  simp only [List.length_drop,List.length_take] at hk
  refine ⟨a+k,by omega,by omega, ?_⟩
  rw [List.getD_eq_getElem?_getD,List.getElem?_eq_getElem (show a+k<row.length by omega)]
  simpa using hp
 ·rintro ⟨j,h1,h2,hp⟩
  rw [List.getD_eq_getElem?_getD,List.getElem?_eq_getElem (show j<row.length by omega)] at hp
  refine ⟨row[j], ?_,hp⟩
  refine List.mem_iff_getElem.2 ⟨j - a,by simp;omega, ?_⟩
  simp only [List.getElem_drop,List.getElem_take]
  congr 1;omega
theorem Bi.head {g:Gr} (hm:aN g=true) {t:It} (h:Bi g t):(0≤t.1↔t.2.2≠ -1)∧ -1≤t.2.2:=by
 rcases h with ⟨h1,h2⟩|⟨h1,h2,_,h4⟩
 ·omega
 ·obtain ⟨_,h5,_⟩:=ej hm (k:=t.1.toNat) (by omega)
  omega
theorem ou {g:Gr} (hm:aN g=true) {f:Fr} (hi:gK g f) (x:Int):fW g f x=aD g f x:=by
 by_cases hx:x<0∨g.n≤x∨x∈f.pl
 ·rw [fW,aD,if_pos hx,if_pos hx]
 rw [fW,aD,if_neg hx,if_neg hx]
 have hx0:0≤x∧x<g.n:=by
  constructor
  ·exact Int.not_lt.1 fun h=>hx (.inl h)
  ·exact Int.not_le.1 fun h=>hx (.inr (.inl h))
 have hmem:∀j,j<f.row.length→Bi g (f.row.getD j (0,0,0)):=fun j hj=>hi.it _ (aG hj)
 rw [fe hx0.1 hx0.2]
 have hN:(aL (fun e=>e.2) g.es g.es.length x).length=bB g x:=rfl
 rw [hN]
 have GZ:(aY f.row x).2.2=fq f.row x f.row.length:=jA _
 by_cases h0:bB g x=0
 ·rw [if_pos h0,h0,decide_eq_true rfl,Bool.true_or,Bool.and_true,decide_eq_true_eq,GZ,jB]
  ·rfl
  ·intro j hj he
   rcases hmem j hj with ⟨_,h2⟩|⟨h1,h2,_,h4⟩
   ·omega
   ·have:=pM h1 h2
    rw [← h4,he] at this
    omega
 ·rw [if_neg h0,decide_eq_false h0,Bool.false_or,GZ]
  generalize bB g x=need at h0
  rcases cQ (row:=f.row) (x:=x) f.row.length with ⟨hs,hno⟩|⟨a,b,c,hs,hab,kA,hc0,gy,ha,hb,hlo,hhi⟩
  ·rw [jB hno]
   have e1:decide ((0:Int)=(need:Int))=false:=decide_eq_false (by omega)
   rw [e1,Bool.false_and,Bool.and_false]
  ·have hs':aY f.row x=((a:Int),(b:Int),(c:Int)):=hs
   have Nc:fq f.row x f.row.length=c:=by rw [← GZ,hs']
   rw [hs',Nc]
   simp only [Int.toNat_natCast]
   rw [Bool.and_comm]
   by_cases H8:¬(c:Int)=need
   ·rw [decide_eq_false H8,Bool.and_false,Bool.and_false]
   rw [Decidable.not_not] at H8
   rw [decide_eq_true H8,Bool.and_true,Bool.and_true,qh]
   congr 1
   rw [Bool.eq_iff_iff,tX kA,List.any_eq_true]
   have ma:fq f.row x a=0:=jB hlo
   have P4:fq f.row x (a+1)=1:=by rw [ec,if_pos ha,ma];rfl
   have mb:fq f.row x b=need:=by
    have h:=pL (row:=f.row) (x:=x) (b:=b) (d:=f.row.length - b) fun j h1 h2=>hhi j h1 (by omega)
    rw [show b+(f.row.length - b)=f.row.length by omega,Nc] at h
    omega
   have P5:fq f.row x (b - 1)+1=need:=by
    have h:=ec (row:=f.row) (x:=x) (k:=b - 1)
    rw [if_pos hb,show b - 1+1=b by omega,mb] at h
    omega
   constructor
   ·rintro ⟨j,h1,h2,hp⟩
    simp only [j5,Bool.and_eq_true,decide_eq_true_eq] at hp
    have hja:j≠a:=fun e=>hp.1 (by rw [e];exact ha)
    have hjb:j≠b - 1:=fun e=>hp.1 (by rw [e];exact hb)
    have g1:=pK (row:=f.row) (x:=x) (j:=a+1) (j - (a+1))
    rw [show a+1+(j - (a+1))=j by omega] at g1
    have g2:=pK (row:=f.row) (x:=x) (j:=j) (b - 1 - j)
    rw [show j+(b - 1 - j)=b - 1 by omega] at g2
    exact ⟨j,List.mem_range.2 (by omega),lQ.2 ⟨⟨hp.1,((hmem j (by omega)).head hm).1.2 hp.2⟩,by omega,by omega⟩⟩
   ·rintro ⟨j,hj,hl⟩
    have hj:=List.mem_range.1 hj
    obtain ⟨⟨h1,h2⟩,h3,h4⟩:=lQ.1 hl
    refine ⟨j, ?_, ?_, ?_⟩
    ·refine Nat.not_lt.1 fun h=> ?_
     have:=jB (row:=f.row) (x:=x) (k:=j) fun i hi=>hlo i (by omega)
     omega
    ·refine Nat.not_le.1 fun h=> ?_
     have:=pL (row:=f.row) (x:=x) (b:=b) (d:=j - b) fun i h1 h2=>hhi i h1 (by omega)
     rw [show b+(j - b)=j by omega] at this
     omega
    ·simp only [j5,Bool.and_eq_true,decide_eq_true_eq]
     exact ⟨h1,((hmem j hj).head hm).1.1 h2⟩
theorem qJ:∀ {ms os:List Int},ms.Nodup→(∀i∈ms,i∈os)→os.length=ms.length→os.Perm ms
 | [],os,_,_,hl=>by
   have h:os= []:=List.eq_nil_of_length_eq_zero (by simpa using hl)
   rw [h]
 |m::ms,os,hn,hs,hl=>by
  rw [List.nodup_cons] at hn
  have hm:=hs m (List.mem_cons_self ..)
  refine (List.perm_cons_erase hm).trans (List.Perm.cons m (qJ hn.2 (fun j hj=> ?_) ?_))
  ·have:j≠m:=fun e=>hn.1 (e ▸ hj)
   exact (List.mem_erase_of_ne this).2 (hs j (List.mem_cons_of_mem _ hj))
  ·rw [List.length_erase_of_mem hm,hl];simp
theorem qi {g:Gr} {x:Int} :(bu g x).Pairwise (· ≤ ·):=by
 unfold bu aL
 refine List.Pairwise.map _ (fun a b (h:a<b)=> ?_) (List.Pairwise.filter _ List.pairwise_lt_range)
 show (a:Int)≤b
 omega
theorem sM {l m:List Int} (h:l.Perm m) (hm:m.Pairwise (· ≤ ·)):gI l=m:=by
 have h1:(gI l).Pairwise (· ≤ ·):=by
  have:=List.pairwise_mergeSort (le:=fun a b:Int=>decide (a≤b)) (by simp;omega) (by simp;omega) l
  simpa [gI] using this
 have h2:(gI l).Perm m:=(by unfold gI;exact (List.mergeSort_perm l _).trans h)
 exact h2.eq_of_pairwise (fun a b _ _ h1 h2=>Int.le_antisymm h1 h2) h1 hm
theorem aU {g:Gr} {f:Fr} {x:Int} (h:aD g f x=true):0≤x∧x<g.n∧x∉f.pl:=by
 unfold aD at h
 by_cases hx:x<0∨g.n≤x∨x∈f.pl
 ·rw [if_pos hx] at h;cases h
 ·exact ⟨Int.not_lt.1 fun h=>hx (.inl h),Int.not_le.1 fun h=>hx (.inr (.inl h)),fun h=>hx (.inr (.inr h))⟩
theorem Dm {g:Gr} (hm:aN g=true) {f:Fr} (hi:gK g f) (x:Int) (outs:List Int):jb g f x outs=cR g f x outs:=by
 rw [jb,cR,ou hm hi]
 cases hR:aD g f x with
 |false=>rw [if_pos rfl,if_pos rfl]
 |true=>
  obtain ⟨h0,h1,h2⟩:=aU hR
  have ht:¬(true=false):=by simp
  rw [if_neg ht,if_neg ht,fe h0 h1]
  show (if gI outs≠bu g x then _ else aA g f x outs)=_
  by_cases hs:gI outs=bu g x
  ·rw [if_neg (fun h=>h hs),if_neg]
   rintro (h|⟨i,h3,h4⟩)
   ·exact h (by rw [← hs,eR])
   ·exact h4 (xx.1 (hs ▸ h3))
  ·rw [if_pos hs,if_pos]
   refine Decidable.byContradiction fun h=>hs ?_
   have hl:outs.length=(bu g x).length:=Decidable.byContradiction fun e=>h (.inl e)
   exact sM (qJ cT (fun i hi=>Decidable.byContradiction fun e=>h (.inr ⟨i,hi,e⟩)) hl) qi
theorem Dn {g:Gr} {x:Int} {outs:List Int} (ho:∀i∈outs,i∈bu g x):∀t∈aM g x outs,Bi g t:=by
 intro t ht
 unfold aM at ht
 split at ht
 ·rw [List.mem_singleton] at ht
  rw [ht];exact .inl ⟨rfl,rfl⟩
 ·obtain ⟨i,hi,rfl⟩:=List.mem_map.1 ht
  obtain ⟨⟨h1,h2⟩,h3⟩:=fX (ho i hi)
  exact .inr ⟨h1,h2,h3.symm,rfl⟩
theorem Dp {g:Gr} {f:Fr} (hi:gK g f) {x:Int} (hR:aD g f x=true) {outs:List Int} (ho:∀i∈outs,i∈bu g x):gK g (aA g f x outs).2:=by
 obtain ⟨h0,h1,h2⟩:=aU hR
 refine ⟨fun t ht=> ?_, ?_,fun y hy=> ?_⟩
 ·simp only [aA,List.mem_append] at ht
  rcases ht with (ht|ht)|ht
  ·exact hi.it t (List.mem_of_mem_take ht)
  ·exact Dn ho t ht
  ·exact hi.it t (List.mem_of_mem_drop ht)
 ·show (f.pl++ [x]).Nodup
  rw [List.nodup_append]
  refine ⟨hi.pl,by simp,fun a ha b hb e=>h2 ?_⟩
  rw [List.mem_singleton] at hb
  rw [← hb, ← e];exact ha
 ·have hy:y∈f.pl++ [x]:=hy
  rcases List.mem_append.1 hy with h|h
  ·exact hi.Dl y h
  ·rw [List.mem_singleton] at h
   rw [h];exact ⟨h0,h1⟩
end Go.Ab
end
section
namespace Go.Ab
open Go.Proofs
set_option maxRecDepth 10000
def kG (x:Int) (t:It):Bool:=decide (t.2.2=x)
structure Bj (x:Int) (X:List It):Prop where
 fst:∃p X',X=p::X'∧p.2.2=x
 Dg:∃X' q,X=X'++ [q]∧q.2.2=x
 al:∀t∈X,t.2.2=x∨t.2.2= -1
def fM (x:Int) (l:List It):Prop:=∀t∈l,t.2.2≠x
theorem fM.app {x:Int} {l m:List It} (h:fM x l) (h':fM x m):fM x (l++m):=fun t ht=>(List.mem_append.1 ht).elim (h t) (h' t)
theorem fM.left {x:Int} {l m:List It} (h:fM x (l++m)):fM x l:=fun t ht=>h t (List.mem_append.2 (.inl ht))
theorem fM.right {x:Int} {l m:List It} (h:fM x (l++m)):fM x m:=fun t ht=>h t (List.mem_append.2 (.inr ht))
theorem Bj.Nd {x y:Int} {X:List It} (h:Bj x X) (hxy:x≠y) (hy:0≤y):fM y X:=fun t ht e=>by
 rcases h.al t ht with h1|h1<;>omega
theorem j7 {row:List It} {x:Int} :∀ {k:Nat},k≤row.length→fq row x k=((row.take k).countP (kG x):Nat)
 |0,_=>by simp [fq]
 |k+1,h=>by
  rw [ec,j7 (k:=k) (by omega),List.take_add_one,List.getElem?_eq_getElem (show k<row.length by omega),List.countP_append]
  simp only [Option.toList,List.countP_cons,List.countP_nil,kG,decide_eq_true_eq,List.getD_eq_getElem?_getD,List.getElem?_eq_getElem (show k<row.length by omega),Option.getD_some]
  split<;>simp
theorem Bl {A X C:List It} {p:It} {X':List It} (h:X=p::X'):(A++X++C).getD A.length (0,0,0)=p:=by
 subst h;simp [List.getD_eq_getElem?_getD]
theorem Bm {A X C:List It} {q:It} {X':List It} (h:X=X'++ [q]):(A++X++C).getD (A.length+X.length - 1) (0,0,0)=q:=by
 subst h
 have e:A.length+(X'++ [q]).length - 1=(A++X').length:=by simp
 rw [e,show A++(X'++ [q])++C=(A++X')++([q]++C) by simp]
 simp [List.getD_eq_getElem?_getD]
theorem Bn {A L:List It} {j:Nat} (h:j<A.length):(A++L).getD j (0,0,0)∈A:=by
 rw [List.getD_eq_getElem?_getD,List.getElem?_append_left h,List.getElem?_eq_getElem h]
 exact List.getElem_mem h
theorem Bo {A L:List It} {j:Nat} (h:A.length≤j) (h':j<(A++L).length):(A++L).getD j (0,0,0)∈L:=by
 rw [List.length_append] at h'
 rw [List.getD_eq_getElem?_getD,List.getElem?_append_right h,List.getElem?_eq_getElem (by omega)]
 exact List.getElem_mem _
theorem zM {A X C:List It} {x:Int} (hA:fM x A) (hC:fM x C) (hX:Bj x X):
 (aY (A++X++C) x).1=(A.length:Int)∧(aY (A++X++C) x).2.1=((A.length+X.length:Nat):Int)∧(aY (A++X++C) x).2.2=(X.countP (kG x):Nat):=by
 have AG:(aY (A++X++C) x).2.2=(X.countP (kG x):Nat):=by
  unfold aY
  rw [jA,j7 (Nat.le_refl _),List.take_length,List.countP_append,List.countP_append]
  have h1:A.countP (kG x)=0:=List.countP_eq_zero.2 fun t ht=>by simp [kG,hA t ht]
  have h2:C.countP (kG x)=0:=List.countP_eq_zero.2 fun t ht=>by simp [kG,hC t ht]
  rw [h1,h2];simp
 obtain ⟨p,X',e1,hp⟩:=hX.fst
 obtain ⟨P6,q,e2,hq⟩:=hX.Dg
 have g1:=Bl (A:=A) (C:=C) e1
 have g2:=Bm (A:=A) (C:=C) e2
 have L5:0<X.length:=by rw [e1];simp
 have hlen:(A++X++C).length=A.length+X.length+C.length:=by simp;omega
 rcases cQ (row:=A++X++C) (x:=x) (A++X++C).length with ⟨_,hno⟩|⟨a,b,c,hs,hab,kA,hc0,gy,ha,hb,hlo,hhi⟩
 ·exact absurd (by rw [g1];exact hp) (hno A.length (by omega))
 ·have hs':aY (A++X++C) x=((a:Int),(b:Int),(c:Int)):=hs
  refine ⟨?_, ?_,AG⟩
  ·rw [hs']
   have h1:¬A.length<a:=fun h=>hlo _ h (by rw [g1];exact hp)
   have h2:¬a<A.length:=fun h=>hA _ (by have:=Bn (L:=X++C) h;rw [← List.append_assoc] at this;exact this) ha
   simp only;omega
  ·rw [hs']
   have h1:¬b<A.length+X.length:=fun h=>hhi (A.length+X.length - 1) (by omega) (by omega) (by rw [g2];exact hq)
   have h2:¬A.length+X.length<b:=fun h=>hC _ (Bo (A:=A++X) (j:=b - 1) (by simp;omega) (by omega)) hb
   simp only;omega
theorem sN {g:Gr} (hm:aN g=true) {f:Fr} (hi:gK g f) {A X C:List It} {x:Int} (h0:0≤x) (h1:x<g.n) (hp:x∉f.pl) (hr:f.row=A++X++C) (hA:fM x A) (hC:fM x C) (hX:Bj x X)
 (hc:X.countP (kG x)=bB g x):aD g f x=true:=by
 rw [← ou hm hi,fW,if_neg (by rintro (h|h|h);omega;omega;exact hp h)]
 obtain ⟨e1,e2,e3⟩:=zM hA hC hX
 rw [hr,e1,e2,e3,fe h0 h1,Bool.and_eq_true,decide_eq_true_eq]
 refine ⟨by rw [hc];rfl, ?_⟩
 rw [Bool.or_eq_true];right
 simp only [qh,Int.toNat_natCast]
 rw [List.take_append_of_le_length (by simp),List.take_of_length_le (by simp),List.drop_left,Bool.not_eq_true',List.any_eq_false]
 intro t ht
 simp only [j5,Bool.and_eq_true,decide_eq_true_eq]
 rcases hX.al t ht with h|h<;>simp [h]
theorem cU {g:Gr} (hm:aN g=true) {f:Fr} (hi:gK g f) {x:Int} (hR:aD g f x=true) (hn:bB g x≠0):
 ∃A X C,f.row=A++X++C∧fM x A∧fM x C∧Bj x X∧X.countP (kG x)=bB g x:=by
 obtain ⟨h0,h1,h2⟩:=aU hR
 rw [← ou hm hi,fW,if_neg (by rintro (h|h|h);omega;omega;exact h2 h),fe h0 h1,Bool.and_eq_true,decide_eq_true_eq] at hR
 have hN:(aL (fun e=>e.2) g.es g.es.length x).length=bB g x:=rfl
 rw [hN,decide_eq_false hn,Bool.false_or] at hR
 obtain ⟨hc,hb⟩:=hR
 have AG:(f.row.countP (kG x):Int)=bB g x:=by
  rw [← hc];unfold aY
  rw [jA,j7 (Nat.le_refl _),List.take_length]
 rcases cQ (row:=f.row) (x:=x) f.row.length with ⟨hs,hno⟩|⟨a,b,c,hs,hab,kA,hc0,gy,ha,hb',hlo,hhi⟩
 ·have:aY f.row x=(-1,0,0):=hs
  rw [this] at hc
  exfalso;simp only at hc;omega
 ·have hs':aY f.row x=((a:Int),(b:Int),(c:Int)):=hs
  rw [hs'] at hb
  simp only [Int.toNat_natCast] at hb
  have hA:fM x (f.row.take a):=fun t ht=>by
   obtain ⟨j,hj,rfl⟩:=List.mem_iff_getElem.1 ht
   simp only [List.length_take] at hj
   have:=hlo j (by omega)
   rw [List.getD_eq_getElem?_getD,List.getElem?_eq_getElem (show j<f.row.length by omega)] at this
   simpa using this
  have hC:fM x (f.row.drop b):=fun t ht=>by
   obtain ⟨j,hj,rfl⟩:=List.mem_iff_getElem.1 ht
   simp only [List.length_drop] at hj
   have:=hhi (b+j) (by omega) (by omega)
   rw [List.getD_eq_getElem?_getD,List.getElem?_eq_getElem (show b+j<f.row.length by omega)] at this
   simpa using this
  have hrow:f.row=f.row.take a++(f.row.take b).drop a++f.row.drop b:=by
   have e1:f.row.take a=(f.row.take b).take a:=by rw [List.take_take,Nat.min_eq_left (by omega)]
   rw [e1,List.take_append_drop,List.take_append_drop]
  refine ⟨f.row.take a,(f.row.take b).drop a,f.row.drop b,hrow,hA,hC,⟨?_, ?_, ?_⟩, ?_⟩
  ·refine ⟨f.row.getD a (0,0,0),(f.row.take b).drop (a+1), ?_,ha⟩
   rw [List.drop_eq_getElem_cons (by simp;omega)]
   congr 1
   rw [List.getD_eq_getElem?_getD,List.getElem?_eq_getElem (show a<f.row.length by omega)]
   simp
  ·refine ⟨(f.row.take (b - 1)).drop a,f.row.getD (b - 1) (0,0,0), ?_,hb'⟩
   have e:f.row.take b=f.row.take (b - 1)++ [f.row.getD (b - 1) (0,0,0)]:=by
    conv=>lhs;rw [show b=b - 1+1 by omega]
    rw [List.take_add_one,List.getD_eq_getElem?_getD,List.getElem?_eq_getElem (show b - 1<f.row.length by omega)]
    rfl
   rw [e,List.drop_append_of_le_length (by simp;omega)]
  ·intro t ht
   rw [qh,Bool.not_eq_true',List.any_eq_false] at hb
   have:=hb t ht
   simp only [j5,Bool.and_eq_true,decide_eq_true_eq,not_and] at this
   by_cases h:t.2.2=x
   ·exact .inl h
   ·exact .inr (Decidable.byContradiction fun h'=>this h h')
  ·have h1:(f.row.take a).countP (kG x)=0:=List.countP_eq_zero.2 fun t ht=>by simp [kG,hA t ht]
   have h2:(f.row.drop b).countP (kG x)=0:=List.countP_eq_zero.2 fun t ht=>by simp [kG,hC t ht]
   rw [hrow,List.countP_append,List.countP_append,h1,h2] at AG
   omega
theorem j8 {g:Gr} {f:Fr} {A X C:List It} {x:Int} (o:List Int) (hr:f.row=A++X++C) (hA:fM x A) (hC:fM x C) (hX:Bj x X):
 aA g f x o=((X,0),⟨A++aM g x o++C,f.pl++ [x]⟩):=by
 obtain ⟨e1,e2,e3⟩:=zM hA hC hX
 have e4:max (A.length:Int) 0=(A.length:Int):=by omega
 unfold aA
 rw [hr,e1,e2,e4,Int.toNat_natCast,Int.toNat_natCast]
 rw [List.take_append_of_le_length (show A.length+X.length≤(A++X).length by simp),List.take_of_length_le (show (A++X).length≤A.length+X.length by simp),List.drop_left]
 rw [show (A++X++C).take A.length=A by rw [List.append_assoc,List.take_left]]
 rw [show (A++X++C).drop (A.length+X.length)=C by rw [← List.length_append,List.drop_left]]
theorem lR {g:Gr} {f:Fr} {x:Int} (o:List Int) (hr:fM x f.row):aA g f x o=(([],0),⟨aM g x o++f.row,f.pl++ [x]⟩):=by
 have hs:aY f.row x=(-1,0,0):=by
  rcases cQ (row:=f.row) (x:=x) f.row.length with ⟨hs,_⟩|⟨a,b,c,hs,hab,kA,hc0,gy,ha,hb',hlo,hhi⟩
  ·exact hs
  ·exact absurd ha (hr _ (aG (by omega)))
 have e4:max (-1:Int) 0=0:=by omega
 unfold aA
 rw [hs]
 simp [e4]
end Go.Ab
end
section
namespace Go.Ab
open Go.Proofs
set_option maxRecDepth 10000
structure xA (g:Gr) (f:Fr):Prop extends gK g f where
 tail:∀t∈f.row,0≤t.1→t.2.1∈f.pl
 head:∀t∈f.row,0≤t.1→t.2.2∉f.pl
 once:f.row.Pairwise fun s t=>0≤s.1→s.1≠t.1
 low:∀i,i<g.es.length→hd g i∈f.pl→tl g i∈f.pl
 src:(f.pl= []∧f.row= [])∨∃s∈f.pl,bB g s=0
theorem zN (g:Gr):xA g ⟨[], []⟩:=
 {it:=by simp,pl:=by simp,Dl:=by simp,tail:=by simp,head:=by simp,once:=by simp,low:=by simp,src:= .inl ⟨rfl,rfl⟩}
theorem vq {g:Gr} (hm:aN g=true) {f:Fr} (hi:xA g f) {x:Int} (hR:aD g f x=true) {i:Nat} (hl:i<g.es.length) (hx:hd g i=x):∃t∈f.row,t.1=i∧t.2.1=tl g i∧t.2.2=x:=by
 have hn:bB g x≠0:=by
  have:=pM (g:=g) (e:=(i:Int)) (by omega) (by omega)
  rw [Int.toNat_natCast,show (g.es.getD i (0,0)).2=x from hx] at this
  omega
 obtain ⟨A,X,C,hr,hA,hC,hX,hc⟩:=cU hm hi.togK hR hn
 have hN:(aL (fun e=>e.2) g.es g.es.length x).length=bB g x:=rfl
 have hok:∀t∈f.row,t.2.2=x→0≤t.1∧t.1<g.es.length∧t.2.1=(g.es.getD t.1.toNat (0,0)).1∧t.2.2=(g.es.getD t.1.toNat (0,0)).2:=fun t ht he=>by
  rcases hi.it t ht with ⟨_,h2⟩|h
  ·have:=(aU hR).1;omega
  ·exact h
 have hmem:∀t∈X,t∈f.row:=fun t ht=>by rw [hr];simp [ht]
 have Nf:=qJ (ms:=(X.filter (kG x)).map (·.1)) (os:=aL (fun e=>e.2) g.es g.es.length x)
 have key:∀i∈aL (fun e=>e.2) g.es g.es.length x,i∈(X.filter (kG x)).map (·.1):=by
  refine vp (ms:=(X.filter (kG x)).map (·.1)) (os:=aL (fun e=>e.2) g.es g.es.length x) ?_ ?_ ?_
  ·have h1:X.Pairwise fun s t=>0≤s.1→s.1≠t.1:=by
    have:=hi.once
    rw [hr,List.pairwise_append,List.pairwise_append] at this
    exact this.1.2.1
   have h2:=h1.filter (kG x)
   rw [List.Nodup,List.pairwise_map]
   refine h2.imp_of_mem fun {a b} ha hb h=>h ?_
   obtain ⟨x7,OJ⟩:=List.mem_filter.1 ha
   exact (hok a (hmem a x7) (by simpa [kG] using OJ)).1
  ·intro e he
   obtain ⟨t,ht,rfl⟩:=List.mem_map.1 he
   obtain ⟨ht1,ht2⟩:=List.mem_filter.1 ht
   have ht2:t.2.2=x:=by simpa [kG] using ht2
   obtain ⟨h1,h2,h3,h4⟩:=hok t (hmem t ht1) ht2
   simp only [aL,List.mem_map,List.mem_filter,List.mem_range,decide_eq_true_eq]
   exact ⟨t.1.toNat,⟨by omega,by rw [← h4];exact ht2⟩,by simp;omega⟩
  ·rw [hN, ← hc,List.length_map,List.countP_eq_length_filter]
 have hie:(i:Int)∈aL (fun e=>e.2) g.es g.es.length x:=by
  simp only [aL,List.mem_map,List.mem_filter,List.mem_range,decide_eq_true_eq]
  exact ⟨i,⟨hl,hx⟩,rfl⟩
 obtain ⟨t,ht,he⟩:=List.mem_map.1 (key _ hie)
 obtain ⟨ht1,ht2⟩:=List.mem_filter.1 ht
 have ht2:t.2.2=x:=by simpa [kG] using ht2
 obtain ⟨h1,h2,h3,h4⟩:=hok t (hmem t ht1) ht2
 refine ⟨t,hmem t ht1,he, ?_,ht2⟩
 rw [h3,he,Int.toNat_natCast];rfl
theorem sO {g:Gr} (hm:aN g=true) {f:Fr} (hi:gK g f) {x:Int} (h0:0≤x) (hn:bB g x=0):fM x f.row:=by
 intro t ht he
 rcases hi.it t ht with ⟨_,h2⟩|⟨h1,h2,_,h4⟩
 ·omega
 ·have:=pM h1 h2
  rw [← h4,he] at this
  omega
theorem iA {g:Gr} (hm:aN g=true) {f:Fr} (hi:gK g f) {x:Int} (hR:aD g f x=true):
 ∃A X C,f.row=A++X++C∧fM x A∧fM x C∧(∀t∈X,t.2.2=x∨t.2.2= -1)∧∀o,aA g f x o=((X,0),⟨A++aM g x o++C,f.pl++ [x]⟩):=by
 by_cases hn:bB g x=0
 ·have h:=sO hm hi (aU hR).1 hn
  exact ⟨[], [],f.row,by simp,fun t ht=>(by cases ht),h,fun t ht=>(by cases ht),fun o=>by rw [lR o h];simp⟩
 ·obtain ⟨A,X,C,hr,hA,hC,hX,_⟩:=cU hm hi hR hn
  exact ⟨A,X,C,hr,hA,hC,hX.al,fun o=>j8 o hr hA hC hX⟩
theorem jC {g:Gr} {x i:Int} (h:i∈bu g x):∃k:Nat,i=k∧k<g.es.length∧tl g k=x:=by
 obtain ⟨⟨h1,h2⟩,h3⟩:=fX h
 exact ⟨i.toNat,by omega,by omega,h3⟩
theorem jD {g:Gr} {x:Int} {o:List Int} (ho:∀i∈o,i∈bu g x) {t:It} (h:t∈aM g x o):(t.1= -1∧t.2.2= -1)∨∃k:Nat,k<g.es.length∧t.1=k∧t.2.1=x∧t.2.2=hd g k∧tl g k=x∧t.1∈o:=by
 unfold aM at h
 split at h
 ·rw [List.mem_singleton] at h
  rw [h];exact .inl ⟨rfl,rfl⟩
 ·obtain ⟨i,Ng,rfl⟩:=List.mem_map.1 h
  obtain ⟨k,rfl,h1,h2⟩:=jC (ho i Ng)
  exact .inr ⟨k,h1,rfl,rfl,by simp [fF];rfl,h2,Ng⟩
theorem pN {g:Gr} (hm:aN g=true) {f:Fr} (hi:xA g f) {x y:Int} (hx:x∉f.pl) (hR:aD g f y=true) {o:List Int} (ho:∀i∈o,i∈bu g x):fM y (aM g x o):=by
 intro t ht he
 rcases jD ho ht with ⟨_,h⟩|⟨k,h1,h2,h3,h4,h5,_⟩
 ·have:=(aU hR).1;omega
 ·obtain ⟨s,hs,e1,e2,e3⟩:=vq hm hi hR h1 (by rw [← h4];exact he)
  refine hx ?_
  rw [← h5, ← e2]
  exact hi.tail s hs (by omega)
theorem jE {g:Gr} (hm:aN g=true) {f:Fr} (hi:xA g f) {x:Int} (hR:aD g f x=true) {o:List Int} (ho:o.Perm (bu g x)):xA g (aA g f x o).2:=by
 have Ff:∀i∈o,i∈bu g x:=fun i h=>ho.mem_iff.1 h
 have hx:=(aU hR).2.2
 have h0:=Dp hi.togK hR Ff
 obtain ⟨A,X,C,hr,hA,hC,hX,hs⟩:=iA hm hi.togK hR
 have gw:(aA g f x o).2.pl=f.pl++ [x]:=rfl
 have hrow:(aA g f x o).2.row=A++aM g x o++C:=by rw [hs o]
 have L6:∀t∈A,t∈f.row:=fun t ht=>by rw [hr];simp [ht]
 have L7:∀t∈C,t∈f.row:=fun t ht=>by rw [hr];simp [ht]
 have zO:=pN hm hi hx hR Ff
 refine {togK:=h0,tail:= ?_,head:= ?_,once:= ?_,low:= ?_,src:= .inr ?_}
 ·intro t ht h1
  rw [gw]
  rw [hrow,List.mem_append,List.mem_append] at ht
  rcases ht with (ht|ht)|ht
  ·exact List.mem_append_left _ (hi.tail t (L6 t ht) h1)
  ·rcases jD Ff ht with ⟨h,_⟩|⟨k,_,_,h3,_⟩
   ·omega
   ·rw [h3];simp
  ·exact List.mem_append_left _ (hi.tail t (L7 t ht) h1)
 ·intro t ht h1
  rw [gw,List.mem_append,List.mem_singleton]
  rw [hrow,List.mem_append,List.mem_append] at ht
  rcases ht with (ht|ht)|ht
  ·rintro (h|h)
   ·exact hi.head t (L6 t ht) h1 h
   ·exact hA t ht h
  ·rintro (h|h)
   ·rcases jD Ff ht with ⟨h',_⟩|⟨k,hk,_,_,h4,h5,_⟩
    ·omega
    ·rw [h4] at h
     have:=hi.low k hk h
     rw [h5] at this;exact hx this
   ·exact zO t ht h
  ·rintro (h|h)
   ·exact hi.head t (L7 t ht) h1 h
   ·exact hC t ht h
 ·have vZ:=hi.once
  rw [hr,List.pairwise_append,List.pairwise_append] at vZ
  obtain ⟨⟨OK,_,_⟩,OL,L8⟩:=vZ
  have old:∀s∈f.row,0≤s.1→∀t∈aM g x o,s.1≠t.1:=fun s hs h1 t ht e=>by
   rcases jD Ff ht with ⟨h,_⟩|⟨k,hk,h2,h3,h4,h5,_⟩
   ·omega
   ·rcases hi.it s hs with ⟨h,_⟩|⟨_,_,h6,_⟩
    ·omega
    ·have:=hi.tail s hs h1
     rw [h6,e,h2,Int.toNat_natCast] at this
     exact hx (h5 ▸ this)
  rw [hrow,List.pairwise_append,List.pairwise_append]
  refine ⟨⟨OK, ?_,fun s hs t ht h1=>old s (L6 s hs) h1 t ht⟩,OL, ?_⟩
  ·unfold aM
   split
   ·simp
   ·refine List.pairwise_map.2 ((ho.nodup_iff.2 cT).imp fun {i j} (h:i≠j) _=> ?_)
    exact h
  ·intro s hs t ht h1
   rcases List.mem_append.1 hs with hs|hs
   ·exact L8 s (List.mem_append_left _ hs) t ht h1
   ·intro e
    exact old t (L7 t ht) (by omega) s hs e.symm
 ·intro i hl h
  rw [gw,List.mem_append,List.mem_singleton] at h ⊢
  left
  rcases h with h|h
  ·exact hi.low i hl h
  ·obtain ⟨t,ht,e1,e2,_⟩:=vq hm hi hR hl h
   rw [← e2]
   exact hi.tail t ht (by omega)
 ·rcases hi.src with ⟨h1,h2⟩|⟨s,hs,h⟩
  ·refine ⟨x,by rw [gw];simp, ?_⟩
   refine Decidable.byContradiction fun hn=> ?_
   obtain ⟨A,X,C,hr,_,_,hX,_⟩:=cU hm hi.togK hR hn
   obtain ⟨p,X',e,_⟩:=hX.fst
   rw [h2,e] at hr
   simp at hr
  ·exact ⟨s,by rw [gw];simp [hs],h⟩
theorem apart {x y:Int} (hx:0≤x) (hy:0≤y) (hxy:x≠y) {A X C B Y D:List It} (h:A++X++C=B++Y++D) (hX:Bj x X) (hY:Bj y Y):
 (∃M,B=A++X++M∧C=M++Y++D)∨(∃M,A=B++Y++M∧D=M++X++C):=by
 obtain ⟨p,X',OM,hp⟩:=hX.fst
 obtain ⟨q,Y',ON,hq⟩:=hY.fst
 have nX:q∉X:=fun h=>hX.Nd hxy hy q h hq
 have nY:p∉Y:=fun h=>hY.Nd (Ne.symm hxy) hx p h hp
 rw [show B++Y++D=B++(Y++D) by simp,List.append_eq_append_iff] at h
 rcases h with ⟨es,h1,h2⟩|⟨cs,h1,h2⟩
 ·exact .inl ⟨es,h1,by rw [h2];simp⟩
 ·match cs,h1,h2 with
  | [],h1,h2=>exact .inl ⟨[],by simpa using h1.symm,by simpa using h2.symm⟩
  |c::cs,h1,h2=>
   have OO:c=q:=by rw [ON] at h2;simp at h2;exact h2.1.symm
   rw [List.append_eq_append_iff] at h1
   rcases h1 with ⟨es,h3,h4⟩|⟨ds,h3,h4⟩
   ·exfalso;refine nX ?_
    rw [h4, ← OO];simp
   ·rw [h4,List.append_assoc,List.append_eq_append_iff] at h2
    rcases h2 with ⟨es,h5,h6⟩|⟨bs,h5,h6⟩
    ·exact .inr ⟨es,by rw [h3,h5];simp,by rw [h6];simp⟩
    ·match bs,h5,h6 with
     | [],h5,h6=>exact .inr ⟨[],by rw [h3,h5];simp,by simpa using h6.symm⟩
     |b::bs,h5,h6=>
      exfalso;refine nY ?_
      have OP:b=p:=by rw [OM] at h6;simp at h6;exact h6.1.symm
      rw [h5, ← OP];simp
theorem xB {g:Gr} (hm:aN g=true) {f:Fr} (hi:xA g f) {x y:Int} (hxy:x≠y) (zP:aD g f x=true) (tY:aD g f y=true)
 {a b:List Int} (ha:a.Perm (bu g x)) (hb:b.Perm (bu g y)) {A X M Y D:List It} (hr:f.row=A++X++M++Y++D) (hX:Bj x X) (hY:Bj y Y)
 (cX:X.countP (kG x)=bB g x) (cY:Y.countP (kG y)=bB g y)
 (nA:fM x A) (nC:fM x (M++Y++D)) (nB:fM y (A++X++M)) (nD:fM y D):
 aD g (aA g f x a).2 y=true∧aD g (aA g f y b).2 x=true∧(aA g (aA g f x a).2 y b).2.row=(aA g (aA g f y b).2 x a).2.row∧
 (aA g f x a).1=(aA g (aA g f y b).2 x a).1∧(aA g f y b).1=(aA g (aA g f x a).2 y b).1:=by
 obtain ⟨x0,x1,x2⟩:=aU zP
 obtain ⟨y0,y1,y2⟩:=aU tY
 have i1:=(jE hm hi zP ha).togK
 have i2:=(jE hm hi tY hb).togK
 have ux:=pN hm hi x2 tY (fun i h=>ha.mem_iff.1 h)
 have uy:=pN hm hi y2 zP (fun i h=>hb.mem_iff.1 h)
 have r1:f.row=A++X++(M++Y++D):=by rw [hr];simp
 have r2:f.row=(A++X++M)++Y++D:=by rw [hr]
 have e1:=j8 (g:=g) a r1 nA nC hX
 have e2:=j8 (g:=g) b r2 nB nD hY
 rw [e1] at i1 ⊢;rw [e2] at i2 ⊢
 have r3:A++aM g x a++(M++Y++D)=(A++aM g x a++M)++Y++D:=by simp
 have r4:A++X++M++aM g y b++D=A++X++(M++aM g y b++D):=by simp
 have n3:fM y (A++aM g x a++M):=((nB.left.left).app ux).app nB.right
 have n4:fM x (M++aM g y b++D):=(nC.left.left.app uy).app nC.right
 have e3:=j8 (g:=g) (f:=⟨A++aM g x a++(M++Y++D),f.pl++ [x]⟩) b r3 n3 nD hY
 have e4:=j8 (g:=g) (f:=⟨A++X++M++aM g y b++D,f.pl++ [y]⟩) a r4 nA n4 hX
 refine ⟨sN hm i1 y0 y1 ?_ r3 n3 nD hY cY,sN hm i2 x0 x1 ?_ r4 nA n4 hX cX, ?_, ?_, ?_⟩
 ·simp [y2,Ne.symm hxy]
 ·simp [x2,hxy]
 ·simp only [e3,e4];simp
 ·simp only [e4]
 ·simp only [e3]
theorem Bp {g:Gr} (hm:aN g=true) {f:Fr} (hi:xA g f) {x y:Int} (hxy:x≠y) (zP:aD g f x=true) (tY:aD g f y=true)
 {a b:List Int} (ha:a.Perm (bu g x)) (hb:b.Perm (bu g y)) (nx:bB g x≠0) (ny:bB g y≠0):
 aD g (aA g f x a).2 y=true∧aD g (aA g f y b).2 x=true∧(aA g (aA g f x a).2 y b).2.row=(aA g (aA g f y b).2 x a).2.row∧
 (aA g f x a).1=(aA g (aA g f y b).2 x a).1∧(aA g f y b).1=(aA g (aA g f x a).2 y b).1:=by
 obtain ⟨A,X,C,hr,hA,hC,hX,cX⟩:=cU hm hi.togK zP nx
 obtain ⟨B,Y,D,hr',hB,hD,hY,cY⟩:=cU hm hi.togK tY ny
 rcases apart (aU zP).1 (aU tY).1 hxy (hr.symm.trans hr') hX hY with ⟨M,rfl,rfl⟩|⟨M,rfl,rfl⟩
 ·exact xB hm hi hxy zP tY ha hb (by rw [hr];simp) hX hY cX cY hA hC hB hD
 ·obtain ⟨h1,h2,h3,h4,h5⟩:=xB hm hi (Ne.symm hxy) tY zP hb ha (by rw [hr'];simp) hY hX cY cX hB hD hA hC
  exact ⟨h2,h1,h3.symm,h5,h4⟩
theorem gW {g:Gr} {y:Int} :y∈aV (·.2) g↔(0≤y∧y<g.n)∧bB g y=0:=by
 simp only [aV,ic,List.mem_map,List.mem_filter,List.mem_range,decide_eq_true_eq]
 have he:∀x:Nat,x<g.n.toNat→(((cZ (·.2) g).getD x []).length=bB g (x:Int)):=by
  intro x hx
  have e:(cZ (·.2) g).getD x []=aL (·.2) g.es g.es.length (x:Int):=by
   simp [cZ,List.getD_eq_getElem?_getD,List.getElem?_range hx,kX]
  rw [e];rfl
 constructor
 ·rintro ⟨x,⟨hx,h0⟩,rfl⟩
  refine ⟨by simp;omega,by rw [he x hx] at h0;exact h0⟩
 ·rintro ⟨⟨h1,h2⟩,h3⟩
  have e:((y.toNat:Nat):Int)=y:=by omega
  exact ⟨y.toNat,⟨by omega,by rw [he _ (by omega),e];exact h3⟩,e⟩
theorem lS {g:Gr} (hc:(bF g).1=0) {x y:Int} (hx:0≤x∧x<g.n) (hy:0≤y∧y<g.n) (nx:bB g x=0) (ny:bB g y=0):x=y:=by
 have h1:(aV (·.2) g).length≤1:=by
  unfold bF gr at hc
  refine Nat.not_lt.1 fun h=> ?_
  split at hc
  ·cases hc
  split at hc
  ·cases hc
  split at hc
  ·cases hc
  split at hc
  ·cases hc
  cases hc
 have h2:=gW.2 ⟨hx,nx⟩
 have h3:=gW.2 ⟨hy,ny⟩
 match hb:aV (·.2) g with
 | []=>rw [hb] at h2;cases h2
 | [z]=>rw [hb,List.mem_singleton] at h2 h3;rw [h2,h3]
 |_::_::_=>rw [hb] at h1;simp at h1
theorem aE {g:Gr} (hc:(bF g).1=0):aN g=true:=by
 unfold bF gr at hc
 split at hc
 ·cases hc
 ·rename_i h;simpa using h
theorem xC {g:Gr} (hc:(bF g).1=0) {f:Fr} (hi:xA g f) {x y:Int} (hxy:x≠y) (zP:aD g f x=true) (tY:aD g f y=true):bB g x≠0:=by
 intro nx
 have hm:=aE hc
 obtain ⟨x0,x1,x2⟩:=aU zP
 obtain ⟨y0,y1,y2⟩:=aU tY
 rcases hi.src with ⟨h1,h2⟩|⟨s,hs,h⟩
 ·have ny:bB g y≠0:=fun ny=>hxy (lS hc ⟨x0,x1⟩ ⟨y0,y1⟩ nx ny)
  obtain ⟨A,X,C,hr,_,_,hX,_⟩:=cU hm hi.togK tY ny
  obtain ⟨p,X',e,_⟩:=hX.fst
  rw [h2,e] at hr
  simp at hr
 ·exact x2 (lS hc (hi.Dl s hs) ⟨x0,x1⟩ h nx ▸ hs)
theorem Bq {g:Gr} (hc:(bF g).1=0) {f:Fr} (hi:xA g f) {x y:Int} (hxy:x≠y) (zP:aD g f x=true) (tY:aD g f y=true)
 {a b:List Int} (ha:a.Perm (bu g x)) (hb:b.Perm (bu g y)):
 aD g (aA g f x a).2 y=true∧aD g (aA g f y b).2 x=true∧(aA g (aA g f x a).2 y b).2.row=(aA g (aA g f y b).2 x a).2.row∧
 (aA g f x a).1=(aA g (aA g f y b).2 x a).1∧(aA g f y b).1=(aA g (aA g f x a).2 y b).1:=
 Bp (aE hc) hi hxy zP tY ha hb (xC hc hi hxy zP tY) (xC hc hi (Ne.symm hxy) tY zP)
end Go.Ab
end
section
namespace Go.Ab
open Go.Proofs
attribute [local congr] ACall.congr gd.congr Nx.congr
set_option maxRecDepth 10000
set_option maxHeartbeats 4000000
def zQ (row:List It) (a b:Int):Nat→Int × Int
 |0=>(-1,0)
 |k+1=>if ((row.getD k (0,0,0)).2.2=a∨(row.getD k (0,0,0)).2.2=b)∧(row.getD k (0,0,0)).2.2≠(zQ row a b k).1 then ((row.getD k (0,0,0)).2.2,(zQ row a b k).2+1) else zQ row a b k
end Go.Ab
end
section
namespace Go.Ab
open Go.Proofs
attribute [local congr] ACall.congr gd.congr Nx.congr
set_option maxRecDepth 10000
set_option maxHeartbeats 4000000
def HC (row:List It) (i:Nat):Int:=(row.getD i (0,0,0)).2.2
def L9 (row:List It) (i j:Nat):Bool:=decide (HC row i≠ -1)&&decide (HC row j≠ -1)&&decide (HC row i≠HC row j)&&decide (4≤(zQ row (HC row i) (HC row j) row.length).2)
def Nh (row:List It):Bool:=(List.range row.length).any fun i=>(List.range row.length).any (L9 row i)
end Go.Ab
end
section
namespace Go.Ab
open Go.Proofs
attribute [local congr] ACall.congr gd.congr Nx.congr
set_option maxRecDepth 10000
set_option maxHeartbeats 8000000
def T4 (row:List It) (a b c d:Nat):Prop:=0≤(row.getD a (0,0,0)).2.2∧0≤(row.getD b (0,0,0)).2.2∧(row.getD a (0,0,0)).2.2≠(row.getD b (0,0,0)).2.2∧(row.getD a (0,0,0)).2.2=(row.getD c (0,0,0)).2.2∧(row.getD b (0,0,0)).2.2=(row.getD d (0,0,0)).2.2
def OQ (row:List It):Prop:=∃a b c d,a<b∧b<c∧c<d∧d<row.length∧T4 row a b c d
end Go.Ab
end
section
namespace Go.Ab
open Go.Proofs
set_option maxRecDepth 10000
theorem xD {g:Gr} {f f':Fr} (hr:f.row=f'.row) (hp:f.pl.Perm f'.pl) (x:Int):aD g f x=aD g f' x:=by
 unfold aD
 rw [hr]
 by_cases h:x<0∨g.n≤x∨x∈f.pl
 ·rw [if_pos h,if_pos (by rw [← hp.mem_iff];exact h)]
 ·have h':¬(x<0∨g.n≤x∨x∈f'.pl):=by rw [← hp.mem_iff];exact h
  rw [if_neg h,if_neg h']
theorem nc:∀ {l m:List Int},l.Nodup→(∀i∈l,i∈m)→l.length≤m.length
 | [],_,_,_=>by simp
 |a::l,m,hn,hs=>by
  rw [List.nodup_cons] at hn
  have ha:=hs a (List.mem_cons_self ..)
  have:=nc hn.2 (m:=m.erase a) fun i hi=>(List.mem_erase_of_ne (fun e:i=a=>hn.1 (e ▸ hi))).2 (hs i (List.mem_cons_of_mem _ hi))
  rw [List.length_erase_of_mem ha] at this
  have:=List.length_pos_of_mem ha
  rw [List.length_cons];omega
theorem jF {g:Gr} {f:Fr} (hi:gK g f) (hf:(f.pl.length:Int)=g.n) {x:Int} (hx:0≤x∧x<g.n):x∈f.pl:=by
 refine Decidable.byContradiction fun h=> ?_
 have h1:(x::f.pl).Nodup:=List.nodup_cons.2 ⟨h,hi.pl⟩
 have h2:((List.range g.n.toNat).map Int.ofNat).length=g.n.toNat:=by simp
 have h3:=nc h1 (m:=(List.range g.n.toNat).map Int.ofNat) (fun y hy=>by
  rw [List.mem_map]
  have:0≤y∧y<g.n:=by
   rcases List.mem_cons.1 hy with h|h
   ·rw [h];exact hx
   ·exact hi.Dl y h
  exact ⟨y.toNat,List.mem_range.2 (by omega),by simp;omega⟩)
 rw [h2,List.length_cons] at h3
 omega
def Tg (a b:Int) (row:List It):Prop:=∃l:List It,l.Sublist row∧l.map (fun t=>t.2.2)= [a,b,a,b]
def Dq (a b:Int) (t:It):Bool:=decide (t.2.2=a)||decide (t.2.2=b)
theorem Tg.Ma {a b:Int} {row:List It} :Tg a b row↔Tg a b (row.filter (Dq a b)):=by
 constructor
 ·rintro ⟨l,h,e⟩
  refine ⟨l, ?_,e⟩
  have h1:=h.filter (Dq a b)
  rw [List.filter_eq_self.2] at h1
  ·exact h1
  ·intro t ht
   have:t.2.2∈l.map (fun t=>t.2.2):=List.mem_map.2 ⟨t,ht,rfl⟩
   rw [e] at this
   simp only [Dq,Bool.or_eq_true,decide_eq_true_eq]
   simp only [List.mem_cons,List.not_mem_nil,or_false] at this
   omega
 ·rintro ⟨l,h,e⟩
  exact ⟨l,h.trans List.filter_sublist,e⟩
theorem Tg.keep {a b x:Int} (ha:0≤a) (hb:0≤b) (Cr:a≠x) (td:b≠x) {A X C u:List It} (hX:∀t∈X,t.2.2=x∨t.2.2= -1) (h:Tg a b (A++X++C)):Tg a b (A++u++C):=by
 rw [Tg.Ma] at h ⊢
 obtain ⟨l,h,e⟩:=h
 refine ⟨l,h.trans ?_,e⟩
 rw [List.filter_append,List.filter_append,List.filter_append,List.filter_append]
 have:X.filter (Dq a b)= []:=List.filter_eq_nil_iff.2 fun t ht=>by
  simp only [Dq,Bool.or_eq_true,decide_eq_true_eq]
  rcases hX t ht with h|h<;>omega
 rw [this,List.append_nil]
 exact List.Sublist.append_right (List.sublist_append_left _ _) _
theorem Tg.not {a b x:Int} (hab:a≠b) (hb0:0≤b) (ha0:0≤a) (hx:x=a∨x=b) {A X C:List It} (hA:fM x A) (hC:fM x C) (hX:∀t∈X,t.2.2=x∨t.2.2= -1):¬Tg a b (A++X++C):=by
 rintro ⟨l,h,e⟩
 rw [List.append_assoc,List.sublist_append_iff] at h
 obtain ⟨l1,l',rfl,h1,h'⟩:=h
 rw [List.sublist_append_iff] at h'
 obtain ⟨l2,l3,rfl,h2,h3⟩:=h'
 have k1:∀t∈l1,t.2.2≠x:=fun t ht=>hA t (h1.subset ht)
 have k2:∀t∈l2,t.2.2=x∨t.2.2= -1:=fun t ht=>hX t (h2.subset ht)
 have k3:∀t∈l3,t.2.2≠x:=fun t ht=>hC t (h3.subset ht)
 clear h1 h2 h3
 match l1,k1,e with
 |t1::t2::_,k1,e=>
  simp only [List.cons_append,List.map_cons,List.cons.injEq] at e
  rcases hx with h|h
  ·exact k1 t1 (by simp) (by omega)
  ·exact k1 t2 (by simp) (by omega)
 | [t1],k1,e=>
   simp only [List.cons_append,List.nil_append,List.map_cons,List.cons.injEq] at e
   rcases hx with h|h
   ·exact k1 t1 (by simp) (by omega)
   ·match l2,k2,e with
    | [],_,e=>
      match l3,k3,e with
      | [s1,s2,s3],k3,e=>
        simp only [List.nil_append,List.map_cons,List.map_nil,List.cons.injEq,and_true] at e
        exact k3 s1 (by simp) (by omega)
      | [],_,e=>simp at e
      | [_],_,e=>simp at e
      | [_,_],_,e=>simp at e
      |_::_::_::_::_,_,e=>simp at e
    |s1::s2::_,k2,e=>
     simp only [List.cons_append,List.map_cons,List.cons.injEq] at e
     rcases k2 s2 (by simp) with h|h<;>omega
    | [s1],k2,e=>
      match l3,k3,e with
      | [u1,u2],k3,e=>
        simp only [List.cons_append,List.nil_append,List.map_cons,List.map_nil,List.cons.injEq,and_true] at e
        exact k3 u2 (by simp) (by omega)
      | [],_,e=>simp at e
      | [_],_,e=>simp at e
      |_::_::_::_,_,e=>simp at e
 | [],_,e=>
   simp only [List.nil_append] at e
   match l2,k2,e with
   | [],_,e=>
     match l3,k3,e with
     | [],_,e=>simp at e
     | [_],_,e=>simp at e
     |s1::s2::_,k3,e=>
      simp only [List.nil_append,List.map_cons,List.cons.injEq] at e
      rcases hx with h|h
      ·exact k3 s1 (by simp) (by omega)
      ·exact k3 s2 (by simp) (by omega)
   |s1::s2::_,k2,e=>
    simp only [List.cons_append,List.map_cons,List.cons.injEq] at e
    have q1:=k2 s1 (by simp)
    have q2:=k2 s2 (by simp)
    omega
   | [s1],k2,e=>
     match l3,k3,e with
     | [],_,e=>simp at e
     | [_],_,e=>simp at e
     | [_,_],_,e=>simp at e
     |u1::u2::u3::_,k3,e=>
      simp only [List.cons_append,List.nil_append,List.map_cons,List.cons.injEq] at e
      have q1:=k2 s1 (by simp)
      exact k3 u2 (by simp) (by omega)
end Go.Ab
end
section
namespace Go.Ab
open Go.Proofs
set_option maxRecDepth 10000
theorem Bt {row:List It} {k:Nat} (h:k<row.length):row.take (k+1)=row.take k++ [row.getD k (0,0,0)]:=by
 rw [List.take_add_one,List.getD_eq_getElem?_getD,List.getElem?_eq_getElem h];rfl
theorem Dr {row:List It} {i j:Nat} (h:i≤j):(row.take i).Sublist (row.take j):=by
 rw [show row.take i=(row.take j).take i by rw [List.take_take,Nat.min_eq_left h]]
 exact List.take_sublist _ _
theorem sP {row l:List It} {i j:Nat} (h:l.Sublist (row.take i)) (hij:i≤j) (hj:j<row.length):(l++ [row.getD j (0,0,0)]).Sublist (row.take (j+1)):=by
 rw [Bt hj]
 exact List.Sublist.append (h.trans (Dr hij)) (List.Sublist.refl _)
def Mb (a b:Int):List It→Prop
 | []=>True
 | [t]=>t.2.2=a∨t.2.2=b
 |s::t::l=>(s.2.2=a∨s.2.2=b)∧s.2.2≠t.2.2∧Mb a b (t::l)
end Go.Ab
end
section
namespace Go.Ab
open Go.Proofs
set_option maxRecDepth 10000
structure Pl where
 ord:List Int
 outs:List (List Int)
def ak (p:Pl) (k:Nat):Int:=p.ord.getD k 0
def bw (p:Pl) (x:Int):List Int:=p.outs.getD x.toNat []
def bD (g:Gr) (p:Pl):Prop:=p.outs.length=g.n.toNat∧p.ord.Perm (iZ g.n.toNat)∧∀x:Nat,x<g.n.toNat→(p.outs.getD x []).Perm (bu g x)
def fK (g:Gr) (p:Pl):Nat→Fr
 |0=>⟨[], []⟩
 |k+1=>(aA g (fK g p k) (ak p k) (bw p (ak p k))).2
def ff (g:Gr) (p:Pl) (k:Nat):List It:=(aA g (fK g p k) (ak p k) (bw p (ak p k))).1.1
def yR (g:Gr) (p:Pl) (k:Nat):Bool:=aD g (fK g p k) (ak p k)
def ee (g:Gr) (p:Pl):Nat→List (List It)
 |0=>List.replicate g.n.toNat []
 |k+1=>(ee g p k).set (ak p k).toNat (ff g p k)
def iP (g:Gr) (p:Pl):Nat→Option Nat
 |0=>none
 |k+1=>match iP g p k with
  |some i=>some i
  |none=>if yR g p k=true then none else some k
def cu (g:Gr) (p:Pl):Prop:=(bF g).1=0∧bD g p∧∀k,k<g.n.toNat→yR g p k=true
theorem eS {g:Gr} {p:Pl} :∀ {k:Nat},iP g p k=none↔∀j,j<k→yR g p j=true
 |0=>by simp [iP]
 |k+1=>by
  rw [iP]
  cases h:iP g p k with
  |some i=>
   simp only [reduceCtorEq,false_iff]
   intro h2
   rw [eS.2 fun j hj=>h2 j (by omega)] at h
   cases h
  |none=>
   have ih:=eS.1 h
   simp only
   constructor
   ·intro h2 j hj
    by_cases hjk:j=k
    ·subst hjk
     refine Decidable.byContradiction fun hn=> ?_
     rw [if_neg hn] at h2;cases h2
    ·exact ih j (by omega)
   ·intro h2
    rw [if_pos (h2 k (by omega))]
theorem ng {g:Gr} {p:Pl} {i:Nat} :∀ {k:Nat},iP g p k=some i↔i<k∧yR g p i=false∧∀j,j<i→yR g p j=true
 |0=>by simp [iP]
 |k+1=>by
  rw [iP]
  cases h:iP g p k with
  |some i'=>
   have ih:=(ng (g:=g) (p:=p)).1 h
   simp only [Option.some.injEq]
   constructor
   ·rintro rfl
    exact ⟨by omega,ih.2⟩
   ·rintro ⟨h1,h2,h3⟩
    rcases Nat.lt_trichotomy i' i with h4|h4|h4
    ·rw [h3 i' h4] at ih;simp at ih
    ·exact h4
    ·rw [ih.2.2 i h4] at h2;cases h2
  |none=>
   have ih:=eS.1 h
   simp only
   constructor
   ·intro h2
    by_cases hk:yR g p k=true
    ·rw [if_pos hk] at h2;cases h2
    ·rw [if_neg hk] at h2
     cases h2
     exact ⟨by omega,by simpa using hk,ih⟩
   ·rintro ⟨h1,h2,h3⟩
    have:i=k:=by
     by_cases h4:i<k
     ·rw [ih i h4] at h2;cases h2
     ·omega
    subst this
    rw [if_neg (by rw [h2];simp)]
theorem ow {n:Nat} :(iZ n).length=n:=by simp [iZ]
theorem cj {g:Gr} {p:Pl} (h:bD g p):p.ord.length=g.n.toNat:=by rw [h.2.1.length_eq,ow]
theorem sQ {g:Gr} {p:Pl} (h:bD g p):p.ord.Nodup:=h.2.1.nodup_iff.2 j3
theorem aI {g:Gr} {p:Pl} (h:bD g p) {k:Nat} (hk:k<g.n.toNat):0≤ak p k∧ak p k<g.n:=by
 have h1:ak p k∈p.ord:=aG (by rw [cj h];exact hk)
 have:=dS.1 (h.2.1.mem_iff.1 h1)
 omega
theorem dD {g:Gr} {p:Pl} (h:bD g p) {i j:Nat} (hi:i<g.n.toNat) (hj:j<g.n.toNat) (e:ak p i=ak p j):i=j:=
 sk (sQ h) (by rw [cj h];exact hi) (by rw [cj h];exact hj) e
theorem fG {g:Gr} {p:Pl} (h:bD g p) {x:Int} (h0:0≤x) (h1:x<g.n):∃k,k<g.n.toNat∧ak p k=x:=by
 have:x∈p.ord:=h.2.1.mem_iff.2 (dS.2 (by omega))
 obtain ⟨k,hk,e⟩:=List.mem_iff_getElem.1 this
 refine ⟨k,by rw [← cj h];exact hk, ?_⟩
 rw [ak,List.getD_eq_getElem?_getD,List.getElem?_eq_getElem hk,Option.getD_some,e]
theorem bQ {g:Gr} {p:Pl} (h:bD g p) {x:Int} (h0:0≤x) (h1:x<g.n):(bw p x).Perm (bu g x):=by
 have:=h.2.2 x.toNat (by omega)
 rwa [show ((x.toNat:Nat):Int)=x by omega] at this
theorem j9 {g:Gr} {p:Pl} (h:bD g p) {x:Int} (h0:0≤x) (h1:x<g.n):(bw p x).length≤g.es.length:=by
 rw [(bQ h h0 h1).length_eq];exact xy
theorem dF {g:Gr} (hm:aN g=true) {p:Pl} (h:bD g p):∀ {k:Nat},k≤g.n.toNat→(∀j,j<k→yR g p j=true)→xA g (fK g p k)∧(fK g p k).pl=p.ord.take k∧(fK g p k).row.length≤k*(g.es.length+1)
 |0,_,_=>⟨zN g,by simp [fK],by simp [fK]⟩
 |k+1,hk,hok=>by
  obtain ⟨h1,h2,h3⟩:=dF hm h (k:=k) (by omega) fun j hj=>hok j (by omega)
  obtain ⟨x0,x1⟩:=aI h (k:=k) (by omega)
  have hl:=Bh (g:=g) (f:=fK g p k) (x:=ak p k) (o:=bw p (ak p k))
  have x6:=j9 h x0 x1
  refine ⟨jE hm h1 (hok k (by omega)) (bQ h x0 x1), ?_, ?_⟩
  ·show (fK g p k).pl++ [ak p k]=_
   rw [h2,List.take_add_one,List.getElem?_eq_getElem (by rw [cj h];omega),ak,List.getD_eq_getElem?_getD,List.getElem?_eq_getElem (by rw [cj h];omega)]
   rfl
  ·show (aA _ _ _ _).2.row.length≤_
   rw [Nat.add_mul];omega
theorem xE {g:Gr} {p:Pl} (h:bD g p) {k:Nat} (hk:k<g.n.toNat) (hR:yR g p k=true):cR g (fK g p k) (ak p k) (bw p (ak p k))=aA g (fK g p k) (ak p k) (bw p (ak p k)):=by
 have hp:=bQ h (aI h hk).1 (aI h hk).2
 unfold cR
 have GW:aD g (fK g p k) (ak p k)=true:=hR
 rw [if_neg (by rw [GW];simp),if_neg]
 rintro (h|⟨i,h1,h2⟩)
 ·exact h hp.length_eq
 ·exact h2 (hp.mem_iff.2 h1)
theorem xF {g:Gr} {p:Pl} {k:Nat} (hR:yR g p k=false):cR g (fK g p k) (ak p k) (bw p (ak p k))=(([],3),fK g p k):=if_pos hR
theorem lf {g:Gr} {p:Pl} :∀ {k:Nat},(ee g p k).length=g.n.toNat
 |0=>by simp [ee]
 |k+1=>by rw [ee,List.length_set,lf]
theorem Bu {α:Type} {l:List α} {i j:Nat} {a d:α} (hi:i<l.length):(l.set i a).getD j d=if j=i then a else l.getD j d:=by
 rw [List.getD_eq_getElem?_getD,List.getElem?_set,List.getD_eq_getElem?_getD]
 by_cases h:i=j
 ·subst h;simp [hi]
 ·rw [if_neg h,if_neg (Ne.symm h)]
theorem ox {g:Gr} {p:Pl} (h:bD g p):∀ {k:Nat},k≤g.n.toNat→∀ {i:Nat},i<k→(ee g p k).getD (ak p i).toNat []=ff g p i
 |0,_,i,hi=>by omega
 |k+1,hk,i,hi=>by
  have hm:=aI h (k:=k) (by omega)
  rw [ee,Bu (by rw [lf];omega)]
  by_cases e:i=k
  ·subst e;rw [if_pos rfl]
  ·have EM:=aI h (k:=i) (by omega)
   rw [if_neg (fun h2=>e (dD h (by omega) (by omega) (by omega)))]
   exact ox h (by omega) (by omega)
theorem oy {l m:List Int} (h:gI l=m):l.Perm m:=by
 rw [← h];exact (List.mergeSort_perm l _).symm
theorem xG {n:Nat} :(iZ n).Pairwise (· ≤ ·):=by
 unfold iZ
 refine List.Pairwise.map _ (fun a b (h:a<b)=> ?_) List.pairwise_lt_range
 show (a:Int)≤b
 omega
theorem Fj {g:Gr} (hm:aN g=true) {p:Pl} :(p.outs.length=g.n.toNat∧p.ord.length=g.n.toNat∧(∀i:Nat,i<(gI p.ord).length→(gI p.ord).getD i 0=i)∧∀x:Nat,x<p.outs.length→gI (p.outs.getD x [])=bq (·.1) g x)↔bD g p:=by
 constructor
 ·rintro ⟨h1,h2,h3,h4⟩
  refine ⟨h1,oy ?_,fun x hx=> ?_⟩
  ·refine List.ext_getElem (by rw [eR,h2,ow]) fun i h5 h6=> ?_
   have:=h3 i h5
   rw [List.getD_eq_getElem?_getD,List.getElem?_eq_getElem h5,Option.getD_some] at this
   rw [this];simp [iZ]
  ·have:=h4 x (by omega)
   rw [fe (by omega) (by omega)] at this
   exact oy this
 ·intro h
  refine ⟨h.1,cj h, ?_,fun x hx=> ?_⟩
  ·rw [sM h.2.1 xG]
   intro i hi
   rw [ow] at hi
   simp [iZ,List.getD_eq_getElem?_getD,List.getElem?_range hi]
  ·rw [fe (by omega) (by have:=h.1;omega)]
   exact sM (h.2.2 x (by rw [← h.1];exact hx)) qi
theorem zR {g:Gr} (hm:aN g=true) {p:Pl} :(fE p.ord g.n=true∧p.outs.length=g.n.toNat∧(∀x:Nat,x<p.outs.length→∀i∈p.outs.getD x [],i∈bu g x)∧p.outs.flatten.Nodup∧∀i:Nat,i<g.es.length→(i:Int)∈p.outs.flatten)↔bD g p:=by
 have hn:=aT hm
 constructor
 ·rintro ⟨h1,h2,h3,h4,h5⟩
  refine ⟨h2, ?_,fun x hx=> ?_⟩
  ·obtain ⟨e1,e2⟩:=bY.1 h1
   exact qJ j3 e2 (by rw [ow];omega)
  ·have hxl:x<p.outs.length:=by omega
   have hmem:p.outs.getD x []∈p.outs:=aG hxl
   have ck:(p.outs.getD x []).Nodup:=by
    rw [List.Nodup,List.pairwise_flatten] at h4
    exact h4.1 _ hmem
   refine (List.perm_ext_iff_of_nodup ck cT).2 fun i=>⟨h3 x hxl i,fun hi=> ?_⟩
   obtain ⟨k,rfl,hk,ht⟩:=jC hi
   obtain ⟨l,hl,bM⟩:=List.mem_flatten.1 (h5 k hk)
   obtain ⟨y,hy,rfl⟩:=List.mem_iff_getElem.1 hl
   have e:p.outs.getD y []=p.outs[y]:=by rw [List.getD_eq_getElem?_getD,List.getElem?_eq_getElem hy];rfl
   rw [← e] at bM
   obtain ⟨k',e1,_,e2⟩:=jC (h3 y hy _ bM)
   have:k=k':=by omega
   subst this
   have:x=y:=by omega
   subst this
   exact bM
 ·intro h
  refine ⟨bY.2 ⟨?_,fun x hx=>h.2.1.mem_iff.2 hx⟩,h.1,fun x hx i hi=>(h.2.2 x (by rw [← h.1];exact hx)).mem_iff.1 hi, ?_,fun i hi=> ?_⟩
  ·have:=cj h;omega
  ·rw [List.Nodup,List.pairwise_flatten]
   constructor
   ·intro l hl
    obtain ⟨x,hx,rfl⟩:=List.mem_iff_getElem.1 hl
    have e:p.outs.getD x []=p.outs[x]:=by rw [List.getD_eq_getElem?_getD,List.getElem?_eq_getElem hx];rfl
    rw [← e]
    exact (h.2.2 x (by rw [← h.1];exact hx)).nodup_iff.2 cT
   ·refine List.pairwise_iff_getElem.2 fun x y hx hy hxy a ha b hb e=> ?_
    subst e
    have ex:p.outs.getD x []=p.outs[x]:=by rw [List.getD_eq_getElem?_getD,List.getElem?_eq_getElem hx];rfl
    have ey:p.outs.getD y []=p.outs[y]:=by rw [List.getD_eq_getElem?_getD,List.getElem?_eq_getElem hy];rfl
    rw [← ex] at ha
    rw [← ey] at hb
    obtain ⟨k,e1,_,e2⟩:=jC ((h.2.2 x (by rw [← h.1];exact hx)).mem_iff.1 ha)
    obtain ⟨k',e3,_,e4⟩:=jC ((h.2.2 y (by rw [← h.1];exact hy)).mem_iff.1 hb)
    have:k=k':=by omega
    subst this
    omega
  ·have ht:=(ej hm hi).1
   refine List.mem_flatten.2 ⟨p.outs.getD (tl g i).toNat [],aG (by rw [h.1];have:0≤tl g i∧tl g i<g.n:=ht;omega), ?_⟩
   have:0≤tl g i∧tl g i<g.n:=ht
   refine (h.2.2 _ (by omega)).mem_iff.2 ?_
   simp only [bu,aL,List.mem_map,List.mem_filter,List.mem_range,decide_eq_true_eq]
   exact ⟨i,⟨hi,by show tl g i=_;omega⟩,rfl⟩
end Go.Ab
end
section
namespace Go.Ab
open Go.Proofs
set_option maxRecDepth 10000
def tZ (g:Gr) (p:Pl) (f:Fr) (x:Int):Fr:=(aA g f x (bw p x)).2
def Jk (g:Gr) (p:Pl):Nat→Fr→Prop
 |0,f=>(f.pl.length:Int)=g.n
 |m+1,f=>∃x,aD g f x=true∧Jk g p m (tZ g p f x)
def Jl (rev:Bool) (l:List It):List It:=if rev=true then l.reverse else l
def Ds (g:Gr) (f:Fr) (rev:Bool):Int:=match (Jl rev f.row).find? (fun t=>aD g f t.2.2) with
 |some t=>t.2.2
 |none=>(GY g f).headD (-1)
def zS (g:Gr) (p:Pl) (rev:Bool):Nat→Fr
 |0=>⟨[], []⟩
 |k+1=>tZ g p (zS g p rev k) (Ds g (zS g p rev k) rev)
def Dt (g:Gr) (p:Pl) (rev:Bool):Nat→List Int
 |0=>List.replicate g.n.toNat 0
 |k+1=>(Dt g p rev k).set (Ds g (zS g p rev k) rev).toNat (k:Int)
def OR (g:Gr) (p:Pl) (rev:Bool):List Int:=(List.range g.n.toNat).map fun k=>Ds g (zS g p rev k) rev
end Go.Ab
end
section
namespace Go.Ab
open Go.Proofs
set_option maxRecDepth 10000
def OS (f:Fr):Fr:=⟨f.row.reverse,f.pl⟩
def OU (p:Pl):Pl:=⟨p.ord,p.outs.map List.reverse⟩
theorem fM.rev {x:Int} {l:List It} (h:fM x l):fM x l.reverse:=fun t ht=>h t (List.mem_reverse.1 ht)
theorem Bj.rev {x:Int} {X:List It} (h:Bj x X):Bj x X.reverse:=
 ⟨by obtain ⟨X',q,h1,h2⟩:=h.Dg;exact ⟨q,X'.reverse,by simp [h1],h2⟩,by obtain ⟨p,X',h1,h2⟩:=h.fst;exact ⟨X'.reverse,p,by simp [h1],h2⟩,fun t ht=>h.al t (List.mem_reverse.1 ht)⟩
end Go.Ab
end
section
namespace Go.Ab
open Go.Proofs
set_option maxRecDepth 10000
def loose (l:List It):List Int:=(l.filter fun t=>decide (t.1<0)).map fun t=>t.2.1
theorem ua {a b:List It} :loose (a++b)=loose a++loose b:=by simp [loose]
def Jm (g:Gr) (p:Pl):Nat→List Edge
 |0=> []
 |k+1=>Jm g p k++(loose (ff g p k)).map fun v=>(v,ak p k)
def lg (g:Gr) (p:Pl):List It:=(fK g p g.n.toNat).row
def newL (g:Gr) (p:Pl):List Edge:=if 1<(lg g p).length then (loose (lg g p)).map fun v=>(v,g.n) else []
def Jn (g:Gr) (p:Pl):List Edge:=Jm g p g.n.toNat++newL g p
def Du (g:Gr) (p:Pl):Gr:=⟨if 1<(lg g p).length then g.n+1 else g.n,g.es++Jn g p⟩
def Jo:Nat→List Edge→List (List Int)→List (List Int)
 |_, [],O=>O
 |m,e::N,O=>Jo (m+1) N (O.set e.1.toNat [(m:Int)])
def Mc (g:Gr) (p:Pl):Pl:=⟨if 1<(lg g p).length then p.ord++ [g.n] else p.ord,Jo g.es.length (Jn g p) (if 1<(lg g p).length then p.outs++ [[]] else p.outs)⟩
def OV (g:Gr) (p:Pl) (x:Gr):List (List Int):=(List.range x.n.toNat).map fun v=>if 0<(p.outs.getD v []).length then p.outs.getD v [] else bu x (v:Int)
theorem jG {g:Gr} {p:Pl} (h:bD g p) {v:Int} (h0:0≤v) (h1:v<g.n):bu g v= []↔bw p v= []:=by
 have hp:=bQ h h0 h1
 constructor
 ·intro e;rw [e] at hp;exact hp.eq_nil
 ·intro e;rw [e] at hp;exact hp.symm.eq_nil
end Go.Ab
end
section
namespace Go.Ab
open Go.Proofs
set_option maxRecDepth 10000
abbrev Act:=Int × List Int
def rA (a:Act):List D:= [.sc (.int .i64 a.1),sI a.2]
def sA (as':List Act):D:= .sl 2 (as'.map rA)
attribute [go_sem] sA
def Jp (g:Gr) (G0:List Act):Nat→Fr
 |0=>⟨[], []⟩
 |k+1=>(cR g (Jp g G0 k) (G0.getD k (0, [])).1 (G0.getD k (0, [])).2).2
theorem FZ {g:Gr} {f:Fr} (hi:gK g f):(f.pl.length:Int)≤g.n∨f.pl= []:=by
 by_cases h:f.pl= []
 ·exact .inr h
 ·left
  obtain ⟨y,hy⟩:=List.exists_mem_of_ne_nil _ h
  have:=hi.Dl y hy
  have h3:=nc hi.pl (m:=(List.range g.n.toNat).map Int.ofNat) (fun y hy=>by
   rw [List.mem_map]
   have:=hi.Dl y hy
   exact ⟨y.toNat,List.mem_range.2 (by omega),by simp;omega⟩)
  simp at h3
  omega
theorem xH (g:Gr) (hm:aN g=true) (f:Fr) (hi:xA g f) (x:Int) (outs:List Int) (hr:f.row.length≤300000) (hp:f.pl.length≤100000) (ho:outs.length≤17592186043904):
 Spec Tryz.prog 89 (Args [.ptr 10000 0,eN x, .d (sI outs)]) (mz g f) (.tup [.d (sT (cR g f x outs).1.1),eN (cR g f x outs).1.2]) (yO g (cR g f x outs).2):=by
 rw [← Dm hm hi.togK]
 exact yQ g hm f x outs hr hp ho
end Go.Ab
end
section
namespace Go.Ab
open Go.Proofs
attribute [local congr] ACall.congr gd.congr Nx.congr
set_option maxRecDepth 10000
set_option maxHeartbeats 4000000
def ePl (p:Pl):AV:= .agg [.d (sI p.ord), .d (.sl 1 (vI p.outs))]
attribute [go_sem] ePl
structure qj (p:Pl):Prop where
 ord:p.ord.length≤17592186043904
 outs:p.outs.length≤9223372036854775807
 each:∀l∈p.outs,l.length≤17592186043904
theorem Dv (g:Gr) (hm:aN g=true) (p:Pl) (hp:qj p) (res:Bool) (hr:res=true↔bD g p):Spec Tryz.prog 88 (Args [.d (vw g),ePl p]) [] (eB res) []:=by
 rw [← Fj hm] at hr
 have hn:=aT hm
 have ho:=hp.ord
 have HQ:=hp.outs
 by_cases h1:p.outs.length=g.n.toNat∧p.ord.length=g.n.toNat
 rotate_left
 ·have hres:res=false:=by
   rw [← Bool.not_eq_true,hr]
   rintro ⟨h2,h3,_⟩
   exact h1 ⟨h2,h3⟩
  subst hres
  by_cases h2:(p.outs.length:Int)=g.n
  ·have au:decide ((p.outs.length:Int)=g.n)=true:=decide_eq_true h2
   have aq:decide ((p.ord.length:Int)=g.n)=false:=decide_eq_false fun h3=>h1 ⟨by omega,by omega⟩
   (refine Spec.hd (C:=T.cfg [] []) (rs:= [.t 4]) (T.ai _ _) Tryz.func88 rfl rfl Tryz.ntmps88 Tryz.results88 (by simp [AObj.isNest]) (by simp [AObj.isNest]) (by kernel_rfl) T.mixed fun X hX hP hC aH bU=> ?_)
   repeat' (first|refine Rn.p ?_|(with_reducible apply And.intro)|((first|(refine hK _ ?_;clear hK K)|with_reducible intro K hK|refine Rs.p ?_|((with_reducible first|apply oP|apply oQ);exact rfl));try simp only [go_sem,simprocAttr,an,au,aq])|((with_reducible refine oD ?_ ?_);kernel_rfl)|((with_reducible intro h);try simp only [go_sem,simprocAttr,an,au,aq] at h)|omega|intro h)
  ·have au:decide ((p.outs.length:Int)=g.n)=false:=decide_eq_false h2
   (refine Spec.hd (C:=T.cfg [] []) (rs:= [.t 4]) (T.ai _ _) Tryz.func88 rfl rfl Tryz.ntmps88 Tryz.results88 (by simp [AObj.isNest]) (by simp [AObj.isNest]) (by kernel_rfl) T.mixed fun X hX hP hC aH bU=> ?_)
   repeat' (first|refine Rn.p ?_|(with_reducible apply And.intro)|((first|(refine hK _ ?_;clear hK K)|with_reducible intro K hK|refine Rs.p ?_|((with_reducible first|apply oP|apply oQ);exact rfl));try simp only [go_sem,simprocAttr,an,au])|((with_reducible refine oD ?_ ?_);kernel_rfl)|((with_reducible intro h);try simp only [go_sem,simprocAttr,an,au] at h)|omega|intro h)
 have au:decide ((p.outs.length:Int)=g.n)=true:=decide_eq_true (by omega)
 have aq:decide ((p.ord.length:Int)=g.n)=true:=decide_eq_true (by omega)
 have Eh:=eR p.ord
 (refine Spec.hd (C:=T.cfg [] []) (rs:= [.t 4]) (T.ai _ _) Tryz.func88 rfl rfl Tryz.ntmps88 Tryz.results88 (by simp [AObj.isNest]) (by simp [AObj.isNest]) (by kernel_rfl) T.mixed fun X hX hP hC aH bU=> ?_)
 repeat' (first|refine Rn.p ?_|(with_reducible apply And.intro)|((first|(refine hK _ ?_;clear hK K)|with_reducible intro K hK|refine Rs.p ?_|((with_reducible first|apply oP|apply oQ);exact rfl)|(refine az hX hC hP [(10000,31)] (cz p.ord) rfl rfl rfl ?_ ?_ ?_ ?_ ?_ ?_ ?_ ?_ ?_ ?_ ?_ ?_ ?_ ?_;(focus (simp only [go_sem,simprocAttr,an,au,aq];done));(iterate 12 (focus (simp [go_sem,simprocAttr,an,au,aq];done)));try simp only [List.map_cons,List.map_nil])|(refine aS hX hC hP [(10000,31)] (b7 p.ord ho) rfl rfl rfl ?_ ?_ ?_ ?_ ?_ ?_ rfl rfl ?_ ?_;(focus (simp only [go_sem,simprocAttr,an,au,aq];done));(iterate 6 (focus (simp [go_sem,simprocAttr,an,au,aq];done)));try simp only [List.map_cons,List.map_nil]));try simp only [go_sem,simprocAttr,an,au,aq])|((with_reducible refine oD ?_ ?_);kernel_rfl)|((with_reducible intro h);try simp only [go_sem,simprocAttr,an,au,aq] at h)|omega|intro h)
 clear au aq
 refine ag (fun k:Nat=>k≤(gI p.ord).length∧∀i:Nat,i<k→(gI p.ord).getD i 0=i) (fun k=>⟨[(0, .d (vw g)),(3, .ptr 3 0),(32, .d (sI (gI p.ord))),(33,eN (gI p.ord).length),(34,eN k)], [(3, .box [.d (sI p.ord), .d (.sl 1 (vI p.outs))])]⟩) (fun k=>(gI p.ord).length - k) 0 (by simp) ?_ ?_
 ·(refine Le.of ?_ ?_<;>simp [go_sem,simprocAttr,an])
 rintro k ⟨hk,hg⟩
 rcases Nat.lt_or_ge k (gI p.ord).length with hlt|hge
 ·have hb:decide ((k:Int)<((gI p.ord).length:Int))=true:=decide_eq_true (by omega)
  by_cases he:(gI p.ord).getD k 0=k
  ·have aq:decide ((gI p.ord).getD k 0=(k:Int))=true:=decide_eq_true he
   repeat' (first|refine Rn.p ?_|(with_reducible apply And.intro)|((first|(refine hK _ ?_;clear hK K)|with_reducible intro K hK|refine Rs.p ?_|((with_reducible first|apply oP|apply oQ);exact rfl)|(refine az hX hC hP [(10000,31)] (cz p.ord) rfl rfl rfl ?_ ?_ ?_ ?_ ?_ ?_ ?_ ?_ ?_ ?_ ?_ ?_ ?_ ?_;(focus (simp only [go_sem,simprocAttr,an,hb,aq];done));(iterate 12 (focus (simp [go_sem,simprocAttr,an,hb,aq];done)));try simp only [List.map_cons,List.map_nil])|(refine aS hX hC hP [(10000,31)] (b7 p.ord ho) rfl rfl rfl ?_ ?_ ?_ ?_ ?_ ?_ rfl rfl ?_ ?_;(focus (simp only [go_sem,simprocAttr,an,hb,aq];done));(iterate 6 (focus (simp [go_sem,simprocAttr,an,hb,aq];done)));try simp only [List.map_cons,List.map_nil]));try simp only [go_sem,simprocAttr,an,hb,aq])|((with_reducible refine oD ?_ ?_);kernel_rfl)|((with_reducible intro h);try simp only [go_sem,simprocAttr,an,hb,aq] at h)|omega|intro h)
   refine ⟨k+1,⟨by omega,fun i hi=> ?_⟩, ?_,by omega⟩
   ·by_cases hik:i=k
    ·subst hik;exact he
    ·exact hg i (by omega)
   ·(refine Le.of ?_ ?_<;>simp [go_sem,simprocAttr,an,hb,aq])
  ·have aq:decide ((gI p.ord).getD k 0=(k:Int))=false:=decide_eq_false he
   have hres:res=false:=by
    rw [← Bool.not_eq_true,hr]
    rintro ⟨_,_,h3,_⟩
    exact he (h3 k hlt)
   subst hres
   repeat' (first|refine Rn.p ?_|(with_reducible apply And.intro)|((first|(refine hK _ ?_;clear hK K)|with_reducible intro K hK|refine Rs.p ?_|((with_reducible first|apply oP|apply oQ);exact rfl)|(refine az hX hC hP [(10000,31)] (cz p.ord) rfl rfl rfl ?_ ?_ ?_ ?_ ?_ ?_ ?_ ?_ ?_ ?_ ?_ ?_ ?_ ?_;(focus (simp only [go_sem,simprocAttr,an,hb,aq];done));(iterate 12 (focus (simp [go_sem,simprocAttr,an,hb,aq];done)));try simp only [List.map_cons,List.map_nil])|(refine aS hX hC hP [(10000,31)] (b7 p.ord ho) rfl rfl rfl ?_ ?_ ?_ ?_ ?_ ?_ rfl rfl ?_ ?_;(focus (simp only [go_sem,simprocAttr,an,hb,aq];done));(iterate 6 (focus (simp [go_sem,simprocAttr,an,hb,aq];done)));try simp only [List.map_cons,List.map_nil]));try simp only [go_sem,simprocAttr,an,hb,aq])|((with_reducible refine oD ?_ ?_);kernel_rfl)|((with_reducible intro h);try simp only [go_sem,simprocAttr,an,hb,aq] at h)|omega|intro h)
 have hb:decide ((k:Int)<((gI p.ord).length:Int))=false:=decide_eq_false (by omega)
 repeat' (first|refine Rn.p ?_|(with_reducible apply And.intro)|((first|(refine hK _ ?_;clear hK K)|with_reducible intro K hK|refine Rs.p ?_|((with_reducible first|apply oP|apply oQ);exact rfl)|(refine az hX hC hP [(10000,31)] (cz p.ord) rfl rfl rfl ?_ ?_ ?_ ?_ ?_ ?_ ?_ ?_ ?_ ?_ ?_ ?_ ?_ ?_;(focus (simp only [go_sem,simprocAttr,an,hb];done));(iterate 12 (focus (simp [go_sem,simprocAttr,an,hb];done)));try simp only [List.map_cons,List.map_nil])|(refine aS hX hC hP [(10000,31)] (b7 p.ord ho) rfl rfl rfl ?_ ?_ ?_ ?_ ?_ ?_ rfl rfl ?_ ?_;(focus (simp only [go_sem,simprocAttr,an,hb];done));(iterate 6 (focus (simp [go_sem,simprocAttr,an,hb];done)));try simp only [List.map_cons,List.map_nil]));try simp only [go_sem,simprocAttr,an,hb])|((with_reducible refine oD ?_ ?_);kernel_rfl)|((with_reducible intro h);try simp only [go_sem,simprocAttr,an,hb] at h)|omega|intro h)
 obtain rfl:k=(gI p.ord).length:=by omega
 clear hb hk
 refine ag (fun x:Nat=>x≤p.outs.length∧∀i:Nat,i<x→gI (p.outs.getD i [])=bq (·.1) g i) (fun x=>⟨[(0, .d (vw g)),(44, .d (.sl 1 (vI p.outs))),(45,eN p.outs.length),(46,eN x)], []⟩) (fun x=>p.outs.length - x) 0 (by simp) ?_ ?_
 ·refine Le.of ?_ ?_<;>simp [go_sem,simprocAttr,an]
 rintro x ⟨hx,qu⟩
 rcases Nat.lt_or_ge x p.outs.length with hxl|Eo
 ·have hb:decide ((x:Int)<(p.outs.length:Int))=true:=decide_eq_true (by omega)
  have hv:=iO hxl
  have hl:=hp.each _ (aG (d:= []) hxl)
  have hn2:∀h:gI (p.outs.getD x [])=bq (·.1) g x,∀i:Nat,i<x+1→gI (p.outs.getD i [])=bq (·.1) g i:=fun h i hi=>by
   by_cases HD:i=x
   ·subst HD;exact h
   ·exact qu i (by omega)
  have vQ:¬gI (p.outs.getD x [])=bq (·.1) g x→res=false:=fun h=>by
   rw [← Bool.not_eq_true,hr]
   rintro ⟨_,_,_,h4⟩
   exact h (h4 x hxl)
  generalize p.outs.getD x []=l at hv hl hn2 vQ
  have OW:=eR l
  by_cases he:gI l=bq (·.1) g x
  ·have aq:decide (gI l=bq (·.1) g (x:Int))=true:=decide_eq_true he
   repeat' (first|refine Rn.p ?_|(with_reducible apply And.intro)|((first|(refine hK _ ?_;clear hK K)|with_reducible intro K hK|refine Rs.p ?_|((with_reducible first|apply oP|apply oQ);exact rfl)|(refine az hX hC hP [(10000,52)] (cz l) rfl rfl rfl ?_ ?_ ?_ ?_ ?_ ?_ ?_ ?_ ?_ ?_ ?_ ?_ ?_ ?_;(focus (simp only [go_sem,simprocAttr,hb,hv,aq];done));(iterate 12 (focus (simp [go_sem,simprocAttr,hb,hv,aq];done)));try simp only [List.map_cons,List.map_nil])|(refine aS hX hC hP [(10000,52)] (b7 l hl) rfl rfl rfl ?_ ?_ ?_ ?_ ?_ ?_ rfl rfl ?_ ?_;(focus (simp only [go_sem,simprocAttr,hb,hv,aq];done));(iterate 6 (focus (simp [go_sem,simprocAttr,hb,hv,aq];done)));try simp only [List.map_cons,List.map_nil])|refine aa hX hC hP (gU g hm (x:Int)) rfl rfl rfl (by simp only [go_sem,simprocAttr,hb,hv,aq]) rfl ?_|refine aa hX hC hP (fc (gI l) (bq (·.1) g x) (by omega)) rfl rfl rfl (by simp only [go_sem,simprocAttr,hb,hv,aq]) rfl ?_);try simp only [go_sem,simprocAttr,hb,hv,aq])|((with_reducible refine oD ?_ ?_);kernel_rfl)|((with_reducible intro h);try simp only [go_sem,simprocAttr,hb,hv,aq] at h)|omega|intro h)
   refine ⟨x+1,⟨by omega,hn2 he⟩, ?_,by omega⟩
   (refine Le.of ?_ ?_<;>simp [go_sem,simprocAttr,hb,hv,aq])
  ·have aq:decide (gI l=bq (·.1) g (x:Int))=false:=decide_eq_false he
   have hres:=vQ he
   subst hres
   repeat' (first|refine Rn.p ?_|(with_reducible apply And.intro)|((first|(refine hK _ ?_;clear hK K)|with_reducible intro K hK|refine Rs.p ?_|((with_reducible first|apply oP|apply oQ);exact rfl)|(refine az hX hC hP [(10000,52)] (cz l) rfl rfl rfl ?_ ?_ ?_ ?_ ?_ ?_ ?_ ?_ ?_ ?_ ?_ ?_ ?_ ?_;(focus (simp only [go_sem,simprocAttr,hb,hv,aq];done));(iterate 12 (focus (simp [go_sem,simprocAttr,hb,hv,aq];done)));try simp only [List.map_cons,List.map_nil])|(refine aS hX hC hP [(10000,52)] (b7 l hl) rfl rfl rfl ?_ ?_ ?_ ?_ ?_ ?_ rfl rfl ?_ ?_;(focus (simp only [go_sem,simprocAttr,hb,hv,aq];done));(iterate 6 (focus (simp [go_sem,simprocAttr,hb,hv,aq];done)));try simp only [List.map_cons,List.map_nil])|refine aa hX hC hP (gU g hm (x:Int)) rfl rfl rfl (by simp only [go_sem,simprocAttr,hb,hv,aq]) rfl ?_|refine aa hX hC hP (fc (gI l) (bq (·.1) g x) (by omega)) rfl rfl rfl (by simp only [go_sem,simprocAttr,hb,hv,aq]) rfl ?_);try simp only [go_sem,simprocAttr,hb,hv,aq])|((with_reducible refine oD ?_ ?_);kernel_rfl)|((with_reducible intro h);try simp only [go_sem,simprocAttr,hb,hv,aq] at h)|omega|intro h)
 ·have hb:decide ((x:Int)<(p.outs.length:Int))=false:=decide_eq_false (by omega)
  obtain rfl:x=p.outs.length:=by omega
  have hres:res=true:=hr.2 ⟨h1.1,h1.2,fun i hi=>hg i (by omega),qu⟩
  subst hres
  repeat' (first|refine Rn.p ?_|(with_reducible apply And.intro)|((first|(refine hK _ ?_;clear hK K)|with_reducible intro K hK|refine Rs.p ?_|((with_reducible first|apply oP|apply oQ);exact rfl)|(refine az hX hC hP [(10000,52)] (cz l) rfl rfl rfl ?_ ?_ ?_ ?_ ?_ ?_ ?_ ?_ ?_ ?_ ?_ ?_ ?_ ?_;(focus (simp only [go_sem,simprocAttr,hb];done));(iterate 12 (focus (simp [go_sem,simprocAttr,hb];done)));try simp only [List.map_cons,List.map_nil])|(refine aS hX hC hP [(10000,52)] (b7 l hl) rfl rfl rfl ?_ ?_ ?_ ?_ ?_ ?_ rfl rfl ?_ ?_;(focus (simp only [go_sem,simprocAttr,hb];done));(iterate 6 (focus (simp [go_sem,simprocAttr,hb];done)));try simp only [List.map_cons,List.map_nil])|refine aa hX hC hP (gU g hm (x:Int)) rfl rfl rfl (by simp only [go_sem,simprocAttr,hb]) rfl ?_|refine aa hX hC hP (fc (gI l) (bq (·.1) g x) (by omega)) rfl rfl rfl (by simp only [go_sem,simprocAttr,hb]) rfl ?_);try simp only [go_sem,simprocAttr,hb])|((with_reducible refine oD ?_ ?_);kernel_rfl)|((with_reducible intro h);try simp only [go_sem,simprocAttr,hb] at h)|omega|intro h)
end Go.Ab
end
section
namespace Go.Ab
open Go.Proofs
attribute [local congr] ACall.congr gd.congr Nx.congr
set_option maxRecDepth 10000
set_option maxHeartbeats 8000000
def nh (m:Nat) (fl:List Int):List Int:=(List.range m).map fun i:Nat=>if (i:Int)∈fl then (1:Int) else 0
theorem xI {m:Nat} {fl:List Int} :(nh m fl).length=m:=by simp [nh]
theorem Bv {m:Nat} :nh m []=List.replicate m 0:=by
 refine List.ext_getElem (by simp [nh]) fun i h1 h2=> ?_
 simp [nh]
theorem zT {m:Nat} {fl:List Int} {i:Nat} (h:i<m):(nh m fl).getD i 0=if (i:Int)∈fl then 1 else 0:=by
 simp [nh,List.getD_eq_getElem?_getD,List.getElem?_range h]
theorem Dw {m:Nat} {fl:List Int} {i:Nat} (h:i<m):(nh m fl).set i 1=nh m (fl++ [(i:Int)]):=by
 refine List.ext_getElem (by simp [nh]) fun j h1 h2=> ?_
 rw [List.getElem_set]
 simp only [nh,List.getElem_map,List.getElem_range,List.mem_append,List.mem_singleton]
 by_cases e:i=j
 ·subst e;simp
 ·rw [if_neg e]
  have:¬(j:Int)=(i:Int):=by omega
  simp [this]
theorem Dx {outs:List (List Int)} {x k:Nat} (hx:x<outs.length):((outs.take x).flatten++(outs.getD x []).take k).Sublist outs.flatten:=by
 have e:outs=outs.take x++outs.getD x []::outs.drop (x+1):=by
  conv=>lhs;rw [← List.take_append_drop x outs]
  congr 1
  rw [List.drop_eq_getElem_cons hx,List.getD_eq_getElem?_getD,List.getElem?_eq_getElem hx]
  rfl
 conv=>rhs;rw [e]
 rw [List.flatten_append,List.flatten_cons]
 exact List.Sublist.append (List.Sublist.refl _) ((List.take_sublist _ _).trans (List.sublist_append_left _ _))
theorem yS {l:List Int} {k:Nat} (h:k<l.length):l.take (k+1)=l.take k++ [l.getD k 0]:=by
 rw [List.take_add_one,List.getD_eq_getElem?_getD,List.getElem?_eq_getElem h];rfl
theorem oz {g:Gr} {x i:Int} :i∈bu g x↔(0≤i∧i<g.es.length)∧(g.es.getD i.toNat (0,0)).1=x:=by
 constructor
 ·exact fX
 ·rintro ⟨⟨h1,h2⟩,h3⟩
  simp only [bu,aL,List.mem_map,List.mem_filter,List.mem_range,decide_eq_true_eq]
  exact ⟨i.toNat,⟨by omega,h3⟩,by simp;omega⟩
theorem Dy (g:Gr) (hl:g.es.length≤9223372036854775807) (p:Pl) (hp:qj p) (res:Bool) (hr:res=true↔(bF g).1=0∧bD g p):Spec Tryz.prog 134 (Args [eG g,ePl p]) [] (eB res) []:=by
 have ho:p.ord.length≤9223372036854775807:=by have:=hp.ord;omega
 have HQ:=hp.outs
 by_cases hc:(bF g).1=0
 rotate_left
 ·have hres:res=false:=by
   rw [← Bool.not_eq_true,hr]
   rintro ⟨h,_⟩
   exact hc h
  subst hres
  have au:decide ((bF g).1=0)=false:=decide_eq_false hc
  (refine Spec.hd (C:=T.cfg [] []) (rs:= [.t 4]) (T.ai _ _) Tryz.func134 rfl rfl Tryz.ntmps134 Tryz.results134 (by simp [AObj.isNest]) (by simp [AObj.isNest]) (by kernel_rfl) T.mixed fun X hX hP hC aH bU=> ?_)
  repeat' (first|refine Rn.p ?_|(with_reducible apply And.intro)|((first|(refine hK _ ?_;clear hK K)|with_reducible intro K hK|refine Rs.p ?_|((with_reducible first|apply oP|apply oQ);exact rfl)|refine aa hX hC hP (aR g hl) rfl rfl rfl (by simp only [go_sem,simprocAttr,au]) rfl ?_);try simp only [go_sem,simprocAttr,au])|((with_reducible refine oD ?_ ?_);kernel_rfl)|((with_reducible intro h);try simp only [go_sem,simprocAttr,au] at h)|omega|intro h)
 have au:decide ((bF g).1=0)=true:=decide_eq_true hc
 have hm:=aE hc
 have hn:=aT hm
 have hr:res=true↔bD g p:=by rw [hr];exact ⟨fun h=>h.2,fun h=>⟨hc,h⟩⟩
 rw [← zR hm] at hr
 by_cases he:fE p.ord g.n=true∧p.outs.length=g.n.toNat
 rotate_left
 ·have hres:res=false:=by
   rw [← Bool.not_eq_true,hr]
   rintro ⟨h2,h3,_⟩
   exact he ⟨h2,h3⟩
  subst hres
  cases h2:fE p.ord g.n with
  |false=>
   (refine Spec.hd (C:=T.cfg [] []) (rs:= [.t 4]) (T.ai _ _) Tryz.func134 rfl rfl Tryz.ntmps134 Tryz.results134 (by simp [AObj.isNest]) (by simp [AObj.isNest]) (by kernel_rfl) T.mixed fun X hX hP hC aH bU=> ?_)
   repeat' (first|refine Rn.p ?_|(with_reducible apply And.intro)|((first|(refine hK _ ?_;clear hK K)|with_reducible intro K hK|refine Rs.p ?_|((with_reducible first|apply oP|apply oQ);exact rfl)|refine aa hX hC hP (aR g hl) rfl rfl rfl (by simp only [go_sem,simprocAttr,au,h2]) rfl ?_|refine aa hX hC hP (cq p.ord g.n ho) rfl rfl rfl (by simp only [go_sem,simprocAttr,au,h2]) rfl ?_);try simp only [go_sem,simprocAttr,au,h2])|((with_reducible refine oD ?_ ?_);kernel_rfl)|((with_reducible intro h);try simp only [go_sem,simprocAttr,au,h2] at h)|omega|intro h)
  |true=>
   have aq:decide ((p.outs.length:Int)=g.n)=false:=decide_eq_false fun h3=>he ⟨h2,by omega⟩
   (refine Spec.hd (C:=T.cfg [] []) (rs:= [.t 4]) (T.ai _ _) Tryz.func134 rfl rfl Tryz.ntmps134 Tryz.results134 (by simp [AObj.isNest]) (by simp [AObj.isNest]) (by kernel_rfl) T.mixed fun X hX hP hC aH bU=> ?_)
   repeat' (first|refine Rn.p ?_|(with_reducible apply And.intro)|((first|(refine hK _ ?_;clear hK K)|with_reducible intro K hK|refine Rs.p ?_|((with_reducible first|apply oP|apply oQ);exact rfl)|refine aa hX hC hP (aR g hl) rfl rfl rfl (by simp only [go_sem,simprocAttr,au,h2,aq]) rfl ?_|refine aa hX hC hP (cq p.ord g.n ho) rfl rfl rfl (by simp only [go_sem,simprocAttr,au,h2,aq]) rfl ?_);try simp only [go_sem,simprocAttr,au,h2,aq])|((with_reducible refine oD ?_ ?_);kernel_rfl)|((with_reducible intro h);try simp only [go_sem,simprocAttr,au,h2,aq] at h)|omega|intro h)
 obtain ⟨p8,tB⟩:=he
 have aq:decide ((p.outs.length:Int)=g.n)=true:=decide_eq_true (by omega)
 (refine Spec.hd (C:=T.cfg [] []) (rs:= [.t 4]) (T.ai _ _) Tryz.func134 rfl rfl Tryz.ntmps134 Tryz.results134 (by simp [AObj.isNest]) (by simp [AObj.isNest]) (by kernel_rfl) T.mixed fun X hX hP hC aH bU=> ?_)
 repeat' (first|refine Rn.p ?_|(with_reducible apply And.intro)|((first|(refine hK _ ?_;clear hK K)|with_reducible intro K hK|refine Rs.p ?_|((with_reducible first|apply oP|apply oQ);exact rfl)|refine aa hX hC hP (aR g hl) rfl rfl rfl (by simp only [go_sem,simprocAttr,au,p8,aq]) rfl ?_|refine aa hX hC hP (cq p.ord g.n ho) rfl rfl rfl (by simp only [go_sem,simprocAttr,au,p8,aq]) rfl ?_);try simp only [go_sem,simprocAttr,au,p8,aq])|((with_reducible refine oD ?_ ?_);kernel_rfl)|((with_reducible intro h);try simp only [go_sem,simprocAttr,au,p8,aq] at h)|omega|intro h)
 clear au aq
 have xJ:List.replicate g.es.length [D.sc (.int .i64 0)]=(nh g.es.length []).map rI:=by rw [Bv,List.map_replicate];rfl
 rw [xJ]
 clear xJ
 refine ag (fun x:Nat=>x≤p.outs.length∧(p.outs.take x).flatten.Nodup∧∀y:Nat,y<x→∀i∈p.outs.getD y [],i∈bu g y) (fun x=>⟨[(2, .ptr 2 0),(3, .ptr 3 0),(5, .ref 32),(6,eN x)], [(32, .own 3 1 ((nh g.es.length (p.outs.take x).flatten).map rI)),(3, .box [.d (sI p.ord), .d (.sl 1 (vI p.outs))]),(2, .box [eN g.n, .d (sE g.es)])]⟩) (fun x=>p.outs.length - x) 0 (by simp) ?_ ?_
 ·refine Le.of ?_ ?_<;>simp [go_sem,simprocAttr]
 rintro x ⟨hx,ck,qu⟩
 rcases Nat.lt_or_ge x p.outs.length with hxl|Eo
 ·have hb:decide ((x:Int)<(p.outs.length:Int))=true:=decide_eq_true (by omega)
  have hv:=iO hxl
  have hle:=hp.each _ (aG (d:= []) hxl)
  have hpre:=fun k=>Dx (k:=k) hxl
  have hnext:(p.outs.take (x+1)).flatten=(p.outs.take x).flatten++p.outs.getD x []:=by
   rw [List.take_add_one,List.flatten_append,List.getD_eq_getElem?_getD,List.getElem?_eq_getElem hxl];simp
  have iJ:∀i∈p.outs.getD x [],i∉bu g x→res=false:=fun i hi hn=>by
   rw [← Bool.not_eq_true,hr]
   rintro ⟨_,_,h3,_⟩
   exact hn (h3 x hxl i hi)
  have vQ:∀k,¬((p.outs.take x).flatten++(p.outs.getD x []).take k).Nodup→res=false:=fun k hn=>by
   rw [← Bool.not_eq_true,hr]
   rintro ⟨_,_,_,h4,_⟩
   exact hn (List.Nodup.sublist (hpre k) h4)
  have CH:(∀i∈p.outs.getD x [],i∈bu g x)→∀y:Nat,y<x+1→∀i∈p.outs.getD y [],i∈bu g y:=fun h y hy=>by
   by_cases e:y=x
   ·subst e;exact h
   ·exact qu y (by omega)
  generalize p.outs.getD x []=l at hv hle hpre hnext iJ vQ CH
  generalize (p.outs.take x).flatten=fl at ck hpre hnext vQ
  clear hpre
  repeat' (first|refine Rn.p ?_|(with_reducible apply And.intro)|((first|(refine hK _ ?_;clear hK K)|with_reducible intro K hK|refine Rs.p ?_|((with_reducible first|apply oP|apply oQ);exact rfl)|refine aa hX hC hP (aR g hl) rfl rfl rfl (by simp only [go_sem,simprocAttr,hb,hv]) rfl ?_|refine aa hX hC hP (cq p.ord g.n ho) rfl rfl rfl (by simp only [go_sem,simprocAttr,hb,hv]) rfl ?_);try simp only [go_sem,simprocAttr,hb,hv])|((with_reducible refine oD ?_ ?_);kernel_rfl)|((with_reducible intro h);try simp only [go_sem,simprocAttr,hb,hv] at h)|omega|intro h)
  clear hb
  refine ag (fun k:Nat=>k≤l.length∧(fl++l.take k).Nodup∧∀i∈l.take k,i∈bu g x) (fun k=>⟨[(2, .ptr 2 0),(3, .ptr 3 0),(5, .ref 32),(6,eN x),(7,eN k)], [(32, .own 3 1 ((nh g.es.length (fl++l.take k)).map rI)),(3, .box [.d (sI p.ord), .d (.sl 1 (vI p.outs))]),(2, .box [eN g.n, .d (sE g.es)])]⟩) (fun k=>l.length - k) 0 (by simpa using ck) ?_ ?_
  ·refine Le.of ?_ ?_<;>simp [go_sem,simprocAttr]
  rintro k ⟨hk,AB,HE⟩
  rcases Nat.lt_or_ge k l.length with bM|zj
  ·have gB:decide ((k:Int)<(l.length:Int))=true:=decide_eq_true (by omega)
   have vR:=yS bM
   have him:=aG (d:=0) bM
   have gy:=xI (m:=g.es.length) (fl:=fl++l.take k)
   generalize hi:l.getD k 0=i at vR him
   by_cases h0:i<0
   ·have hres:=iJ i him (fun h=>by have:=(oz.1 h).1;omega)
    subst hres
    have au:decide (i<0)=true:=decide_eq_true h0
    repeat' (first|refine Rn.p ?_|(with_reducible apply And.intro)|((first|(refine hK _ ?_;clear hK K)|with_reducible intro K hK|refine Rs.p ?_|((with_reducible first|apply oP|apply oQ);exact rfl)|refine aa hX hC hP (aR g hl) rfl rfl rfl (by simp only [go_sem,simprocAttr,gB,hv,hi,au]) rfl ?_|refine aa hX hC hP (cq p.ord g.n ho) rfl rfl rfl (by simp only [go_sem,simprocAttr,gB,hv,hi,au]) rfl ?_);try simp only [go_sem,simprocAttr,gB,hv,hi,au])|((with_reducible refine oD ?_ ?_);kernel_rfl)|((with_reducible intro h);try simp only [go_sem,simprocAttr,gB,hv,hi,au] at h)|omega|intro h)
   have au:decide (i<0)=false:=decide_eq_false h0
   by_cases h1:(g.es.length:Int)≤i
   ·have hres:=iJ i him (fun h=>by have:=(oz.1 h).1;omega)
    subst hres
    have aq:decide ((g.es.length:Int)≤i)=true:=decide_eq_true h1
    repeat' (first|refine Rn.p ?_|(with_reducible apply And.intro)|((first|(refine hK _ ?_;clear hK K)|with_reducible intro K hK|refine Rs.p ?_|((with_reducible first|apply oP|apply oQ);exact rfl)|refine aa hX hC hP (aR g hl) rfl rfl rfl (by simp only [go_sem,simprocAttr,gB,hv,hi,au,aq,gy]) rfl ?_|refine aa hX hC hP (cq p.ord g.n ho) rfl rfl rfl (by simp only [go_sem,simprocAttr,gB,hv,hi,au,aq,gy]) rfl ?_);try simp only [go_sem,simprocAttr,gB,hv,hi,au,aq,gy])|((with_reducible refine oD ?_ ?_);kernel_rfl)|((with_reducible intro h);try simp only [go_sem,simprocAttr,gB,hv,hi,au,aq,gy] at h)|omega|intro h)
   have aq:decide ((g.es.length:Int)≤i)=false:=decide_eq_false h1
   obtain ⟨e,rfl⟩:∃e:Nat,i=e:=⟨i.toNat,by omega⟩
   have hel:e<g.es.length:=by omega
   by_cases h2:(g.es.getD e (0,0)).1=x
   rotate_left
   ·have hres:=iJ _ him (fun h=>h2 (by have:=(oz.1 h).2;rwa [Int.toNat_natCast] at this))
    subst hres
    have cx:decide ((g.es.getD e (0,0)).1=(x:Int))=false:=decide_eq_false h2
    repeat' (first|refine Rn.p ?_|(with_reducible apply And.intro)|((first|(refine hK _ ?_;clear hK K)|with_reducible intro K hK|refine Rs.p ?_|((with_reducible first|apply oP|apply oQ);exact rfl)|refine aa hX hC hP (aR g hl) rfl rfl rfl (by simp only [go_sem,simprocAttr,gB,hv,hi,au,aq,cx,gy]) rfl ?_|refine aa hX hC hP (cq p.ord g.n ho) rfl rfl rfl (by simp only [go_sem,simprocAttr,gB,hv,hi,au,aq,cx,gy]) rfl ?_);try simp only [go_sem,simprocAttr,gB,hv,hi,au,aq,cx,gy])|((with_reducible refine oD ?_ ?_);kernel_rfl)|((with_reducible intro h);try simp only [go_sem,simprocAttr,gB,hv,hi,au,aq,cx,gy] at h)|omega|intro h)
   have cx:decide ((g.es.getD e (0,0)).1=(x:Int))=true:=decide_eq_true h2
   have sR:=zT (fl:=fl++l.take k) hel
   by_cases h3:(e:Int)∈fl++l.take k
   ·have hres:=vQ (k+1) (fun h=>by
     rw [vR, ← List.append_assoc,List.nodup_append] at h
     exact h.2.2 _ h3 _ (List.mem_singleton.2 rfl) rfl)
    subst hres
    rw [if_pos h3] at sR
    repeat' (first|refine Rn.p ?_|(with_reducible apply And.intro)|((first|(refine hK _ ?_;clear hK K)|with_reducible intro K hK|refine Rs.p ?_|((with_reducible first|apply oP|apply oQ);exact rfl)|refine aa hX hC hP (aR g hl) rfl rfl rfl (by simp only [go_sem,simprocAttr,gB,hv,hi,au,aq,cx,gy,sR]) rfl ?_|refine aa hX hC hP (cq p.ord g.n ho) rfl rfl rfl (by simp only [go_sem,simprocAttr,gB,hv,hi,au,aq,cx,gy,sR]) rfl ?_);try simp only [go_sem,simprocAttr,gB,hv,hi,au,aq,cx,gy,sR])|((with_reducible refine oD ?_ ?_);kernel_rfl)|((with_reducible intro h);try simp only [go_sem,simprocAttr,gB,hv,hi,au,aq,cx,gy,sR] at h)|omega|intro h)
   ·rw [if_neg h3] at sR
    have cF:=Dw (fl:=fl++l.take k) hel
    rw [List.append_assoc, ← vR] at cF
    repeat' (first|refine Rn.p ?_|(with_reducible apply And.intro)|((first|(refine hK _ ?_;clear hK K)|with_reducible intro K hK|refine Rs.p ?_|((with_reducible first|apply oP|apply oQ);exact rfl)|refine aa hX hC hP (aR g hl) rfl rfl rfl (by simp only [go_sem,simprocAttr,gB,hv,hi,au,aq,cx,gy,sR]) rfl ?_|refine aa hX hC hP (cq p.ord g.n ho) rfl rfl rfl (by simp only [go_sem,simprocAttr,gB,hv,hi,au,aq,cx,gy,sR]) rfl ?_);try simp only [go_sem,simprocAttr,gB,hv,hi,au,aq,cx,gy,sR])|((with_reducible refine oD ?_ ?_);kernel_rfl)|((with_reducible intro h);try simp only [go_sem,simprocAttr,gB,hv,hi,au,aq,cx,gy,sR] at h)|omega|intro h)
    refine ⟨k+1,⟨by omega, ?_, ?_⟩, ?_,by omega⟩
    ·rw [vR, ← List.append_assoc,List.nodup_append]
     exact ⟨AB,by simp,fun a ha b hb h=>h3 (by rw [List.mem_singleton] at hb;rw [← hb, ← h];exact ha)⟩
    ·intro j hj
     rw [vR,List.mem_append,List.mem_singleton] at hj
     rcases hj with hj|rfl
     ·exact HE j hj
     ·exact oz.2 ⟨⟨by omega,by omega⟩,by rw [Int.toNat_natCast];exact h2⟩
    ·rw [← cF]
     refine Le.of ?_ ?_<;>simp [go_sem,simprocAttr,gB,hv,hi,au,aq,cx,gy,sR,rI]
  ·have gB:decide ((k:Int)<(l.length:Int))=false:=decide_eq_false (by omega)
   obtain rfl:k=l.length:=by omega
   rw [List.take_length] at AB HE
   repeat' (first|refine Rn.p ?_|(with_reducible apply And.intro)|((first|(refine hK _ ?_;clear hK K)|with_reducible intro K hK|refine Rs.p ?_|((with_reducible first|apply oP|apply oQ);exact rfl)|refine aa hX hC hP (aR g hl) rfl rfl rfl (by simp only [go_sem,simprocAttr,gB,hv]) rfl ?_|refine aa hX hC hP (cq p.ord g.n ho) rfl rfl rfl (by simp only [go_sem,simprocAttr,gB,hv]) rfl ?_);try simp only [go_sem,simprocAttr,gB,hv])|((with_reducible refine oD ?_ ?_);kernel_rfl)|((with_reducible intro h);try simp only [go_sem,simprocAttr,gB,hv] at h)|omega|intro h)
   refine ⟨x+1,⟨by omega,by rw [hnext];exact AB,CH HE⟩, ?_,by omega⟩
   rw [hnext]
   refine Le.of ?_ ?_<;>simp [go_sem,simprocAttr,gB,hv]
 have hb:decide ((x:Int)<(p.outs.length:Int))=false:=decide_eq_false (by omega)
 obtain rfl:x=p.outs.length:=by omega
 rw [List.take_length] at ck
 rw [List.take_length]
 have gy:=xI (m:=g.es.length) (fl:=p.outs.flatten)
 repeat' (first|refine Rn.p ?_|(with_reducible apply And.intro)|((first|(refine hK _ ?_;clear hK K)|with_reducible intro K hK|refine Rs.p ?_|((with_reducible first|apply oP|apply oQ);exact rfl)|refine aa hX hC hP (aR g hl) rfl rfl rfl (by simp only [go_sem,simprocAttr,hb]) rfl ?_|refine aa hX hC hP (cq p.ord g.n ho) rfl rfl rfl (by simp only [go_sem,simprocAttr,hb]) rfl ?_);try simp only [go_sem,simprocAttr,hb])|((with_reducible refine oD ?_ ?_);kernel_rfl)|((with_reducible intro h);try simp only [go_sem,simprocAttr,hb] at h)|omega|intro h)
 clear hb
 refine ag (fun k:Nat=>k≤g.es.length∧∀i:Nat,i<k→(i:Int)∈p.outs.flatten) (fun k=>⟨[(5, .ref 32),(9,eN k)], [(32, .own 3 1 ((nh g.es.length p.outs.flatten).map rI))]⟩) (fun k=>g.es.length - k) 0 (by simp) ?_ ?_
 ·refine Le.of ?_ ?_<;>simp [go_sem,simprocAttr]
 rintro k ⟨hk,HE⟩
 rcases Nat.lt_or_ge k g.es.length with bM|zj
 ·have gB:decide ((k:Int)<(g.es.length:Int))=true:=decide_eq_true (by omega)
  have sR:=zT (fl:=p.outs.flatten) bM
  by_cases h3:(k:Int)∈p.outs.flatten
  ·rw [if_pos h3] at sR
   repeat' (first|refine Rn.p ?_|(with_reducible apply And.intro)|((first|(refine hK _ ?_;clear hK K)|with_reducible intro K hK|refine Rs.p ?_|((with_reducible first|apply oP|apply oQ);exact rfl)|refine aa hX hC hP (aR g hl) rfl rfl rfl (by simp only [go_sem,simprocAttr,gB,gy,sR]) rfl ?_|refine aa hX hC hP (cq p.ord g.n ho) rfl rfl rfl (by simp only [go_sem,simprocAttr,gB,gy,sR]) rfl ?_);try simp only [go_sem,simprocAttr,gB,gy,sR])|((with_reducible refine oD ?_ ?_);kernel_rfl)|((with_reducible intro h);try simp only [go_sem,simprocAttr,gB,gy,sR] at h)|omega|intro h)
   refine ⟨k+1,⟨by omega,fun i hi=> ?_⟩, ?_,by omega⟩
   ·by_cases e:i=k
    ·subst e;exact h3
    ·exact HE i (by omega)
   ·(refine Le.of ?_ ?_<;>simp [go_sem,simprocAttr,gB,gy,sR])
  ·rw [if_neg h3] at sR
   have hres:res=false:=by
    rw [← Bool.not_eq_true,hr]
    rintro ⟨_,_,_,_,h5⟩
    exact h3 (h5 k bM)
   subst hres
   repeat' (first|refine Rn.p ?_|(with_reducible apply And.intro)|((first|(refine hK _ ?_;clear hK K)|with_reducible intro K hK|refine Rs.p ?_|((with_reducible first|apply oP|apply oQ);exact rfl)|refine aa hX hC hP (aR g hl) rfl rfl rfl (by simp only [go_sem,simprocAttr,gB,gy,sR]) rfl ?_|refine aa hX hC hP (cq p.ord g.n ho) rfl rfl rfl (by simp only [go_sem,simprocAttr,gB,gy,sR]) rfl ?_);try simp only [go_sem,simprocAttr,gB,gy,sR])|((with_reducible refine oD ?_ ?_);kernel_rfl)|((with_reducible intro h);try simp only [go_sem,simprocAttr,gB,gy,sR] at h)|omega|intro h)
 ·have gB:decide ((k:Int)<(g.es.length:Int))=false:=decide_eq_false (by omega)
  obtain rfl:k=g.es.length:=by omega
  have hres:res=true:=hr.2 ⟨p8,tB,qu,ck,HE⟩
  subst hres
  repeat' (first|refine Rn.p ?_|(with_reducible apply And.intro)|((first|(refine hK _ ?_;clear hK K)|with_reducible intro K hK|refine Rs.p ?_|((with_reducible first|apply oP|apply oQ);exact rfl)|refine aa hX hC hP (aR g hl) rfl rfl rfl (by simp only [go_sem,simprocAttr,gB,gy]) rfl ?_|refine aa hX hC hP (cq p.ord g.n ho) rfl rfl rfl (by simp only [go_sem,simprocAttr,gB,gy]) rfl ?_);try simp only [go_sem,simprocAttr,gB,gy])|((with_reducible refine oD ?_ ?_);kernel_rfl)|((with_reducible intro h);try simp only [go_sem,simprocAttr,gB,gy] at h)|omega|intro h)
end Go.Ab
end
section
namespace Go.Ab
open Go.Proofs
attribute [local congr] ACall.congr gd.congr Nx.congr
set_option maxRecDepth 10000
set_option maxHeartbeats 8000000
def bJ (b:Bool) (g:Gr) (p:Pl):(List (List It) × List It) × Int × Int:=
 if b=false then (([], []),(1,0)) else
 match iP g p g.n.toNat with
 |some i=>(([], []),(3,(i:Int)))
 |none=>((ee g p g.n.toNat,(fK g p g.n.toNat).row),(0,0))
theorem Dz {n:Nat} :List.replicate n [D.sl 3 []]=vT (List.replicate n []):=by simp [vT,sT]
theorem DA {ls:List (List It)} {k:Nat} {l:List It} :(vT ls).set k [sT l]=vT (ls.set k l):=by simp [vT,List.map_set]
theorem uc {g:Gr} {p:Pl} {k:Nat} :ee g p (k+1)=(ee g p k).set (ak p k).toNat (ff g p k):=rfl
theorem xK (g:Gr) (hl:g.es.length≤9223372036854775807) (p:Pl) (hp:qj p) (b:Bool) (hr:b=true↔(bF g).1=0∧bD g p):
 Spec Tryz.prog 86 (Args [eG g,ePl p]) [] (.tup [.d (.sl 1 (vT (bJ b g p).1.1)), .d (sT (bJ b g p).1.2),eN (bJ b g p).2.1,eN (bJ b g p).2.2]) []:=by
 have hO:=Dy g hl p hp b hr
 cases b with
 |false=>
  have hR:bJ false g p=(([], []),(1,0)):=rfl
  rw [hR]
  (refine Spec.hd (C:=T.cfg [] []) (rs:= [.t 4, .t 5, .t 6, .t 7]) (T.ai _ _) Tryz.func86 rfl rfl Tryz.ntmps86 Tryz.results86 (by simp [AObj.isNest]) (by simp [AObj.isNest]) (by kernel_rfl) T.mixed fun X hX hP hC aH bU=> ?_)
  repeat' (first|refine Rn.p ?_|(with_reducible apply And.intro)|((first|(refine hK _ ?_;clear hK K)|with_reducible intro K hK|refine Rs.p ?_|((with_reducible first|apply oP|apply oQ);exact rfl)|refine aa hX hC hP (hO) rfl rfl rfl (by simp only [go_sem,simprocAttr,vT,List.map_nil]) rfl ?_);try simp only [go_sem,simprocAttr,vT,List.map_nil])|((with_reducible refine oD ?_ ?_);kernel_rfl)|((with_reducible intro h);try simp only [go_sem,simprocAttr,vT,List.map_nil] at h)|omega|intro h)
 |true=>
 obtain ⟨hc,Bw⟩:=hr.1 rfl
 have hm:=aE hc
 have hn:=aT hm
 have hle:=cj Bw
 have hR:bJ true g p=match iP g p g.n.toNat with
  |some i=>(([], []),(3,(i:Int)))
  |none=>((ee g p g.n.toNat,(fK g p g.n.toNat).row),(0,0)):=rfl
 generalize bJ true g p=R at hR
 (refine Spec.hd (C:=T.cfg [] []) (rs:= [.t 4, .t 5, .t 6, .t 7]) (T.ai _ _) Tryz.func86 rfl rfl Tryz.ntmps86 Tryz.results86 (by simp [AObj.isNest]) (by simp [AObj.isNest]) (by kernel_rfl) T.mixed fun X hX hP hC aH bU=> ?_)
 repeat' (first|(show cl _ (.seq (.region 4 _ _) _) _ _;(refine nS 20 2 3 rfl rfl rfl ?_;simp only [List.set_cons_zero,List.set_cons_succ,go_sem,simprocAttr]);(refine nS 20 3 1 rfl rfl rfl ?_;simp only [List.set_cons_zero,List.set_cons_succ,go_sem,simprocAttr]))|refine Rn.p ?_|(with_reducible apply And.intro)|((first|(refine hK _ ?_;clear hK K)|with_reducible intro K hK|refine Rs.p ?_|((with_reducible first|apply oP|apply oQ);exact rfl)|refine aa hX hC hP (hO) rfl rfl rfl (by simp only [go_sem,simprocAttr]) rfl ?_);try simp only [go_sem,simprocAttr])|((with_reducible refine oD ?_ ?_);kernel_rfl)|((with_reducible intro h);try simp only [go_sem,simprocAttr] at h)|omega|intro h)
 rw [Dz]
 refine ag (fun k:Nat=>k≤g.n.toNat∧∀j,j<k→yR g p j=true) (fun k=>⟨[(2, .ptr 2 0),(3, .ptr 3 0),(8, .ptr 20 0),(9, .ref 23),(10,eN k)], [(23, .own 78 1 (vT (ee g p k))),(20, .box (jy g (fK g p k))),(3, .box [.d (sI p.ord), .d (.sl 1 (vI p.outs))]),(2, .box [eN g.n, .d (sE g.es)])]⟩) (fun k=>g.n.toNat - k) 0 (by simp) ?_ ?_
 ·refine Le.of ?_ ?_<;>simp [go_sem,simprocAttr,jy,fK,ee]
 rintro k ⟨hk,hok⟩
 obtain ⟨hi,_,hrl⟩:=dF hm Bw hk hok
 have hel:=lf (g:=g) (p:=p) (k:=k)
 rcases Nat.lt_or_ge k g.n.toNat with hlt|hge
 ·have hb:decide ((k:Int)<(p.ord.length:Int))=true:=decide_eq_true (by omega)
  have Ep:=aI Bw hlt
  have dI:=uc (g:=g) (p:=p) (k:=k)
  have Bx:fK g p (k+1)=(aA g (fK g p k) (ak p k) (bw p (ak p k))).2:=rfl
  have qu:ff g p k=(aA g (fK g p k) (ak p k) (bw p (ak p k))).1.1:=rfl
  have hpk:=xE Bw hlt
  have DB:=xF (g:=g) (p:=p) (k:=k)
  have hsk:yR g p k=false→R=(([], []),(3,(k:Int))):=fun h=>by
   rw [hR,ng.2 ⟨hlt,h,hok⟩]
  have hmul:k*(g.es.length+1)≤64*129:=Nat.mul_le_mul (by omega) (by omega)
  have mq:=j9 Bw Ep.1 Ep.2
  have kj:p.ord.getD k 0=ak p k:=rfl
  have DC:(fK g p k).pl.length≤64:=by
   rcases FZ hi.togK with h|h
   ·omega
   ·rw [h];simp
  obtain ⟨x,hx⟩:∃x:Nat,ak p k=x:=⟨(ak p k).toNat,by omega⟩
  rw [hx] at kj Bx qu hpk DB Ep mq dI
  have hxl:x<p.outs.length:=by have:=Bw.1;omega
  have hv:=iO hxl
  have hla:bw p (x:Int)=p.outs.getD x []:=by unfold bw;rw [Int.toNat_natCast]
  rw [hla] at Bx qu hpk DB mq
  rw [Int.toNat_natCast] at dI
  have kD:=xz g (by omega) (fK g p k) (x:Int) (p.outs.getD x []) (by omega) (by omega) (by omega)
  have cF:=DA (ls:=ee g p k) (k:=x) (l:=ff g p k)
  generalize p.outs.getD x []=o at hv Bx qu hpk DB kD
  rw [← dI] at cF
  generalize fK g p k=f at Bx qu hpk DB kD hi hrl DC
  cases vr:yR g p k with
  |false=>
   rw [DB vr] at kD
   have HF:=hsk vr
   subst HF
   repeat' (first|refine Rn.p ?_|(with_reducible apply And.intro)|((first|(refine hK _ ?_;clear hK K)|with_reducible intro K hK|refine Rs.p ?_|((with_reducible first|apply oP|apply oQ);exact rfl)|(refine az hX hC hP [(10000,20)] (kD) rfl rfl rfl ?_ ?_ ?_ ?_ ?_ ?_ ?_ ?_ ?_ ?_ ?_ ?_ ?_ ?_;(focus (simp only [go_sem,simprocAttr,hb,kj,hv,jy,vT,List.map_nil];done));(iterate 12 (focus (simp [go_sem,simprocAttr,hb,kj,hv,jy,vT,List.map_nil];done)));try simp only [List.map_cons,List.map_nil]));try simp only [go_sem,simprocAttr,hb,kj,hv,jy,vT,List.map_nil])|((with_reducible refine oD ?_ ?_);kernel_rfl)|((with_reducible intro h);try simp only [go_sem,simprocAttr,hb,kj,hv,jy,vT,List.map_nil] at h)|omega|intro h)
  |true=>
   rw [hpk vr] at kD
   have iQ:(aA g f (x:Int) o).1.2=0:=rfl
   rw [qu] at cF
   generalize aA g f (x:Int) o=su at Bx qu kD iQ cF
   have Jq:x<(ee g p k).length:=by omega
   generalize OX:ee g p k=E at cF Jq hel
   have hvl:(vT E).length=E.length:=vT_length
   have BQ:=fun d=>oo Jq d
   repeat' (first|refine Rn.p ?_|(with_reducible apply And.intro)|((first|(refine hK _ ?_;clear hK K)|with_reducible intro K hK|refine Rs.p ?_|((with_reducible first|apply oP|apply oQ);exact rfl)|(refine az hX hC hP [(10000,20)] (kD) rfl rfl rfl ?_ ?_ ?_ ?_ ?_ ?_ ?_ ?_ ?_ ?_ ?_ ?_ ?_ ?_;(focus (simp only [go_sem,simprocAttr,hb,kj,hv,jy,iQ,cF,BQ,List.drop_succ_cons,List.drop_zero];done));(iterate 12 (focus (simp [go_sem,simprocAttr,hb,kj,hv,jy,iQ,cF,BQ,List.drop_succ_cons,List.drop_zero];done)));try simp only [List.map_cons,List.map_nil]));try simp only [go_sem,simprocAttr,hb,kj,hv,jy,iQ,cF,BQ,List.drop_succ_cons,List.drop_zero])|((with_reducible refine oD ?_ ?_);kernel_rfl)|((with_reducible intro h);try simp only [go_sem,simprocAttr,hb,kj,hv,jy,iQ,cF,BQ,List.drop_succ_cons,List.drop_zero] at h)|omega|intro h)
   refine ⟨k+1,⟨by omega,fun j hj=> ?_⟩, ?_,by omega⟩
   ·by_cases e:j=k
    ·subst e;exact vr
    ·exact hok j (by omega)
   ·rw [Bx]
    have DD:(vT E).set x [D.sl 3 (List.map rT su.1.1)]=vT (ee g p (k+1)):=cF
    refine Le.of ?_ ?_<;>simp [go_sem,simprocAttr,hb,kj,hv,jy,iQ,cF,BQ,List.drop_succ_cons,List.drop_zero,DD]
 have hb:decide ((k:Int)<(p.ord.length:Int))=false:=decide_eq_false (by omega)
 obtain rfl:k=g.n.toNat:=by omega
 rw [eS.2 hok] at hR
 subst hR
 repeat' (first|refine Rn.p ?_|(with_reducible apply And.intro)|((first|(refine hK _ ?_;clear hK K)|with_reducible intro K hK|refine Rs.p ?_|((with_reducible first|apply oP|apply oQ);exact rfl));try simp only [go_sem,simprocAttr,hb,jy])|((with_reducible refine oD ?_ ?_);kernel_rfl)|((with_reducible intro h);try simp only [go_sem,simprocAttr,hb,jy] at h)|omega|intro h)
end Go.Ab
end
section
namespace Go.Ab
open Go.Proofs
attribute [local congr] ACall.congr gd.congr Nx.congr
set_option maxRecDepth 10000
set_option maxHeartbeats 8000000
theorem mA (g:Gr) (hl:g.es.length≤1000) (p:Pl) (hp:qj p) (b:Bool) (hr:b=true↔(bF g).1=0∧bD g p):
 Spec Tryz.prog 38 (Args [eG g,ePl p]) [] (.tup [.d (.sl 1 (vT (bJ b g p).1.1)), .d (sT (bJ b g p).1.2),eF ((bJ b g p).2.1,(bJ b g p).2.2, [])]) []:=by
 by_cases hc:(bF g).1=0
 rotate_left
 ·obtain rfl:b=false:=by
   rw [← Bool.not_eq_true,hr]
   exact fun h=>hc h.1
  have hR:bJ false g p=(([], []),(1,0)):=rfl
  rw [hR]
  (refine Spec.hd (C:=T.cfg [] []) (rs:= [.t 4, .t 5, .c 6 64]) (T.ai _ _) Tryz.func38 rfl rfl Tryz.ntmps38 Tryz.results38 (by simp [AObj.isNest]) (by simp [AObj.isNest]) (by kernel_rfl) T.mixed fun X hX hP hC aH bU=> ?_)
  repeat' (first|refine Rn.p ?_|(with_reducible apply And.intro)|((first|(refine hK _ ?_;clear hK K)|with_reducible intro K hK|refine Rs.p ?_|((with_reducible first|apply oP|apply oQ);exact rfl)|refine aa hX hC hP (Bg g hl hc) rfl rfl rfl (by simp only [go_sem,simprocAttr,vT,List.map_nil]) rfl ?_);try simp only [go_sem,simprocAttr,vT,List.map_nil])|((with_reducible refine oD ?_ ?_);kernel_rfl)|((with_reducible intro h);try simp only [go_sem,simprocAttr,vT,List.map_nil] at h)|omega|intro h)
 have hm:=aE hc
 have hn:=aT hm
 have hr:b=true↔bD g p:=by rw [hr];exact ⟨fun h=>h.2,fun h=>⟨hc,h⟩⟩
 have hO:=Dv g hm p hp b hr
 cases b with
 |false=>
  have hR:bJ false g p=(([], []),(1,0)):=rfl
  rw [hR]
  (refine Spec.hd (C:=T.cfg [] []) (rs:= [.t 4, .t 5, .c 6 64]) (T.ai _ _) Tryz.func38 rfl rfl Tryz.ntmps38 Tryz.results38 (by simp [AObj.isNest]) (by simp [AObj.isNest]) (by kernel_rfl) T.mixed fun X hX hP hC aH bU=> ?_)
  repeat' (first|refine Rn.p ?_|(with_reducible apply And.intro)|((first|(refine hK _ ?_;clear hK K)|with_reducible intro K hK|refine Rs.p ?_|((with_reducible first|apply oP|apply oQ);exact rfl)|(refine rR hX hC hP [(10000,13)] (tW g hl hc hm) rfl rfl rfl ?_ ?_ ?_ ?_ ?_ ?_ ?_ ?_ ?_ ?_ ?_ ?_ ?_ ?_;(focus (simp only [go_sem,simprocAttr,vT,List.map_nil];done));(iterate 12 (focus (simp [go_sem,simprocAttr,vT,List.map_nil];done)));try simp only [List.map_cons,List.map_nil])|refine aa hX hC hP (fC g hm) rfl rfl rfl (by simp only [go_sem,simprocAttr,vT,List.map_nil]) rfl ?_|refine aa hX hC hP (hO) rfl rfl rfl (by simp only [go_sem,simprocAttr,vT,List.map_nil]) rfl ?_);try simp only [go_sem,simprocAttr,vT,List.map_nil])|((with_reducible refine oD ?_ ?_);kernel_rfl)|((with_reducible intro h);try simp only [go_sem,simprocAttr,vT,List.map_nil] at h)|omega|intro h)
 |true=>
 have Bw:=hr.1 rfl
 have hle:=cj Bw
 have hR:bJ true g p=match iP g p g.n.toNat with
  |some i=>(([], []),(3,(i:Int)))
  |none=>((ee g p g.n.toNat,(fK g p g.n.toNat).row),(0,0)):=rfl
 generalize bJ true g p=R at hR
 (refine Spec.hd (C:=T.cfg [] []) (rs:= [.t 4, .t 5, .c 6 64]) (T.ai _ _) Tryz.func38 rfl rfl Tryz.ntmps38 Tryz.results38 (by simp [AObj.isNest]) (by simp [AObj.isNest]) (by kernel_rfl) T.mixed fun X hX hP hC aH bU=> ?_)
 repeat' (first|(show cl _ (.seq (.region 5 _ _) _) _ _;(refine nS 13 0 3 rfl rfl rfl ?_;simp only [List.set_cons_zero,List.set_cons_succ,go_sem,simprocAttr]);(refine kQ hX 13 2 100 (.tip 3 1 []) rfl rfl rfl (by simp only [go_sem,simprocAttr]) (by decide) (by simp [go_sem,simprocAttr]) ⟨3,1,by decide, .inr rfl⟩ ?_;simp only [List.set_cons_zero,List.set_cons_succ,go_sem,simprocAttr]))|refine Rn.p ?_|(with_reducible apply And.intro)|((first|(refine hK _ ?_;clear hK K)|with_reducible intro K hK|refine Rs.p ?_|((with_reducible first|apply oP|apply oQ);exact rfl)|(refine rR hX hC hP [(10000,13)] (tW g hl hc hm) rfl rfl rfl ?_ ?_ ?_ ?_ ?_ ?_ ?_ ?_ ?_ ?_ ?_ ?_ ?_ ?_;(focus (simp only [go_sem,simprocAttr];done));(iterate 12 (focus (simp [go_sem,simprocAttr];done)));try simp only [List.map_cons,List.map_nil])|refine aa hX hC hP (fC g hm) rfl rfl rfl (by simp only [go_sem,simprocAttr]) rfl ?_|refine aa hX hC hP (hO) rfl rfl rfl (by simp only [go_sem,simprocAttr]) rfl ?_);try simp only [go_sem,simprocAttr])|((with_reducible refine oD ?_ ?_);kernel_rfl)|((with_reducible intro h);try simp only [go_sem,simprocAttr] at h)|omega|intro h)
 rw [Dz]
 refine ag (fun k:Nat=>k≤g.n.toNat∧∀j,j<k→yR g p j=true) (fun k=>⟨[(3, .ptr 3 0),(4, .ref 28),(6, .ptr 6 0),(7, .ptr 13 0),(30, .d (sI p.ord)),(31,eN p.ord.length),(32,eN k)], [(28, .own 78 1 (vT (ee g p k))),(13, .box [.d (sT (fK g p k).row), .d (vw g), .ref 100]),(100, .tip 3 1 ((fK g p k).pl.map rI)),(6, .box [eN 0,eN 0, .nil 3]),(3, .box [.d (sI p.ord), .d (.sl 1 (vI p.outs))])]⟩) (fun k=>g.n.toNat - k) 0 (by simp) ?_ ?_
 ·refine Le.of ?_ ?_<;>simp [go_sem,simprocAttr,jy,fK,ee]
 rintro k ⟨hk,hok⟩
 obtain ⟨hi,_,hrl⟩:=dF hm Bw hk hok
 have hel:=lf (g:=g) (p:=p) (k:=k)
 have hmul:k*(g.es.length+1)≤64*129:=Nat.mul_le_mul (by omega) (by omega)
 rcases Nat.lt_or_ge k g.n.toNat with hlt|hge
 ·have hb:decide ((k:Int)<(p.ord.length:Int))=true:=decide_eq_true (by omega)
  have Ep:=aI Bw hlt
  have dI:=uc (g:=g) (p:=p) (k:=k)
  have Bx:fK g p (k+1)=(aA g (fK g p k) (ak p k) (bw p (ak p k))).2:=rfl
  have qu:ff g p k=(aA g (fK g p k) (ak p k) (bw p (ak p k))).1.1:=rfl
  have hpk:=xE Bw hlt
  have DB:=xF (g:=g) (p:=p) (k:=k)
  have hsk:yR g p k=false→R=(([], []),(3,(k:Int))):=fun h=>by
   rw [hR,ng.2 ⟨hlt,h,hok⟩]
  have mq:=j9 Bw Ep.1 Ep.2
  have kj:p.ord.getD k 0=ak p k:=rfl
  have DC:(fK g p k).pl.length≤64:=by
   rcases FZ hi.togK with h|h
   ·omega
   ·rw [h];simp
  obtain ⟨x,hx⟩:∃x:Nat,ak p k=x:=⟨(ak p k).toNat,by omega⟩
  rw [hx] at kj Bx qu hpk DB Ep mq dI
  have hxl:x<p.outs.length:=by have:=Bw.1;omega
  have hv:=iO hxl
  have hla:bw p (x:Int)=p.outs.getD x []:=by unfold bw;rw [Int.toNat_natCast]
  rw [hla] at Bx qu hpk DB mq
  rw [Int.toNat_natCast] at dI
  have kD:=xH g hm (fK g p k) hi (x:Int) (p.outs.getD x []) (by omega) (by omega) (by omega)
  have cF:=DA (ls:=ee g p k) (k:=x) (l:=ff g p k)
  generalize p.outs.getD x []=o at hv Bx qu hpk DB kD
  rw [← dI] at cF
  generalize fK g p k=f at Bx qu hpk DB kD hi hrl DC
  have Jq:x<(ee g p k).length:=by omega
  have hvl:(vT (ee g p k)).length=(ee g p k).length:=vT_length
  cases vr:yR g p k with
  |false=>
   rw [DB vr] at kD
   simp only at kD
   have HF:=hsk vr
   subst HF
   repeat' (first|refine Rn.p ?_|(with_reducible apply And.intro)|((first|(refine hK _ ?_;clear hK K)|with_reducible intro K hK|refine Rs.p ?_|((with_reducible first|apply oP|apply oQ);exact rfl)|(refine az hX hC hP [(10000,13),(10001,100),(10002,101)] (kD) rfl rfl rfl ?_ ?_ ?_ ?_ ?_ ?_ ?_ ?_ ?_ ?_ ?_ ?_ ?_ ?_;(focus (simp only [go_sem,simprocAttr,hb,kj,hv,mz,yO,List.map_nil];done));(iterate 12 (focus (simp [go_sem,simprocAttr,hb,kj,hv,mz,yO,List.map_nil];done)));try simp only [List.map_cons,List.map_nil]));try simp only [go_sem,simprocAttr,hb,kj,hv,mz,yO,List.map_nil])|((with_reducible refine oD ?_ ?_);kernel_rfl)|((with_reducible intro h);try simp only [go_sem,simprocAttr,hb,kj,hv,mz,yO,List.map_nil] at h)|omega|intro h)
   all_goals rfl
  |true=>
   rw [hpk vr] at kD
   have iQ:(aA g f (x:Int) o).1.2=0:=rfl
   rw [qu] at cF
   generalize aA g f (x:Int) o=su at Bx qu kD iQ cF
   generalize OX:ee g p k=E at cF Jq hel hvl
   have BQ:=fun d=>oo Jq d
   repeat' (first|(show cl _ (.region 11 _ _) _ _;(refine dW hX 13 2 101 100 rfl rfl rfl (by first|exact .inl rfl|exact .inr rfl) (by decide) (by decide) ?_;simp only [List.set_cons_zero,List.set_cons_succ,go_sem,simprocAttr,hb,kj,hv,mz,yO,iQ,cF,BQ,List.drop_succ_cons,List.drop_zero]))|refine Rn.p ?_|(with_reducible apply And.intro)|((first|(refine hK _ ?_;clear hK K)|with_reducible intro K hK|refine Rs.p ?_|((with_reducible first|apply oP|apply oQ);exact rfl)|(refine az hX hC hP [(10000,13),(10001,100),(10002,101)] (kD) rfl rfl rfl ?_ ?_ ?_ ?_ ?_ ?_ ?_ ?_ ?_ ?_ ?_ ?_ ?_ ?_;(focus (simp only [go_sem,simprocAttr,hb,kj,hv,mz,yO,iQ,cF,BQ,List.drop_succ_cons,List.drop_zero];done));(iterate 12 (focus (simp [go_sem,simprocAttr,hb,kj,hv,mz,yO,iQ,cF,BQ,List.drop_succ_cons,List.drop_zero];done)));try simp only [List.map_cons,List.map_nil]));try simp only [go_sem,simprocAttr,hb,kj,hv,mz,yO,iQ,cF,BQ,List.drop_succ_cons,List.drop_zero])|((with_reducible refine oD ?_ ?_);kernel_rfl)|((with_reducible intro h);try simp only [go_sem,simprocAttr,hb,kj,hv,mz,yO,iQ,cF,BQ,List.drop_succ_cons,List.drop_zero] at h)|omega|intro h)
   refine ⟨k+1,⟨by omega,fun j hj=> ?_⟩, ?_,by omega⟩
   ·by_cases e:j=k
    ·subst e;exact vr
    ·exact hok j (by omega)
   ·rw [Bx]
    have DD:(vT E).set x [D.sl 3 (List.map rT su.1.1)]=vT (ee g p (k+1)):=cF
    refine Le.of ?_ ?_<;>simp [go_sem,simprocAttr,hb,kj,hv,mz,yO,iQ,cF,BQ,List.drop_succ_cons,List.drop_zero,DD]
 have hb:decide ((k:Int)<(p.ord.length:Int))=false:=decide_eq_false (by omega)
 obtain rfl:k=g.n.toNat:=by omega
 rw [eS.2 hok] at hR
 subst hR
 repeat' (first|refine Rn.p ?_|(with_reducible apply And.intro)|((first|(refine hK _ ?_;clear hK K)|with_reducible intro K hK|refine Rs.p ?_|((with_reducible first|apply oP|apply oQ);exact rfl)|(refine qc hX hC hP 60 (Be [vw g,sI (fK g p g.n.toNat).pl] (fK g p g.n.toNat).row (by omega)) rfl rfl rfl ?_ ?_ (by first|exact ⟨_,_,_,rfl,FW⟩|exact ⟨_,_,_,rfl,FX⟩|exact ⟨_,_,_,rfl,FY⟩) rfl (by decide) ?_;(iterate 2 (focus (simp only [go_sem,simprocAttr,hb];done)));simp only [go_sem,simprocAttr,hb]));try simp only [go_sem,simprocAttr,hb])|((with_reducible refine oD ?_ ?_);kernel_rfl)|((with_reducible intro h);try simp only [go_sem,simprocAttr,hb] at h)|omega|intro h)
end Go.Ab
end
section
namespace Go.Ab
open Go.Proofs
attribute [local congr] ACall.congr gd.congr Nx.congr
set_option maxRecDepth 10000
set_option maxHeartbeats 8000000
def P7 (n:Int) (es:List Edge) (ord:List Int) (O:List (List Int)):List (Nat × AObj):= [(10000, .box [eN n, .ref 10001, .ref 10002, .ref 10003]),(10001, .tip 56 2 (es.map rE)),(10002, .tip 3 1 (ord.map rI)),(10003, .own 25 1 (vI O))]
def P8 (n:Int) (es:List Edge) (ord:List Int) (O:List (List Int)):List (Nat × AObj):= [(10000, .box [eN n, .ref 10004, .ref 10002, .ref 10003]),(10004, .tip 56 2 (es.map rE)),(10002, .tip 3 1 (ord.map rI)),(10003, .own 25 1 (vI O))]
def OY (x:Int) (items:List It):List Edge:=(loose items).map fun v=>(v,x)
end Go.Ab
end
section
namespace Go.Ab
open Go.Proofs
attribute [local congr] ACall.congr gd.congr Nx.congr
set_option maxRecDepth 10000
set_option maxHeartbeats 16000000
def pz:Pl:=⟨[], []⟩
def OZ (b:Bool) (g:Gr) (p:Pl):Gr × Pl × Int:=
 if (bJ b g p).2.1≠0 then (gz,pz,1) else if 64<(Du g p).n∨128<(Du g p).es.length then (gz,pz,10) else (Du g p,Mc g p,0)
theorem pO {b:Bool} {g:Gr} {p:Pl} (hr:b=true↔(bF g).1=0∧bD g p) (h:(bJ b g p).2.1=0):cu g p∧bJ b g p=((ee g p g.n.toNat,lg g p),(0,0)):=by
 cases b with
 |false=>simp [bJ] at h
 |true=>
  have hR:bJ true g p=match iP g p g.n.toNat with
   |some i=>(([], []),(3,(i:Int)))
   |none=>((ee g p g.n.toNat,(fK g p g.n.toNat).row),(0,0)):=rfl
  cases hs:iP g p g.n.toNat with
  |some i=>rw [hR,hs] at h;simp at h
  |none=>
   obtain ⟨h1,h2⟩:=hr.1 rfl
   exact ⟨⟨h1,h2,eS.1 hs⟩,by rw [hR,hs];rfl⟩
end Go.Ab
end
section
namespace Go.Ab
open Go.Proofs
attribute [local congr] ACall.congr gd.congr Nx.congr
set_option maxRecDepth 10000
set_option maxHeartbeats 16000000
def O0 (p:Pl) (x:Gr) (k:Nat):List (List Int):=(List.range k).map fun v=>if 0<(p.outs.getD v []).length then p.outs.getD v [] else bu x (v:Int)
theorem yT {g:Gr} {p:Pl} (hr:cu g p):∀t∈lg g p,t.1<0:=by
 obtain ⟨hc,h,hok⟩:=hr
 have hm:=aE hc
 have hn:=aT hm
 obtain ⟨hi,gw,_⟩:=dF hm h (k:=g.n.toNat) (Nat.le_refl _) hok
 intro t ht
 refine Decidable.byContradiction fun h0=> ?_
 rcases hi.it t ht with ⟨h1,_⟩|⟨h1,h2,_,h4⟩
 ·omega
 ·have Ni:=(ej hm (k:=t.1.toNat) (by omega)).2
  rw [← h4] at Ni
  refine hi.head t ht h1 (jF hi.togK ?_ Ni)
  rw [gw,List.length_take,cj h];omega
end Go.Ab
end
section
namespace Go.Ab
open Go.Proofs
attribute [local congr] ACall.congr gd.congr Nx.congr
set_option maxRecDepth 10000
set_option maxHeartbeats 8000000
def pP (g:Gr) (p:Pl):Bool:=decide (200<g.es.length)||decide (100<p.ord.length)||decide (100<p.outs.length)||p.outs.any fun l=>decide (200<l.length)
theorem qK {g:Gr} {p:Pl} (h:pP g p=false):g.es.length≤200∧p.ord.length≤100∧p.outs.length≤100∧∀l∈p.outs,l.length≤200:=by
 simp only [pP,Bool.or_eq_false_iff,decide_eq_false_iff_not,List.any_eq_false,decide_eq_true_eq] at h
 obtain ⟨⟨⟨h1,h2⟩,h3⟩,h4⟩:=h
 exact ⟨by omega,by omega,by omega,fun l hl=>by have:=h4 l hl;omega⟩
theorem sS {g:Gr} {p:Pl} (h:pP g p=false):qj p:=by
 obtain ⟨_,h1,h2,h3⟩:=qK h
 exact ⟨by omega,by omega,fun l hl=>by have:=h3 l hl;omega⟩
structure zU (p:Pl):Prop where
 ord:p.ord.length≤9223372036854775807
 outs:p.outs.length≤9223372036854775807
 each:∀l∈p.outs,l.length≤9223372036854775807
theorem vt (g:Gr) (p:Pl) (hl:g.es.length≤9223372036854775807) (hp:zU p):Spec Tryz.prog 19 (Args [eG g,ePl p]) [] (eB (pP g p)) []:=by
 have ho:=hp.ord
 have hu:=hp.outs
 (refine Spec.hd (C:=T.cfg [] []) (rs:= [.t 4]) (T.ai _ _) Tryz.func19 rfl rfl Tryz.ntmps19 Tryz.results19 (by simp [AObj.isNest]) (by simp [AObj.isNest]) (by kernel_rfl) T.mixed fun X hX hP hC aH bU=> ?_)
 generalize hB:pP g p=B
 by_cases h1:200<g.es.length
 ·have au:decide (200<(g.es.length:Int))=true:=decide_eq_true (by omega)
  have:B=true:=by rw [← hB,pP,decide_eq_true h1];rfl
  subst this
  repeat' (first|refine Rn.p ?_|(with_reducible apply And.intro)|((first|(refine hK _ ?_;clear hK K)|with_reducible intro K hK|refine Rs.p ?_|((with_reducible first|apply oP|apply oQ);exact rfl));try simp only [go_sem,simprocAttr,au])|((with_reducible refine oD ?_ ?_);kernel_rfl)|((with_reducible intro h);try simp only [go_sem,simprocAttr,au] at h)|omega|intro h)
 have au:decide (200<(g.es.length:Int))=false:=decide_eq_false (by omega)
 by_cases h2:100<p.ord.length
 ·have aq:decide (100<(p.ord.length:Int))=true:=decide_eq_true (by omega)
  have:B=true:=by rw [← hB,pP,decide_eq_true h2];simp
  subst this
  repeat' (first|refine Rn.p ?_|(with_reducible apply And.intro)|((first|(refine hK _ ?_;clear hK K)|with_reducible intro K hK|refine Rs.p ?_|((with_reducible first|apply oP|apply oQ);exact rfl));try simp only [go_sem,simprocAttr,au,aq])|((with_reducible refine oD ?_ ?_);kernel_rfl)|((with_reducible intro h);try simp only [go_sem,simprocAttr,au,aq] at h)|omega|intro h)
 have aq:decide (100<(p.ord.length:Int))=false:=decide_eq_false (by omega)
 by_cases h3:100<p.outs.length
 ·have cx:decide (100<(p.outs.length:Int))=true:=decide_eq_true (by omega)
  have:B=true:=by rw [← hB,pP,decide_eq_true h3];simp
  subst this
  repeat' (first|refine Rn.p ?_|(with_reducible apply And.intro)|((first|(refine hK _ ?_;clear hK K)|with_reducible intro K hK|refine Rs.p ?_|((with_reducible first|apply oP|apply oQ);exact rfl));try simp only [go_sem,simprocAttr,au,aq,cx])|((with_reducible refine oD ?_ ?_);kernel_rfl)|((with_reducible intro h);try simp only [go_sem,simprocAttr,au,aq,cx] at h)|omega|intro h)
 have cx:decide (100<(p.outs.length:Int))=false:=decide_eq_false (by omega)
 have yK:B=p.outs.any fun l=>decide (200<l.length):=by rw [← hB,pP,decide_eq_false h1,decide_eq_false h2,decide_eq_false h3];simp
 clear hB
 repeat' (first|refine Rn.p ?_|(with_reducible apply And.intro)|((first|(refine hK _ ?_;clear hK K)|with_reducible intro K hK|refine Rs.p ?_|((with_reducible first|apply oP|apply oQ);exact rfl));try simp only [go_sem,simprocAttr,au,aq,cx])|((with_reducible refine oD ?_ ?_);kernel_rfl)|((with_reducible intro h);try simp only [go_sem,simprocAttr,au,aq,cx] at h)|omega|intro h)
 refine ag (fun k:Nat=>k≤p.outs.length∧∀j,j<k→(p.outs.getD j []).length≤200) (fun k=>⟨[(24, .d (.sl 1 (vI p.outs))),(25,eN p.outs.length),(26,eN k)], []⟩) (fun k=>p.outs.length - k) 0 (by simp) ?_ ?_
 ·(refine Le.of ?_ ?_<;>simp [go_sem,simprocAttr])
 rintro k ⟨hk,hg⟩
 rcases Nat.lt_or_ge k p.outs.length with bM|zj
 ·have hb:decide ((k:Int)<(p.outs.length:Int))=true:=decide_eq_true (by omega)
  have hv:=iO bM
  have hm:=aG (d:= []) bM
  have mq:=hp.each _ hm
  by_cases h4:200<(p.outs.getD k []).length
  ·have hb4:decide (200<((p.outs.getD k []).length:Int))=true:=decide_eq_true (by omega)
   have:B=true:=by rw [yK,List.any_eq_true];exact ⟨_,hm,decide_eq_true h4⟩
   subst this
   repeat' (first|refine Rn.p ?_|(with_reducible apply And.intro)|((first|(refine hK _ ?_;clear hK K)|with_reducible intro K hK|refine Rs.p ?_|((with_reducible first|apply oP|apply oQ);exact rfl));try simp only [go_sem,simprocAttr,hb,hv,hb4])|((with_reducible refine oD ?_ ?_);kernel_rfl)|((with_reducible intro h);try simp only [go_sem,simprocAttr,hb,hv,hb4] at h)|omega|intro h)
  ·have hb4:decide (200<((p.outs.getD k []).length:Int))=false:=decide_eq_false (by omega)
   repeat' (first|refine Rn.p ?_|(with_reducible apply And.intro)|((first|(refine hK _ ?_;clear hK K)|with_reducible intro K hK|refine Rs.p ?_|((with_reducible first|apply oP|apply oQ);exact rfl));try simp only [go_sem,simprocAttr,hb,hv,hb4])|((with_reducible refine oD ?_ ?_);kernel_rfl)|((with_reducible intro h);try simp only [go_sem,simprocAttr,hb,hv,hb4] at h)|omega|intro h)
   refine ⟨k+1,⟨by omega,fun j hj=> ?_⟩, ?_,by omega⟩
   ·by_cases e:j=k
    ·subst e;omega
    ·exact hg j (by omega)
   ·(refine Le.of ?_ ?_<;>simp [go_sem,simprocAttr,hb,hv,hb4])
 ·have hb:decide ((k:Int)<(p.outs.length:Int))=false:=decide_eq_false (by omega)
  have:B=false:=by
   rw [yK,List.any_eq_false]
   intro l hl
   obtain ⟨j,hj,rfl⟩:=List.mem_iff_getElem.1 hl
   have:=hg j (by omega)
   rw [List.getD_eq_getElem?_getD,List.getElem?_eq_getElem hj,Option.getD_some] at this
   simp;omega
  subst this
  repeat' (first|refine Rn.p ?_|(with_reducible apply And.intro)|((first|(refine hK _ ?_;clear hK K)|with_reducible intro K hK|refine Rs.p ?_|((with_reducible first|apply oP|apply oQ);exact rfl));try simp only [go_sem,simprocAttr,hb])|((with_reducible refine oD ?_ ?_);kernel_rfl)|((with_reducible intro h);try simp only [go_sem,simprocAttr,hb] at h)|omega|intro h)
def ku (g:Gr):Bool:=decide ((bF g).1=0)&&decide ((aV (·.1) g).length=1)
theorem sV (g:Gr) (hl:g.es.length≤1000):Spec Tryz.prog 39 (Args [eG g]) [] (eB (ku g)) []:=by
 by_cases hc:(bF g).1=0
 ·have hm:=aE hc
  have au:decide ((bF g).1=0)=true:=decide_eq_true hc
  have hI:ku g=decide (((aV (·.1) g).length:Int)=1):=by
   unfold ku;rw [au,Bool.true_and,decide_eq_decide];omega
  rw [hI]
  generalize kA:aV (·.1) g=bl
  have hS:=rY g hm
  rw [kA] at hS
  (refine Spec.hd (C:=T.cfg [] []) (rs:= [.t 2]) (T.ai _ _) Tryz.func39 rfl rfl Tryz.ntmps39 Tryz.results39 (by simp [AObj.isNest]) (by simp [AObj.isNest]) (by kernel_rfl) T.mixed fun X hX hP hC aH bU=> ?_)
  repeat' (first|refine Rn.p ?_|(with_reducible apply And.intro)|((first|(refine hK _ ?_;clear hK K)|with_reducible intro K hK|refine Rs.p ?_|((with_reducible first|apply oP|apply oQ);exact rfl)|refine aa hX hC hP (ir g hl) rfl rfl rfl (by simp only [go_sem,simprocAttr,au]) rfl ?_|refine aa hX hC hP (fC g hm) rfl rfl rfl (by simp only [go_sem,simprocAttr,au]) rfl ?_|refine aa hX hC hP (hS) rfl rfl rfl (by simp only [go_sem,simprocAttr,au]) rfl ?_);try simp only [go_sem,simprocAttr,au])|((with_reducible refine oD ?_ ?_);kernel_rfl)|((with_reducible intro h);try simp only [go_sem,simprocAttr,au] at h)|omega|intro h)
 ·have au:decide ((bF g).1=0)=false:=decide_eq_false hc
  have hI:ku g=false:=by unfold ku;rw [au];rfl
  rw [hI]
  (refine Spec.hd (C:=T.cfg [] []) (rs:= [.t 2]) (T.ai _ _) Tryz.func39 rfl rfl Tryz.ntmps39 Tryz.results39 (by simp [AObj.isNest]) (by simp [AObj.isNest]) (by kernel_rfl) T.mixed fun X hX hP hC aH bU=> ?_)
  repeat' (first|refine Rn.p ?_|(with_reducible apply And.intro)|((first|(refine hK _ ?_;clear hK K)|with_reducible intro K hK|refine Rs.p ?_|((with_reducible first|apply oP|apply oQ);exact rfl)|refine aa hX hC hP (ir g hl) rfl rfl rfl (by simp only [go_sem,simprocAttr,au]) rfl ?_);try simp only [go_sem,simprocAttr,au])|((with_reducible refine oD ?_ ?_);kernel_rfl)|((with_reducible intro h);try simp only [go_sem,simprocAttr,au] at h)|omega|intro h)
theorem yU (g:Gr) (hl:g.es.length≤1000):Spec Tryz.prog 36 (Args [eG g]) [] (eB (ku g)) []:=by
 by_cases hc:(bF g).1=0
 ·have hm:=aE hc
  have hn:=aT hm
  have au:decide ((bF g).1=0)=true:=decide_eq_true hc
  have hI:ku g=decide (((aV (·.1) g).length:Int)=1):=by
   unfold ku;rw [au,Bool.true_and,decide_eq_decide];omega
  rw [hI]
  have hS:=bP g false hl (by omega)
  rw [show iY (!false)=(·.1) from rfl] at hS
  generalize aV (·.1) g=bl at hS
  (refine Spec.hd (C:=T.cfg [] []) (rs:= [.t 2]) (T.ai _ _) Tryz.func36 rfl rfl Tryz.ntmps36 Tryz.results36 (by simp [AObj.isNest]) (by simp [AObj.isNest]) (by kernel_rfl) T.mixed fun X hX hP hC aH bU=> ?_)
  repeat' (first|refine Rn.p ?_|(with_reducible apply And.intro)|((first|(refine hK _ ?_;clear hK K)|with_reducible intro K hK|refine Rs.p ?_|((with_reducible first|apply oP|apply oQ);exact rfl)|refine aa hX hC hP (aR g (by omega)) rfl rfl rfl (by simp only [go_sem,simprocAttr,au]) rfl ?_|refine aa hX hC hP (hS) rfl rfl rfl (by simp only [go_sem,simprocAttr,au]) rfl ?_);try simp only [go_sem,simprocAttr,au])|((with_reducible refine oD ?_ ?_);kernel_rfl)|((with_reducible intro h);try simp only [go_sem,simprocAttr,au] at h)|omega|intro h)
 ·have au:decide ((bF g).1=0)=false:=decide_eq_false hc
  have hI:ku g=false:=by unfold ku;rw [au];rfl
  rw [hI]
  (refine Spec.hd (C:=T.cfg [] []) (rs:= [.t 2]) (T.ai _ _) Tryz.func36 rfl rfl Tryz.ntmps36 Tryz.results36 (by simp [AObj.isNest]) (by simp [AObj.isNest]) (by kernel_rfl) T.mixed fun X hX hP hC aH bU=> ?_)
  repeat' (first|refine Rn.p ?_|(with_reducible apply And.intro)|((first|(refine hK _ ?_;clear hK K)|with_reducible intro K hK|refine Rs.p ?_|((with_reducible first|apply oP|apply oQ);exact rfl)|refine aa hX hC hP (aR g (by omega)) rfl rfl rfl (by simp only [go_sem,simprocAttr,au]) rfl ?_);try simp only [go_sem,simprocAttr,au])|((with_reducible refine oD ?_ ?_);kernel_rfl)|((with_reducible intro h);try simp only [go_sem,simprocAttr,au] at h)|omega|intro h)
end Go.Ab
end
section
namespace Go.Ab
open Go.Proofs
attribute [local congr] ACall.congr gd.congr Nx.congr
set_option maxRecDepth 10000
set_option maxHeartbeats 8000000
def P9:Gr:=⟨3, [(0,1),(0,2)]⟩
def Qa:Pl:=⟨[0,1,2], [[0,1], [], []]⟩
def Qb:Gr:=⟨4, [(0,1),(0,2),(1,3),(2,3)]⟩
def Qc:Pl:=⟨[0,1,2,3], [[0,1], [2], [3], []]⟩
end Go.Ab
end
section
namespace Go.Ab
def nm (names:List Int) (v:Int):Int:=names.getD v.toNat 0
structure iR (g:Gr) (names order:List Int):Prop where
 may:aN g=true
 G3:fE names g.n=true
 ord:fE order (g.es.length:Int)=true
section
variable {g:Gr} {names order:List Int} (h:iR g names order)
include h
theorem iR.len:(gC g names order).es.length=g.es.length:=by
 have:=(bY.1 h.ord).1
 simp only [gC,xm];omega
theorem iR.iW {i:Nat} (hi:i<g.es.length):∃j,j<g.es.length∧order.getD i 0=(j:Int)∧(gC g names order).es.getD i (0,0)=(nm names (tl g j),nm names (hd g j)):=by
 have wh:=(bY.1 h.ord).1
 have:=k6 h.ord _ (gu (l:=order) (m:=i) (by omega))
 refine ⟨(order.getD i 0).toNat,by omega,by omega, ?_⟩
 simp only [gC,E8,nm,tl,hd]
 rw [List.getD_eq_getElem?_getD,List.getElem?_map,List.getElem?_range (by omega)]
 rfl
theorem iR.back {j:Nat} (hj:j<g.es.length):∃i,i<g.es.length∧order.getD i 0=(j:Int)∧(gC g names order).es.getD i (0,0)=(nm names (tl g j),nm names (hd g j)):=by
 obtain ⟨wh,hall⟩:=bY.1 h.ord
 obtain ⟨i,hi,hil,he⟩:=di (hall (j:Int) (dS.2 (by omega)))
 obtain ⟨j',_,h2,h3⟩:=h.iW (i:=i) (by omega)
 have:j'=j:=by omega
 subst this
 exact ⟨i,by omega,he,h3⟩
theorem iR.inj {a b:Int} (ha:0≤a∧a<g.n) (hb:0≤b∧b<g.n) (e:nm names a=nm names b):a=b:=by
 have hnl:=(bY.1 h.G3).1
 have:=iu h.G3 (i:=a.toNat) (j:=b.toNat) (by omega) (by omega) e
 omega
theorem iR.range {a:Int} (ha:0≤a∧a<g.n):0≤nm names a∧nm names a<g.n:=by
 have hnl:=(bY.1 h.G3).1
 exact k6 h.G3 _ (gu (by omega))
theorem iR.inv {a:Int} (ha:0≤a∧a<g.n):dm names (nm names a)=a:=by
 have hnl:=(bY.1 h.G3).1
 obtain ⟨k,hk,bM,he⟩:=di (gu (l:=names) (m:=a.toNat) (by omega))
 have h2:=iu h.G3 bM (j:=a.toNat) (by omega) he
 have h3:dm names (nm names a)=k:=hk
 omega
theorem iR.of {v:Int} (hv:0≤v∧v<g.n):∃a,(0≤a∧a<g.n)∧nm names a=v:=by
 obtain ⟨hnl,hall⟩:=bY.1 h.G3
 obtain ⟨k,hk,bM,he⟩:=di (hall v (dS.2 (by omega)))
 exact ⟨k,by omega,he⟩
theorem iR.may':aN (gC g names order)=true:=by
 have hn:=aT h.may
 have hlen:=h.len
 have hall:(gC g names order).es.any (nT (gC g names order))=false:=by
  rw [List.any_eq_false]
  intro e he
  obtain ⟨i,hi,rfl⟩:=List.getElem_of_mem he
  obtain ⟨j,hj,_,h3⟩:=h.iW (i:=i) (by omega)
  rw [List.getD_eq_getElem?_getD,List.getElem?_eq_getElem hi,Option.getD_some] at h3
  rw [h3]
  have h4:=h.range (bL h.may hj)
  have h5:=h.range (bX h.may hj)
  have e1:(gC g names order).n=g.n:=rfl
  simp only [nT,tf,e1,Bool.or_eq_true,decide_eq_true_eq]
  omega
 have e1:(gC g names order).n=g.n:=rfl
 simp only [aN,hall,e1,Bool.not_false,Bool.and_true,Bool.and_eq_true,decide_eq_true_eq]
 omega
omit h in
theorem pQ {i j:Nat} (e:(gC g names order).es.getD i (0,0)=(nm names (tl g j),nm names (hd g j))):tl (gC g names order) i=nm names (tl g j)∧hd (gC g names order) i=nm names (hd g j):=⟨congrArg Prod.fst e,congrArg Prod.snd e⟩
theorem iR.loop:(0≤jv (gC g names order))↔0≤jv g:=by
 have key:∀g:Gr,(0≤jv g)↔∃i,i<g.es.length∧tl g i=hd g i:=by
  intro g
  have:=fS (fun e:Edge=>decide (e.1=e.2)) g.es
  rw [show (0≤jv g)↔g.es.any (fun e:Edge=>decide (e.1=e.2))=true from by rw [← this];simp [jv],List.any_eq_true]
  constructor
  ·rintro ⟨e,he,h2⟩
   obtain ⟨i,hi,rfl⟩:=List.getElem_of_mem he
   refine ⟨i,hi, ?_⟩
   simpa [tl,hd,List.getD_eq_getElem?_getD,List.getElem?_eq_getElem hi] using h2
  ·rintro ⟨i,hi,h2⟩
   refine ⟨_,List.getElem_mem hi, ?_⟩
   simpa [tl,hd,List.getD_eq_getElem?_getD,List.getElem?_eq_getElem hi] using h2
 rw [key,key,h.len]
 constructor
 ·rintro ⟨i,hi,e⟩
  obtain ⟨j,hj,_,h3⟩:=h.iW hi
  obtain ⟨e1,e2⟩:=pQ h3
  exact ⟨j,hj,h.inj (bL h.may hj) (bX h.may hj) (by rw [← e1, ← e2,e])⟩
 ·rintro ⟨j,hj,e⟩
  obtain ⟨i,hi,_,h3⟩:=h.back hj
  obtain ⟨e1,e2⟩:=pQ h3
  exact ⟨i,hi,by rw [e1,e2,e]⟩
omit h in
theorem ud (g:Gr):(0≤eP g)↔∃i k,i<g.es.length∧k<g.es.length∧i≠k∧g.es.getD i (0,0)=g.es.getD k (0,0):=by
 have:=fS (mR g) (List.range g.es.length)
 rw [show (0≤eP g)↔(List.range g.es.length).any (mR g)=true from by rw [← this];simp [eP],List.any_eq_true]
 constructor
 ·rintro ⟨i,hi,h2⟩
  have hil:=List.mem_range.1 hi
  have h3:=of_decide_eq_true h2
  rw [List.mem_iff_getElem?] at h3
  obtain ⟨k,hk⟩:=h3
  rw [List.getElem?_take] at hk
  split at hk
  ·rename_i hki
   exact ⟨i,k,hil,by omega,by omega,by rw [List.getD_eq_getElem?_getD (i:=k),hk];rfl⟩
  ·cases hk
 ·rintro ⟨i,k,hi,hk,hne,e⟩
  have main:∀i k,k<i→i<g.es.length→g.es.getD i (0,0)=g.es.getD k (0,0)→mR g i=true:=by
   intro i k hki hi e
   refine decide_eq_true ?_
   rw [e,List.mem_iff_getElem?]
   refine ⟨k, ?_⟩
   rw [List.getElem?_take,if_pos hki,List.getD_eq_getElem?_getD,List.getElem?_eq_getElem (by omega)];rfl
  rcases Nat.lt_or_gt_of_ne hne with hlt|hgt
  ·exact ⟨k,List.mem_range.2 hk,main k i hlt hk e.symm⟩
  ·exact ⟨i,List.mem_range.2 hi,main i k hgt hi e⟩
theorem iR.Jr:(0≤eP (gC g names order))↔0≤eP g:=by
 have wh:=(bY.1 h.ord).1
 rw [ud,ud,h.len]
 constructor
 ·rintro ⟨i,k,hi,hk,hne,e⟩
  obtain ⟨j,hj,ho,h3⟩:=h.iW hi
  obtain ⟨j',hj',ho',EH⟩:=h.iW hk
  refine ⟨j,j',hj,hj',fun e'=> ?_, ?_⟩
  ·subst e'
   exact hne (iu h.ord (by omega) (by omega) (by rw [ho,ho']))
  ·rw [h3,EH,Prod.mk.injEq] at e
   have e1:=h.inj (bL h.may hj) (bL h.may hj') e.1
   have e2:=h.inj (bX h.may hj) (bX h.may hj') e.2
   exact Prod.ext e1 e2
 ·rintro ⟨j,j',hj,hj',hne,e⟩
  obtain ⟨i,hi,ho,h3⟩:=h.back hj
  obtain ⟨k,hk,ho',EH⟩:=h.back hj'
  refine ⟨i,k,hi,hk,fun e'=> ?_, ?_⟩
  ·subst e';omega
  ·have e1:tl g j=tl g j':=congrArg Prod.fst e
   have e2:hd g j=hd g j':=congrArg Prod.snd e
   rw [h3,EH,e1,e2]
theorem iR.Md:mu (gC g names order)=mu g:=by
 rw [Bool.eq_iff_iff,qE h.may',qE h.may]
 constructor
 ·rintro ⟨r,hr⟩
  refine ⟨fun v=>r (nm names v),fun j hj=> ?_⟩
  obtain ⟨i,hi,_,h3⟩:=h.back hj
  obtain ⟨e1,e2⟩:=pQ h3
  have:=hr i (by rw [h.len];exact hi)
  rwa [e1,e2] at this
 ·rintro ⟨r,hr⟩
  refine ⟨fun v=>r (dm names v),fun i hi=> ?_⟩
  rw [h.len] at hi
  obtain ⟨j,hj,_,h3⟩:=h.iW hi
  obtain ⟨e1,e2⟩:=pQ h3
  have:=hr j hj
  rw [e1,e2];simp only;rw [h.inv (bL h.may hj),h.inv (bX h.may hj)]
  exact this
omit h in
theorem dU {g:Gr} {y:Int} :y∈aV (·.2) g↔(0≤y∧y<g.n)∧∀i,i<g.es.length→hd g i≠y:=by
 simp only [aV,ic,List.mem_map,List.mem_filter,List.mem_range,decide_eq_true_eq]
 have he:∀x:Nat,x<g.n.toNat→(((cZ (·.2) g).getD x []).length=0↔∀i,i<g.es.length→hd g i≠(x:Int)):=by
  intro x hx
  have e:(cZ (·.2) g).getD x []=aL (·.2) g.es g.es.length (x:Int):=by
   simp [cZ,List.getD_eq_getElem?_getD,List.getElem?_range hx,kX]
  rw [e,List.length_eq_zero_iff]
  simp only [aL,List.map_eq_nil_iff,List.filter_eq_nil_iff,List.mem_range,decide_eq_true_eq]
  rfl
 constructor
 ·rintro ⟨x,⟨hx,h0⟩,rfl⟩
  refine ⟨by simp;omega,(he x hx).1 h0⟩
 ·rintro ⟨⟨h1,h2⟩,h3⟩
  have e:((y.toNat:Nat):Int)=y:=by omega
  exact ⟨y.toNat,⟨by omega,(he _ (by omega)).2 (by rw [e];exact h3)⟩,e⟩
omit h in
theorem ni {f:Edge→Int} {g:Gr} :(aV f g).Nodup:=by
 unfold aV ic
 refine List.Pairwise.map _ (fun a b h e=>h (Int.ofNat.inj e)) (List.Pairwise.filter _ List.nodup_range)
theorem iR.bare:(aV (·.2) (gC g names order)).length=(aV (·.2) g).length:=by
 have e1:(gC g names order).n=g.n:=rfl
 have h1:((aV (·.2) g).map (nm names)).length≤(aV (·.2) (gC g names order)).length:=by
  refine Nat.le_trans (count_le _ (aV (·.2) (gC g names order)) ?_ ?_) List.countP_le_length
  ·rw [List.nodup_iff_pairwise_ne]
   refine List.Pairwise.map _ (fun a b h=>h) ?_
   refine List.Pairwise.imp_of_mem ?_ ni
   intro a b ha hb hab e
   exact hab (h.inj (dU.1 ha).1 (dU.1 hb).1 e)
  ·intro v hv
   obtain ⟨y,hy,rfl⟩:=List.mem_map.1 hv
   obtain ⟨hy1,hy2⟩:=dU.1 hy
   refine dU.2 ⟨h.range hy1,fun i hi e=> ?_⟩
   rw [h.len] at hi
   obtain ⟨j,hj,_,h3⟩:=h.iW hi
   rw [(pQ h3).2] at e
   exact hy2 j hj (h.inj (bX h.may hj) hy1 e)
 have h2:((aV (·.2) (gC g names order)).map (dm names)).length≤(aV (·.2) g).length:=by
  have hsplit:∀v∈aV (·.2) (gC g names order),∃a,(0≤a∧a<g.n)∧nm names a=v:=fun v hv=>h.of (dU.1 hv).1
  refine Nat.le_trans (count_le _ (aV (·.2) g) ?_ ?_) List.countP_le_length
  ·rw [List.nodup_iff_pairwise_ne]
   refine List.Pairwise.map _ (fun a b h=>h) ?_
   refine List.Pairwise.imp_of_mem ?_ ni
   intro a b ha hb hab e
   obtain ⟨a',Ct,rfl⟩:=hsplit a ha
   obtain ⟨b',hb',rfl⟩:=hsplit b hb
   rw [h.inv Ct,h.inv hb'] at e
   exact hab (by rw [e])
  ·intro v hv
   obtain ⟨y,hy,rfl⟩:=List.mem_map.1 hv
   obtain ⟨a,ha,rfl⟩:=hsplit y hy
   rw [h.inv ha]
   refine dU.2 ⟨ha,fun j hj e=> ?_⟩
   obtain ⟨i,hi,_,h3⟩:=h.back hj
   refine (dU.1 hy).2 i (by rw [h.len];exact hi) ?_
   rw [(pQ h3).2,e]
 simp only [List.length_map] at h1 h2
 omega
theorem iR.kind:(bF (gC g names order)).1=(bF g).1:=by
 have hm:=h.may'
 have hc:(0<(jt (gC g names order)).length)↔0<(jt g).length:=by
  have key:∀g:Gr,aN g=true→((0<(jt g).length)↔mu g=false):=by
   intro g hm
   cases ho:mu g with
   |true=>rw [zH hm ho];simp
   |false=>simp [(sx hm ho).1]
  rw [key _ hm,key _ h.may,h.Md]
 have h1:=h.loop
 have h2:=h.Jr
 have h3:=h.bare
 simp only [bF,gr,hm,h.may]
 simp only [Bool.true_eq_false,if_false,h1,h2,hc,h3]
 split
 ·rfl
 split
 ·rfl
 split
 ·rfl
 split<;>rfl
end
theorem By {g:Gr} (hm:aN g=true):
 (bF g).1=13∧(bF g).2.2= []∧mu g=false∨(bF g).1=14∧(bF g).2.2= []∨(bF g).1=15∧mu g=false∧Je g (bF g).2.2∨
 (bF g).1=16∧mu g=true∧(∀a∈(bF g).2.2,∀i,i<g.es.length→hd g i≠a)∨(bF g).1=0∧(bF g).2.2= []∧mu g=true:=by
 unfold bF gr
 rw [if_neg (by simp [hm])]
 split
 ·rename_i hl
  refine .inl ⟨rfl,rfl, ?_⟩
  cases ho:mu g with
  |false=>rfl
  |true=>
   exfalso
   obtain ⟨r,hr⟩:=(qE hm).1 ho
   have:=fS (fun e:Edge=>decide (e.1=e.2)) g.es
   have h2:g.es.any (fun e:Edge=>decide (e.1=e.2))=true:=by rw [← this];exact decide_eq_true hl
   obtain ⟨e,he,h3⟩:=List.any_eq_true.1 h2
   obtain ⟨i,hi,rfl⟩:=List.getElem_of_mem he
   have h4:=hr i hi
   have h5:tl g i=hd g i:=by simpa [tl,hd,List.getD_eq_getElem?_getD,List.getElem?_eq_getElem hi] using h3
   rw [h5] at h4;omega
 split
 ·exact .inr (.inl ⟨rfl,rfl⟩)
 split
 ·rename_i hc
  refine .inr (.inr (.inl ⟨rfl, ?_⟩))
  cases ho:mu g with
  |false=>exact ⟨rfl,(sx hm ho).2⟩
  |true=>rw [zH hm ho] at hc;simp at hc
 rename_i hc
 have ho:mu g=true:=by
  cases ho:mu g with
  |true=>rfl
  |false=>exact absurd (sx hm ho).1 hc
 split
 ·refine .inr (.inr (.inr (.inl ⟨rfl,ho,fun a ha=> ?_⟩)))
  exact (dU.1 (List.mem_of_mem_take ha)).2
 ·exact .inr (.inr (.inr (.inr ⟨rfl,rfl,ho⟩)))
end Go.Ab
end
section
namespace Go.Ab
open Go.Proofs
set_option maxRecDepth 10000
def Nj:Nat→List Edge→Int→Option (Int × Int)
 |_, [],_=>none
 |m,e::N,v=>if e.1=v then some ((m:Int),e.2) else Nj (m+1) N v
def Qd (m:Nat) (N:List Edge) (t:It):It:=if 0≤t.1 then t else match Nj m N t.2.1 with
 |some (i,h)=>(i,t.2.1,h)
 |none=>t
structure Nk (g:Gr) (p:Pl):Prop where
 run:cu g p
 n:(Du g p).n≤64
 es:(Du g p).es.length≤128
variable {g:Gr} {p:Pl}
end Go.Ab
end
section
namespace Go.Ab
open Go.Proofs
set_option maxRecDepth 10000
variable {g:Gr} {p:Pl}
theorem zV {p:Pl} {k:Nat} {v:Int} (hk:k≤p.ord.length) (h:v∈p.ord.take k):∃j,j<k∧ak p j=v:=by
 obtain ⟨j,hj,e⟩:=List.mem_iff_getElem.1 h
 simp only [List.length_take] at hj
 refine ⟨j,by omega, ?_⟩
 rw [← e,ak,List.getD_eq_getElem?_getD,List.getElem?_eq_getElem (by omega)]
 simp
end Go.Ab
end
section
namespace Go.Ab
open Go.Proofs
set_option maxRecDepth 10000
variable {g:Gr} {p:Pl}
theorem pR (hr:cu g p):bw p (ak p (g.n.toNat - 1))= []∧ak p (g.n.toNat - 1)∈loose (lg g p):=by
 have hm:=aE hr.1
 have hn:=aT hm
 obtain ⟨k,hk⟩:∃k,g.n.toNat=k+1:=⟨g.n.toNat - 1,by omega⟩
 obtain ⟨hi,_,_⟩:=dF hm hr.2.1 (k:=k) (by omega) fun j hj=>hr.2.2 j (by omega)
 obtain ⟨A,X,C,hrw,_,_,_,hs⟩:=iA hm hi.togK (hr.2.2 k (by omega))
 have hL:lg g p=A++aM g (ak p k) (bw p (ak p k))++C:=by
  unfold lg;rw [hk]
  show (aA _ _ _ _).2.row=_
  rw [hs]
 have Aq:g.n.toNat - 1=k:=by omega
 rw [Aq]
 have mq:=yT hr
 have hx:=aI hr.2.1 (k:=k) (by omega)
 have h0:bw p (ak p k)= []:=by
  refine Decidable.byContradiction fun h0=> ?_
  have ha:aM g (ak p k) (bw p (ak p k))=(bw p (ak p k)).map (fF g (ak p k)):=if_neg h0
  obtain ⟨i,hi'⟩:=List.exists_mem_of_ne_nil _ h0
  have h1:=mq (fF g (ak p k) i) (by rw [hL,ha];simp;exact .inr (.inl ⟨i,hi',rfl⟩))
  obtain ⟨e,rfl,_⟩:=jC ((bQ hr.2.1 hx.1 hx.2).mem_iff.1 hi')
  simp [fF] at h1
  omega
 refine ⟨h0, ?_⟩
 have ha:aM g (ak p k) (bw p (ak p k))= [(-1,ak p k, -1)]:=if_pos h0
 rw [hL,ha,ua,ua]
 simp [loose]
theorem fY {f:Edge→Int} {g:Gr} {y:Int} :y∈aV f g↔(0≤y∧y<g.n)∧aL f g.es g.es.length y= []:=by
 simp only [aV,ic,List.mem_map,List.mem_filter,List.mem_range,decide_eq_true_eq]
 have he:∀x:Nat,x<g.n.toNat→(((cZ f g).getD x []).length=0↔aL f g.es g.es.length (x:Int)= []):=by
  intro x hx
  have e:(cZ f g).getD x []=aL f g.es g.es.length (x:Int):=by
   simp [cZ,List.getD_eq_getElem?_getD,List.getElem?_range hx,kX]
  rw [e,List.length_eq_zero_iff]
 constructor
 ·rintro ⟨x,⟨hx,h0⟩,rfl⟩
  exact ⟨by simp;omega,(he x hx).1 h0⟩
 ·rintro ⟨⟨h1,h2⟩,h3⟩
  have e:((y.toNat:Nat):Int)=y:=by omega
  exact ⟨y.toNat,⟨by omega,(he _ (by omega)).2 (by rw [e];exact h3)⟩,e⟩
end Go.Ab
end
section
namespace Go.Ab
open Go.Proofs
set_option maxRecDepth 10000
def jc (l:List It):List It:=l.filter fun t=>decide (0≤t.1)
theorem lT {a b:List It} :jc (a++b)=jc a++jc b:=by simp [jc]
theorem iS {l:List It} {t:It} :t∈jc l↔t∈l∧0≤t.1:=by simp [jc]
theorem qL {x:Int} {l:List It} (h:fM x l):fM x (jc l):=fun t ht=>h t (iS.1 ht).1
def vu (x:Int) (l:List It):Prop:=∀t∈l,t.2.2=x
theorem lU {g:Gr} {x:Int} {o:List Int} (ho:∀i∈o,0≤i):jc (aM g x o)=o.map (fF g x):=by
 unfold aM
 split
 ·rename_i h;subst h;rfl
 ·refine List.filter_eq_self.2 fun t ht=> ?_
  obtain ⟨i,hi,rfl⟩:=List.mem_map.1 ht
  exact decide_eq_true (ho i hi)
theorem ue {x:Int} :∀ {X Y c d:List It},vu x X→vu x Y→fM x c→fM x d→X++c=Y++d→X=Y∧c=d
 | [], [],c,d,_,_,_,_,e=>⟨rfl,e⟩
 | [],u::Y,c,d,_,hY,hc,_,e=>by
   simp only [List.nil_append] at e
   exact absurd (hY u (by simp)) (hc u (by rw [e];simp))
 |t::X, [],c,d,hX,_,_,hd,e=>by
  simp only [List.nil_append] at e
  exact absurd (hX t (by simp)) (hd t (by rw [← e];simp))
 |t::X,u::Y,c,d,hX,hY,hc,hd,e=>by
  simp only [List.cons_append,List.cons.injEq] at e
  obtain ⟨e1,e2⟩:=ue (fun s hs=>hX s (by simp [hs])) (fun s hs=>hY s (by simp [hs])) hc hd e.2
  exact ⟨by rw [e.1,e1],e2⟩
theorem xL {x:Int} :∀ {a b X Y c d:List It},fM x a→fM x b→vu x X→vu x Y→fM x c→fM x d→X≠ []→Y≠ []→a++X++c=b++Y++d→a=b∧X=Y∧c=d
 |t::a, [],X,u::Y,c,d,ha,_,_,hY,_,_,_,_,e=>by
  simp only [List.cons_append,List.nil_append,List.cons.injEq] at e
  exact absurd (by rw [e.1];exact hY u (by simp)) (ha t (by simp))
 | [],t::b,u::X,Y,c,d,_,hb,hX,_,_,_,_,_,e=>by
   simp only [List.cons_append,List.nil_append,List.cons.injEq] at e
   exact absurd (by rw [← e.1];exact hX u (by simp)) (hb t (by simp))
 |t::a,u::b,X,Y,c,d,ha,hb,hX,hY,hc,hd,nX,nY,e=>by
  simp only [List.cons_append,List.cons.injEq] at e
  obtain ⟨e1,e2,e3⟩:=xL (fun s hs=>ha s (by simp [hs])) (fun s hs=>hb s (by simp [hs])) hX hY hc hd nX nY e.2
  exact ⟨by rw [e.1,e1],e2,e3⟩
 | [], [],X,Y,c,d,_,_,hX,hY,hc,hd,_,_,e=>by
   refine ⟨rfl, ?_⟩
   simp only [List.nil_append] at e
   exact ue hX hY hc hd e
 | [],_::_, [],_,_,_,_,_,_,_,_,_,h,_,_=>absurd rfl h
 |_::_, [],_, [],_,_,_,_,_,_,_,_,_,h,_=>absurd rfl h
theorem DE {g:Gr} (hm:aN g=true) {f:Fr} (hi:gK g f) {x:Int} (hR:aD g f x=true) (hn:bB g x≠0):
 ∃a X c,jc f.row=a++X++c∧fM x a∧fM x c∧vu x X∧X.length=bB g x∧∀o,jc (aA g f x o).2.row=a++jc (aM g x o)++c:=by
 obtain ⟨A,X,C,hr,hA,hC,hX,cX⟩:=cU hm hi hR hn
 have hx:=(aU hR).1
 have hmem:∀t∈X,t∈f.row:=fun t ht=>by rw [hr];simp [ht]
 have hiff:∀t∈X,(0≤t.1↔t.2.2=x):=fun t ht=>by
  have h1:=(hi.it t (hmem t ht)).head hm
  have h2:=hX.al t ht
  omega
 refine ⟨jc A,jc X,jc C,by rw [hr,lT,lT],qL hA,qL hC,fun t ht=> ?_, ?_,fun o=> ?_⟩
 ·obtain ⟨h1,h2⟩:=iS.1 ht
  exact (hiff t h1).1 h2
 ·rw [← cX,jc, ← List.countP_eq_length_filter]
  refine List.countP_congr fun t ht=> ?_
  simp only [kG,decide_eq_true_eq]
  exact hiff t ht
 ·rw [j8 o hr hA hC hX]
  simp only [lT]
theorem Fk {g:Gr} (hm:aN g=true) {f:Fr} (hi:gK g f) {x:Int} (hR:aD g f x=true) (hn:bB g x≠0) {a X c:List It} (e:jc f.row=a++X++c) (ha:fM x a) (hc:fM x c) (hX:vu x X) (nX:X≠ []) (o:List Int):
 jc (aA g f x o).2.row=a++jc (aM g x o)++c:=by
 obtain ⟨b,Y,d,e',hb,hd,hY,lY,hs⟩:=DE hm hi hR hn
 have nY:Y≠ []:=fun h=>hn (by rw [← lY,h];rfl)
 obtain ⟨e1,_,e3⟩:=xL hb ha hY hX hd hc nY nX (e'.symm.trans e)
 rw [hs o,e1,e3]
theorem DF {g:Gr} (hm:aN g=true) {f:Fr} (hi:gK g f) {x:Int} (h0:0≤x) (h1:x<g.n) (hp:x∉f.pl) {a X c:List It} (e:jc f.row=a++X++c) (ha:fM x a) (hc:fM x c) (hX:vu x X) (nX:X≠ []) (hl:X.length=bB g x):aD g f x=true:=by
 have hmem:∀j,j<f.row.length→Bi g (f.row.getD j (0,0,0)):=fun j hj=>hi.it _ (aG hj)
 have AG:f.row.countP (kG x)=X.length:=by
  have h2:f.row.countP (kG x)=(jc f.row).countP (kG x):=by
   rw [jc,List.countP_filter]
   refine List.countP_congr fun t ht=> ?_
   have:=(hi.it t ht).head hm
   simp only [kG,Bool.and_eq_true,decide_eq_true_eq]
   omega
  have c1:a.countP (kG x)=0:=List.countP_eq_zero.2 fun t ht=>by simp [kG,ha t ht]
  have c2:c.countP (kG x)=0:=List.countP_eq_zero.2 fun t ht=>by simp [kG,hc t ht]
  have c3:X.countP (kG x)=X.length:=List.countP_eq_length.2 fun t ht=>by simp [kG,hX t ht]
  rw [h2,e,List.countP_append,List.countP_append,c1,c2,c3]
  omega
 rw [← ou hm hi,fW,if_neg (by rintro (h|h|h);omega;omega;exact hp h),fe h0 h1,Bool.and_eq_true,decide_eq_true_eq]
 have hN:(aL (fun e=>e.2) g.es g.es.length x).length=bB g x:=rfl
 rw [hN]
 refine ⟨?_, ?_⟩
 ·unfold aY
  rw [jA,j7 (Nat.le_refl _),List.take_length,AG,hl]
 ·rw [Bool.or_eq_true];right
  rcases cQ (row:=f.row) (x:=x) f.row.length with ⟨hs,hno⟩|⟨p,q,n,hs,hab,kA,hc0,gy,hpx,Me,hlo,hhi⟩
  ·have hs':aY f.row x=(-1,0,0):=hs
   rw [hs'];simp [qh]
  ·have hs':aY f.row x=((p:Int),(q:Int),(n:Int)):=hs
   rw [hs']
   simp only [Int.toNat_natCast,qh,Bool.not_eq_true']
   rw [← Bool.not_eq_true,tX kA]
   rintro ⟨j,h2,h3,h4⟩
   simp only [j5,Bool.and_eq_true,decide_eq_true_eq] at h4
   have hja:p<j:=by
    refine Nat.lt_of_le_of_ne h2 fun e=> ?_
    subst e;exact h4.1 hpx
   have hjb:j<q - 1:=by
    refine Nat.lt_of_le_of_ne (by omega) fun e=> ?_
    subst e;exact h4.1 Me
   have hsub:=((sP (i:=j+1) (j:=q - 1) (sP (i:=p+1) (j:=j) (sP (i:=0) (j:=p) (List.nil_sublist _) (by omega) (by omega)) (by omega) (by omega)) (by omega) (by omega)).trans (List.take_sublist _ f.row)).filter fun t=>decide (0≤t.1)
   have hp1:=(hmem p (by omega)).head hm
   have Js:=(hmem j (by omega)).head hm
   have hq1:=(hmem (q - 1) (by omega)).head hm
   generalize f.row.getD p (0,0,0)=s1 at hsub hp1 hpx
   generalize f.row.getD j (0,0,0)=s2 at hsub Js h4
   generalize f.row.getD (q - 1) (0,0,0)=s3 at hsub hq1 Me
   have hf:([]++ [s1]++ [s2]++ [s3]).filter (fun t=>decide (0≤t.1))= [s1,s2,s3]:=List.filter_eq_self.2 fun t ht=>by
    simp only [List.nil_append,List.cons_append,List.mem_cons,List.not_mem_nil,or_false] at ht
    rcases ht with rfl|rfl|rfl
    ·exact decide_eq_true (hp1.1.2 (by omega))
    ·exact decide_eq_true (Js.1.2 h4.2)
    ·exact decide_eq_true (hq1.1.2 (by omega))
   rw [hf] at hsub
   have hsub: [s1,s2,s3].Sublist (a++(X++c)):=by rw [← List.append_assoc, ← e];exact hsub
   rw [List.sublist_append_iff] at hsub
   obtain ⟨l1,l',el,k1,k'⟩:=hsub
   rw [List.sublist_append_iff] at k'
   obtain ⟨l2,l3,rfl,k2,k3⟩:=k'
   match l1,el,k1 with
   |t::l1,el,k1=>
    simp only [List.cons_append,List.cons.injEq] at el
    exact ha t (k1.subset (by simp)) (by rw [← el.1];exact hpx)
   | [],el,_=>
     match l2,el,k2 with
     | [],el,_=>
       simp only [List.nil_append] at el
       exact hc s1 (k3.subset (by rw [← el];simp)) hpx
     | [t],el,_=>
       simp only [List.nil_append,List.cons_append,List.cons.injEq] at el
       exact hc s3 (k3.subset (by rw [← el.2];simp)) Me
     |t::u::l2,el,k2=>
      simp only [List.nil_append,List.cons_append,List.cons.injEq] at el
      exact h4.1 (by rw [el.2.1];exact hX u (k2.subset (by simp)))
end Go.Ab
end
section
namespace Go.Ab
open Go.Proofs
set_option maxRecDepth 10000
def Jt (gone:List Int) (i:Nat):Bool:= !decide ((i:Int)∈gone)
def Hq (gone:List Int) (k:Nat):List Nat:=(List.range k).filter (Jt gone)
def O1 (gone:List Int) (k:Nat):Nat:=(Hq gone k).length
def Mf (gone:List Int) (es:List Edge) (k:Nat):List Edge:=(Hq gone k).map fun i=>es.getD i (0,0)
def O2 (g:Gr) (gone:List Int):Gr:=⟨g.n,Mf gone g.es g.es.length⟩
def Nl (gone:List Int) (i:Int):Int:=if i∈gone then -1 else (O1 gone i.toNat:Int)
def Mg (gone:List Int) (l:List Int):List Int:=(l.filter fun i=>decide (i∉gone)).map (Nl gone)
def O3 (p:Pl) (gone:List Int):Pl:=⟨p.ord,p.outs.map (Mg gone)⟩
variable {g:Gr} {p:Pl} {gone:List Int}
def O4 (gone:List Int) (t:It):It:=(Nl gone t.1,t.2.1,t.2.2)
def O5 (gone:List Int) (l:List It):List It:=(l.filter fun t=>decide (t.1∉gone)).map (O4 gone)
theorem fZ (hr:cu g p):bB g (ak p 0)=0:=by
 have hm:=aE hr.1
 have hn:=aT hm
 refine Decidable.byContradiction fun hnz=> ?_
 obtain ⟨A,X,C,hrw,_,_,hX,_⟩:=cU hm (zN g).togK (hr.2.2 0 (by omega)) hnz
 obtain ⟨q,X0,e1,_⟩:=hX.fst
 rw [e1] at hrw
 simp at hrw
end Go.Ab
end
section
namespace Go.Ab
open Go.Proofs
set_option maxRecDepth 10000
theorem vv {g:Gr} (hm:aN g=true) {f:Fr} (hi:gK g f) {x:Int} (hR:aD g f x=true) (hn:bB g x≠0) (o:List Int):
 ∃a c,jc f.row=a++jc (aA g f x o).1.1++c∧fM x a∧fM x c∧vu x (jc (aA g f x o).1.1)∧(jc (aA g f x o).1.1).length=bB g x∧jc (aA g f x o).2.row=a++jc (aM g x o)++c:=by
 obtain ⟨A,X,C,hr,hA,hC,hX,hc⟩:=cU hm hi hR hn
 have hx:=(aU hR).1
 have hmem:∀t∈X,t∈f.row:=fun t ht=>by rw [hr];simp [ht]
 have hiff:∀t∈X,(0≤t.1↔t.2.2=x):=fun t ht=>by
  have h1:=(hi.it t (hmem t ht)).head hm
  have h2:=hX.al t ht
  constructor
  ·intro h;rcases h2 with h2|h2
   ·exact h2
   ·exact absurd h2 (h1.1.1 h)
  ·intro h;exact h1.1.2 (by omega)
 rw [j8 o hr hA hC hX]
 refine ⟨jc A,jc C,by rw [hr,lT,lT],qL hA,qL hC,fun t ht=> ?_, ?_,by simp only [lT]⟩
 ·obtain ⟨h1,h2⟩:=iS.1 ht
  exact (hiff t h1).1 h2
 ·rw [← hc,jc, ← List.countP_eq_length_filter]
  refine List.countP_congr fun t ht=> ?_
  simp only [kG,decide_eq_true_eq]
  exact hiff t ht
def cw (g:Gr) (p:Pl) (x:Int):List Int:=(jc ((ee g p g.n.toNat).getD x.toNat [])).map (·.1)
def oI (g:Gr) (p:Pl) (f:Fr) (x:Int):List Int:=(jc (aA g f x (bw p x)).1.1).map (·.1)
def qk (g:Gr) (p:Pl):Nat→Fr→Prop
 |0,f=>(f.pl.length:Int)=g.n
 |m+1,f=>∃x,aD g f x=true∧oI g p f x=cw g p x∧qk g p m (tZ g p f x)
theorem sW {g:Gr} {p:Pl} :∀ {m:Nat} {f f':Fr},f.row=f'.row→f.pl.Perm f'.pl→qk g p m f→qk g p m f'
 |0,f,f',_,hp,h=>by
  have h:(f.pl.length:Int)=g.n:=h
  show (f'.pl.length:Int)=g.n
  rw [← hp.length_eq];exact h
 |m+1,f,f',hr,hp,⟨x,h1,h3,h2⟩=>by
  refine ⟨x,by rw [← xD hr hp];exact h1, ?_,sW ?_ ?_ h2⟩
  ·simp only [oI,aA,hr] at h3 ⊢;exact h3
  ·simp only [tZ,aA,hr]
  ·exact hp.append_right _
theorem uf {g:Gr} (hc:(bF g).1=0) {p:Pl} (hp:bD g p):∀ {m:Nat} {f:Fr},xA g f→(f.pl.length:Int)+(m+1:Nat)=g.n→qk g p (m+1) f→∀ {x:Int},aD g f x=true→oI g p f x=cw g p x∧qk g p m (tZ g p f x)
 |m,f,hi,hl,⟨y,tY,Kb,hcan⟩,x,hR=>by
  have hm:=aE hc
  by_cases hxy:x=y
  ·subst hxy;exact ⟨Kb,hcan⟩
  have py:=bQ hp (aU tY).1 (aU tY).2.1
  have px:=bQ hp (aU hR).1 (aU hR).2.1
  have i2:=jE hm hi tY py
  match m,hl,hcan with
  |0,hl,hcan=>
   exfalso
   have h1:=jF i2.togK (by show ((f.pl++ [y]).length:Int)=g.n;simp;omega) (x:=x) ⟨(aU hR).1,(aU hR).2.1⟩
   have h2:x∈f.pl++ [y]:=h1
   simp [(aU hR).2.2,hxy] at h2
  |m+1,hl,hcan=>
   obtain ⟨h4,h5,h6,h7,h8⟩:=Bq hc hi hxy hR tY px py
   obtain ⟨h9,h3⟩:=uf hc hp i2 (by show (((f.pl++ [y]).length:Nat):Int)+_=_;simp;omega) hcan h5
   refine ⟨?_,y,h4, ?_,sW h6.symm ?_ h3⟩
   ·unfold oI at h9 ⊢;rw [h7];exact h9
   ·unfold oI at Kb ⊢;rw [h8] at Kb;exact Kb
   show (f.pl++ [y]++ [x]).Perm (f.pl++ [x]++ [y])
   rw [List.append_assoc,List.append_assoc]
   exact List.Perm.append_left _ (List.Perm.swap ..)
theorem ug {g:Gr} {p:Pl} (h:cu g p):∀ {d k:Nat},k+d=g.n.toNat→qk g p d (fK g p k)
 |0,k,hk=>by
  have hn:=aT (aE h.1)
  obtain ⟨_,gw,_⟩:=dF (aE h.1) h.2.1 (k:=k) (by omega) fun j hj=>h.2.2 j (by omega)
  show ((fK g p k).pl.length:Int)=g.n
  rw [gw,List.length_take,cj h.2.1];omega
 |d+1,k,hk=>⟨ak p k,h.2.2 k (by omega),by
   unfold cw
   rw [ox h.2.1 (Nat.le_refl _) (show k<g.n.toNat by omega)]
   rfl,ug h (k:=k+1) (by omega)⟩
theorem zW {g:Gr} (hc:(bF g).1=0) {p:Pl} (hp:bD g p):∀ {m:Nat} {f:Fr},xA g f→qk g p m f→∀ {i:Nat},i<g.es.length→tl g i∈f.pl→hd g i∉f.pl→∃t∈f.row,t.1=(i:Int)
 |0,f,hi,h,i,hil,_,hh=>by
  have hr:=bX (aE hc) hil
  exact absurd (jF hi.togK h (x:=hd g i) hr) hh
 |m+1,f,hi,⟨x,hR,_,h⟩,i,hil,ht,hh=>by
  have hm:=aE hc
  have px:=bQ hp (aU hR).1 (aU hR).2.1
  by_cases hx:hd g i=x
  ·obtain ⟨t,h1,h2,_⟩:=vq hm hi hR hil hx
   exact ⟨t,h1,h2⟩
  ·obtain ⟨t,h1,h2⟩:=zW hc hp (jE hm hi hR px) h hil (List.mem_append.2 (.inl ht)) (fun h1=>by
    rcases List.mem_append.1 h1 with h1|h1
    ·exact hh h1
    ·exact hx (by simpa using h1))
   obtain ⟨A,X,C,hr,_,_,_,hs⟩:=iA hm hi.togK hR
   rw [hs] at h1
   simp only [List.mem_append] at h1
   rcases h1 with (h1|h1)|h1
   ·exact ⟨t,by rw [hr];simp [h1],h2⟩
   ·rcases jD (fun i hi=>px.mem_iff.1 hi) h1 with ⟨h3,_⟩|⟨k,h3,h4,h5,_,h6,_⟩
    ·omega
    ·have:k=i:=by omega
     subst this
     exact absurd (h6 ▸ ht) (aU hR).2.2
   ·exact ⟨t,by rw [hr];simp [h1],h2⟩
def lp (g:Gr) (e:Int):Int:=(g.es.getD e.toNat (0,0)).1
def DG (g:Gr) (e:Int):Int:=(g.es.getD e.toNat (0,0)).2
def oU (g:Gr) (x:Int):Prop:=0≤x∧x<g.n
instance {g:Gr} {x:Int} :Decidable (oU g x):=inferInstanceAs (Decidable (0≤x∧x<g.n))
def lu (g:Gr) (p:Pl) (k:Nat) (W D:List Int):Prop:=∃f,xA g f∧f.pl=D∧W=(jc f.row).map (·.1)∧qk g p k f∧(D.length:Int)+k=g.n∧ak p 0∈D
def DH (g:Gr) (p:Pl) (x:Int):Nat:=((xk g.n.toNat p.ord p.ord.length).getD x.toNat 0).toNat
def eu (g:Gr) (p:Pl):PS:=
 {m:=g.es.length,src:=ak p 0,GR:=ak p (g.n.toNat - 1),tl:=lp g,hd:=DG g,ins:=fun x=>if oU g x then cw g p x else [],outs:=fun x=>if oU g x then bw p x else [],En:=DH g p,Row:=lu g p,k0:=g.n.toNat - 1}
theorem gD {g:Gr} {p:Pl} {x:Int} (h:oU g x):(eu g p).ins x=cw g p x:=if_pos h
theorem lV {g:Gr} {p:Pl} {x:Int} (h:¬oU g x):(eu g p).ins x= []:=if_neg h
theorem gl {g:Gr} {p:Pl} {x:Int} (h:oU g x):(eu g p).outs x=bw p x:=if_pos h
theorem oJ {g:Gr} {p:Pl} {x:Int} (h:¬oU g x):(eu g p).outs x= []:=if_neg h
theorem bR {f:Edge→Int} {es:List Edge} {x e:Int} :e∈aL f es es.length x↔(0≤e∧e<es.length)∧f (es.getD e.toNat (0,0))=x:=by
 refine ⟨fX,fun ⟨h1,h2⟩=> ?_⟩
 simp only [aL,List.mem_map,List.mem_filter,List.mem_range,decide_eq_true_eq]
 exact ⟨e.toNat,⟨by omega,h2⟩,by simp;omega⟩
section
variable {g:Gr} {p:Pl}
theorem zX (hm:aN g=true) (hp:bD g p) {k:Nat} (hk:k<g.n.toNat):DH g p (ak p k)=k:=by
 have hE:=((zR hm).2 hp).1
 have:=ve hE (p:=k) (k:=p.ord.length) (by rw [cj hp];exact hk) (Nat.le_refl _)
 unfold DH
 show ((xk _ _ _).getD (p.ord.getD k 0).toNat 0).toNat=k
 rw [this];simp
theorem sX (h:cu g p) {e:Int} (he:0≤e∧e<g.es.length) {k:Nat} (hk:k<g.n.toNat) (hx:DG g e=ak p k):∃j,j<k∧ak p j=lp g e:=by
 have hm:=aE h.1
 obtain ⟨hi,gw,_⟩:=dF hm h.2.1 (k:=k) (by omega) fun j hj=>h.2.2 j (by omega)
 obtain ⟨t,h1,h2,h3,_⟩:=vq hm hi (h.2.2 k hk) (i:=e.toNat) (by omega) hx
 have h4:=hi.tail t h1 (by omega)
 rw [h3,gw] at h4
 exact zV (by rw [cj h.2.1];omega) h4
theorem oK (hm:aN g=true) {f:Fr} (hi:gK g f) {t:It} (ht:t∈jc f.row):(0≤t.1∧t.1<g.es.length)∧t.2.1=lp g t.1∧t.2.2=DG g t.1:=by
 obtain ⟨h1,h2⟩:=iS.1 ht
 rcases hi.it t h1 with h3|h3
 ·omega
 ·exact ⟨⟨h3.1,h3.2.1⟩,h3.2.2.1,h3.2.2.2⟩
theorem DI {f:Fr} (hi:xA g f):((jc f.row).map (·.1)).Nodup:=by
 refine List.pairwise_map.2 ?_
 have:=hi.once.filter (fun t:It=>decide (0≤t.1))
 refine List.Pairwise.imp_of_mem (fun {s t} hs ht h1=>h1 (iS.1 hs).2) this
theorem Fl (hm:aN g=true) {f:Fr} (hi:xA g f) {x:Int} (hR:aD g f x=true):(oI g p f x).Nodup∧∀e,e∈oI g p f x↔(0≤e∧e<g.es.length)∧DG g e=x:=by
 by_cases hn:bB g x=0
 ·have hno:=sO hm hi.togK (aU hR).1 hn
  have e0:oI g p f x= []:=by unfold oI;rw [lR _ hno];rfl
  rw [e0]
  refine ⟨List.nodup_nil,fun e=>⟨fun h=>by (cases h),fun ⟨h1,h2⟩=> ?_⟩⟩
  have:=bR.2 ⟨h1,h2⟩
  have h3:aL (·.2) g.es g.es.length x= []:=List.eq_nil_of_length_eq_zero hn
  rw [h3] at this;cases this
 ·obtain ⟨a,c,e1,ha,hc,hX,hl,_⟩:=vv hm hi.togK hR hn (bw p x)
  have ck:=DI hi
  have hmem:∀t∈jc (aA g f x (bw p x)).1.1,t∈jc f.row:=fun t ht=>by rw [e1];simp [ht]
  rw [e1,List.map_append,List.map_append,List.nodup_append] at ck
  have yV:(oI g p f x).Nodup:=(List.nodup_append.1 ck.1).2.1
  have hsub:∀e∈oI g p f x,e∈aL (·.2) g.es g.es.length x:=fun e he=>by
   obtain ⟨t,ht,rfl⟩:=List.mem_map.1 he
   obtain ⟨h1,_,h3⟩:=oK hm hi.togK (hmem t ht)
   exact bR.2 ⟨h1,by rw [← hX t ht,h3];rfl⟩
  have hlen:(aL (·.2) g.es g.es.length x).length=(oI g p f x).length:=by
   unfold oI;rw [List.length_map,hl];rfl
  exact ⟨yV,fun e=>⟨fun he=>bR.1 (hsub e he),fun he=>vp yV hsub hlen e (bR.2 he)⟩⟩
theorem zY (h:cu g p) {k:Nat} (hk:k<g.n.toNat):cw g p (ak p k)=oI g p (fK g p k) (ak p k):=by
 unfold cw
 rw [ox h.2.1 (Nat.le_refl _) hk];rfl
theorem iB (h:cu g p) {x:Int} (hx:oU g x):(cw g p x).Nodup∧∀e,e∈cw g p x↔(0≤e∧e<g.es.length)∧DG g e=x:=by
 obtain ⟨k,hk,rfl⟩:=fG h.2.1 hx.1 hx.2
 have hm:=aE h.1
 obtain ⟨hi,_,_⟩:=dF hm h.2.1 (k:=k) (by omega) fun j hj=>h.2.2 j (by omega)
 rw [zY h hk]
 exact Fl hm hi (h.2.2 k hk)
theorem jH (h:cu g p) {x:Int} (hx:oU g x):(cw g p x).length=bB g x:=by
 obtain ⟨h1,h2⟩:=iB h hx
 refine Nat.le_antisymm ?_ ?_
 ·exact e9 h1 fun e he=>bR.2 ((h2 e).1 he)
 ·exact e9 cT fun e he=>(h2 e).2 (bR.1 he)
theorem ew (h:cu g p) (hI:ku g=true) {x:Int} (hx:oU g x):bw p x= []↔x=ak p (g.n.toNat - 1):=by
 have hm:=aE h.1
 have hn:=aT hm
 constructor
 ·intro h1
  have hs:=(pR h).1
  have hsi:=aI h.2.1 (k:=g.n.toNat - 1) (by omega)
  have b1:=fY (f:=(·.1)) (g:=g) (y:=x) |>.2 ⟨hx,(jG h.2.1 hx.1 hx.2).2 h1⟩
  have b2:=fY (f:=(·.1)) (g:=g) (y:=ak p (g.n.toNat - 1)) |>.2 ⟨hsi,(jG h.2.1 hsi.1 hsi.2).2 hs⟩
  have hl:(aV (·.1) g).length=1:=by
   unfold ku at hI
   simp only [Bool.and_eq_true,decide_eq_true_eq] at hI
   exact hI.2
  obtain ⟨y,hy⟩:=List.length_eq_one_iff.1 hl
  rw [hy,List.mem_singleton] at b1 b2
  rw [b1,b2]
 ·rintro rfl;exact (pR h).1
theorem uh (h:cu g p) (hI:ku g=true) {f:Fr} (hi:xA g f):∀ {d k:Nat},k+d=g.n.toNat→k<g.n.toNat→ak p k∉f.pl→ak p (g.n.toNat - 1)∉f.pl
 |0,k,h1,h2,_=>by omega
 |d+1,k,h1,h2,h3=>by
  have hm:=aE h.1
  have hx:=aI h.2.1 h2
  by_cases hs:bw p (ak p k)= []
  ·rw [(ew h hI hx).1 hs] at h3;exact h3
  ·obtain ⟨e,u,he⟩:=iN hs
   have o3:e∈bu g (ak p k):=(bQ h.2.1 hx.1 hx.2).mem_iff.1 (by rw [he];simp)
   obtain ⟨p8,tB⟩:=bR.1 o3
   have hh:=bX hm (i:=e.toNat) (by omega)
   obtain ⟨k',hk',e'⟩:=fG h.2.1 hh.1 hh.2
   obtain ⟨j,hj,e2⟩:=sX h p8 hk' e'.symm
   have:j=k:=dD h.2.1 (by omega) h2 (e2.trans tB)
   refine uh h hI hi (d:=g.n.toNat - k') (k:=k') (by omega) hk' fun h4=> ?_
   have:=hi.low e.toNat (by omega) (e' ▸ h4)
   have h5:tl g e.toNat=ak p k:=tB
   exact h3 (h5 ▸ this)
 termination_by d=>d
theorem lu.nd {k:Nat} {W D:List Int} (h:lu g p k W D):W.Nodup:=by
 obtain ⟨f,hi,_,rfl,_⟩:=h;exact DI hi
theorem lu.mem (h:cu g p) {k:Nat} {W D:List Int} (hr:lu g p k W D) (e:Int):e∈W↔(0≤e∧e<g.es.length)∧lp g e∈D∧DG g e∉D:=by
 have hm:=aE h.1
 obtain ⟨f,hi,rfl,rfl,hc,_⟩:=hr
 constructor
 ·intro he
  obtain ⟨t,ht,rfl⟩:=List.mem_map.1 he
  obtain ⟨h1,h2,h3⟩:=oK hm hi.togK ht
  obtain ⟨h4,h5⟩:=iS.1 ht
  exact ⟨h1,h2 ▸ hi.tail t h4 h5,h3 ▸ hi.head t h4 h5⟩
 ·rintro ⟨h1,h2,h3⟩
  obtain ⟨t,h4,h5⟩:=zW h.1 h.2.1 hi hc (i:=e.toNat) (by omega) h2 h3
  exact List.mem_map.2 ⟨t,iS.2 ⟨h4,by omega⟩,by omega⟩
theorem lu.next (h:cu g p) {k:Nat} {W D:List Int} (hr:lu g p (k+1) W D):∃x A C,W=A++(eu g p).ins x++C∧(eu g p).ins x≠ []:=by
 have hm:=aE h.1
 obtain ⟨f,hi,rfl,rfl,⟨x,hR,hg,_⟩,_,hs⟩:=hr
 obtain ⟨x0,x1,x2⟩:=aU hR
 have hx:oU g x:=⟨x0,x1⟩
 have hn:bB g x≠0:=fun h0=>by
  have:=lS h.1 (x:=x) (y:=ak p 0) hx (hi.Dl _ hs) h0 (fZ h)
  exact x2 (this ▸ hs)
 obtain ⟨a,c,e1,_,_,_,hl,_⟩:=vv hm hi.togK hR hn (bw p x)
 refine ⟨x,a.map (·.1),c.map (·.1), ?_, ?_⟩
 ·rw [gD hx, ← hg,e1,List.map_append,List.map_append];rfl
 ·rw [gD hx]
  intro h0
  have:=jH h hx
  rw [h0] at this
  exact hn this.symm
theorem lu.step (h:cu g p) {k:Nat} {W D A C:List Int} {x:Int} (hr:lu g p k W D) (hW:W=A++(eu g p).ins x++C) (hI:(eu g p).ins x≠ []):∃k',k=k'+1∧lu g p k' (A++(eu g p).outs x++C) (D++ [x]):=by
 have hm:=aE h.1
 have hx:oU g x:=Decidable.byContradiction fun h0=>hI (lV h0)
 have ck:=hr.nd
 have hmem:=lu.mem h hr
 rw [gD hx] at hW hI
 rw [gl hx]
 obtain ⟨i1,i2⟩:=iB h hx
 obtain ⟨e0,u0,EY⟩:=iN hI
 have Nm:x∉D:=by
  have h1:=(i2 e0).1 (by rw [EY];simp)
  have h2:=(hmem e0).1 (by rw [hW,EY];simp)
  rw [h1.2] at h2;exact h2.2.2
 obtain ⟨f,hi,rfl,O6,hc,hD,hs⟩:=hr
 rw [O6] at hW ck
 obtain ⟨l1,c,e1,e2,e3⟩:=List.map_eq_append_iff.1 hW
 obtain ⟨a,X,e4,e5,e6⟩:=List.map_eq_append_iff.1 e2
 have hrow:jc f.row=a++X++c:=by rw [e1,e4]
 rw [hrow,List.map_append,List.map_append,e5,e6,e3] at ck
 have hit:∀t∈a++X++c,(0≤t.1∧t.1<g.es.length)∧t.2.1=lp g t.1∧t.2.2=DG g t.1:=fun t ht=>oK hm hi.togK (by rw [hrow];exact ht)
 have hX:vu x X:=fun t ht=>by
  have h1:t.1∈cw g p x:=by rw [← e6];exact List.mem_map_of_mem ht
  rw [(hit t (by simp [ht])).2.2,((i2 _).1 h1).2]
 have hin:∀t∈a++X++c,t.2.2=x→t.1∈cw g p x:=fun t ht e=>by
  obtain ⟨h1,_,h3⟩:=hit t ht
  exact (i2 _).2 ⟨h1,by rw [← h3,e]⟩
 have ha:fM x a:=fun t ht e=>by
  have h1:=hin t (by simp [ht]) e
  have h2:t.1∈A:=by rw [← e5];exact List.mem_map_of_mem ht
  exact (List.nodup_append.1 (List.nodup_append.1 ck).1).2.2 _ h2 _ h1 rfl
 have Mh:fM x c:=fun t ht e=>by
  have h1:=hin t (by simp [ht]) e
  have h2:t.1∈C:=by rw [← e3];exact List.mem_map_of_mem ht
  exact (List.nodup_append.1 ck).2.2 _ (List.mem_append.2 (.inr h1)) _ h2 rfl
 have L5:X.length=bB g x:=by rw [← jH h hx, ← e6,List.length_map]
 have nX:X≠ []:=fun h0=>hI (by rw [← e6,h0];rfl)
 have hR:=DF hm hi.togK hx.1 hx.2 Nm hrow ha Mh hX nX L5
 have hn:bB g x≠0:=fun h0=>nX (List.eq_nil_of_length_eq_zero (L5.trans h0))
 have px:=bQ h.2.1 hx.1 hx.2
 cases k with
 |zero=>exact absurd (jF hi.togK (by omega) hx) Nm
 |succ k=>
  refine ⟨k,rfl,tZ g p f x,jE hm hi hR px,rfl, ?_,(uf h.1 h.2.1 hi (by omega) hc hR).2, ?_,List.mem_append.2 (.inl hs)⟩
  ·have:=Fk hm hi.togK hR hn hrow ha Mh hX nX (bw p x)
   show _=(jc (aA g f x (bw p x)).2.row).map (·.1)
   rw [this,List.map_append,List.map_append,e5,e3,lU (fun i hi=>by
    have:=bR.1 (px.mem_iff.1 hi);exact this.1.1),List.map_map]
   have e7:((fun t:It=>t.1) ∘ fF g x)=id:=rfl
   rw [e7,List.map_id]
  ·show (((f.pl++ [x]).length:Nat):Int)+_=_
   rw [List.length_append,List.length_singleton];omega
theorem Bz (h:cu g p):lu g p (g.n.toNat - 1) (bw p (ak p 0)) [ak p 0]:=by
 have hm:=aE h.1
 have hn:=aT hm
 have hx:=aI h.2.1 (k:=0) (by omega)
 obtain ⟨hi,gw,_⟩:=dF hm h.2.1 (k:=1) (by omega) fun j hj=>h.2.2 j (by omega)
 have px:=bQ h.2.1 hx.1 hx.2
 have hno:fM (ak p 0) (fK g p 0).row:=fun t ht=>by cases ht
 have hf:fK g p 1=⟨aM g (ak p 0) (bw p (ak p 0)), [ak p 0]⟩:=by
  show (aA g (fK g p 0) (ak p 0) _).2=_
  rw [lR _ hno]
  show (⟨_++ [], []++ [_]⟩:Fr)=_
  simp
 refine ⟨fK g p 1,hi,by rw [hf], ?_,ug h (by omega),by simp;omega,by simp⟩
 rw [hf]
 show _=(jc (aM g (ak p 0) (bw p (ak p 0)))).map (·.1)
 rw [lU (fun i hi=>(bR.1 (px.mem_iff.1 hi)).1.1),List.map_map]
 have e7:((fun t:It=>t.1) ∘ fF g (ak p 0))=id:=rfl
 rw [e7,List.map_id]
theorem mB (h:cu g p) (hI:ku g=true):(eu g p).Ok:=by
 have hm:=aE h.1
 have hn:=aT hm
 have h0:oU g (ak p 0):=aI h.2.1 (by omega)
 exact {
  dJ:=fun x e=>by
   show _↔(0≤e∧e<g.es.length)∧lp g e=x
   by_cases hx:oU g x
   ·rw [gl hx,(bQ h.2.1 hx.1 hx.2).mem_iff];exact bR
   ·rw [oJ hx]
    refine ⟨fun h=>by (cases h),fun ⟨h1,h2⟩=>absurd ?_ hx⟩
    rw [← h2];exact bL hm (i:=e.toNat) (by omega)
  b8:=fun x e=>by
   show _↔(0≤e∧e<g.es.length)∧DG g e=x
   by_cases hx:oU g x
   ·rw [gD hx];exact (iB h hx).2 e
   ·rw [lV hx]
    refine ⟨fun h=>by (cases h),fun ⟨h1,h2⟩=>absurd ?_ hx⟩
    rw [← h2];exact bX hm (i:=e.toNat) (by omega)
  oa:=fun x=>by
   by_cases hx:oU g x
   ·rw [gl hx,(bQ h.2.1 hx.1 hx.2).nodup_iff];exact cT
   ·rw [oJ hx];exact List.nodup_nil
  yI:=fun x=>by
   by_cases hx:oU g x
   ·rw [gD hx];exact (iB h hx).1
   ·rw [lV hx];exact List.nodup_nil
  pq:=fun e he=>by
   have he:0≤e∧e<g.es.length:=he
   have hh:=bX hm (i:=e.toNat) (by omega)
   obtain ⟨k,hk,e1⟩:=fG h.2.1 hh.1 hh.2
   obtain ⟨j,hj,e2⟩:=sX h he hk e1.symm
   show DH g p (lp g e)<DH g p (DG g e)
   have e3:DG g e=ak p k:=e1.symm
   rw [← e2,e3,zX hm h.2.1 hk,zX hm h.2.1 (by omega)]
   exact hj
  E9:=by
   show lu g p (g.n.toNat - 1) ((eu g p).outs (ak p 0)) [ak p 0]
   rw [gl h0];exact Bz h
  k7:=fun hr=>lu.nd hr
  dB:=fun hr e=>lu.mem h hr e
  k8:=fun hr=>lu.next h hr
  oc:=fun hr h1 h2=>lu.step h hr h1 h2
  lP:=fun {W D} hr e he=>by
   obtain ⟨f,hi,rfl,_,_,hD,_⟩:=hr
   exact jF hi.togK (by omega) (bX hm (i:=e.toNat) (by have:=he.1;have:=he.2;have:e<g.es.length:=he.2;omega))
  qF:=fun {k W D} hr=>by obtain ⟨f,hi,rfl,_,_,_,hs⟩:=hr;exact hs
  qG:=fun {k W D} hr hs=>by
   obtain ⟨f,hi,rfl,_,_,hD,_⟩:=hr
   refine Decidable.byContradiction fun hk=> ?_
   have:∃k',k'<g.n.toNat∧ak p k'∉f.pl:=by
    refine Decidable.byContradiction fun hall=> ?_
    have hall:∀k',k'<g.n.toNat→ak p k'∈f.pl:=fun k' hk'=>Decidable.byContradiction fun h1=>hall ⟨k',hk',h1⟩
    have:=e9 (l:=p.ord) (m:=f.pl) (sQ h.2.1) fun x hx=>by
     have hx:=dS.1 (h.2.1.2.1.mem_iff.1 hx)
     obtain ⟨k',h1,rfl⟩:=fG h.2.1 hx.1 (by omega)
     exact hall k' h1
    rw [cj h.2.1] at this
    omega
   obtain ⟨k',h1,h2⟩:=this
   exact uh h hI hi (d:=g.n.toNat - k') (by omega) h1 h2 hs
  sy:=by
   show (eu g p).ins (ak p 0)= []
   rw [gD h0]
   have:=jH h h0
   rw [fZ h] at this
   exact List.eq_nil_of_length_eq_zero this
  od:=fun x hx=>by
   have Eo:oU g x:=Decidable.byContradiction fun h0=>hx (lV h0)
   rw [gl Eo]
   exact ew h hI Eo}
end
end Go.Ab
end
section
namespace Go.Ab
open Go.Proofs
attribute [local congr] ACall.congr gd.congr Nx.congr
set_option maxRecDepth 20000
set_option maxHeartbeats 8000000
theorem vA (g:Gr) (hm:aN g=true):Spec Tryz.prog 99 (Args [eG g]) [] (.tup [.d (vw g), .d (sI (bH g)),eB (mu g)]) []:=by
 have hn:=aT hm
 have hO:=fC g hm
 have hR:=yE g hm
 have hM:=fB g (by omega)
 rw [hm] at hM
 cases hok:mu g with
 |false=>
  rw [hok] at hR
  (refine Spec.hd (C:=T.cfg [] []) (rs:= [.t 2, .t 3, .t 4]) (T.ai _ _) Tryz.func99 rfl rfl Tryz.ntmps99 Tryz.results99 (by simp [AObj.isNest]) (by simp [AObj.isNest]) (by kernel_rfl) T.mixed fun X hX hP hC aH bU=> ?_)
  repeat' (first|refine Rn.p ?_|(with_reducible apply And.intro)|((first|(refine hK _ ?_;clear hK K)|with_reducible intro K hK|refine Rs.p ?_|((with_reducible first|apply oP|apply oQ);exact rfl)|refine aa hX hC hP (hO) rfl rfl rfl (by simp only [go_sem,simprocAttr]) rfl ?_|refine aa hX hC hP (hR) rfl rfl rfl (by simp only [go_sem,simprocAttr]) rfl ?_|refine aa hX hC hP (hM) rfl rfl rfl (by simp only [go_sem,simprocAttr]) rfl ?_);try simp only [go_sem,simprocAttr])|((with_reducible refine oD ?_ ?_);kernel_rfl)|((with_reducible intro h);try simp only [go_sem,simprocAttr] at h)|omega|intro h)
 |true=>
  rw [hok] at hR
  (refine Spec.hd (C:=T.cfg [] []) (rs:= [.t 2, .t 3, .t 4]) (T.ai _ _) Tryz.func99 rfl rfl Tryz.ntmps99 Tryz.results99 (by simp [AObj.isNest]) (by simp [AObj.isNest]) (by kernel_rfl) T.mixed fun X hX hP hC aH bU=> ?_)
  repeat' (first|refine Rn.p ?_|(with_reducible apply And.intro)|((first|(refine hK _ ?_;clear hK K)|with_reducible intro K hK|refine Rs.p ?_|((with_reducible first|apply oP|apply oQ);exact rfl)|refine aa hX hC hP (hO) rfl rfl rfl (by simp only [go_sem,simprocAttr]) rfl ?_|refine aa hX hC hP (hR) rfl rfl rfl (by simp only [go_sem,simprocAttr]) rfl ?_|refine aa hX hC hP (hM) rfl rfl rfl (by simp only [go_sem,simprocAttr]) rfl ?_);try simp only [go_sem,simprocAttr])|((with_reducible refine oD ?_ ?_);kernel_rfl)|((with_reducible intro h);try simp only [go_sem,simprocAttr] at h)|omega|intro h)
def mc (g:Gr) (st:List Int) (x:Nat) (l:List Int):Nat→List Int
 |0=>st
 |j+1=>(mc g st x l j).set x (max ((mc g st x l j).getD x 0) ((mc g st x l j).getD (lp g (l.getD j 0)).toNat 0+1))
def oV (g:Gr):Nat→List Int
 |0=>List.replicate g.n.toNat 0
 |k+1=>mc g (oV g k) ((bH g).getD k 0).toNat (aL (fun e=>e.2) g.es g.es.length ((bH g).getD k 0)) (aL (fun e=>e.2) g.es g.es.length ((bH g).getD k 0)).length
def gX (g:Gr):List Int:=oV g (bH g).length
theorem oL {g:Gr} {st:List Int} {x:Nat} {l:List Int} :∀ {j:Nat},(mc g st x l j).length=st.length
 |0=>rfl
 |j+1=>by rw [mc,List.length_set,oL]
theorem qM {g:Gr} :∀ {k:Nat},(oV g k).length=g.n.toNat
 |0=>by simp [oV]
 |k+1=>by rw [oV,oL,qM]
theorem vB {g:Gr} {st:List Int} {x:Nat} {l:List Int} {B:Int} (hst:∀v,0≤st.getD v 0∧st.getD v 0≤B):∀ {j:Nat} (v:Nat),0≤(mc g st x l j).getD v 0∧(mc g st x l j).getD v 0≤B+j
 |0,v=>by have:=hst v;show 0≤st.getD v 0∧st.getD v 0≤B+(0:Nat);omega
 |j+1,v=>by
  have h1:=vB hst (g:=g) (x:=x) (l:=l) (j:=j)
  have h2:=h1 v
  have h3:=h1 x
  have h4:=h1 (lp g (l.getD j 0)).toNat
  have:(mc g st x l (j+1)).getD v 0=(mc g st x l j).getD v 0∨(mc g st x l (j+1)).getD v 0=max ((mc g st x l j).getD x 0) ((mc g st x l j).getD (lp g (l.getD j 0)).toNat 0+1):=by
   rw [mc,List.getD_eq_getElem?_getD,List.getElem?_set]
   split
   ·rename_i e
    subst e
    split
    ·exact .inr rfl
    ·rename_i hl
     left
     rw [List.getD_eq_getElem?_getD,List.getElem?_eq_none (by omega)]
   ·left;rw [← List.getD_eq_getElem?_getD]
  omega
theorem lW {g:Gr} :∀ {k:Nat} (v:Nat),0≤(oV g k).getD v 0∧(oV g k).getD v 0≤(k*g.es.length:Nat)
 |0,v=>by
  have:(oV g 0).getD v 0=0:=by
   rw [oV,List.getD_eq_getElem?_getD,List.getElem?_replicate];split<;>rfl
  omega
 |k+1,v=>by
  have:=vB (g:=g) (x:=((bH g).getD k 0).toNat) (l:=aL (fun e=>e.2) g.es g.es.length ((bH g).getD k 0)) (fun v=>lW (g:=g) (k:=k) v) (j:=(aL (fun e=>e.2) g.es g.es.length ((bH g).getD k 0)).length) v
  have hl:(aL (fun e=>e.2) g.es g.es.length ((bH g).getD k 0)).length≤g.es.length:=fU
  rw [oV,Nat.add_mul]
  omega
theorem ql (g:Gr) (hm:aN g=true) (hok:mu g=true):Spec Tryz.prog 53 (Args [eG g]) [] (.tup [.d (sI (gX g)),eN 0]) []:=by
 have hn:=aT hm
 have hPa:=vA g hm
 rw [hok] at hPa
 have Mi:=iw g hm
 have wh:=vf hm
 have hall:=n0 hm hok
 have HG:bH g=aJ g:=if_pos hok
 rw [← HG] at hall
 have G4:=k6 hall
 have xJ:List.replicate g.n.toNat [D.sc (.int .i64 0)]=(oV g 0).map rI:=by rw [oV,List.map_replicate];rfl
 (refine Spec.hd (C:=T.cfg [] []) (rs:= [.t 2, .t 3]) (T.ai _ _) Tryz.func53 rfl rfl Tryz.ntmps53 Tryz.results53 (by simp [AObj.isNest]) (by simp [AObj.isNest]) (by kernel_rfl) T.mixed fun X hX hP hC aH bU=> ?_)
 repeat' (first|refine Rn.p ?_|(with_reducible apply And.intro)|((first|(refine hK _ ?_;clear hK K)|with_reducible intro K hK|refine Rs.p ?_|((with_reducible first|apply oP|apply oQ);exact rfl)|refine aa hX hC hP (hPa) rfl rfl rfl (by simp only [go_sem,simprocAttr,xJ]) rfl ?_);try simp only [go_sem,simprocAttr,xJ])|((with_reducible refine oD ?_ ?_);kernel_rfl)|((with_reducible intro h);try simp only [go_sem,simprocAttr,xJ] at h)|omega|intro h)
 refine ag (fun k:Nat=>k≤(bH g).length) (fun k=>⟨[(1, .ptr 1 0),(4, .d (vw g)),(7, .ref 22),(23, .d (sI (bH g))),(24,eN (bH g).length),(25,eN k)], [(1, .box [eN g.n, .d (sE g.es)]),(22, .own 3 1 ((oV g k).map rI))]⟩) (fun k=>(bH g).length - k) 0 (by omega) ?_ ?_
 ·refine Le.of ?_ ?_<;>simp [go_sem,simprocAttr]
 rintro k hk
 rcases Nat.lt_or_ge k (bH g).length with bM|zj
 rotate_left
 ·have hb:decide ((k:Int)<((bH g).length:Int))=false:=decide_eq_false (by omega)
  obtain rfl:k=(bH g).length:=by omega
  have hL:oV g (bH g).length=gX g:=rfl
  rw [hL]
  repeat' (first|refine Rn.p ?_|(with_reducible apply And.intro)|((first|(refine hK _ ?_;clear hK K)|with_reducible intro K hK|refine Rs.p ?_|((with_reducible first|apply oP|apply oQ);exact rfl));try simp only [go_sem,simprocAttr,hb])|((with_reducible refine oD ?_ ?_);kernel_rfl)|((with_reducible intro h);try simp only [go_sem,simprocAttr,hb] at h)|omega|intro h)
 have hb:decide ((k:Int)<((bH g).length:Int))=true:=decide_eq_true (by omega)
 have hx:=G4 _ (aG (d:=0) bM)
 have Nn:=Mi ((bH g).getD k 0)
 rw [fe hx.1 hx.2] at Nn
 have dI:oV g (k+1)=mc g (oV g k) ((bH g).getD k 0).toNat (aL (fun e=>e.2) g.es g.es.length ((bH g).getD k 0)) (aL (fun e=>e.2) g.es g.es.length ((bH g).getD k 0)).length:=rfl
 have mq:(aL (fun e=>e.2) g.es g.es.length ((bH g).getD k 0)).length≤g.es.length:=fU
 have hmem:∀i∈aL (fun e=>e.2) g.es g.es.length ((bH g).getD k 0),0≤i∧i<g.es.length:=fun i hi=>(fX hi).1
 have hbd:=lW (g:=g) (k:=k)
 have hmul:k*g.es.length≤64*128:=Nat.mul_le_mul (by omega) (by omega)
 have hlk:=qM (g:=g) (k:=k)
 generalize aL (fun e=>e.2) g.es g.es.length ((bH g).getD k 0)=l at*
 generalize qu:(bH g).getD k 0=xv at*
 obtain ⟨x,rfl⟩:∃x:Nat,xv=x:=⟨xv.toNat,by omega⟩
 rw [Int.toNat_natCast] at dI
 generalize oV g k=st at*
 repeat' (first|refine Rn.p ?_|(with_reducible apply And.intro)|((first|(refine hK _ ?_;clear hK K)|with_reducible intro K hK|refine Rs.p ?_|((with_reducible first|apply oP|apply oQ);exact rfl)|refine aa hX hC hP (Nn) rfl rfl rfl (by simp only [go_sem,simprocAttr,hb,qu]) rfl ?_);try simp only [go_sem,simprocAttr,hb,qu])|((with_reducible refine oD ?_ ?_);kernel_rfl)|((with_reducible intro h);try simp only [go_sem,simprocAttr,hb,qu] at h)|omega|intro h)
 refine ag (fun j:Nat=>j≤l.length) (fun j=>⟨[(1, .ptr 1 0),(4, .d (vw g)),(7, .ref 22),(9,eN x),(23, .d (sI (bH g))),(24,eN (bH g).length),(25,eN k),(31, .d (sI l)),(32,eN l.length),(33,eN j)], [(1, .box [eN g.n, .d (sE g.es)]),(22, .own 3 1 ((mc g st x l j).map rI))]⟩) (fun j=>l.length - j) 0 (by omega) ?_ ?_
 ·refine Le.of ?_ ?_<;>simp [go_sem,simprocAttr,mc]
 rintro j hj
 rcases Nat.lt_or_ge j l.length with hjl|GL
 rotate_left
 ·have HH:decide ((j:Int)<(l.length:Int))=false:=decide_eq_false (by omega)
  obtain rfl:j=l.length:=by omega
  repeat' (first|refine Rn.p ?_|(with_reducible apply And.intro)|((first|(refine hK _ ?_;clear hK K)|with_reducible intro K hK|refine Rs.p ?_|((with_reducible first|apply oP|apply oQ);exact rfl));try simp only [go_sem,simprocAttr,HH])|((with_reducible refine oD ?_ ?_);kernel_rfl)|((with_reducible intro h);try simp only [go_sem,simprocAttr,HH] at h)|omega|intro h)
  refine ⟨k+1,by omega, ?_,by omega⟩
  rw [dI]
  refine Le.of ?_ ?_<;>simp [go_sem,simprocAttr,HH]
 have HH:decide ((j:Int)<(l.length:Int))=true:=decide_eq_true (by omega)
 have hin:=hmem _ (aG (d:=0) hjl)
 have Js:mc g st x l (j+1)=(mc g st x l j).set x (max ((mc g st x l j).getD x 0) ((mc g st x l j).getD (lp g (l.getD j 0)).toNat 0+1)):=rfl
 have Ju:=oL (g:=g) (st:=st) (x:=x) (l:=l) (j:=j)
 have Jv:=vB (g:=g) (x:=x) (l:=l) (j:=j) hbd
 obtain ⟨e,he⟩:∃e:Nat,l.getD j 0=e:=⟨(l.getD j 0).toNat,by omega⟩
 obtain ⟨ht,_⟩:=ej hm (k:=e) (by omega)
 obtain ⟨t,Cj⟩:∃t:Nat,(g.es.getD e (0,0)).1=t:=⟨(g.es.getD e (0,0)).1.toNat,by omega⟩
 have hte:(lp g (l.getD j 0)).toNat=t:=by rw [he];show ((g.es.getD e (0,0)).1).toNat=t;rw [Cj];rfl
 rw [hte] at Js
 have au:=Jv t
 have aq:=Jv x
 generalize mc g st x l j=S1 at*
 repeat' (first|refine Rn.p ?_|(with_reducible apply And.intro)|((first|(refine hK _ ?_;clear hK K)|with_reducible intro K hK|refine Rs.p ?_|((with_reducible first|apply oP|apply oQ);exact rfl));try simp only [go_sem,simprocAttr,HH,he,Cj,Ju,hlk,an,uX])|((with_reducible refine oD ?_ ?_);kernel_rfl)|((with_reducible intro h);try simp only [go_sem,simprocAttr,HH,he,Cj,Ju,hlk,an,uX] at h)|omega|intro h)
 refine ⟨j+1,by omega, ?_,by omega⟩
 rw [Js]
 refine Le.of ?_ ?_<;>simp [go_sem,rI,an]
end Go.Ab
end
