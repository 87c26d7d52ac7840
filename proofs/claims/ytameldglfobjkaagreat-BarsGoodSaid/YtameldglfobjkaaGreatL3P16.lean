/- A part of the proof. -/
import Derived.Test.YtameldglfobjkaaGreatL3P15
set_option linter.unusedSimpArgs false
set_option linter.unusedVariables false
section
namespace Go.Ab
open Go.Proofs
set_option maxRecDepth 10000
def BN (g:Gr) (t:It):Prop:=(t.1= -1∧t.2.2= -1)∨(0≤t.1∧t.1<g.es.length∧t.2.1=(g.es.getD t.1.toNat (0,0)).1∧t.2.2=(g.es.getD t.1.toNat (0,0)).2)
structure iU (g:Gr) (f:Fr):Prop where
 it:∀t∈f.row,BN g t
 pl:f.pl.Nodup
 EX:∀x∈f.pl,0≤x∧x<g.n
theorem kM {row:List It} {x:Int} :∀k:Nat,(di row x k).2.2=gE row x k
 |0=>rfl
 |k+1=>by
  rw [jC,fq]
  split
  ·show (di row x k).2.2+1=_
   rw [kM k]
  ·exact kM k
theorem rP {row:List It} {x:Int} {j:Nat} :∀d:Nat,gE row x j≤gE row x (j+d)
 |0=>Int.le_refl _
 |d+1=>by
  have:=rP (row:=row) (x:=x) (j:=j) d
  rw [← Nat.add_assoc,fq]
  split<;>omega
theorem kN {row:List It} {x:Int} :∀ {k:Nat},(∀j,j<k→(row.getD j (0,0,0)).2.2≠x)→gE row x k=0
 |0,_=>rfl
 |k+1,h=>by
  rw [fq,if_neg (h k (by omega))]
  exact kN fun j hj=>h j (by omega)
theorem rQ {row:List It} {x:Int} {b:Nat} :∀ {d:Nat},(∀j,b≤j→j<b+d→(row.getD j (0,0,0)).2.2≠x)→gE row x (b+d)=gE row x b
 |0,_=>rfl
 |d+1,h=>by
  rw [← Nat.add_assoc,fq,if_neg (h (b+d) (by omega) (by omega))]
  exact rQ fun j h1 h2=>h j h1 (by omega)
theorem gu {f:Edge→Int} {g:Gr} {x:Int} (h0:0≤x) (h1:x<g.n):bD f g x=aJ f g.es g.es.length x:=if_pos ⟨h0,h1⟩
theorem rR {g:Gr} {e:Int} (h0:0≤e) (h1:e<g.es.length):0<bw g (g.es.getD e.toNat (0,0)).2:=by
 refine List.length_pos_iff.2 fun h=> ?_
 have hm:e∈aJ (·.2) g.es g.es.length (g.es.getD e.toNat (0,0)).2:=by
  simp only [aJ,List.mem_map,List.mem_filter,List.mem_range,decide_eq_true_eq]
  exact ⟨e.toNat,⟨by omega,rfl⟩,by simp;omega⟩
 rw [h] at hm;cases hm
theorem wZ {row:List It} {p:It→Bool} {a b:Nat} (hb:b≤row.length):((row.take b).drop a).any p=true↔∃j,a≤j∧j<b∧p (row.getD j (0,0,0))=true:=by
 rw [List.any_eq_true]
 constructor
 ·rintro ⟨t,ht,hp⟩
  obtain ⟨k,hk,rfl⟩:=List.mem_iff_getElem.1 ht
  simp only [List.length_drop,List.length_take] at hk
  refine ⟨a+k,by omega,by omega, ?_⟩
  rw [List.getD_eq_getElem?_getD,List.getElem?_eq_getElem (show a+k<row.length by omega)]
  simpa using hp
 ·rintro ⟨j,h1,h2,hp⟩
  rw [List.getD_eq_getElem?_getD,List.getElem?_eq_getElem (show j<row.length by omega)] at hp
  refine ⟨row[j], ?_,hp⟩
  refine List.mem_iff_getElem.2 ⟨j - a,by simp;omega, ?_⟩
  simp only [List.getElem_drop,List.getElem_take]
  congr 1;omega
theorem BN.head {g:Gr} (hm:aO g=true) {t:It} (h:BN g t):(0≤t.1↔t.2.2≠ -1)∧ -1≤t.2.2:=by
 rcases h with ⟨h1,h2⟩|⟨h1,h2,_,h4⟩
 ·omega
 ·obtain ⟨_,h5,_⟩:=eH hm (k:=t.1.toNat) (by omega)
  omega
theorem qI {g:Gr} (hm:aO g=true) {f:Fr} (hi:iU g f) (x:Int):iq g f x=aD g f x:=by
 by_cases hx:x<0∨g.n≤x∨x∈f.pl
 ·rw [iq,aD,if_pos hx,if_pos hx]
 rw [iq,aD,if_neg hx,if_neg hx]
 have hx0:0≤x∧x<g.n:=by
  constructor
  ·exact Int.not_lt.1 fun h=>hx (.inl h)
  ·exact Int.not_le.1 fun h=>hx (.inr (.inl h))
 have hmem:∀j,j<f.row.length→BN g (f.row.getD j (0,0,0)):=fun j hj=>hi.it _ (aB hj)
 rw [gu hx0.1 hx0.2]
 have hN:(aJ (fun e=>e.2) g.es g.es.length x).length=bw g x:=rfl
 rw [hN]
 have K5:(bp f.row x).2.2=gE f.row x f.row.length:=kM _
 by_cases h0:bw g x=0
 ·rw [if_pos h0,h0,decide_eq_true rfl,Bool.true_or,Bool.and_true,decide_eq_true_eq,K5,kN]
  ·rfl
  ·intro j hj he
   rcases hmem j hj with ⟨_,h2⟩|⟨h1,h2,_,h4⟩
   ·omega
   ·have:=rR h1 h2
    rw [← h4,he] at this
    omega
 ·rw [if_neg h0,decide_eq_false h0,Bool.false_or,K5]
  generalize bw g x=need at h0
  rcases dF (row:=f.row) (x:=x) f.row.length with ⟨hs,hno⟩|⟨a,b,c,hs,hab,kj,hc0,ga,ha,hb,hlo,hhi⟩
  ·rw [kN hno]
   have e1:decide ((0:Int)=(need:Int))=false:=decide_eq_false (by omega)
   rw [e1,Bool.false_and,Bool.and_false]
  ·have hs':bp f.row x=((a:Int),(b:Int),(c:Int)):=hs
   have Ih:gE f.row x f.row.length=c:=by rw [← K5,hs']
   rw [hs',Ih]
   simp only [Int.toNat_natCast]
   rw [Bool.and_comm]
   by_cases Mo:¬(c:Int)=need
   ·rw [decide_eq_false Mo,Bool.and_false,Bool.and_false]
   rw [Decidable.not_not] at Mo
   rw [decide_eq_true Mo,Bool.and_true,Bool.and_true,sO]
   congr 1
   rw [Bool.eq_iff_iff,wZ kj,List.any_eq_true]
   have ma:gE f.row x a=0:=kN hlo
   have Vv:gE f.row x (a+1)=1:=by rw [fq,if_pos ha,ma];rfl
   have mb:gE f.row x b=need:=by
    have h:=rQ (row:=f.row) (x:=x) (b:=b) (d:=f.row.length - b) fun j h1 h2=>hhi j h1 (by omega)
    rw [show b+(f.row.length - b)=f.row.length by omega,Ih] at h
    omega
   have Vw:gE f.row x (b - 1)+1=need:=by
    have h:=fq (row:=f.row) (x:=x) (k:=b - 1)
    rw [if_pos hb,show b - 1+1=b by omega,mb] at h
    omega
   constructor
   ·rintro ⟨j,h1,h2,hp⟩
    simp only [lQ,Bool.and_eq_true,decide_eq_true_eq] at hp
    have hja:j≠a:=fun e=>hp.1 (by rw [e];exact ha)
    have hjb:j≠b - 1:=fun e=>hp.1 (by rw [e];exact hb)
    have g1:=rP (row:=f.row) (x:=x) (j:=a+1) (j - (a+1))
    rw [show a+1+(j - (a+1))=j by omega] at g1
    have g2:=rP (row:=f.row) (x:=x) (j:=j) (b - 1 - j)
    rw [show j+(b - 1 - j)=b - 1 by omega] at g2
    exact ⟨j,List.mem_range.2 (by omega),oa.2 ⟨⟨hp.1,((hmem j (by omega)).head hm).1.2 hp.2⟩,by omega,by omega⟩⟩
   ·rintro ⟨j,hj,hl⟩
    have hj:=List.mem_range.1 hj
    obtain ⟨⟨h1,h2⟩,h3,h4⟩:=oa.1 hl
    refine ⟨j, ?_, ?_, ?_⟩
    ·refine Nat.not_lt.1 fun h=> ?_
     have:=kN (row:=f.row) (x:=x) (k:=j) fun i hi=>hlo i (by omega)
     omega
    ·refine Nat.not_le.1 fun h=> ?_
     have:=rQ (row:=f.row) (x:=x) (b:=b) (d:=j - b) fun i h1 h2=>hhi i h1 (by omega)
     rw [show b+(j - b)=j by omega] at this
     omega
    ·simp only [lQ,Bool.and_eq_true,decide_eq_true_eq]
     exact ⟨h1,((hmem j hj).head hm).1.1 h2⟩
theorem tD:∀ {ms os:List Int},ms.Nodup→(∀i∈ms,i∈os)→os.length=ms.length→os.Perm ms
 | [],os,_,_,hl=>by
   have h:os= []:=List.eq_nil_of_length_eq_zero (by simpa using hl)
   rw [h]
 |m::ms,os,hn,hs,hl=>by
  rw [List.nodup_cons] at hn
  have hm:=hs m (List.mem_cons_self ..)
  refine (List.perm_cons_erase hm).trans (List.Perm.cons m (tD hn.2 (fun j hj=> ?_) ?_))
  ·have:j≠m:=fun e=>hn.1 (e ▸ hj)
   exact (List.mem_erase_of_ne this).2 (hs j (List.mem_cons_of_mem _ hj))
  ·rw [List.length_erase_of_mem hm,hl];simp
theorem sP {g:Gr} {x:Int} :(bu g x).Pairwise (· ≤ ·):=by
 unfold bu aJ
 refine List.Pairwise.map _ (fun a b (h:a<b)=> ?_) (List.Pairwise.filter _ List.pairwise_lt_range)
 show (a:Int)≤b
 omega
theorem vf {l m:List Int} (h:l.Perm m) (hm:m.Pairwise (· ≤ ·)):iT l=m:=by
 have h1:(iT l).Pairwise (· ≤ ·):=by
  have:=List.pairwise_mergeSort (le:=fun a b:Int=>decide (a≤b)) (by simp;omega) (by simp;omega) l
  simpa [iT] using this
 have h2:(iT l).Perm m:=(by unfold iT;exact (List.mergeSort_perm l _).trans h)
 exact h2.eq_of_pairwise (fun a b _ _ h1 h2=>Int.le_antisymm h1 h2) h1 hm
theorem aW {g:Gr} {f:Fr} {x:Int} (h:aD g f x=true):0≤x∧x<g.n∧x∉f.pl:=by
 unfold aD at h
 by_cases hx:x<0∨g.n≤x∨x∈f.pl
 ·rw [if_pos hx] at h;cases h
 ·exact ⟨Int.not_lt.1 fun h=>hx (.inl h),Int.not_le.1 fun h=>hx (.inr (.inl h)),fun h=>hx (.inr (.inr h))⟩
theorem GF {g:Gr} (hm:aO g=true) {f:Fr} (hi:iU g f) (x:Int) (outs:List Int):jZ g f x outs=dG g f x outs:=by
 rw [jZ,dG,qI hm hi]
 cases hR:aD g f x with
 |false=>rw [if_pos rfl,if_pos rfl]
 |true=>
  obtain ⟨h0,h1,h2⟩:=aW hR
  have ht:¬(true=false):=by simp
  rw [if_neg ht,if_neg ht,gu h0 h1]
  show (if iT outs≠bu g x then _ else aC g f x outs)=_
  by_cases hs:iT outs=bu g x
  ·rw [if_neg (fun h=>h hs),if_neg]
   rintro (h|⟨i,h3,h4⟩)
   ·exact h (by rw [← hs,fQ])
   ·exact h4 (Ag.1 (hs ▸ h3))
  ·rw [if_pos hs,if_pos]
   refine Decidable.byContradiction fun h=>hs ?_
   have hl:outs.length=(bu g x).length:=Decidable.byContradiction fun e=>h (.inl e)
   exact vf (tD cq (fun i hi=>Decidable.byContradiction fun e=>h (.inr ⟨i,hi,e⟩)) hl) sP
theorem GG {g:Gr} {x:Int} {outs:List Int} (ho:∀i∈outs,i∈bu g x):∀t∈aP g x outs,BN g t:=by
 intro t ht
 unfold aP at ht
 split at ht
 ·rw [List.mem_singleton] at ht
  rw [ht];exact .inl ⟨rfl,rfl⟩
 ·obtain ⟨i,hi,rfl⟩:=List.mem_map.1 ht
  obtain ⟨⟨h1,h2⟩,h3⟩:=dY (ho i hi)
  exact .inr ⟨h1,h2,h3.symm,rfl⟩
theorem GH {g:Gr} {f:Fr} (hi:iU g f) {x:Int} (hR:aD g f x=true) {outs:List Int} (ho:∀i∈outs,i∈bu g x):iU g (aC g f x outs).2:=by
 obtain ⟨h0,h1,h2⟩:=aW hR
 refine ⟨fun t ht=> ?_, ?_,fun y hy=> ?_⟩
 ·simp only [aC,List.mem_append] at ht
  rcases ht with (ht|ht)|ht
  ·exact hi.it t (List.mem_of_mem_take ht)
  ·exact GG ho t ht
  ·exact hi.it t (List.mem_of_mem_drop ht)
 ·show (f.pl++ [x]).Nodup
  rw [List.nodup_append]
  refine ⟨hi.pl,by simp,fun a ha b hb e=>h2 ?_⟩
  rw [List.mem_singleton] at hb
  rw [← hb, ← e];exact ha
 ·have hy:y∈f.pl++ [x]:=hy
  rcases List.mem_append.1 hy with h|h
  ·exact hi.EX y h
  ·rw [List.mem_singleton] at h
   rw [h];exact ⟨h0,h1⟩
end Go.Ab
end
section
namespace Go.Ab
open Go.Proofs
set_option maxRecDepth 10000
def mC (x:Int) (t:It):Bool:=decide (t.2.2=x)
structure Ee (x:Int) (X:List It):Prop where
 fst:∃p X',X=p::X'∧p.2.2=x
 EV:∃X' q,X=X'++ [q]∧q.2.2=x
 al:∀t∈X,t.2.2=x∨t.2.2= -1
def gM (x:Int) (l:List It):Prop:=∀t∈l,t.2.2≠x
theorem gM.app {x:Int} {l m:List It} (h:gM x l) (h':gM x m):gM x (l++m):=fun t ht=>(List.mem_append.1 ht).elim (h t) (h' t)
theorem gM.left {x:Int} {l m:List It} (h:gM x (l++m)):gM x l:=fun t ht=>h t (List.mem_append.2 (.inl ht))
theorem gM.right {x:Int} {l m:List It} (h:gM x (l++m)):gM x m:=fun t ht=>h t (List.mem_append.2 (.inr ht))
theorem Ee.Sr {x y:Int} {X:List It} (h:Ee x X) (hxy:x≠y) (hy:0≤y):gM y X:=fun t ht e=>by
 rcases h.al t ht with h1|h1<;>omega
theorem lT {row:List It} {x:Int} :∀ {k:Nat},k≤row.length→gE row x k=((row.take k).countP (mC x):Nat)
 |0,_=>by simp [gE]
 |k+1,h=>by
  rw [fq,lT (k:=k) (by omega),List.take_add_one,List.getElem?_eq_getElem (show k<row.length by omega),List.countP_append]
  simp only [Option.toList,List.countP_cons,List.countP_nil,mC,decide_eq_true_eq,List.getD_eq_getElem?_getD,List.getElem?_eq_getElem (show k<row.length by omega),Option.getD_some]
  split<;>simp
theorem Ef {A X C:List It} {p:It} {X':List It} (h:X=p::X'):(A++X++C).getD A.length (0,0,0)=p:=by
 subst h;simp [List.getD_eq_getElem?_getD]
theorem Eg {A X C:List It} {q:It} {X':List It} (h:X=X'++ [q]):(A++X++C).getD (A.length+X.length - 1) (0,0,0)=q:=by
 subst h
 have e:A.length+(X'++ [q]).length - 1=(A++X').length:=by simp
 rw [e,show A++(X'++ [q])++C=(A++X')++([q]++C) by simp]
 simp [List.getD_eq_getElem?_getD]
theorem Eh {A L:List It} {j:Nat} (h:j<A.length):(A++L).getD j (0,0,0)∈A:=by
 rw [List.getD_eq_getElem?_getD,List.getElem?_append_left h,List.getElem?_eq_getElem h]
 exact List.getElem_mem h
theorem Ei {A L:List It} {j:Nat} (h:A.length≤j) (h':j<(A++L).length):(A++L).getD j (0,0,0)∈L:=by
 rw [List.length_append] at h'
 rw [List.getD_eq_getElem?_getD,List.getElem?_append_right h,List.getElem?_eq_getElem (by omega)]
 exact List.getElem_mem _
theorem CK {A X C:List It} {x:Int} (hA:gM x A) (hC:gM x C) (hX:Ee x X):
 (bp (A++X++C) x).1=(A.length:Int)∧(bp (A++X++C) x).2.1=((A.length+X.length:Nat):Int)∧(bp (A++X++C) x).2.2=(X.countP (mC x):Nat):=by
 have DH:(bp (A++X++C) x).2.2=(X.countP (mC x):Nat):=by
  unfold bp
  rw [kM,lT (Nat.le_refl _),List.take_length,List.countP_append,List.countP_append]
  have h1:A.countP (mC x)=0:=List.countP_eq_zero.2 fun t ht=>by simp [mC,hA t ht]
  have h2:C.countP (mC x)=0:=List.countP_eq_zero.2 fun t ht=>by simp [mC,hC t ht]
  rw [h1,h2];simp
 obtain ⟨p,X',e1,hp⟩:=hX.fst
 obtain ⟨Vx,q,e2,hq⟩:=hX.EV
 have g1:=Ef (A:=A) (C:=C) e1
 have g2:=Eg (A:=A) (C:=C) e2
 have QZ:0<X.length:=by rw [e1];simp
 have hlen:(A++X++C).length=A.length+X.length+C.length:=by simp;omega
 rcases dF (row:=A++X++C) (x:=x) (A++X++C).length with ⟨_,hno⟩|⟨a,b,c,hs,hab,kj,hc0,ga,ha,hb,hlo,hhi⟩
 ·exact absurd (by rw [g1];exact hp) (hno A.length (by omega))
 ·have hs':bp (A++X++C) x=((a:Int),(b:Int),(c:Int)):=hs
  refine ⟨?_, ?_,DH⟩
  ·rw [hs']
   have h1:¬A.length<a:=fun h=>hlo _ h (by rw [g1];exact hp)
   have h2:¬a<A.length:=fun h=>hA _ (by have:=Eh (L:=X++C) h;rw [← List.append_assoc] at this;exact this) ha
   simp only;omega
  ·rw [hs']
   have h1:¬b<A.length+X.length:=fun h=>hhi (A.length+X.length - 1) (by omega) (by omega) (by rw [g2];exact hq)
   have h2:¬A.length+X.length<b:=fun h=>hC _ (Ei (A:=A++X) (j:=b - 1) (by simp;omega) (by omega)) hb
   simp only;omega
theorem vg {g:Gr} (hm:aO g=true) {f:Fr} (hi:iU g f) {A X C:List It} {x:Int} (h0:0≤x) (h1:x<g.n) (hp:x∉f.pl) (hr:f.row=A++X++C) (hA:gM x A) (hC:gM x C) (hX:Ee x X)
 (hc:X.countP (mC x)=bw g x):aD g f x=true:=by
 rw [← qI hm hi,iq,if_neg (by rintro (h|h|h);omega;omega;exact hp h)]
 obtain ⟨e1,e2,e3⟩:=CK hA hC hX
 rw [hr,e1,e2,e3,gu h0 h1,Bool.and_eq_true,decide_eq_true_eq]
 refine ⟨by rw [hc];rfl, ?_⟩
 rw [Bool.or_eq_true];right
 simp only [sO,Int.toNat_natCast]
 rw [List.take_append_of_le_length (by simp),List.take_of_length_le (by simp),List.drop_left,Bool.not_eq_true',List.any_eq_false]
 intro t ht
 simp only [lQ,Bool.and_eq_true,decide_eq_true_eq]
 rcases hX.al t ht with h|h<;>simp [h]
theorem cr {g:Gr} (hm:aO g=true) {f:Fr} (hi:iU g f) {x:Int} (hR:aD g f x=true) (hn:bw g x≠0):
 ∃A X C,f.row=A++X++C∧gM x A∧gM x C∧Ee x X∧X.countP (mC x)=bw g x:=by
 obtain ⟨h0,h1,h2⟩:=aW hR
 rw [← qI hm hi,iq,if_neg (by rintro (h|h|h);omega;omega;exact h2 h),gu h0 h1,Bool.and_eq_true,decide_eq_true_eq] at hR
 have hN:(aJ (fun e=>e.2) g.es g.es.length x).length=bw g x:=rfl
 rw [hN,decide_eq_false hn,Bool.false_or] at hR
 obtain ⟨hc,hb⟩:=hR
 have DH:(f.row.countP (mC x):Int)=bw g x:=by
  rw [← hc];unfold bp
  rw [kM,lT (Nat.le_refl _),List.take_length]
 rcases dF (row:=f.row) (x:=x) f.row.length with ⟨hs,hno⟩|⟨a,b,c,hs,hab,kj,hc0,ga,ha,hb',hlo,hhi⟩
 ·have:bp f.row x=(-1,0,0):=hs
  rw [this] at hc
  exfalso;simp only at hc;omega
 ·have hs':bp f.row x=((a:Int),(b:Int),(c:Int)):=hs
  rw [hs'] at hb
  simp only [Int.toNat_natCast] at hb
  have hA:gM x (f.row.take a):=fun t ht=>by
   obtain ⟨j,hj,rfl⟩:=List.mem_iff_getElem.1 ht
   simp only [List.length_take] at hj
   have:=hlo j (by omega)
   rw [List.getD_eq_getElem?_getD,List.getElem?_eq_getElem (show j<f.row.length by omega)] at this
   simpa using this
  have hC:gM x (f.row.drop b):=fun t ht=>by
   obtain ⟨j,hj,rfl⟩:=List.mem_iff_getElem.1 ht
   simp only [List.length_drop] at hj
   have:=hhi (b+j) (by omega) (by omega)
   rw [List.getD_eq_getElem?_getD,List.getElem?_eq_getElem (show b+j<f.row.length by omega)] at this
   simpa using this
  have hrow:f.row=f.row.take a++(f.row.take b).drop a++f.row.drop b:=by
   have e1:f.row.take a=(f.row.take b).take a:=by rw [List.take_take,Nat.min_eq_left (by omega)]
   rw [e1,List.take_append_drop,List.take_append_drop]
  refine ⟨f.row.take a,(f.row.take b).drop a,f.row.drop b,hrow,hA,hC,⟨?_, ?_, ?_⟩, ?_⟩
  ·refine ⟨f.row.getD a (0,0,0),(f.row.take b).drop (a+1), ?_,ha⟩
   rw [List.drop_eq_getElem_cons (by simp;omega)]
   congr 1
   rw [List.getD_eq_getElem?_getD,List.getElem?_eq_getElem (show a<f.row.length by omega)]
   simp
  ·refine ⟨(f.row.take (b - 1)).drop a,f.row.getD (b - 1) (0,0,0), ?_,hb'⟩
   have e:f.row.take b=f.row.take (b - 1)++ [f.row.getD (b - 1) (0,0,0)]:=by
    conv=>lhs;rw [show b=b - 1+1 by omega]
    rw [List.take_add_one,List.getD_eq_getElem?_getD,List.getElem?_eq_getElem (show b - 1<f.row.length by omega)]
    rfl
   rw [e,List.drop_append_of_le_length (by simp;omega)]
  ·intro t ht
   rw [sO,Bool.not_eq_true',List.any_eq_false] at hb
   have:=hb t ht
   simp only [lQ,Bool.and_eq_true,decide_eq_true_eq,not_and] at this
   by_cases h:t.2.2=x
   ·exact .inl h
   ·exact .inr (Decidable.byContradiction fun h'=>this h h')
  ·have h1:(f.row.take a).countP (mC x)=0:=List.countP_eq_zero.2 fun t ht=>by simp [mC,hA t ht]
   have h2:(f.row.drop b).countP (mC x)=0:=List.countP_eq_zero.2 fun t ht=>by simp [mC,hC t ht]
   rw [hrow,List.countP_append,List.countP_append,h1,h2] at DH
   omega
theorem iw {g:Gr} {f:Fr} {A X C:List It} {x:Int} (o:List Int) (hr:f.row=A++X++C) (hA:gM x A) (hC:gM x C) (hX:Ee x X):
 aC g f x o=((X,0),⟨A++aP g x o++C,f.pl++ [x]⟩):=by
 obtain ⟨e1,e2,e3⟩:=CK hA hC hX
 have e4:max (A.length:Int) 0=(A.length:Int):=by omega
 unfold aC
 rw [hr,e1,e2,e4,Int.toNat_natCast,Int.toNat_natCast]
 rw [List.take_append_of_le_length (show A.length+X.length≤(A++X).length by simp),List.take_of_length_le (show (A++X).length≤A.length+X.length by simp),List.drop_left]
 rw [show (A++X++C).take A.length=A by rw [List.append_assoc,List.take_left]]
 rw [show (A++X++C).drop (A.length+X.length)=C by rw [← List.length_append,List.drop_left]]
theorem gv {g:Gr} {f:Fr} {x:Int} (o:List Int) (hr:gM x f.row):aC g f x o=(([],0),⟨aP g x o++f.row,f.pl++ [x]⟩):=by
 have hs:bp f.row x=(-1,0,0):=by
  rcases dF (row:=f.row) (x:=x) f.row.length with ⟨hs,_⟩|⟨a,b,c,hs,hab,kj,hc0,ga,ha,hb',hlo,hhi⟩
  ·exact hs
  ·exact absurd ha (hr _ (aB (by omega)))
 have e4:max (-1:Int) 0=0:=by omega
 unfold aC
 rw [hs]
 simp [e4]
end Go.Ab
end
section
namespace Go.Ab
open Go.Proofs
set_option maxRecDepth 10000
structure y9 (g:Gr) (f:Fr):Prop extends iU g f where
 tail:∀t∈f.row,0≤t.1→t.2.1∈f.pl
 head:∀t∈f.row,0≤t.1→t.2.2∉f.pl
 once:f.row.Pairwise fun s t=>0≤s.1→s.1≠t.1
 low:∀i,i<g.es.length→hd g i∈f.pl→tl g i∈f.pl
 src:(f.pl= []∧f.row= [])∨∃s∈f.pl,bw g s=0
theorem CL (g:Gr):y9 g ⟨[], []⟩:=
 {it:=by simp,pl:=by simp,EX:=by simp,tail:=by simp,head:=by simp,once:=by simp,low:=by simp,src:= .inl ⟨rfl,rfl⟩}
theorem yG {g:Gr} (hm:aO g=true) {f:Fr} (hi:y9 g f) {x:Int} (hR:aD g f x=true) {i:Nat} (hl:i<g.es.length) (hx:hd g i=x):∃t∈f.row,t.1=i∧t.2.1=tl g i∧t.2.2=x:=by
 have hn:bw g x≠0:=by
  have:=rR (g:=g) (e:=(i:Int)) (by omega) (by omega)
  rw [Int.toNat_natCast,show (g.es.getD i (0,0)).2=x from hx] at this
  omega
 obtain ⟨A,X,C,hr,hA,hC,hX,hc⟩:=cr hm hi.toiU hR hn
 have hN:(aJ (fun e=>e.2) g.es g.es.length x).length=bw g x:=rfl
 have hok:∀t∈f.row,t.2.2=x→0≤t.1∧t.1<g.es.length∧t.2.1=(g.es.getD t.1.toNat (0,0)).1∧t.2.2=(g.es.getD t.1.toNat (0,0)).2:=fun t ht he=>by
  rcases hi.it t ht with ⟨_,h2⟩|h
  ·have:=(aW hR).1;omega
  ·exact h
 have hmem:∀t∈X,t∈f.row:=fun t ht=>by rw [hr];simp [ht]
 have JV:=tD (ms:=(X.filter (mC x)).map (·.1)) (os:=aJ (fun e=>e.2) g.es g.es.length x)
 have key:∀i∈aJ (fun e=>e.2) g.es g.es.length x,i∈(X.filter (mC x)).map (·.1):=by
  refine yF (ms:=(X.filter (mC x)).map (·.1)) (os:=aJ (fun e=>e.2) g.es g.es.length x) ?_ ?_ ?_
  ·have h1:X.Pairwise fun s t=>0≤s.1→s.1≠t.1:=by
    have:=hi.once
    rw [hr,List.pairwise_append,List.pairwise_append] at this
    exact this.1.2.1
   have h2:=h1.filter (mC x)
   rw [List.Nodup,List.pairwise_map]
   refine h2.imp_of_mem fun {a b} ha hb h=>h ?_
   obtain ⟨ha1,ha2⟩:=List.mem_filter.1 ha
   exact (hok a (hmem a ha1) (by simpa [mC] using ha2)).1
  ·intro e he
   obtain ⟨t,ht,rfl⟩:=List.mem_map.1 he
   obtain ⟨ht1,ht2⟩:=List.mem_filter.1 ht
   have ht2:t.2.2=x:=by simpa [mC] using ht2
   obtain ⟨h1,h2,h3,h4⟩:=hok t (hmem t ht1) ht2
   simp only [aJ,List.mem_map,List.mem_filter,List.mem_range,decide_eq_true_eq]
   exact ⟨t.1.toNat,⟨by omega,by rw [← h4];exact ht2⟩,by simp;omega⟩
  ·rw [hN, ← hc,List.length_map,List.countP_eq_length_filter]
 have hie:(i:Int)∈aJ (fun e=>e.2) g.es g.es.length x:=by
  simp only [aJ,List.mem_map,List.mem_filter,List.mem_range,decide_eq_true_eq]
  exact ⟨i,⟨hl,hx⟩,rfl⟩
 obtain ⟨t,ht,he⟩:=List.mem_map.1 (key _ hie)
 obtain ⟨ht1,ht2⟩:=List.mem_filter.1 ht
 have ht2:t.2.2=x:=by simpa [mC] using ht2
 obtain ⟨h1,h2,h3,h4⟩:=hok t (hmem t ht1) ht2
 refine ⟨t,hmem t ht1,he, ?_,ht2⟩
 rw [h3,he,Int.toNat_natCast];rfl
theorem ir {g:Gr} (hm:aO g=true) {f:Fr} (hi:iU g f) {x:Int} (h0:0≤x) (hn:bw g x=0):gM x f.row:=by
 intro t ht he
 rcases hi.it t ht with ⟨_,h2⟩|⟨h1,h2,_,h4⟩
 ·omega
 ·have:=rR h1 h2
  rw [← h4,he] at this
  omega
theorem jD {g:Gr} (hm:aO g=true) {f:Fr} (hi:iU g f) {x:Int} (hR:aD g f x=true):
 ∃A X C,f.row=A++X++C∧gM x A∧gM x C∧(∀t∈X,t.2.2=x∨t.2.2= -1)∧∀o,aC g f x o=((X,0),⟨A++aP g x o++C,f.pl++ [x]⟩):=by
 by_cases hn:bw g x=0
 ·have h:=ir hm hi (aW hR).1 hn
  exact ⟨[], [],f.row,by simp,fun t ht=>(by cases ht),h,fun t ht=>(by cases ht),fun o=>by rw [gv o h];simp⟩
 ·obtain ⟨A,X,C,hr,hA,hC,hX,_⟩:=cr hm hi hR hn
  exact ⟨A,X,C,hr,hA,hC,hX.al,fun o=>iw o hr hA hC hX⟩
theorem kO {g:Gr} {x i:Int} (h:i∈bu g x):∃k:Nat,i=k∧k<g.es.length∧tl g k=x:=by
 obtain ⟨⟨h1,h2⟩,h3⟩:=dY h
 exact ⟨i.toNat,by omega,by omega,h3⟩
theorem kP {g:Gr} {x:Int} {o:List Int} (ho:∀i∈o,i∈bu g x) {t:It} (h:t∈aP g x o):(t.1= -1∧t.2.2= -1)∨∃k:Nat,k<g.es.length∧t.1=k∧t.2.1=x∧t.2.2=hd g k∧tl g k=x∧t.1∈o:=by
 unfold aP at h
 split at h
 ·rw [List.mem_singleton] at h
  rw [h];exact .inl ⟨rfl,rfl⟩
 ·obtain ⟨i,Ss,rfl⟩:=List.mem_map.1 h
  obtain ⟨k,rfl,h1,h2⟩:=kO (ho i Ss)
  exact .inr ⟨k,h1,rfl,rfl,by simp [gr];rfl,h2,Ss⟩
theorem rS {g:Gr} (hm:aO g=true) {f:Fr} (hi:y9 g f) {x y:Int} (hx:x∉f.pl) (hR:aD g f y=true) {o:List Int} (ho:∀i∈o,i∈bu g x):gM y (aP g x o):=by
 intro t ht he
 rcases kP ho ht with ⟨_,h⟩|⟨k,h1,h2,h3,h4,h5,_⟩
 ·have:=(aW hR).1;omega
 ·obtain ⟨s,hs,e1,e2,e3⟩:=yG hm hi hR h1 (by rw [← h4];exact he)
  refine hx ?_
  rw [← h5, ← e2]
  exact hi.tail s hs (by omega)
theorem kQ {g:Gr} (hm:aO g=true) {f:Fr} (hi:y9 g f) {x:Int} (hR:aD g f x=true) {o:List Int} (ho:o.Perm (bu g x)):y9 g (aC g f x o).2:=by
 have I9:∀i∈o,i∈bu g x:=fun i h=>ho.mem_iff.1 h
 have hx:=(aW hR).2.2
 have h0:=GH hi.toiU hR I9
 obtain ⟨A,X,C,hr,hA,hC,hX,hs⟩:=jD hm hi.toiU hR
 have fD:(aC g f x o).2.pl=f.pl++ [x]:=rfl
 have hrow:(aC g f x o).2.row=A++aP g x o++C:=by rw [hs o]
 have Q0:∀t∈A,t∈f.row:=fun t ht=>by rw [hr];simp [ht]
 have Q1:∀t∈C,t∈f.row:=fun t ht=>by rw [hr];simp [ht]
 have CM:=rS hm hi hx hR I9
 refine {toiU:=h0,tail:= ?_,head:= ?_,once:= ?_,low:= ?_,src:= .inr ?_}
 ·intro t ht h1
  rw [fD]
  rw [hrow,List.mem_append,List.mem_append] at ht
  rcases ht with (ht|ht)|ht
  ·exact List.mem_append_left _ (hi.tail t (Q0 t ht) h1)
  ·rcases kP I9 ht with ⟨h,_⟩|⟨k,_,_,h3,_⟩
   ·omega
   ·rw [h3];simp
  ·exact List.mem_append_left _ (hi.tail t (Q1 t ht) h1)
 ·intro t ht h1
  rw [fD,List.mem_append,List.mem_singleton]
  rw [hrow,List.mem_append,List.mem_append] at ht
  rcases ht with (ht|ht)|ht
  ·rintro (h|h)
   ·exact hi.head t (Q0 t ht) h1 h
   ·exact hA t ht h
  ·rintro (h|h)
   ·rcases kP I9 ht with ⟨h',_⟩|⟨k,hk,_,_,h4,h5,_⟩
    ·omega
    ·rw [h4] at h
     have:=hi.low k hk h
     rw [h5] at this;exact hx this
   ·exact CM t ht h
  ·rintro (h|h)
   ·exact hi.head t (Q1 t ht) h1 h
   ·exact hC t ht h
 ·have zk:=hi.once
  rw [hr,List.pairwise_append,List.pairwise_append] at zk
  obtain ⟨⟨Uc,_,_⟩,Ud,Q2⟩:=zk
  have old:∀s∈f.row,0≤s.1→∀t∈aP g x o,s.1≠t.1:=fun s hs h1 t ht e=>by
   rcases kP I9 ht with ⟨h,_⟩|⟨k,hk,h2,h3,h4,h5,_⟩
   ·omega
   ·rcases hi.it s hs with ⟨h,_⟩|⟨_,_,h6,_⟩
    ·omega
    ·have:=hi.tail s hs h1
     rw [h6,e,h2,Int.toNat_natCast] at this
     exact hx (h5 ▸ this)
  rw [hrow,List.pairwise_append,List.pairwise_append]
  refine ⟨⟨Uc, ?_,fun s hs t ht h1=>old s (Q0 s hs) h1 t ht⟩,Ud, ?_⟩
  ·unfold aP
   split
   ·simp
   ·refine List.pairwise_map.2 ((ho.nodup_iff.2 cq).imp fun {i j} (h:i≠j) _=> ?_)
    exact h
  ·intro s hs t ht h1
   rcases List.mem_append.1 hs with hs|hs
   ·exact Q2 s (List.mem_append_left _ hs) t ht h1
   ·intro e
    exact old t (Q1 t ht) (by omega) s hs e.symm
 ·intro i hl h
  rw [fD,List.mem_append,List.mem_singleton] at h ⊢
  left
  rcases h with h|h
  ·exact hi.low i hl h
  ·obtain ⟨t,ht,e1,e2,_⟩:=yG hm hi hR hl h
   rw [← e2]
   exact hi.tail t ht (by omega)
 ·rcases hi.src with ⟨h1,h2⟩|⟨s,hs,h⟩
  ·refine ⟨x,by rw [fD];simp, ?_⟩
   refine Decidable.byContradiction fun hn=> ?_
   obtain ⟨A,X,C,hr,_,_,hX,_⟩:=cr hm hi.toiU hR hn
   obtain ⟨p,X',e,_⟩:=hX.fst
   rw [h2,e] at hr
   simp at hr
  ·exact ⟨s,by rw [fD];simp [hs],h⟩
theorem apart {x y:Int} (hx:0≤x) (hy:0≤y) (hxy:x≠y) {A X C B Y D:List It} (h:A++X++C=B++Y++D) (hX:Ee x X) (hY:Ee y Y):
 (∃M,B=A++X++M∧C=M++Y++D)∨(∃M,A=B++Y++M∧D=M++X++C):=by
 obtain ⟨p,X',K6,hp⟩:=hX.fst
 obtain ⟨q,Y',Ue,hq⟩:=hY.fst
 have nX:q∉X:=fun h=>hX.Sr hxy hy q h hq
 have nY:p∉Y:=fun h=>hY.Sr (Ne.symm hxy) hx p h hp
 rw [show B++Y++D=B++(Y++D) by simp,List.append_eq_append_iff] at h
 rcases h with ⟨es,h1,h2⟩|⟨cs,h1,h2⟩
 ·exact .inl ⟨es,h1,by rw [h2];simp⟩
 ·match cs,h1,h2 with
  | [],h1,h2=>exact .inl ⟨[],by simpa using h1.symm,by simpa using h2.symm⟩
  |c::cs,h1,h2=>
   have Uf:c=q:=by rw [Ue] at h2;simp at h2;exact h2.1.symm
   rw [List.append_eq_append_iff] at h1
   rcases h1 with ⟨es,h3,h4⟩|⟨ds,h3,h4⟩
   ·exfalso;refine nX ?_
    rw [h4, ← Uf];simp
   ·rw [h4,List.append_assoc,List.append_eq_append_iff] at h2
    rcases h2 with ⟨es,h5,h6⟩|⟨bs,h5,h6⟩
    ·exact .inr ⟨es,by rw [h3,h5];simp,by rw [h6];simp⟩
    ·match bs,h5,h6 with
     | [],h5,h6=>exact .inr ⟨[],by rw [h3,h5];simp,by simpa using h6.symm⟩
     |b::bs,h5,h6=>
      exfalso;refine nY ?_
      have Ug:b=p:=by rw [K6] at h6;simp at h6;exact h6.1.symm
      rw [h5, ← Ug];simp
theorem Ak {g:Gr} (hm:aO g=true) {f:Fr} (hi:y9 g f) {x y:Int} (hxy:x≠y) (CN:aD g f x=true) (w8:aD g f y=true)
 {a b:List Int} (ha:a.Perm (bu g x)) (hb:b.Perm (bu g y)) {A X M Y D:List It} (hr:f.row=A++X++M++Y++D) (hX:Ee x X) (hY:Ee y Y)
 (cX:X.countP (mC x)=bw g x) (cY:Y.countP (mC y)=bw g y)
 (nA:gM x A) (nC:gM x (M++Y++D)) (nB:gM y (A++X++M)) (nD:gM y D):
 aD g (aC g f x a).2 y=true∧aD g (aC g f y b).2 x=true∧(aC g (aC g f x a).2 y b).2.row=(aC g (aC g f y b).2 x a).2.row∧
 (aC g f x a).1=(aC g (aC g f y b).2 x a).1∧(aC g f y b).1=(aC g (aC g f x a).2 y b).1:=by
 obtain ⟨x0,x1,x2⟩:=aW CN
 obtain ⟨y0,y1,y2⟩:=aW w8
 have i1:=(kQ hm hi CN ha).toiU
 have i2:=(kQ hm hi w8 hb).toiU
 have ux:=rS hm hi x2 w8 (fun i h=>ha.mem_iff.1 h)
 have uy:=rS hm hi y2 CN (fun i h=>hb.mem_iff.1 h)
 have r1:f.row=A++X++(M++Y++D):=by rw [hr];simp
 have r2:f.row=(A++X++M)++Y++D:=by rw [hr]
 have e1:=iw (g:=g) a r1 nA nC hX
 have e2:=iw (g:=g) b r2 nB nD hY
 rw [e1] at i1 ⊢;rw [e2] at i2 ⊢
 have r3:A++aP g x a++(M++Y++D)=(A++aP g x a++M)++Y++D:=by simp
 have r4:A++X++M++aP g y b++D=A++X++(M++aP g y b++D):=by simp
 have n3:gM y (A++aP g x a++M):=((nB.left.left).app ux).app nB.right
 have n4:gM x (M++aP g y b++D):=(nC.left.left.app uy).app nC.right
 have e3:=iw (g:=g) (f:=⟨A++aP g x a++(M++Y++D),f.pl++ [x]⟩) b r3 n3 nD hY
 have e4:=iw (g:=g) (f:=⟨A++X++M++aP g y b++D,f.pl++ [y]⟩) a r4 nA n4 hX
 refine ⟨vg hm i1 y0 y1 ?_ r3 n3 nD hY cY,vg hm i2 x0 x1 ?_ r4 nA n4 hX cX, ?_, ?_, ?_⟩
 ·simp [y2,Ne.symm hxy]
 ·simp [x2,hxy]
 ·simp only [e3,e4];simp
 ·simp only [e4]
 ·simp only [e3]
theorem Ej {g:Gr} (hm:aO g=true) {f:Fr} (hi:y9 g f) {x y:Int} (hxy:x≠y) (CN:aD g f x=true) (w8:aD g f y=true)
 {a b:List Int} (ha:a.Perm (bu g x)) (hb:b.Perm (bu g y)) (nx:bw g x≠0) (ny:bw g y≠0):
 aD g (aC g f x a).2 y=true∧aD g (aC g f y b).2 x=true∧(aC g (aC g f x a).2 y b).2.row=(aC g (aC g f y b).2 x a).2.row∧
 (aC g f x a).1=(aC g (aC g f y b).2 x a).1∧(aC g f y b).1=(aC g (aC g f x a).2 y b).1:=by
 obtain ⟨A,X,C,hr,hA,hC,hX,cX⟩:=cr hm hi.toiU CN nx
 obtain ⟨B,Y,D,hr',hB,hD,hY,cY⟩:=cr hm hi.toiU w8 ny
 rcases apart (aW CN).1 (aW w8).1 hxy (hr.symm.trans hr') hX hY with ⟨M,rfl,rfl⟩|⟨M,rfl,rfl⟩
 ·exact Ak hm hi hxy CN w8 ha hb (by rw [hr];simp) hX hY cX cY hA hC hB hD
 ·obtain ⟨h1,h2,h3,h4,h5⟩:=Ak hm hi (Ne.symm hxy) w8 CN hb ha (by rw [hr'];simp) hY hX cY cX hB hD hA hC
  exact ⟨h2,h1,h3.symm,h5,h4⟩
theorem jk {g:Gr} {y:Int} :y∈bg (·.2) g↔(0≤y∧y<g.n)∧bw g y=0:=by
 simp only [bg,js,List.mem_map,List.mem_filter,List.mem_range,decide_eq_true_eq]
 have he:∀x:Nat,x<g.n.toNat→(((dL (·.2) g).getD x []).length=bw g (x:Int)):=by
  intro x hx
  have e:(dL (·.2) g).getD x []=aJ (·.2) g.es g.es.length (x:Int):=by
   simp [dL,List.getD_eq_getElem?_getD,List.getElem?_range hx,kG]
  rw [e];rfl
 constructor
 ·rintro ⟨x,⟨hx,h0⟩,rfl⟩
  refine ⟨by simp;omega,by rw [he x hx] at h0;exact h0⟩
 ·rintro ⟨⟨h1,h2⟩,h3⟩
  have e:((y.toNat:Nat):Int)=y:=by omega
  exact ⟨y.toNat,⟨by omega,by rw [he _ (by omega),e];exact h3⟩,e⟩
theorem jO {g:Gr} (hc:(bF g).1=0) {x y:Int} (hx:0≤x∧x<g.n) (hy:0≤y∧y<g.n) (nx:bw g x=0) (ny:bw g y=0):x=y:=by
 have h1:(bg (·.2) g).length≤1:=by
  unfold bF iE at hc
  refine Nat.not_lt.1 fun h=> ?_
  split at hc
  ·cases hc
  split at hc
  ·cases hc
  split at hc
  ·cases hc
  split at hc
  ·cases hc
  cases hc
 have h2:=jk.2 ⟨hx,nx⟩
 have h3:=jk.2 ⟨hy,ny⟩
 match hb:bg (·.2) g with
 | []=>rw [hb] at h2;cases h2
 | [z]=>rw [hb,List.mem_singleton] at h2 h3;rw [h2,h3]
 |_::_::_=>rw [hb] at h1;simp at h1
theorem an {g:Gr} (hc:(bF g).1=0):aO g=true:=by
 unfold bF iE at hc
 split at hc
 ·cases hc
 ·rename_i h;simpa using h
theorem Al {g:Gr} (hc:(bF g).1=0) {f:Fr} (hi:y9 g f) {x y:Int} (hxy:x≠y) (CN:aD g f x=true) (w8:aD g f y=true):bw g x≠0:=by
 intro nx
 have hm:=an hc
 obtain ⟨x0,x1,x2⟩:=aW CN
 obtain ⟨y0,y1,y2⟩:=aW w8
 rcases hi.src with ⟨h1,h2⟩|⟨s,hs,h⟩
 ·have ny:bw g y≠0:=fun ny=>hxy (jO hc ⟨x0,x1⟩ ⟨y0,y1⟩ nx ny)
  obtain ⟨A,X,C,hr,_,_,hX,_⟩:=cr hm hi.toiU w8 ny
  obtain ⟨p,X',e,_⟩:=hX.fst
  rw [h2,e] at hr
  simp at hr
 ·exact x2 (jO hc (hi.EX s hs) ⟨x0,x1⟩ h nx ▸ hs)
theorem Ek {g:Gr} (hc:(bF g).1=0) {f:Fr} (hi:y9 g f) {x y:Int} (hxy:x≠y) (CN:aD g f x=true) (w8:aD g f y=true)
 {a b:List Int} (ha:a.Perm (bu g x)) (hb:b.Perm (bu g y)):
 aD g (aC g f x a).2 y=true∧aD g (aC g f y b).2 x=true∧(aC g (aC g f x a).2 y b).2.row=(aC g (aC g f y b).2 x a).2.row∧
 (aC g f x a).1=(aC g (aC g f y b).2 x a).1∧(aC g f y b).1=(aC g (aC g f x a).2 y b).1:=
 Ej (an hc) hi hxy CN w8 ha hb (Al hc hi hxy CN w8) (Al hc hi (Ne.symm hxy) w8 CN)
end Go.Ab
end
section
namespace Go.Ab
open Go.Proofs
attribute [local congr] ACall.congr gd.congr Nx.congr
set_option maxRecDepth 10000
set_option maxHeartbeats 4000000
def CO (row:List It) (a b:Int):Nat→Int × Int
 |0=>(-1,0)
 |k+1=>if ((row.getD k (0,0,0)).2.2=a∨(row.getD k (0,0,0)).2.2=b)∧(row.getD k (0,0,0)).2.2≠(CO row a b k).1 then ((row.getD k (0,0,0)).2.2,(CO row a b k).2+1) else CO row a b k
end Go.Ab
end
section
namespace Go.Ab
open Go.Proofs
attribute [local congr] ACall.congr gd.congr Nx.congr
set_option maxRecDepth 10000
set_option maxHeartbeats 4000000
def LV (row:List It) (i:Nat):Int:=(row.getD i (0,0,0)).2.2
def Q3 (row:List It) (i j:Nat):Bool:=decide (LV row i≠ -1)&&decide (LV row j≠ -1)&&decide (LV row i≠LV row j)&&decide (4≤(CO row (LV row i) (LV row j) row.length).2)
def St (row:List It):Bool:=(List.range row.length).any fun i=>(List.range row.length).any (Q3 row i)
end Go.Ab
end
section
namespace Go.Ab
open Go.Proofs
attribute [local congr] ACall.congr gd.congr Nx.congr
set_option maxRecDepth 10000
set_option maxHeartbeats 8000000
def T4 (row:List It) (a b c d:Nat):Prop:=0≤(row.getD a (0,0,0)).2.2∧0≤(row.getD b (0,0,0)).2.2∧(row.getD a (0,0,0)).2.2≠(row.getD b (0,0,0)).2.2∧(row.getD a (0,0,0)).2.2=(row.getD c (0,0,0)).2.2∧(row.getD b (0,0,0)).2.2=(row.getD d (0,0,0)).2.2
def Uh (row:List It):Prop:=∃a b c d,a<b∧b<c∧c<d∧d<row.length∧T4 row a b c d
end Go.Ab
end
section
namespace Go.Ab
open Go.Proofs
set_option maxRecDepth 10000
theorem Am {g:Gr} {f f':Fr} (hr:f.row=f'.row) (hp:f.pl.Perm f'.pl) (x:Int):aD g f x=aD g f' x:=by
 unfold aD
 rw [hr]
 by_cases h:x<0∨g.n≤x∨x∈f.pl
 ·rw [if_pos h,if_pos (by rw [← hp.mem_iff];exact h)]
 ·have h':¬(x<0∨g.n≤x∨x∈f'.pl):=by rw [← hp.mem_iff];exact h
  rw [if_neg h,if_neg h']
theorem pL:∀ {l m:List Int},l.Nodup→(∀i∈l,i∈m)→l.length≤m.length
 | [],_,_,_=>by simp
 |a::l,m,hn,hs=>by
  rw [List.nodup_cons] at hn
  have ha:=hs a (List.mem_cons_self ..)
  have:=pL hn.2 (m:=m.erase a) fun i hi=>(List.mem_erase_of_ne (fun e:i=a=>hn.1 (e ▸ hi))).2 (hs i (List.mem_cons_of_mem _ hi))
  rw [List.length_erase_of_mem ha] at this
  have:=List.length_pos_of_mem ha
  rw [List.length_cons];omega
theorem kR {g:Gr} {f:Fr} (hi:iU g f) (hf:(f.pl.length:Int)=g.n) {x:Int} (hx:0≤x∧x<g.n):x∈f.pl:=by
 refine Decidable.byContradiction fun h=> ?_
 have h1:(x::f.pl).Nodup:=List.nodup_cons.2 ⟨h,hi.pl⟩
 have h2:((List.range g.n.toNat).map Int.ofNat).length=g.n.toNat:=by simp
 have h3:=pL h1 (m:=(List.range g.n.toNat).map Int.ofNat) (fun y hy=>by
  rw [List.mem_map]
  have:0≤y∧y<g.n:=by
   rcases List.mem_cons.1 hy with h|h
   ·rw [h];exact hx
   ·exact hi.EX y h
  exact ⟨y.toNat,List.mem_range.2 (by omega),by simp;omega⟩)
 rw [h2,List.length_cons] at h3
 omega
def Tg (a b:Int) (row:List It):Prop:=∃l:List It,l.Sublist row∧l.map (fun t=>t.2.2)= [a,b,a,b]
def GI (a b:Int) (t:It):Bool:=decide (t.2.2=a)||decide (t.2.2=b)
theorem Tg.Q4 {a b:Int} {row:List It} :Tg a b row↔Tg a b (row.filter (GI a b)):=by
 constructor
 ·rintro ⟨l,h,e⟩
  refine ⟨l, ?_,e⟩
  have h1:=h.filter (GI a b)
  rw [List.filter_eq_self.2] at h1
  ·exact h1
  ·intro t ht
   have:t.2.2∈l.map (fun t=>t.2.2):=List.mem_map.2 ⟨t,ht,rfl⟩
   rw [e] at this
   simp only [GI,Bool.or_eq_true,decide_eq_true_eq]
   simp only [List.mem_cons,List.not_mem_nil,or_false] at this
   omega
 ·rintro ⟨l,h,e⟩
  exact ⟨l,h.trans List.filter_sublist,e⟩
theorem Tg.keep {a b x:Int} (ha:0≤a) (hb:0≤b) (Dz:a≠x) (qX:b≠x) {A X C u:List It} (hX:∀t∈X,t.2.2=x∨t.2.2= -1) (h:Tg a b (A++X++C)):Tg a b (A++u++C):=by
 rw [Tg.Q4] at h ⊢
 obtain ⟨l,h,e⟩:=h
 refine ⟨l,h.trans ?_,e⟩
 rw [List.filter_append,List.filter_append,List.filter_append,List.filter_append]
 have:X.filter (GI a b)= []:=List.filter_eq_nil_iff.2 fun t ht=>by
  simp only [GI,Bool.or_eq_true,decide_eq_true_eq]
  rcases hX t ht with h|h<;>omega
 rw [this,List.append_nil]
 exact List.Sublist.append_right (List.sublist_append_left _ _) _
theorem Tg.not {a b x:Int} (hab:a≠b) (hb0:0≤b) (ha0:0≤a) (hx:x=a∨x=b) {A X C:List It} (hA:gM x A) (hC:gM x C) (hX:∀t∈X,t.2.2=x∨t.2.2= -1):¬Tg a b (A++X++C):=by
 rintro ⟨l,h,e⟩
 rw [List.append_assoc,List.sublist_append_iff] at h
 obtain ⟨l1,l',rfl,h1,h'⟩:=h
 rw [List.sublist_append_iff] at h'
 obtain ⟨l2,l3,rfl,h2,h3⟩:=h'
 have k1:∀t∈l1,t.2.2≠x:=fun t ht=>hA t (h1.subset ht)
 have k2:∀t∈l2,t.2.2=x∨t.2.2= -1:=fun t ht=>hX t (h2.subset ht)
 have k3:∀t∈l3,t.2.2≠x:=fun t ht=>hC t (h3.subset ht)
 clear h1 h2 h3
 match l1,k1,e with
 |t1::t2::_,k1,e=>
  simp only [List.cons_append,List.map_cons,List.cons.injEq] at e
  rcases hx with h|h
  ·exact k1 t1 (by simp) (by omega)
  ·exact k1 t2 (by simp) (by omega)
 | [t1],k1,e=>
   simp only [List.cons_append,List.nil_append,List.map_cons,List.cons.injEq] at e
   rcases hx with h|h
   ·exact k1 t1 (by simp) (by omega)
   ·match l2,k2,e with
    | [],_,e=>
      match l3,k3,e with
      | [s1,s2,s3],k3,e=>
        simp only [List.nil_append,List.map_cons,List.map_nil,List.cons.injEq,and_true] at e
        exact k3 s1 (by simp) (by omega)
      | [],_,e=>simp at e
      | [_],_,e=>simp at e
      | [_,_],_,e=>simp at e
      |_::_::_::_::_,_,e=>simp at e
    |s1::s2::_,k2,e=>
     simp only [List.cons_append,List.map_cons,List.cons.injEq] at e
     rcases k2 s2 (by simp) with h|h<;>omega
    | [s1],k2,e=>
      match l3,k3,e with
      | [u1,u2],k3,e=>
        simp only [List.cons_append,List.nil_append,List.map_cons,List.map_nil,List.cons.injEq,and_true] at e
        exact k3 u2 (by simp) (by omega)
      | [],_,e=>simp at e
      | [_],_,e=>simp at e
      |_::_::_::_,_,e=>simp at e
 | [],_,e=>
   simp only [List.nil_append] at e
   match l2,k2,e with
   | [],_,e=>
     match l3,k3,e with
     | [],_,e=>simp at e
     | [_],_,e=>simp at e
     |s1::s2::_,k3,e=>
      simp only [List.nil_append,List.map_cons,List.cons.injEq] at e
      rcases hx with h|h
      ·exact k3 s1 (by simp) (by omega)
      ·exact k3 s2 (by simp) (by omega)
   |s1::s2::_,k2,e=>
    simp only [List.cons_append,List.map_cons,List.cons.injEq] at e
    have q1:=k2 s1 (by simp)
    have q2:=k2 s2 (by simp)
    omega
   | [s1],k2,e=>
     match l3,k3,e with
     | [],_,e=>simp at e
     | [_],_,e=>simp at e
     | [_,_],_,e=>simp at e
     |u1::u2::u3::_,k3,e=>
      simp only [List.cons_append,List.nil_append,List.map_cons,List.cons.injEq] at e
      have q1:=k2 s1 (by simp)
      exact k3 u2 (by simp) (by omega)
end Go.Ab
end
section
namespace Go.Ab
open Go.Proofs
set_option maxRecDepth 10000
theorem El {row:List It} {k:Nat} (h:k<row.length):row.take (k+1)=row.take k++ [row.getD k (0,0,0)]:=by
 rw [List.take_add_one,List.getD_eq_getElem?_getD,List.getElem?_eq_getElem h];rfl
theorem GJ {row:List It} {i j:Nat} (h:i≤j):(row.take i).Sublist (row.take j):=by
 rw [show row.take i=(row.take j).take i by rw [List.take_take,Nat.min_eq_left h]]
 exact List.take_sublist _ _
theorem vh {row l:List It} {i j:Nat} (h:l.Sublist (row.take i)) (hij:i≤j) (hj:j<row.length):(l++ [row.getD j (0,0,0)]).Sublist (row.take (j+1)):=by
 rw [El hj]
 exact List.Sublist.append (h.trans (GJ hij)) (List.Sublist.refl _)
def Q5 (a b:Int):List It→Prop
 | []=>True
 | [t]=>t.2.2=a∨t.2.2=b
 |s::t::l=>(s.2.2=a∨s.2.2=b)∧s.2.2≠t.2.2∧Q5 a b (t::l)
end Go.Ab
end
section
namespace Go.Ab
open Go.Proofs
set_option maxRecDepth 10000
structure Pl where
 ord:List Int
 outs:List (List Int)
def aj (p:Pl) (k:Nat):Int:=p.ord.getD k 0
def bn (p:Pl) (x:Int):List Int:=p.outs.getD x.toNat []
def bt (g:Gr) (p:Pl):Prop:=p.outs.length=g.n.toNat∧p.ord.Perm (ff g.n.toNat)∧∀x:Nat,x<g.n.toNat→(p.outs.getD x []).Perm (bu g x)
def fK (g:Gr) (p:Pl):Nat→Fr
 |0=>⟨[], []⟩
 |k+1=>(aC g (fK g p k) (aj p k) (bn p (aj p k))).2
def eX (g:Gr) (p:Pl) (k:Nat):List It:=(aC g (fK g p k) (aj p k) (bn p (aj p k))).1.1
def w9 (g:Gr) (p:Pl) (k:Nat):Bool:=aD g (fK g p k) (aj p k)
def dM (g:Gr) (p:Pl):Nat→List (List It)
 |0=>List.replicate g.n.toNat []
 |k+1=>(dM g p k).set (aj p k).toNat (eX g p k)
def jP (g:Gr) (p:Pl):Nat→Option Nat
 |0=>none
 |k+1=>match jP g p k with
  |some i=>some i
  |none=>if w9 g p k=true then none else some k
def bH (g:Gr) (p:Pl):Prop:=(bF g).1=0∧bt g p∧∀k,k<g.n.toNat→w9 g p k=true
theorem fR {g:Gr} {p:Pl} :∀ {k:Nat},jP g p k=none↔∀j,j<k→w9 g p j=true
 |0=>by simp [jP]
 |k+1=>by
  rw [jP]
  cases h:jP g p k with
  |some i=>
   simp only [reduceCtorEq,false_iff]
   intro h2
   rw [fR.2 fun j hj=>h2 j (by omega)] at h
   cases h
  |none=>
   have ih:=fR.1 h
   simp only
   constructor
   ·intro h2 j hj
    by_cases hjk:j=k
    ·subst hjk
     refine Decidable.byContradiction fun hn=> ?_
     rw [if_neg hn] at h2;cases h2
    ·exact ih j (by omega)
   ·intro h2
    rw [if_pos (h2 k (by omega))]
theorem pM {g:Gr} {p:Pl} {i:Nat} :∀ {k:Nat},jP g p k=some i↔i<k∧w9 g p i=false∧∀j,j<i→w9 g p j=true
 |0=>by simp [jP]
 |k+1=>by
  rw [jP]
  cases h:jP g p k with
  |some i'=>
   have ih:=(pM (g:=g) (p:=p)).1 h
   simp only [Option.some.injEq]
   constructor
   ·rintro rfl
    exact ⟨by omega,ih.2⟩
   ·rintro ⟨h1,h2,h3⟩
    rcases Nat.lt_trichotomy i' i with h4|h4|h4
    ·rw [h3 i' h4] at ih;simp at ih
    ·exact h4
    ·rw [ih.2.2 i h4] at h2;cases h2
  |none=>
   have ih:=fR.1 h
   simp only
   constructor
   ·intro h2
    by_cases hk:w9 g p k=true
    ·rw [if_pos hk] at h2;cases h2
    ·rw [if_neg hk] at h2
     cases h2
     exact ⟨by omega,by simpa using hk,ih⟩
   ·rintro ⟨h1,h2,h3⟩
    have:i=k:=by
     by_cases h4:i<k
     ·rw [ih i h4] at h2;cases h2
     ·omega
    subst this
    rw [if_neg (by rw [h2];simp)]
theorem jE {n:Nat} :(ff n).length=n:=by simp [ff]
theorem bR {g:Gr} {p:Pl} (h:bt g p):p.ord.length=g.n.toNat:=by rw [h.2.1.length_eq,jE]
theorem vi {g:Gr} {p:Pl} (h:bt g p):p.ord.Nodup:=h.2.1.nodup_iff.2 ig
theorem aF {g:Gr} {p:Pl} (h:bt g p) {k:Nat} (hk:k<g.n.toNat):0≤aj p k∧aj p k<g.n:=by
 have h1:aj p k∈p.ord:=aB (by rw [bR h];exact hk)
 have:=dX.1 (h.2.1.mem_iff.1 h1)
 omega
theorem cZ {g:Gr} {p:Pl} (h:bt g p) {i j:Nat} (hi:i<g.n.toNat) (hj:j<g.n.toNat) (e:aj p i=aj p j):i=j:=
 uQ (vi h) (by rw [bR h];exact hi) (by rw [bR h];exact hj) e
theorem dH {g:Gr} {p:Pl} (h:bt g p) {x:Int} (h0:0≤x) (h1:x<g.n):∃k,k<g.n.toNat∧aj p k=x:=by
 have:x∈p.ord:=h.2.1.mem_iff.2 (dX.2 (by omega))
 obtain ⟨k,hk,e⟩:=List.mem_iff_getElem.1 this
 refine ⟨k,by rw [← bR h];exact hk, ?_⟩
 rw [aj,List.getD_eq_getElem?_getD,List.getElem?_eq_getElem hk,Option.getD_some,e]
theorem bN {g:Gr} {p:Pl} (h:bt g p) {x:Int} (h0:0≤x) (h1:x<g.n):(bn p x).Perm (bu g x):=by
 have:=h.2.2 x.toNat (by omega)
 rwa [show ((x.toNat:Nat):Int)=x by omega] at this
theorem jQ {g:Gr} {p:Pl} (h:bt g p) {x:Int} (h0:0≤x) (h1:x<g.n):(bn p x).length≤g.es.length:=by
 rw [(bN h h0 h1).length_eq];exact Ai
theorem c7 {g:Gr} (hm:aO g=true) {p:Pl} (h:bt g p):∀ {k:Nat},k≤g.n.toNat→(∀j,j<k→w9 g p j=true)→y9 g (fK g p k)∧(fK g p k).pl=p.ord.take k∧(fK g p k).row.length≤k*(g.es.length+1)
 |0,_,_=>⟨CL g,by simp [fK],by simp [fK]⟩
 |k+1,hk,hok=>by
  obtain ⟨h1,h2,h3⟩:=c7 hm h (k:=k) (by omega) fun j hj=>hok j (by omega)
  obtain ⟨x0,x1⟩:=aF h (k:=k) (by omega)
  have hl:=Ec (g:=g) (f:=fK g p k) (x:=aj p k) (o:=bn p (aj p k))
  have A8:=jQ h x0 x1
  refine ⟨kQ hm h1 (hok k (by omega)) (bN h x0 x1), ?_, ?_⟩
  ·show (fK g p k).pl++ [aj p k]=_
   rw [h2,List.take_add_one,List.getElem?_eq_getElem (by rw [bR h];omega),aj,List.getD_eq_getElem?_getD,List.getElem?_eq_getElem (by rw [bR h];omega)]
   rfl
  ·show (aC _ _ _ _).2.row.length≤_
   rw [Nat.add_mul];omega
theorem An {g:Gr} {p:Pl} (h:bt g p) {k:Nat} (hk:k<g.n.toNat) (hR:w9 g p k=true):dG g (fK g p k) (aj p k) (bn p (aj p k))=aC g (fK g p k) (aj p k) (bn p (aj p k)):=by
 have hp:=bN h (aF h hk).1 (aF h hk).2
 unfold dG
 have K2:aD g (fK g p k) (aj p k)=true:=hR
 rw [if_neg (by rw [K2];simp),if_neg]
 rintro (h|⟨i,h1,h2⟩)
 ·exact h hp.length_eq
 ·exact h2 (hp.mem_iff.2 h1)
theorem Ao {g:Gr} {p:Pl} {k:Nat} (hR:w9 g p k=false):dG g (fK g p k) (aj p k) (bn p (aj p k))=(([],3),fK g p k):=if_pos hR
theorem kS {g:Gr} {p:Pl} :∀ {k:Nat},(dM g p k).length=g.n.toNat
 |0=>by simp [dM]
 |k+1=>by rw [dM,List.length_set,kS]
theorem Em {α:Type} {l:List α} {i j:Nat} {a d:α} (hi:i<l.length):(l.set i a).getD j d=if j=i then a else l.getD j d:=by
 rw [List.getD_eq_getElem?_getD,List.getElem?_set,List.getD_eq_getElem?_getD]
 by_cases h:i=j
 ·subst h;simp [hi]
 ·rw [if_neg h,if_neg (Ne.symm h)]
theorem oc {g:Gr} {p:Pl} (h:bt g p):∀ {k:Nat},k≤g.n.toNat→∀ {i:Nat},i<k→(dM g p k).getD (aj p i).toNat []=eX g p i
 |0,_,i,hi=>by omega
 |k+1,hk,i,hi=>by
  have hm:=aF h (k:=k) (by omega)
  rw [dM,Em (by rw [kS];omega)]
  by_cases e:i=k
  ·subst e;rw [if_pos rfl]
  ·have IK:=aF h (k:=i) (by omega)
   rw [if_neg (fun h2=>e (cZ h (by omega) (by omega) (by omega)))]
   exact oc h (by omega) (by omega)
theorem qJ {l m:List Int} (h:iT l=m):l.Perm m:=by
 rw [← h];exact (List.mergeSort_perm l _).symm
theorem Ap {n:Nat} :(ff n).Pairwise (· ≤ ·):=by
 unfold ff
 refine List.Pairwise.map _ (fun a b (h:a<b)=> ?_) List.pairwise_lt_range
 show (a:Int)≤b
 omega
theorem Jd {g:Gr} (hm:aO g=true) {p:Pl} :(p.outs.length=g.n.toNat∧p.ord.length=g.n.toNat∧(∀i:Nat,i<(iT p.ord).length→(iT p.ord).getD i 0=i)∧∀x:Nat,x<p.outs.length→iT (p.outs.getD x [])=bD (·.1) g x)↔bt g p:=by
 constructor
 ·rintro ⟨h1,h2,h3,h4⟩
  refine ⟨h1,qJ ?_,fun x hx=> ?_⟩
  ·refine List.ext_getElem (by rw [fQ,h2,jE]) fun i h5 h6=> ?_
   have:=h3 i h5
   rw [List.getD_eq_getElem?_getD,List.getElem?_eq_getElem h5,Option.getD_some] at this
   rw [this];simp [ff]
  ·have:=h4 x (by omega)
   rw [gu (by omega) (by omega)] at this
   exact qJ this
 ·intro h
  refine ⟨h.1,bR h, ?_,fun x hx=> ?_⟩
  ·rw [vf h.2.1 Ap]
   intro i hi
   rw [jE] at hi
   simp [ff,List.getD_eq_getElem?_getD,List.getElem?_range hi]
  ·rw [gu (by omega) (by have:=h.1;omega)]
   exact vf (h.2.2 x (by rw [← h.1];exact hx)) sP
theorem CP {g:Gr} (hm:aO g=true) {p:Pl} :(gL p.ord g.n=true∧p.outs.length=g.n.toNat∧(∀x:Nat,x<p.outs.length→∀i∈p.outs.getD x [],i∈bu g x)∧p.outs.flatten.Nodup∧∀i:Nat,i<g.es.length→(i:Int)∈p.outs.flatten)↔bt g p:=by
 have hn:=aM hm
 constructor
 ·rintro ⟨h1,h2,h3,h4,h5⟩
  refine ⟨h2, ?_,fun x hx=> ?_⟩
  ·obtain ⟨e1,e2⟩:=cD.1 h1
   exact tD ig e2 (by rw [jE];omega)
  ·have hxl:x<p.outs.length:=by omega
   have hmem:p.outs.getD x []∈p.outs:=aB hxl
   have cC:(p.outs.getD x []).Nodup:=by
    rw [List.Nodup,List.pairwise_flatten] at h4
    exact h4.1 _ hmem
   refine (List.perm_ext_iff_of_nodup cC cq).2 fun i=>⟨h3 x hxl i,fun hi=> ?_⟩
   obtain ⟨k,rfl,hk,ht⟩:=kO hi
   obtain ⟨l,hl,bS⟩:=List.mem_flatten.1 (h5 k hk)
   obtain ⟨y,hy,rfl⟩:=List.mem_iff_getElem.1 hl
   have e:p.outs.getD y []=p.outs[y]:=by rw [List.getD_eq_getElem?_getD,List.getElem?_eq_getElem hy];rfl
   rw [← e] at bS
   obtain ⟨k',e1,_,e2⟩:=kO (h3 y hy _ bS)
   have:k=k':=by omega
   subst this
   have:x=y:=by omega
   subst this
   exact bS
 ·intro h
  refine ⟨cD.2 ⟨?_,fun x hx=>h.2.1.mem_iff.2 hx⟩,h.1,fun x hx i hi=>(h.2.2 x (by rw [← h.1];exact hx)).mem_iff.1 hi, ?_,fun i hi=> ?_⟩
  ·have:=bR h;omega
  ·rw [List.Nodup,List.pairwise_flatten]
   constructor
   ·intro l hl
    obtain ⟨x,hx,rfl⟩:=List.mem_iff_getElem.1 hl
    have e:p.outs.getD x []=p.outs[x]:=by rw [List.getD_eq_getElem?_getD,List.getElem?_eq_getElem hx];rfl
    rw [← e]
    exact (h.2.2 x (by rw [← h.1];exact hx)).nodup_iff.2 cq
   ·refine List.pairwise_iff_getElem.2 fun x y hx hy hxy a ha b hb e=> ?_
    subst e
    have ex:p.outs.getD x []=p.outs[x]:=by rw [List.getD_eq_getElem?_getD,List.getElem?_eq_getElem hx];rfl
    have ey:p.outs.getD y []=p.outs[y]:=by rw [List.getD_eq_getElem?_getD,List.getElem?_eq_getElem hy];rfl
    rw [← ex] at ha
    rw [← ey] at hb
    obtain ⟨k,e1,_,e2⟩:=kO ((h.2.2 x (by rw [← h.1];exact hx)).mem_iff.1 ha)
    obtain ⟨k',e3,_,e4⟩:=kO ((h.2.2 y (by rw [← h.1];exact hy)).mem_iff.1 hb)
    have:k=k':=by omega
    subst this
    omega
  ·have ht:=(eH hm hi).1
   refine List.mem_flatten.2 ⟨p.outs.getD (tl g i).toNat [],aB (by rw [h.1];have:0≤tl g i∧tl g i<g.n:=ht;omega), ?_⟩
   have:0≤tl g i∧tl g i<g.n:=ht
   refine (h.2.2 _ (by omega)).mem_iff.2 ?_
   simp only [bu,aJ,List.mem_map,List.mem_filter,List.mem_range,decide_eq_true_eq]
   exact ⟨i,⟨hi,by show tl g i=_;omega⟩,rfl⟩
end Go.Ab
end
section
namespace Go.Ab
open Go.Proofs
set_option maxRecDepth 10000
def xb (g:Gr) (p:Pl) (f:Fr) (x:Int):Fr:=(aC g f x (bn p x)).2
def NB (g:Gr) (p:Pl):Nat→Fr→Prop
 |0,f=>(f.pl.length:Int)=g.n
 |m+1,f=>∃x,aD g f x=true∧NB g p m (xb g p f x)
def NC (rev:Bool) (l:List It):List It:=if rev=true then l.reverse else l
def GK (g:Gr) (f:Fr) (rev:Bool):Int:=match (NC rev f.row).find? (fun t=>aD g f t.2.2) with
 |some t=>t.2.2
 |none=>(K4 g f).headD (-1)
def CQ (g:Gr) (p:Pl) (rev:Bool):Nat→Fr
 |0=>⟨[], []⟩
 |k+1=>xb g p (CQ g p rev k) (GK g (CQ g p rev k) rev)
def CR (g:Gr) (p:Pl) (rev:Bool):Nat→List Int
 |0=>List.replicate g.n.toNat 0
 |k+1=>(CR g p rev k).set (GK g (CQ g p rev k) rev).toNat (k:Int)
def Ui (g:Gr) (p:Pl) (rev:Bool):List Int:=(List.range g.n.toNat).map fun k=>GK g (CQ g p rev k) rev
end Go.Ab
end
section
namespace Go.Ab
open Go.Proofs
set_option maxRecDepth 10000
def Uj (f:Fr):Fr:=⟨f.row.reverse,f.pl⟩
def Uk (p:Pl):Pl:=⟨p.ord,p.outs.map List.reverse⟩
theorem gM.rev {x:Int} {l:List It} (h:gM x l):gM x l.reverse:=fun t ht=>h t (List.mem_reverse.1 ht)
theorem Ee.rev {x:Int} {X:List It} (h:Ee x X):Ee x X.reverse:=
 ⟨by obtain ⟨X',q,h1,h2⟩:=h.EV;exact ⟨q,X'.reverse,by simp [h1],h2⟩,by obtain ⟨p,X',h1,h2⟩:=h.fst;exact ⟨X'.reverse,p,by simp [h1],h2⟩,fun t ht=>h.al t (List.mem_reverse.1 ht)⟩
end Go.Ab
end
section
namespace Go.Ab
open Go.Proofs
set_option maxRecDepth 10000
def loose (l:List It):List Int:=(l.filter fun t=>decide (t.1<0)).map fun t=>t.2.1
theorem xd {a b:List It} :loose (a++b)=loose a++loose b:=by simp [loose]
def ND (g:Gr) (p:Pl):Nat→List Edge
 |0=> []
 |k+1=>ND g p k++(loose (eX g p k)).map fun v=>(v,aj p k)
def nj (g:Gr) (p:Pl):List It:=(fK g p g.n.toNat).row
def newL (g:Gr) (p:Pl):List Edge:=if 1<(nj g p).length then (loose (nj g p)).map fun v=>(v,g.n) else []
def NF (g:Gr) (p:Pl):List Edge:=ND g p g.n.toNat++newL g p
def GL (g:Gr) (p:Pl):Gr:=⟨if 1<(nj g p).length then g.n+1 else g.n,g.es++NF g p⟩
def NG:Nat→List Edge→List (List Int)→List (List Int)
 |_, [],O=>O
 |m,e::N,O=>NG (m+1) N (O.set e.1.toNat [(m:Int)])
def Q6 (g:Gr) (p:Pl):Pl:=⟨if 1<(nj g p).length then p.ord++ [g.n] else p.ord,NG g.es.length (NF g p) (if 1<(nj g p).length then p.outs++ [[]] else p.outs)⟩
def Ul (g:Gr) (p:Pl) (x:Gr):List (List Int):=(List.range x.n.toNat).map fun v=>if 0<(p.outs.getD v []).length then p.outs.getD v [] else bu x (v:Int)
theorem iI {g:Gr} {p:Pl} (h:bt g p) {v:Int} (h0:0≤v) (h1:v<g.n):bu g v= []↔bn p v= []:=by
 have hp:=bN h h0 h1
 constructor
 ·intro e;rw [e] at hp;exact hp.eq_nil
 ·intro e;rw [e] at hp;exact hp.symm.eq_nil
end Go.Ab
end
section
namespace Go.Ab
open Go.Proofs
set_option maxRecDepth 10000
abbrev Act:=Int × List Int
def rA (a:Act):List D:= [.sc (.int .i64 a.1),sI a.2]
def sA (as':List Act):D:= .sl 2 (as'.map rA)
attribute [go_sem] sA
def NH (g:Gr) (K7:List Act):Nat→Fr
 |0=>⟨[], []⟩
 |k+1=>(dG g (NH g K7 k) (K7.getD k (0, [])).1 (K7.getD k (0, [])).2).2
theorem JW {g:Gr} {f:Fr} (hi:iU g f):(f.pl.length:Int)≤g.n∨f.pl= []:=by
 by_cases h:f.pl= []
 ·exact .inr h
 ·left
  obtain ⟨y,hy⟩:=List.exists_mem_of_ne_nil _ h
  have:=hi.EX y hy
  have h3:=pL hi.pl (m:=(List.range g.n.toNat).map Int.ofNat) (fun y hy=>by
   rw [List.mem_map]
   have:=hi.EX y hy
   exact ⟨y.toNat,List.mem_range.2 (by omega),by simp;omega⟩)
  simp at h3
  omega
theorem Aq (g:Gr) (hm:aO g=true) (f:Fr) (hi:y9 g f) (x:Int) (outs:List Int) (hr:f.row.length≤300000) (hp:f.pl.length≤100000) (ho:outs.length≤17592186043904):
 Spec Tryz.prog 89 (Args [.ptr 10000 0,eN x, .d (sI outs)]) (oM g f) (.tup [.d (sT (dG g f x outs).1.1),eN (dG g f x outs).1.2]) (BK g (dG g f x outs).2):=by
 rw [← GF hm hi.toiU]
 exact BM g hm f x outs hr hp ho
end Go.Ab
end
section
namespace Go.Ab
open Go.Proofs
attribute [local congr] ACall.congr gd.congr Nx.congr
set_option maxRecDepth 10000
set_option maxHeartbeats 4000000
def ePl (p:Pl):AV:= .agg [.d (sI p.ord), .d (.sl 1 (vI p.outs))]
attribute [go_sem] ePl
structure qK (p:Pl):Prop where
 ord:p.ord.length≤17592186043904
 outs:p.outs.length≤9223372036854775807
 each:∀l∈p.outs,l.length≤17592186043904
theorem GM (g:Gr) (hm:aO g=true) (p:Pl) (hp:qK p) (res:Bool) (hr:res=true↔bt g p):Spec Tryz.prog 88 (Args [.d (vw g),ePl p]) [] (eB res) []:=by
 rw [← Jd hm] at hr
 have hn:=aM hm
 have ho:=hp.ord
 have Md:=hp.outs
 by_cases h1:p.outs.length=g.n.toNat∧p.ord.length=g.n.toNat
 rotate_left
 ·have hres:res=false:=by
   rw [← Bool.not_eq_true,hr]
   rintro ⟨h2,h3,_⟩
   exact h1 ⟨h2,h3⟩
  subst hres
  by_cases h2:(p.outs.length:Int)=g.n
  ·have au:decide ((p.outs.length:Int)=g.n)=true:=decide_eq_true h2
   have az:decide ((p.ord.length:Int)=g.n)=false:=decide_eq_false fun h3=>h1 ⟨by omega,by omega⟩
   (refine Spec.hd (C:=T.cfg [] []) (rs:= [.t 4]) (T.ah _ _) Tryz.func88 rfl rfl Tryz.ntmps88 Tryz.results88 (by simp [AObj.isNest]) (by simp [AObj.isNest]) (by kernel_rfl) T.mixed fun X hX hP hC aI bU=> ?_)
   repeat' (first|refine Rn.p ?_|(with_reducible apply And.intro)|((first|(refine hK _ ?_;clear hK K)|with_reducible intro K hK|refine Rs.p ?_|((with_reducible first|apply oP|apply oQ);exact rfl));try simp only [go_sem,simprocAttr,aq,au,az])|((with_reducible refine oD ?_ ?_);kernel_rfl)|((with_reducible intro h);try simp only [go_sem,simprocAttr,aq,au,az] at h)|omega|intro h)
  ·have au:decide ((p.outs.length:Int)=g.n)=false:=decide_eq_false h2
   (refine Spec.hd (C:=T.cfg [] []) (rs:= [.t 4]) (T.ah _ _) Tryz.func88 rfl rfl Tryz.ntmps88 Tryz.results88 (by simp [AObj.isNest]) (by simp [AObj.isNest]) (by kernel_rfl) T.mixed fun X hX hP hC aI bU=> ?_)
   repeat' (first|refine Rn.p ?_|(with_reducible apply And.intro)|((first|(refine hK _ ?_;clear hK K)|with_reducible intro K hK|refine Rs.p ?_|((with_reducible first|apply oP|apply oQ);exact rfl));try simp only [go_sem,simprocAttr,aq,au])|((with_reducible refine oD ?_ ?_);kernel_rfl)|((with_reducible intro h);try simp only [go_sem,simprocAttr,aq,au] at h)|omega|intro h)
 have au:decide ((p.outs.length:Int)=g.n)=true:=decide_eq_true (by omega)
 have az:decide ((p.ord.length:Int)=g.n)=true:=decide_eq_true (by omega)
 have Dr:=fQ p.ord
 (refine Spec.hd (C:=T.cfg [] []) (rs:= [.t 4]) (T.ah _ _) Tryz.func88 rfl rfl Tryz.ntmps88 Tryz.results88 (by simp [AObj.isNest]) (by simp [AObj.isNest]) (by kernel_rfl) T.mixed fun X hX hP hC aI bU=> ?_)
 repeat' (first|refine Rn.p ?_|(with_reducible apply And.intro)|((first|(refine hK _ ?_;clear hK K)|with_reducible intro K hK|refine Rs.p ?_|((with_reducible first|apply oP|apply oQ);exact rfl)|(refine aA hX hC hP [(10000,31)] (c8 p.ord) rfl rfl rfl ?_ ?_ ?_ ?_ ?_ ?_ ?_ ?_ ?_ ?_ ?_ ?_ ?_ ?_;(focus (simp only [go_sem,simprocAttr,aq,au,az];done));(iterate 12 (focus (simp [go_sem,simprocAttr,aq,au,az];done)));try simp only [List.map_cons,List.map_nil])|(refine aV hX hC hP [(10000,31)] (cF p.ord ho) rfl rfl rfl ?_ ?_ ?_ ?_ ?_ ?_ rfl rfl ?_ ?_;(focus (simp only [go_sem,simprocAttr,aq,au,az];done));(iterate 6 (focus (simp [go_sem,simprocAttr,aq,au,az];done)));try simp only [List.map_cons,List.map_nil]));try simp only [go_sem,simprocAttr,aq,au,az])|((with_reducible refine oD ?_ ?_);kernel_rfl)|((with_reducible intro h);try simp only [go_sem,simprocAttr,aq,au,az] at h)|omega|intro h)
 clear au az
 refine ag (fun k:Nat=>k≤(iT p.ord).length∧∀i:Nat,i<k→(iT p.ord).getD i 0=i) (fun k=>⟨[(0, .d (vw g)),(3, .ptr 3 0),(32, .d (sI (iT p.ord))),(33,eN (iT p.ord).length),(34,eN k)], [(3, .box [.d (sI p.ord), .d (.sl 1 (vI p.outs))])]⟩) (fun k=>(iT p.ord).length - k) 0 (by simp) ?_ ?_
 ·(refine Le.of ?_ ?_<;>simp [go_sem,simprocAttr,aq])
 rintro k ⟨hk,hg⟩
 rcases Nat.lt_or_ge k (iT p.ord).length with hlt|hge
 ·have hb:decide ((k:Int)<((iT p.ord).length:Int))=true:=decide_eq_true (by omega)
  by_cases he:(iT p.ord).getD k 0=k
  ·have az:decide ((iT p.ord).getD k 0=(k:Int))=true:=decide_eq_true he
   repeat' (first|refine Rn.p ?_|(with_reducible apply And.intro)|((first|(refine hK _ ?_;clear hK K)|with_reducible intro K hK|refine Rs.p ?_|((with_reducible first|apply oP|apply oQ);exact rfl)|(refine aA hX hC hP [(10000,31)] (c8 p.ord) rfl rfl rfl ?_ ?_ ?_ ?_ ?_ ?_ ?_ ?_ ?_ ?_ ?_ ?_ ?_ ?_;(focus (simp only [go_sem,simprocAttr,aq,hb,az];done));(iterate 12 (focus (simp [go_sem,simprocAttr,aq,hb,az];done)));try simp only [List.map_cons,List.map_nil])|(refine aV hX hC hP [(10000,31)] (cF p.ord ho) rfl rfl rfl ?_ ?_ ?_ ?_ ?_ ?_ rfl rfl ?_ ?_;(focus (simp only [go_sem,simprocAttr,aq,hb,az];done));(iterate 6 (focus (simp [go_sem,simprocAttr,aq,hb,az];done)));try simp only [List.map_cons,List.map_nil]));try simp only [go_sem,simprocAttr,aq,hb,az])|((with_reducible refine oD ?_ ?_);kernel_rfl)|((with_reducible intro h);try simp only [go_sem,simprocAttr,aq,hb,az] at h)|omega|intro h)
   refine ⟨k+1,⟨by omega,fun i hi=> ?_⟩, ?_,by omega⟩
   ·by_cases hik:i=k
    ·subst hik;exact he
    ·exact hg i (by omega)
   ·(refine Le.of ?_ ?_<;>simp [go_sem,simprocAttr,aq,hb,az])
  ·have az:decide ((iT p.ord).getD k 0=(k:Int))=false:=decide_eq_false he
   have hres:res=false:=by
    rw [← Bool.not_eq_true,hr]
    rintro ⟨_,_,h3,_⟩
    exact he (h3 k hlt)
   subst hres
   repeat' (first|refine Rn.p ?_|(with_reducible apply And.intro)|((first|(refine hK _ ?_;clear hK K)|with_reducible intro K hK|refine Rs.p ?_|((with_reducible first|apply oP|apply oQ);exact rfl)|(refine aA hX hC hP [(10000,31)] (c8 p.ord) rfl rfl rfl ?_ ?_ ?_ ?_ ?_ ?_ ?_ ?_ ?_ ?_ ?_ ?_ ?_ ?_;(focus (simp only [go_sem,simprocAttr,aq,hb,az];done));(iterate 12 (focus (simp [go_sem,simprocAttr,aq,hb,az];done)));try simp only [List.map_cons,List.map_nil])|(refine aV hX hC hP [(10000,31)] (cF p.ord ho) rfl rfl rfl ?_ ?_ ?_ ?_ ?_ ?_ rfl rfl ?_ ?_;(focus (simp only [go_sem,simprocAttr,aq,hb,az];done));(iterate 6 (focus (simp [go_sem,simprocAttr,aq,hb,az];done)));try simp only [List.map_cons,List.map_nil]));try simp only [go_sem,simprocAttr,aq,hb,az])|((with_reducible refine oD ?_ ?_);kernel_rfl)|((with_reducible intro h);try simp only [go_sem,simprocAttr,aq,hb,az] at h)|omega|intro h)
 have hb:decide ((k:Int)<((iT p.ord).length:Int))=false:=decide_eq_false (by omega)
 repeat' (first|refine Rn.p ?_|(with_reducible apply And.intro)|((first|(refine hK _ ?_;clear hK K)|with_reducible intro K hK|refine Rs.p ?_|((with_reducible first|apply oP|apply oQ);exact rfl)|(refine aA hX hC hP [(10000,31)] (c8 p.ord) rfl rfl rfl ?_ ?_ ?_ ?_ ?_ ?_ ?_ ?_ ?_ ?_ ?_ ?_ ?_ ?_;(focus (simp only [go_sem,simprocAttr,aq,hb];done));(iterate 12 (focus (simp [go_sem,simprocAttr,aq,hb];done)));try simp only [List.map_cons,List.map_nil])|(refine aV hX hC hP [(10000,31)] (cF p.ord ho) rfl rfl rfl ?_ ?_ ?_ ?_ ?_ ?_ rfl rfl ?_ ?_;(focus (simp only [go_sem,simprocAttr,aq,hb];done));(iterate 6 (focus (simp [go_sem,simprocAttr,aq,hb];done)));try simp only [List.map_cons,List.map_nil]));try simp only [go_sem,simprocAttr,aq,hb])|((with_reducible refine oD ?_ ?_);kernel_rfl)|((with_reducible intro h);try simp only [go_sem,simprocAttr,aq,hb] at h)|omega|intro h)
 obtain rfl:k=(iT p.ord).length:=by omega
 clear hb hk
 refine ag (fun x:Nat=>x≤p.outs.length∧∀i:Nat,i<x→iT (p.outs.getD i [])=bD (·.1) g i) (fun x=>⟨[(0, .d (vw g)),(44, .d (.sl 1 (vI p.outs))),(45,eN p.outs.length),(46,eN x)], []⟩) (fun x=>p.outs.length - x) 0 (by simp) ?_ ?_
 ·refine Le.of ?_ ?_<;>simp [go_sem,simprocAttr,aq]
 rintro x ⟨hx,rV⟩
 rcases Nat.lt_or_ge x p.outs.length with hxl|GN
 ·have hb:decide ((x:Int)<(p.outs.length:Int))=true:=decide_eq_true (by omega)
  have hv:=iu hxl
  have hl:=hp.each _ (aB (d:= []) hxl)
  have hn2:∀h:iT (p.outs.getD x [])=bD (·.1) g x,∀i:Nat,i<x+1→iT (p.outs.getD i [])=bD (·.1) g i:=fun h i hi=>by
   by_cases LW:i=x
   ·subst LW;exact h
   ·exact rV i (by omega)
  have tg:¬iT (p.outs.getD x [])=bD (·.1) g x→res=false:=fun h=>by
   rw [← Bool.not_eq_true,hr]
   rintro ⟨_,_,_,h4⟩
   exact h (h4 x hxl)
  generalize p.outs.getD x []=l at hv hl hn2 tg
  have Um:=fQ l
  by_cases he:iT l=bD (·.1) g x
  ·have az:decide (iT l=bD (·.1) g (x:Int))=true:=decide_eq_true he
   repeat' (first|refine Rn.p ?_|(with_reducible apply And.intro)|((first|(refine hK _ ?_;clear hK K)|with_reducible intro K hK|refine Rs.p ?_|((with_reducible first|apply oP|apply oQ);exact rfl)|(refine aA hX hC hP [(10000,52)] (c8 l) rfl rfl rfl ?_ ?_ ?_ ?_ ?_ ?_ ?_ ?_ ?_ ?_ ?_ ?_ ?_ ?_;(focus (simp only [go_sem,simprocAttr,hb,hv,az];done));(iterate 12 (focus (simp [go_sem,simprocAttr,hb,hv,az];done)));try simp only [List.map_cons,List.map_nil])|(refine aV hX hC hP [(10000,52)] (cF l hl) rfl rfl rfl ?_ ?_ ?_ ?_ ?_ ?_ rfl rfl ?_ ?_;(focus (simp only [go_sem,simprocAttr,hb,hv,az];done));(iterate 6 (focus (simp [go_sem,simprocAttr,hb,hv,az];done)));try simp only [List.map_cons,List.map_nil])|refine aa hX hC hP (ji g hm (x:Int)) rfl rfl rfl (by simp only [go_sem,simprocAttr,hb,hv,az]) rfl ?_|refine aa hX hC hP (eW (iT l) (bD (·.1) g x) (by omega)) rfl rfl rfl (by simp only [go_sem,simprocAttr,hb,hv,az]) rfl ?_);try simp only [go_sem,simprocAttr,hb,hv,az])|((with_reducible refine oD ?_ ?_);kernel_rfl)|((with_reducible intro h);try simp only [go_sem,simprocAttr,hb,hv,az] at h)|omega|intro h)
   refine ⟨x+1,⟨by omega,hn2 he⟩, ?_,by omega⟩
   (refine Le.of ?_ ?_<;>simp [go_sem,simprocAttr,hb,hv,az])
  ·have az:decide (iT l=bD (·.1) g (x:Int))=false:=decide_eq_false he
   have hres:=tg he
   subst hres
   repeat' (first|refine Rn.p ?_|(with_reducible apply And.intro)|((first|(refine hK _ ?_;clear hK K)|with_reducible intro K hK|refine Rs.p ?_|((with_reducible first|apply oP|apply oQ);exact rfl)|(refine aA hX hC hP [(10000,52)] (c8 l) rfl rfl rfl ?_ ?_ ?_ ?_ ?_ ?_ ?_ ?_ ?_ ?_ ?_ ?_ ?_ ?_;(focus (simp only [go_sem,simprocAttr,hb,hv,az];done));(iterate 12 (focus (simp [go_sem,simprocAttr,hb,hv,az];done)));try simp only [List.map_cons,List.map_nil])|(refine aV hX hC hP [(10000,52)] (cF l hl) rfl rfl rfl ?_ ?_ ?_ ?_ ?_ ?_ rfl rfl ?_ ?_;(focus (simp only [go_sem,simprocAttr,hb,hv,az];done));(iterate 6 (focus (simp [go_sem,simprocAttr,hb,hv,az];done)));try simp only [List.map_cons,List.map_nil])|refine aa hX hC hP (ji g hm (x:Int)) rfl rfl rfl (by simp only [go_sem,simprocAttr,hb,hv,az]) rfl ?_|refine aa hX hC hP (eW (iT l) (bD (·.1) g x) (by omega)) rfl rfl rfl (by simp only [go_sem,simprocAttr,hb,hv,az]) rfl ?_);try simp only [go_sem,simprocAttr,hb,hv,az])|((with_reducible refine oD ?_ ?_);kernel_rfl)|((with_reducible intro h);try simp only [go_sem,simprocAttr,hb,hv,az] at h)|omega|intro h)
 ·have hb:decide ((x:Int)<(p.outs.length:Int))=false:=decide_eq_false (by omega)
  obtain rfl:x=p.outs.length:=by omega
  have hres:res=true:=hr.2 ⟨h1.1,h1.2,fun i hi=>hg i (by omega),rV⟩
  subst hres
  repeat' (first|refine Rn.p ?_|(with_reducible apply And.intro)|((first|(refine hK _ ?_;clear hK K)|with_reducible intro K hK|refine Rs.p ?_|((with_reducible first|apply oP|apply oQ);exact rfl)|(refine aA hX hC hP [(10000,52)] (c8 l) rfl rfl rfl ?_ ?_ ?_ ?_ ?_ ?_ ?_ ?_ ?_ ?_ ?_ ?_ ?_ ?_;(focus (simp only [go_sem,simprocAttr,hb];done));(iterate 12 (focus (simp [go_sem,simprocAttr,hb];done)));try simp only [List.map_cons,List.map_nil])|(refine aV hX hC hP [(10000,52)] (cF l hl) rfl rfl rfl ?_ ?_ ?_ ?_ ?_ ?_ rfl rfl ?_ ?_;(focus (simp only [go_sem,simprocAttr,hb];done));(iterate 6 (focus (simp [go_sem,simprocAttr,hb];done)));try simp only [List.map_cons,List.map_nil])|refine aa hX hC hP (ji g hm (x:Int)) rfl rfl rfl (by simp only [go_sem,simprocAttr,hb]) rfl ?_|refine aa hX hC hP (eW (iT l) (bD (·.1) g x) (by omega)) rfl rfl rfl (by simp only [go_sem,simprocAttr,hb]) rfl ?_);try simp only [go_sem,simprocAttr,hb])|((with_reducible refine oD ?_ ?_);kernel_rfl)|((with_reducible intro h);try simp only [go_sem,simprocAttr,hb] at h)|omega|intro h)
end Go.Ab
end
section
namespace Go.Ab
open Go.Proofs
attribute [local congr] ACall.congr gd.congr Nx.congr
set_option maxRecDepth 10000
set_option maxHeartbeats 8000000
def pN (m:Nat) (fl:List Int):List Int:=(List.range m).map fun i:Nat=>if (i:Int)∈fl then (1:Int) else 0
theorem Ar {m:Nat} {fl:List Int} :(pN m fl).length=m:=by simp [pN]
theorem En {m:Nat} :pN m []=List.replicate m 0:=by
 refine List.ext_getElem (by simp [pN]) fun i h1 h2=> ?_
 simp [pN]
theorem CS {m:Nat} {fl:List Int} {i:Nat} (h:i<m):(pN m fl).getD i 0=if (i:Int)∈fl then 1 else 0:=by
 simp [pN,List.getD_eq_getElem?_getD,List.getElem?_range h]
theorem GO {m:Nat} {fl:List Int} {i:Nat} (h:i<m):(pN m fl).set i 1=pN m (fl++ [(i:Int)]):=by
 refine List.ext_getElem (by simp [pN]) fun j h1 h2=> ?_
 rw [List.getElem_set]
 simp only [pN,List.getElem_map,List.getElem_range,List.mem_append,List.mem_singleton]
 by_cases e:i=j
 ·subst e;simp
 ·rw [if_neg e]
  have:¬(j:Int)=(i:Int):=by omega
  simp [this]
theorem GP {outs:List (List Int)} {x k:Nat} (hx:x<outs.length):((outs.take x).flatten++(outs.getD x []).take k).Sublist outs.flatten:=by
 have e:outs=outs.take x++outs.getD x []::outs.drop (x+1):=by
  conv=>lhs;rw [← List.take_append_drop x outs]
  congr 1
  rw [List.drop_eq_getElem_cons hx,List.getD_eq_getElem?_getD,List.getElem?_eq_getElem hx]
  rfl
 conv=>rhs;rw [e]
 rw [List.flatten_append,List.flatten_cons]
 exact List.Sublist.append (List.Sublist.refl _) ((List.take_sublist _ _).trans (List.sublist_append_left _ _))
theorem BO {l:List Int} {k:Nat} (h:k<l.length):l.take (k+1)=l.take k++ [l.getD k 0]:=by
 rw [List.take_add_one,List.getD_eq_getElem?_getD,List.getElem?_eq_getElem h];rfl
theorem qL {g:Gr} {x i:Int} :i∈bu g x↔(0≤i∧i<g.es.length)∧(g.es.getD i.toNat (0,0)).1=x:=by
 constructor
 ·exact dY
 ·rintro ⟨⟨h1,h2⟩,h3⟩
  simp only [bu,aJ,List.mem_map,List.mem_filter,List.mem_range,decide_eq_true_eq]
  exact ⟨i.toNat,⟨by omega,h3⟩,by simp;omega⟩
theorem GQ (g:Gr) (hl:g.es.length≤9223372036854775807) (p:Pl) (hp:qK p) (res:Bool) (hr:res=true↔(bF g).1=0∧bt g p):Spec Tryz.prog 134 (Args [eG g,ePl p]) [] (eB res) []:=by
 have ho:p.ord.length≤9223372036854775807:=by have:=hp.ord;omega
 have Md:=hp.outs
 by_cases hc:(bF g).1=0
 rotate_left
 ·have hres:res=false:=by
   rw [← Bool.not_eq_true,hr]
   rintro ⟨h,_⟩
   exact hc h
  subst hres
  have au:decide ((bF g).1=0)=false:=decide_eq_false hc
  (refine Spec.hd (C:=T.cfg [] []) (rs:= [.t 4]) (T.ah _ _) Tryz.func134 rfl rfl Tryz.ntmps134 Tryz.results134 (by simp [AObj.isNest]) (by simp [AObj.isNest]) (by kernel_rfl) T.mixed fun X hX hP hC aI bU=> ?_)
  repeat' (first|refine Rn.p ?_|(with_reducible apply And.intro)|((first|(refine hK _ ?_;clear hK K)|with_reducible intro K hK|refine Rs.p ?_|((with_reducible first|apply oP|apply oQ);exact rfl)|refine aa hX hC hP (aQ g hl) rfl rfl rfl (by simp only [go_sem,simprocAttr,au]) rfl ?_);try simp only [go_sem,simprocAttr,au])|((with_reducible refine oD ?_ ?_);kernel_rfl)|((with_reducible intro h);try simp only [go_sem,simprocAttr,au] at h)|omega|intro h)
 have au:decide ((bF g).1=0)=true:=decide_eq_true hc
 have hm:=an hc
 have hn:=aM hm
 have hr:res=true↔bt g p:=by rw [hr];exact ⟨fun h=>h.2,fun h=>⟨hc,h⟩⟩
 rw [← CP hm] at hr
 by_cases he:gL p.ord g.n=true∧p.outs.length=g.n.toNat
 rotate_left
 ·have hres:res=false:=by
   rw [← Bool.not_eq_true,hr]
   rintro ⟨h2,h3,_⟩
   exact he ⟨h2,h3⟩
  subst hres
  cases h2:gL p.ord g.n with
  |false=>
   (refine Spec.hd (C:=T.cfg [] []) (rs:= [.t 4]) (T.ah _ _) Tryz.func134 rfl rfl Tryz.ntmps134 Tryz.results134 (by simp [AObj.isNest]) (by simp [AObj.isNest]) (by kernel_rfl) T.mixed fun X hX hP hC aI bU=> ?_)
   repeat' (first|refine Rn.p ?_|(with_reducible apply And.intro)|((first|(refine hK _ ?_;clear hK K)|with_reducible intro K hK|refine Rs.p ?_|((with_reducible first|apply oP|apply oQ);exact rfl)|refine aa hX hC hP (aQ g hl) rfl rfl rfl (by simp only [go_sem,simprocAttr,au,h2]) rfl ?_|refine aa hX hC hP (cQ p.ord g.n ho) rfl rfl rfl (by simp only [go_sem,simprocAttr,au,h2]) rfl ?_);try simp only [go_sem,simprocAttr,au,h2])|((with_reducible refine oD ?_ ?_);kernel_rfl)|((with_reducible intro h);try simp only [go_sem,simprocAttr,au,h2] at h)|omega|intro h)
  |true=>
   have az:decide ((p.outs.length:Int)=g.n)=false:=decide_eq_false fun h3=>he ⟨h2,by omega⟩
   (refine Spec.hd (C:=T.cfg [] []) (rs:= [.t 4]) (T.ah _ _) Tryz.func134 rfl rfl Tryz.ntmps134 Tryz.results134 (by simp [AObj.isNest]) (by simp [AObj.isNest]) (by kernel_rfl) T.mixed fun X hX hP hC aI bU=> ?_)
   repeat' (first|refine Rn.p ?_|(with_reducible apply And.intro)|((first|(refine hK _ ?_;clear hK K)|with_reducible intro K hK|refine Rs.p ?_|((with_reducible first|apply oP|apply oQ);exact rfl)|refine aa hX hC hP (aQ g hl) rfl rfl rfl (by simp only [go_sem,simprocAttr,au,h2,az]) rfl ?_|refine aa hX hC hP (cQ p.ord g.n ho) rfl rfl rfl (by simp only [go_sem,simprocAttr,au,h2,az]) rfl ?_);try simp only [go_sem,simprocAttr,au,h2,az])|((with_reducible refine oD ?_ ?_);kernel_rfl)|((with_reducible intro h);try simp only [go_sem,simprocAttr,au,h2,az] at h)|omega|intro h)
 obtain ⟨sy,wg⟩:=he
 have az:decide ((p.outs.length:Int)=g.n)=true:=decide_eq_true (by omega)
 (refine Spec.hd (C:=T.cfg [] []) (rs:= [.t 4]) (T.ah _ _) Tryz.func134 rfl rfl Tryz.ntmps134 Tryz.results134 (by simp [AObj.isNest]) (by simp [AObj.isNest]) (by kernel_rfl) T.mixed fun X hX hP hC aI bU=> ?_)
 repeat' (first|refine Rn.p ?_|(with_reducible apply And.intro)|((first|(refine hK _ ?_;clear hK K)|with_reducible intro K hK|refine Rs.p ?_|((with_reducible first|apply oP|apply oQ);exact rfl)|refine aa hX hC hP (aQ g hl) rfl rfl rfl (by simp only [go_sem,simprocAttr,au,sy,az]) rfl ?_|refine aa hX hC hP (cQ p.ord g.n ho) rfl rfl rfl (by simp only [go_sem,simprocAttr,au,sy,az]) rfl ?_);try simp only [go_sem,simprocAttr,au,sy,az])|((with_reducible refine oD ?_ ?_);kernel_rfl)|((with_reducible intro h);try simp only [go_sem,simprocAttr,au,sy,az] at h)|omega|intro h)
 clear au az
 have As:List.replicate g.es.length [D.sc (.int .i64 0)]=(pN g.es.length []).map rI:=by rw [En,List.map_replicate];rfl
 rw [As]
 clear As
 refine ag (fun x:Nat=>x≤p.outs.length∧(p.outs.take x).flatten.Nodup∧∀y:Nat,y<x→∀i∈p.outs.getD y [],i∈bu g y) (fun x=>⟨[(2, .ptr 2 0),(3, .ptr 3 0),(5, .ref 32),(6,eN x)], [(32, .own 3 1 ((pN g.es.length (p.outs.take x).flatten).map rI)),(3, .box [.d (sI p.ord), .d (.sl 1 (vI p.outs))]),(2, .box [eN g.n, .d (sE g.es)])]⟩) (fun x=>p.outs.length - x) 0 (by simp) ?_ ?_
 ·refine Le.of ?_ ?_<;>simp [go_sem,simprocAttr]
 rintro x ⟨hx,cC,rV⟩
 rcases Nat.lt_or_ge x p.outs.length with hxl|GN
 ·have hb:decide ((x:Int)<(p.outs.length:Int))=true:=decide_eq_true (by omega)
  have hv:=iu hxl
  have hle:=hp.each _ (aB (d:= []) hxl)
  have hpre:=fun k=>GP (k:=k) hxl
  have hnext:(p.outs.take (x+1)).flatten=(p.outs.take x).flatten++p.outs.getD x []:=by
   rw [List.take_add_one,List.flatten_append,List.getD_eq_getElem?_getD,List.getElem?_eq_getElem hxl];simp
  have iQ:∀i∈p.outs.getD x [],i∉bu g x→res=false:=fun i hi hn=>by
   rw [← Bool.not_eq_true,hr]
   rintro ⟨_,_,h3,_⟩
   exact hn (h3 x hxl i hi)
  have tg:∀k,¬((p.outs.take x).flatten++(p.outs.getD x []).take k).Nodup→res=false:=fun k hn=>by
   rw [← Bool.not_eq_true,hr]
   rintro ⟨_,_,_,h4,_⟩
   exact hn (List.Nodup.sublist (hpre k) h4)
  have ER:(∀i∈p.outs.getD x [],i∈bu g x)→∀y:Nat,y<x+1→∀i∈p.outs.getD y [],i∈bu g y:=fun h y hy=>by
   by_cases e:y=x
   ·subst e;exact h
   ·exact rV y (by omega)
  generalize p.outs.getD x []=l at hv hle hpre hnext iQ tg ER
  generalize (p.outs.take x).flatten=fl at cC hpre hnext tg
  clear hpre
  repeat' (first|refine Rn.p ?_|(with_reducible apply And.intro)|((first|(refine hK _ ?_;clear hK K)|with_reducible intro K hK|refine Rs.p ?_|((with_reducible first|apply oP|apply oQ);exact rfl)|refine aa hX hC hP (aQ g hl) rfl rfl rfl (by simp only [go_sem,simprocAttr,hb,hv]) rfl ?_|refine aa hX hC hP (cQ p.ord g.n ho) rfl rfl rfl (by simp only [go_sem,simprocAttr,hb,hv]) rfl ?_);try simp only [go_sem,simprocAttr,hb,hv])|((with_reducible refine oD ?_ ?_);kernel_rfl)|((with_reducible intro h);try simp only [go_sem,simprocAttr,hb,hv] at h)|omega|intro h)
  clear hb
  refine ag (fun k:Nat=>k≤l.length∧(fl++l.take k).Nodup∧∀i∈l.take k,i∈bu g x) (fun k=>⟨[(2, .ptr 2 0),(3, .ptr 3 0),(5, .ref 32),(6,eN x),(7,eN k)], [(32, .own 3 1 ((pN g.es.length (fl++l.take k)).map rI)),(3, .box [.d (sI p.ord), .d (.sl 1 (vI p.outs))]),(2, .box [eN g.n, .d (sE g.es)])]⟩) (fun k=>l.length - k) 0 (by simpa using cC) ?_ ?_
  ·refine Le.of ?_ ?_<;>simp [go_sem,simprocAttr]
  rintro k ⟨hk,DD,LX⟩
  rcases Nat.lt_or_ge k l.length with bS|Bh
  ·have hbk:decide ((k:Int)<(l.length:Int))=true:=decide_eq_true (by omega)
   have pK:=BO bS
   have him:=aB (d:=0) bS
   have ga:=Ar (m:=g.es.length) (fl:=fl++l.take k)
   generalize hi:l.getD k 0=i at pK him
   by_cases h0:i<0
   ·have hres:=iQ i him (fun h=>by have:=(qL.1 h).1;omega)
    subst hres
    have au:decide (i<0)=true:=decide_eq_true h0
    repeat' (first|refine Rn.p ?_|(with_reducible apply And.intro)|((first|(refine hK _ ?_;clear hK K)|with_reducible intro K hK|refine Rs.p ?_|((with_reducible first|apply oP|apply oQ);exact rfl)|refine aa hX hC hP (aQ g hl) rfl rfl rfl (by simp only [go_sem,simprocAttr,hbk,hv,hi,au]) rfl ?_|refine aa hX hC hP (cQ p.ord g.n ho) rfl rfl rfl (by simp only [go_sem,simprocAttr,hbk,hv,hi,au]) rfl ?_);try simp only [go_sem,simprocAttr,hbk,hv,hi,au])|((with_reducible refine oD ?_ ?_);kernel_rfl)|((with_reducible intro h);try simp only [go_sem,simprocAttr,hbk,hv,hi,au] at h)|omega|intro h)
   have au:decide (i<0)=false:=decide_eq_false h0
   by_cases h1:(g.es.length:Int)≤i
   ·have hres:=iQ i him (fun h=>by have:=(qL.1 h).1;omega)
    subst hres
    have az:decide ((g.es.length:Int)≤i)=true:=decide_eq_true h1
    repeat' (first|refine Rn.p ?_|(with_reducible apply And.intro)|((first|(refine hK _ ?_;clear hK K)|with_reducible intro K hK|refine Rs.p ?_|((with_reducible first|apply oP|apply oQ);exact rfl)|refine aa hX hC hP (aQ g hl) rfl rfl rfl (by simp only [go_sem,simprocAttr,hbk,hv,hi,au,az,ga]) rfl ?_|refine aa hX hC hP (cQ p.ord g.n ho) rfl rfl rfl (by simp only [go_sem,simprocAttr,hbk,hv,hi,au,az,ga]) rfl ?_);try simp only [go_sem,simprocAttr,hbk,hv,hi,au,az,ga])|((with_reducible refine oD ?_ ?_);kernel_rfl)|((with_reducible intro h);try simp only [go_sem,simprocAttr,hbk,hv,hi,au,az,ga] at h)|omega|intro h)
   have az:decide ((g.es.length:Int)≤i)=false:=decide_eq_false h1
   obtain ⟨e,rfl⟩:∃e:Nat,i=e:=⟨i.toNat,by omega⟩
   have hel:e<g.es.length:=by omega
   by_cases h2:(g.es.getD e (0,0)).1=x
   rotate_left
   ·have hres:=iQ _ him (fun h=>h2 (by have:=(qL.1 h).2;rwa [Int.toNat_natCast] at this))
    subst hres
    have cI:decide ((g.es.getD e (0,0)).1=(x:Int))=false:=decide_eq_false h2
    repeat' (first|refine Rn.p ?_|(with_reducible apply And.intro)|((first|(refine hK _ ?_;clear hK K)|with_reducible intro K hK|refine Rs.p ?_|((with_reducible first|apply oP|apply oQ);exact rfl)|refine aa hX hC hP (aQ g hl) rfl rfl rfl (by simp only [go_sem,simprocAttr,hbk,hv,hi,au,az,cI,ga]) rfl ?_|refine aa hX hC hP (cQ p.ord g.n ho) rfl rfl rfl (by simp only [go_sem,simprocAttr,hbk,hv,hi,au,az,cI,ga]) rfl ?_);try simp only [go_sem,simprocAttr,hbk,hv,hi,au,az,cI,ga])|((with_reducible refine oD ?_ ?_);kernel_rfl)|((with_reducible intro h);try simp only [go_sem,simprocAttr,hbk,hv,hi,au,az,cI,ga] at h)|omega|intro h)
   have cI:decide ((g.es.getD e (0,0)).1=(x:Int))=true:=decide_eq_true h2
   have vj:=CS (fl:=fl++l.take k) hel
   by_cases h3:(e:Int)∈fl++l.take k
   ·have hres:=tg (k+1) (fun h=>by
     rw [pK, ← List.append_assoc,List.nodup_append] at h
     exact h.2.2 _ h3 _ (List.mem_singleton.2 rfl) rfl)
    subst hres
    rw [if_pos h3] at vj
    repeat' (first|refine Rn.p ?_|(with_reducible apply And.intro)|((first|(refine hK _ ?_;clear hK K)|with_reducible intro K hK|refine Rs.p ?_|((with_reducible first|apply oP|apply oQ);exact rfl)|refine aa hX hC hP (aQ g hl) rfl rfl rfl (by simp only [go_sem,simprocAttr,hbk,hv,hi,au,az,cI,ga,vj]) rfl ?_|refine aa hX hC hP (cQ p.ord g.n ho) rfl rfl rfl (by simp only [go_sem,simprocAttr,hbk,hv,hi,au,az,cI,ga,vj]) rfl ?_);try simp only [go_sem,simprocAttr,hbk,hv,hi,au,az,cI,ga,vj])|((with_reducible refine oD ?_ ?_);kernel_rfl)|((with_reducible intro h);try simp only [go_sem,simprocAttr,hbk,hv,hi,au,az,cI,ga,vj] at h)|omega|intro h)
   ·rw [if_neg h3] at vj
    have dm:=GO (fl:=fl++l.take k) hel
    rw [List.append_assoc, ← pK] at dm
    repeat' (first|refine Rn.p ?_|(with_reducible apply And.intro)|((first|(refine hK _ ?_;clear hK K)|with_reducible intro K hK|refine Rs.p ?_|((with_reducible first|apply oP|apply oQ);exact rfl)|refine aa hX hC hP (aQ g hl) rfl rfl rfl (by simp only [go_sem,simprocAttr,hbk,hv,hi,au,az,cI,ga,vj]) rfl ?_|refine aa hX hC hP (cQ p.ord g.n ho) rfl rfl rfl (by simp only [go_sem,simprocAttr,hbk,hv,hi,au,az,cI,ga,vj]) rfl ?_);try simp only [go_sem,simprocAttr,hbk,hv,hi,au,az,cI,ga,vj])|((with_reducible refine oD ?_ ?_);kernel_rfl)|((with_reducible intro h);try simp only [go_sem,simprocAttr,hbk,hv,hi,au,az,cI,ga,vj] at h)|omega|intro h)
    refine ⟨k+1,⟨by omega, ?_, ?_⟩, ?_,by omega⟩
    ·rw [pK, ← List.append_assoc,List.nodup_append]
     exact ⟨DD,by simp,fun a ha b hb h=>h3 (by rw [List.mem_singleton] at hb;rw [← hb, ← h];exact ha)⟩
    ·intro j hj
     rw [pK,List.mem_append,List.mem_singleton] at hj
     rcases hj with hj|rfl
     ·exact LX j hj
     ·exact qL.2 ⟨⟨by omega,by omega⟩,by rw [Int.toNat_natCast];exact h2⟩
    ·rw [← dm]
     refine Le.of ?_ ?_<;>simp [go_sem,simprocAttr,hbk,hv,hi,au,az,cI,ga,vj,rI]
  ·have hbk:decide ((k:Int)<(l.length:Int))=false:=decide_eq_false (by omega)
   obtain rfl:k=l.length:=by omega
   rw [List.take_length] at DD LX
   repeat' (first|refine Rn.p ?_|(with_reducible apply And.intro)|((first|(refine hK _ ?_;clear hK K)|with_reducible intro K hK|refine Rs.p ?_|((with_reducible first|apply oP|apply oQ);exact rfl)|refine aa hX hC hP (aQ g hl) rfl rfl rfl (by simp only [go_sem,simprocAttr,hbk,hv]) rfl ?_|refine aa hX hC hP (cQ p.ord g.n ho) rfl rfl rfl (by simp only [go_sem,simprocAttr,hbk,hv]) rfl ?_);try simp only [go_sem,simprocAttr,hbk,hv])|((with_reducible refine oD ?_ ?_);kernel_rfl)|((with_reducible intro h);try simp only [go_sem,simprocAttr,hbk,hv] at h)|omega|intro h)
   refine ⟨x+1,⟨by omega,by rw [hnext];exact DD,ER LX⟩, ?_,by omega⟩
   rw [hnext]
   refine Le.of ?_ ?_<;>simp [go_sem,simprocAttr,hbk,hv]
 have hb:decide ((x:Int)<(p.outs.length:Int))=false:=decide_eq_false (by omega)
 obtain rfl:x=p.outs.length:=by omega
 rw [List.take_length] at cC
 rw [List.take_length]
 have ga:=Ar (m:=g.es.length) (fl:=p.outs.flatten)
 repeat' (first|refine Rn.p ?_|(with_reducible apply And.intro)|((first|(refine hK _ ?_;clear hK K)|with_reducible intro K hK|refine Rs.p ?_|((with_reducible first|apply oP|apply oQ);exact rfl)|refine aa hX hC hP (aQ g hl) rfl rfl rfl (by simp only [go_sem,simprocAttr,hb]) rfl ?_|refine aa hX hC hP (cQ p.ord g.n ho) rfl rfl rfl (by simp only [go_sem,simprocAttr,hb]) rfl ?_);try simp only [go_sem,simprocAttr,hb])|((with_reducible refine oD ?_ ?_);kernel_rfl)|((with_reducible intro h);try simp only [go_sem,simprocAttr,hb] at h)|omega|intro h)
 clear hb
 refine ag (fun k:Nat=>k≤g.es.length∧∀i:Nat,i<k→(i:Int)∈p.outs.flatten) (fun k=>⟨[(5, .ref 32),(9,eN k)], [(32, .own 3 1 ((pN g.es.length p.outs.flatten).map rI))]⟩) (fun k=>g.es.length - k) 0 (by simp) ?_ ?_
 ·refine Le.of ?_ ?_<;>simp [go_sem,simprocAttr]
 rintro k ⟨hk,LX⟩
 rcases Nat.lt_or_ge k g.es.length with bS|Bh
 ·have hbk:decide ((k:Int)<(g.es.length:Int))=true:=decide_eq_true (by omega)
  have vj:=CS (fl:=p.outs.flatten) bS
  by_cases h3:(k:Int)∈p.outs.flatten
  ·rw [if_pos h3] at vj
   repeat' (first|refine Rn.p ?_|(with_reducible apply And.intro)|((first|(refine hK _ ?_;clear hK K)|with_reducible intro K hK|refine Rs.p ?_|((with_reducible first|apply oP|apply oQ);exact rfl)|refine aa hX hC hP (aQ g hl) rfl rfl rfl (by simp only [go_sem,simprocAttr,hbk,ga,vj]) rfl ?_|refine aa hX hC hP (cQ p.ord g.n ho) rfl rfl rfl (by simp only [go_sem,simprocAttr,hbk,ga,vj]) rfl ?_);try simp only [go_sem,simprocAttr,hbk,ga,vj])|((with_reducible refine oD ?_ ?_);kernel_rfl)|((with_reducible intro h);try simp only [go_sem,simprocAttr,hbk,ga,vj] at h)|omega|intro h)
   refine ⟨k+1,⟨by omega,fun i hi=> ?_⟩, ?_,by omega⟩
   ·by_cases e:i=k
    ·subst e;exact h3
    ·exact LX i (by omega)
   ·(refine Le.of ?_ ?_<;>simp [go_sem,simprocAttr,hbk,ga,vj])
  ·rw [if_neg h3] at vj
   have hres:res=false:=by
    rw [← Bool.not_eq_true,hr]
    rintro ⟨_,_,_,_,h5⟩
    exact h3 (h5 k bS)
   subst hres
   repeat' (first|refine Rn.p ?_|(with_reducible apply And.intro)|((first|(refine hK _ ?_;clear hK K)|with_reducible intro K hK|refine Rs.p ?_|((with_reducible first|apply oP|apply oQ);exact rfl)|refine aa hX hC hP (aQ g hl) rfl rfl rfl (by simp only [go_sem,simprocAttr,hbk,ga,vj]) rfl ?_|refine aa hX hC hP (cQ p.ord g.n ho) rfl rfl rfl (by simp only [go_sem,simprocAttr,hbk,ga,vj]) rfl ?_);try simp only [go_sem,simprocAttr,hbk,ga,vj])|((with_reducible refine oD ?_ ?_);kernel_rfl)|((with_reducible intro h);try simp only [go_sem,simprocAttr,hbk,ga,vj] at h)|omega|intro h)
 ·have hbk:decide ((k:Int)<(g.es.length:Int))=false:=decide_eq_false (by omega)
  obtain rfl:k=g.es.length:=by omega
  have hres:res=true:=hr.2 ⟨sy,wg,rV,cC,LX⟩
  subst hres
  repeat' (first|refine Rn.p ?_|(with_reducible apply And.intro)|((first|(refine hK _ ?_;clear hK K)|with_reducible intro K hK|refine Rs.p ?_|((with_reducible first|apply oP|apply oQ);exact rfl)|refine aa hX hC hP (aQ g hl) rfl rfl rfl (by simp only [go_sem,simprocAttr,hbk,ga]) rfl ?_|refine aa hX hC hP (cQ p.ord g.n ho) rfl rfl rfl (by simp only [go_sem,simprocAttr,hbk,ga]) rfl ?_);try simp only [go_sem,simprocAttr,hbk,ga])|((with_reducible refine oD ?_ ?_);kernel_rfl)|((with_reducible intro h);try simp only [go_sem,simprocAttr,hbk,ga] at h)|omega|intro h)
end Go.Ab
end
section
namespace Go.Ab
open Go.Proofs
attribute [local congr] ACall.congr gd.congr Nx.congr
set_option maxRecDepth 10000
set_option maxHeartbeats 8000000
def bX (b:Bool) (g:Gr) (p:Pl):(List (List It) × List It) × Int × Int:=
 if b=false then (([], []),(1,0)) else
 match jP g p g.n.toNat with
 |some i=>(([], []),(3,(i:Int)))
 |none=>((dM g p g.n.toNat,(fK g p g.n.toNat).row),(0,0))
theorem GR {n:Nat} :List.replicate n [D.sl 3 []]=vT (List.replicate n []):=by simp [vT,sT]
theorem GS {ls:List (List It)} {k:Nat} {l:List It} :(vT ls).set k [sT l]=vT (ls.set k l):=by simp [vT,List.map_set]
theorem xe {g:Gr} {p:Pl} {k:Nat} :dM g p (k+1)=(dM g p k).set (aj p k).toNat (eX g p k):=rfl
theorem Au (g:Gr) (hl:g.es.length≤9223372036854775807) (p:Pl) (hp:qK p) (b:Bool) (hr:b=true↔(bF g).1=0∧bt g p):
 Spec Tryz.prog 86 (Args [eG g,ePl p]) [] (.tup [.d (.sl 1 (vT (bX b g p).1.1)), .d (sT (bX b g p).1.2),eN (bX b g p).2.1,eN (bX b g p).2.2]) []:=by
 have hO:=GQ g hl p hp b hr
 cases b with
 |false=>
  have hR:bX false g p=(([], []),(1,0)):=rfl
  rw [hR]
  (refine Spec.hd (C:=T.cfg [] []) (rs:= [.t 4, .t 5, .t 6, .t 7]) (T.ah _ _) Tryz.func86 rfl rfl Tryz.ntmps86 Tryz.results86 (by simp [AObj.isNest]) (by simp [AObj.isNest]) (by kernel_rfl) T.mixed fun X hX hP hC aI bU=> ?_)
  repeat' (first|refine Rn.p ?_|(with_reducible apply And.intro)|((first|(refine hK _ ?_;clear hK K)|with_reducible intro K hK|refine Rs.p ?_|((with_reducible first|apply oP|apply oQ);exact rfl)|refine aa hX hC hP (hO) rfl rfl rfl (by simp only [go_sem,simprocAttr,vT,List.map_nil]) rfl ?_);try simp only [go_sem,simprocAttr,vT,List.map_nil])|((with_reducible refine oD ?_ ?_);kernel_rfl)|((with_reducible intro h);try simp only [go_sem,simprocAttr,vT,List.map_nil] at h)|omega|intro h)
 |true=>
 obtain ⟨hc,oN⟩:=hr.1 rfl
 have hm:=an hc
 have hn:=aM hm
 have hle:=bR oN
 have hR:bX true g p=match jP g p g.n.toNat with
  |some i=>(([], []),(3,(i:Int)))
  |none=>((dM g p g.n.toNat,(fK g p g.n.toNat).row),(0,0)):=rfl
 generalize bX true g p=R at hR
 (refine Spec.hd (C:=T.cfg [] []) (rs:= [.t 4, .t 5, .t 6, .t 7]) (T.ah _ _) Tryz.func86 rfl rfl Tryz.ntmps86 Tryz.results86 (by simp [AObj.isNest]) (by simp [AObj.isNest]) (by kernel_rfl) T.mixed fun X hX hP hC aI bU=> ?_)
 repeat' (first|(show cw _ (.seq (.region 4 _ _) _) _ _;(refine qt 20 2 3 rfl rfl rfl ?_;simp only [List.set_cons_zero,List.set_cons_succ,go_sem,simprocAttr]);(refine qt 20 3 1 rfl rfl rfl ?_;simp only [List.set_cons_zero,List.set_cons_succ,go_sem,simprocAttr]))|refine Rn.p ?_|(with_reducible apply And.intro)|((first|(refine hK _ ?_;clear hK K)|with_reducible intro K hK|refine Rs.p ?_|((with_reducible first|apply oP|apply oQ);exact rfl)|refine aa hX hC hP (hO) rfl rfl rfl (by simp only [go_sem,simprocAttr]) rfl ?_);try simp only [go_sem,simprocAttr])|((with_reducible refine oD ?_ ?_);kernel_rfl)|((with_reducible intro h);try simp only [go_sem,simprocAttr] at h)|omega|intro h)
 rw [GR]
 refine ag (fun k:Nat=>k≤g.n.toNat∧∀j,j<k→w9 g p j=true) (fun k=>⟨[(2, .ptr 2 0),(3, .ptr 3 0),(8, .ptr 20 0),(9, .ref 23),(10,eN k)], [(23, .own 78 1 (vT (dM g p k))),(20, .box (kK g (fK g p k))),(3, .box [.d (sI p.ord), .d (.sl 1 (vI p.outs))]),(2, .box [eN g.n, .d (sE g.es)])]⟩) (fun k=>g.n.toNat - k) 0 (by simp) ?_ ?_
 ·refine Le.of ?_ ?_<;>simp [go_sem,simprocAttr,kK,fK,dM]
 rintro k ⟨hk,hok⟩
 obtain ⟨hi,_,hrl⟩:=c7 hm oN hk hok
 have hel:=kS (g:=g) (p:=p) (k:=k)
 rcases Nat.lt_or_ge k g.n.toNat with hlt|hge
 ·have hb:decide ((k:Int)<(p.ord.length:Int))=true:=decide_eq_true (by omega)
  have Ii:=aF oN hlt
  have ef:=xe (g:=g) (p:=p) (k:=k)
  have Eo:fK g p (k+1)=(aC g (fK g p k) (aj p k) (bn p (aj p k))).2:=rfl
  have rV:eX g p k=(aC g (fK g p k) (aj p k) (bn p (aj p k))).1.1:=rfl
  have hpk:=An oN hlt
  have GU:=Ao (g:=g) (p:=p) (k:=k)
  have hsk:w9 g p k=false→R=(([], []),(3,(k:Int))):=fun h=>by
   rw [hR,pM.2 ⟨hlt,h,hok⟩]
  have hmul:k*(g.es.length+1)≤64*129:=Nat.mul_le_mul (by omega) (by omega)
  have mU:=jQ oN Ii.1 Ii.2
  have k9:p.ord.getD k 0=aj p k:=rfl
  have GV:(fK g p k).pl.length≤64:=by
   rcases JW hi.toiU with h|h
   ·omega
   ·rw [h];simp
  obtain ⟨x,hx⟩:∃x:Nat,aj p k=x:=⟨(aj p k).toNat,by omega⟩
  rw [hx] at k9 Eo rV hpk GU Ii mU ef
  have hxl:x<p.outs.length:=by have:=oN.1;omega
  have hv:=iu hxl
  have hla:bn p (x:Int)=p.outs.getD x []:=by unfold bn;rw [Int.toNat_natCast]
  rw [hla] at Eo rV hpk GU mU
  rw [Int.toNat_natCast] at ef
  have mu:=Aj g (by omega) (fK g p k) (x:Int) (p.outs.getD x []) (by omega) (by omega) (by omega)
  have dm:=GS (ls:=dM g p k) (k:=x) (l:=eX g p k)
  generalize p.outs.getD x []=o at hv Eo rV hpk GU mu
  rw [← ef] at dm
  generalize fK g p k=f at Eo rV hpk GU mu hi hrl GV
  cases yH:w9 g p k with
  |false=>
   rw [GU yH] at mu
   have LY:=hsk yH
   subst LY
   repeat' (first|refine Rn.p ?_|(with_reducible apply And.intro)|((first|(refine hK _ ?_;clear hK K)|with_reducible intro K hK|refine Rs.p ?_|((with_reducible first|apply oP|apply oQ);exact rfl)|(refine aA hX hC hP [(10000,20)] (mu) rfl rfl rfl ?_ ?_ ?_ ?_ ?_ ?_ ?_ ?_ ?_ ?_ ?_ ?_ ?_ ?_;(focus (simp only [go_sem,simprocAttr,hb,k9,hv,kK,vT,List.map_nil];done));(iterate 12 (focus (simp [go_sem,simprocAttr,hb,k9,hv,kK,vT,List.map_nil];done)));try simp only [List.map_cons,List.map_nil]));try simp only [go_sem,simprocAttr,hb,k9,hv,kK,vT,List.map_nil])|((with_reducible refine oD ?_ ?_);kernel_rfl)|((with_reducible intro h);try simp only [go_sem,simprocAttr,hb,k9,hv,kK,vT,List.map_nil] at h)|omega|intro h)
  |true=>
   rw [hpk yH] at mu
   have jR:(aC g f (x:Int) o).1.2=0:=rfl
   rw [rV] at dm
   generalize aC g f (x:Int) o=su at Eo rV mu jR dm
   have NI:x<(dM g p k).length:=by omega
   generalize Un:dM g p k=E at dm NI hel
   have hvl:(vT E).length=E.length:=vT_length
   have EY:=fun d=>nZ NI d
   repeat' (first|refine Rn.p ?_|(with_reducible apply And.intro)|((first|(refine hK _ ?_;clear hK K)|with_reducible intro K hK|refine Rs.p ?_|((with_reducible first|apply oP|apply oQ);exact rfl)|(refine aA hX hC hP [(10000,20)] (mu) rfl rfl rfl ?_ ?_ ?_ ?_ ?_ ?_ ?_ ?_ ?_ ?_ ?_ ?_ ?_ ?_;(focus (simp only [go_sem,simprocAttr,hb,k9,hv,kK,jR,dm,EY,List.drop_succ_cons,List.drop_zero];done));(iterate 12 (focus (simp [go_sem,simprocAttr,hb,k9,hv,kK,jR,dm,EY,List.drop_succ_cons,List.drop_zero];done)));try simp only [List.map_cons,List.map_nil]));try simp only [go_sem,simprocAttr,hb,k9,hv,kK,jR,dm,EY,List.drop_succ_cons,List.drop_zero])|((with_reducible refine oD ?_ ?_);kernel_rfl)|((with_reducible intro h);try simp only [go_sem,simprocAttr,hb,k9,hv,kK,jR,dm,EY,List.drop_succ_cons,List.drop_zero] at h)|omega|intro h)
   refine ⟨k+1,⟨by omega,fun j hj=> ?_⟩, ?_,by omega⟩
   ·by_cases e:j=k
    ·subst e;exact yH
    ·exact hok j (by omega)
   ·rw [Eo]
    have GW:(vT E).set x [D.sl 3 (List.map rT su.1.1)]=vT (dM g p (k+1)):=dm
    refine Le.of ?_ ?_<;>simp [go_sem,simprocAttr,hb,k9,hv,kK,jR,dm,EY,List.drop_succ_cons,List.drop_zero,GW]
 have hb:decide ((k:Int)<(p.ord.length:Int))=false:=decide_eq_false (by omega)
 obtain rfl:k=g.n.toNat:=by omega
 rw [fR.2 hok] at hR
 subst hR
 repeat' (first|refine Rn.p ?_|(with_reducible apply And.intro)|((first|(refine hK _ ?_;clear hK K)|with_reducible intro K hK|refine Rs.p ?_|((with_reducible first|apply oP|apply oQ);exact rfl));try simp only [go_sem,simprocAttr,hb,kK])|((with_reducible refine oD ?_ ?_);kernel_rfl)|((with_reducible intro h);try simp only [go_sem,simprocAttr,hb,kK] at h)|omega|intro h)
end Go.Ab
end
section
namespace Go.Ab
open Go.Proofs
attribute [local congr] ACall.congr gd.congr Nx.congr
set_option maxRecDepth 10000
set_option maxHeartbeats 8000000
theorem j0 (g:Gr) (hl:g.es.length≤1000) (p:Pl) (hp:qK p) (b:Bool) (hr:b=true↔(bF g).1=0∧bt g p):
 Spec Tryz.prog 38 (Args [eG g,ePl p]) [] (.tup [.d (.sl 1 (vT (bX b g p).1.1)), .d (sT (bX b g p).1.2),eF ((bX b g p).2.1,(bX b g p).2.2, [])]) []:=by
 by_cases hc:(bF g).1=0
 rotate_left
 ·obtain rfl:b=false:=by
   rw [← Bool.not_eq_true,hr]
   exact fun h=>hc h.1
  have hR:bX false g p=(([], []),(1,0)):=rfl
  rw [hR]
  (refine Spec.hd (C:=T.cfg [] []) (rs:= [.t 4, .t 5, .c 6 64]) (T.ah _ _) Tryz.func38 rfl rfl Tryz.ntmps38 Tryz.results38 (by simp [AObj.isNest]) (by simp [AObj.isNest]) (by kernel_rfl) T.mixed fun X hX hP hC aI bU=> ?_)
  repeat' (first|refine Rn.p ?_|(with_reducible apply And.intro)|((first|(refine hK _ ?_;clear hK K)|with_reducible intro K hK|refine Rs.p ?_|((with_reducible first|apply oP|apply oQ);exact rfl)|refine aa hX hC hP (Eb g hl hc) rfl rfl rfl (by simp only [go_sem,simprocAttr,vT,List.map_nil]) rfl ?_);try simp only [go_sem,simprocAttr,vT,List.map_nil])|((with_reducible refine oD ?_ ?_);kernel_rfl)|((with_reducible intro h);try simp only [go_sem,simprocAttr,vT,List.map_nil] at h)|omega|intro h)
 have hm:=an hc
 have hn:=aM hm
 have hr:b=true↔bt g p:=by rw [hr];exact ⟨fun h=>h.2,fun h=>⟨hc,h⟩⟩
 have hO:=GM g hm p hp b hr
 cases b with
 |false=>
  have hR:bX false g p=(([], []),(1,0)):=rfl
  rw [hR]
  (refine Spec.hd (C:=T.cfg [] []) (rs:= [.t 4, .t 5, .c 6 64]) (T.ah _ _) Tryz.func38 rfl rfl Tryz.ntmps38 Tryz.results38 (by simp [AObj.isNest]) (by simp [AObj.isNest]) (by kernel_rfl) T.mixed fun X hX hP hC aI bU=> ?_)
  repeat' (first|refine Rn.p ?_|(with_reducible apply And.intro)|((first|(refine hK _ ?_;clear hK K)|with_reducible intro K hK|refine Rs.p ?_|((with_reducible first|apply oP|apply oQ);exact rfl)|(refine uC hX hC hP [(10000,13)] (wY g hl hc hm) rfl rfl rfl ?_ ?_ ?_ ?_ ?_ ?_ ?_ ?_ ?_ ?_ ?_ ?_ ?_ ?_;(focus (simp only [go_sem,simprocAttr,vT,List.map_nil];done));(iterate 12 (focus (simp [go_sem,simprocAttr,vT,List.map_nil];done)));try simp only [List.map_cons,List.map_nil])|refine aa hX hC hP (fL g hm) rfl rfl rfl (by simp only [go_sem,simprocAttr,vT,List.map_nil]) rfl ?_|refine aa hX hC hP (hO) rfl rfl rfl (by simp only [go_sem,simprocAttr,vT,List.map_nil]) rfl ?_);try simp only [go_sem,simprocAttr,vT,List.map_nil])|((with_reducible refine oD ?_ ?_);kernel_rfl)|((with_reducible intro h);try simp only [go_sem,simprocAttr,vT,List.map_nil] at h)|omega|intro h)
 |true=>
 have oN:=hr.1 rfl
 have hle:=bR oN
 have hR:bX true g p=match jP g p g.n.toNat with
  |some i=>(([], []),(3,(i:Int)))
  |none=>((dM g p g.n.toNat,(fK g p g.n.toNat).row),(0,0)):=rfl
 generalize bX true g p=R at hR
 (refine Spec.hd (C:=T.cfg [] []) (rs:= [.t 4, .t 5, .c 6 64]) (T.ah _ _) Tryz.func38 rfl rfl Tryz.ntmps38 Tryz.results38 (by simp [AObj.isNest]) (by simp [AObj.isNest]) (by kernel_rfl) T.mixed fun X hX hP hC aI bU=> ?_)
 repeat' (first|(show cw _ (.seq (.region 5 _ _) _) _ _;(refine qt 13 0 3 rfl rfl rfl ?_;simp only [List.set_cons_zero,List.set_cons_succ,go_sem,simprocAttr]);(refine iC hX 13 2 100 (.tip 3 1 []) rfl rfl rfl (by simp only [go_sem,simprocAttr]) (by decide) (by simp [go_sem,simprocAttr]) ⟨3,1,by decide, .inr rfl⟩ ?_;simp only [List.set_cons_zero,List.set_cons_succ,go_sem,simprocAttr]))|refine Rn.p ?_|(with_reducible apply And.intro)|((first|(refine hK _ ?_;clear hK K)|with_reducible intro K hK|refine Rs.p ?_|((with_reducible first|apply oP|apply oQ);exact rfl)|(refine uC hX hC hP [(10000,13)] (wY g hl hc hm) rfl rfl rfl ?_ ?_ ?_ ?_ ?_ ?_ ?_ ?_ ?_ ?_ ?_ ?_ ?_ ?_;(focus (simp only [go_sem,simprocAttr];done));(iterate 12 (focus (simp [go_sem,simprocAttr];done)));try simp only [List.map_cons,List.map_nil])|refine aa hX hC hP (fL g hm) rfl rfl rfl (by simp only [go_sem,simprocAttr]) rfl ?_|refine aa hX hC hP (hO) rfl rfl rfl (by simp only [go_sem,simprocAttr]) rfl ?_);try simp only [go_sem,simprocAttr])|((with_reducible refine oD ?_ ?_);kernel_rfl)|((with_reducible intro h);try simp only [go_sem,simprocAttr] at h)|omega|intro h)
 rw [GR]
 refine ag (fun k:Nat=>k≤g.n.toNat∧∀j,j<k→w9 g p j=true) (fun k=>⟨[(3, .ptr 3 0),(4, .ref 28),(6, .ptr 6 0),(7, .ptr 13 0),(30, .d (sI p.ord)),(31,eN p.ord.length),(32,eN k)], [(28, .own 78 1 (vT (dM g p k))),(13, .box [.d (sT (fK g p k).row), .d (vw g), .ref 100]),(100, .tip 3 1 ((fK g p k).pl.map rI)),(6, .box [eN 0,eN 0, .nil 3]),(3, .box [.d (sI p.ord), .d (.sl 1 (vI p.outs))])]⟩) (fun k=>g.n.toNat - k) 0 (by simp) ?_ ?_
 ·refine Le.of ?_ ?_<;>simp [go_sem,simprocAttr,kK,fK,dM]
 rintro k ⟨hk,hok⟩
 obtain ⟨hi,_,hrl⟩:=c7 hm oN hk hok
 have hel:=kS (g:=g) (p:=p) (k:=k)
 have hmul:k*(g.es.length+1)≤64*129:=Nat.mul_le_mul (by omega) (by omega)
 rcases Nat.lt_or_ge k g.n.toNat with hlt|hge
 ·have hb:decide ((k:Int)<(p.ord.length:Int))=true:=decide_eq_true (by omega)
  have Ii:=aF oN hlt
  have ef:=xe (g:=g) (p:=p) (k:=k)
  have Eo:fK g p (k+1)=(aC g (fK g p k) (aj p k) (bn p (aj p k))).2:=rfl
  have rV:eX g p k=(aC g (fK g p k) (aj p k) (bn p (aj p k))).1.1:=rfl
  have hpk:=An oN hlt
  have GU:=Ao (g:=g) (p:=p) (k:=k)
  have hsk:w9 g p k=false→R=(([], []),(3,(k:Int))):=fun h=>by
   rw [hR,pM.2 ⟨hlt,h,hok⟩]
  have mU:=jQ oN Ii.1 Ii.2
  have k9:p.ord.getD k 0=aj p k:=rfl
  have GV:(fK g p k).pl.length≤64:=by
   rcases JW hi.toiU with h|h
   ·omega
   ·rw [h];simp
  obtain ⟨x,hx⟩:∃x:Nat,aj p k=x:=⟨(aj p k).toNat,by omega⟩
  rw [hx] at k9 Eo rV hpk GU Ii mU ef
  have hxl:x<p.outs.length:=by have:=oN.1;omega
  have hv:=iu hxl
  have hla:bn p (x:Int)=p.outs.getD x []:=by unfold bn;rw [Int.toNat_natCast]
  rw [hla] at Eo rV hpk GU mU
  rw [Int.toNat_natCast] at ef
  have mu:=Aq g hm (fK g p k) hi (x:Int) (p.outs.getD x []) (by omega) (by omega) (by omega)
  have dm:=GS (ls:=dM g p k) (k:=x) (l:=eX g p k)
  generalize p.outs.getD x []=o at hv Eo rV hpk GU mu
  rw [← ef] at dm
  generalize fK g p k=f at Eo rV hpk GU mu hi hrl GV
  have NI:x<(dM g p k).length:=by omega
  have hvl:(vT (dM g p k)).length=(dM g p k).length:=vT_length
  cases yH:w9 g p k with
  |false=>
   rw [GU yH] at mu
   simp only at mu
   have LY:=hsk yH
   subst LY
   repeat' (first|refine Rn.p ?_|(with_reducible apply And.intro)|((first|(refine hK _ ?_;clear hK K)|with_reducible intro K hK|refine Rs.p ?_|((with_reducible first|apply oP|apply oQ);exact rfl)|(refine aA hX hC hP [(10000,13),(10001,100),(10002,101)] (mu) rfl rfl rfl ?_ ?_ ?_ ?_ ?_ ?_ ?_ ?_ ?_ ?_ ?_ ?_ ?_ ?_;(focus (simp only [go_sem,simprocAttr,hb,k9,hv,oM,BK,List.map_nil];done));(iterate 12 (focus (simp [go_sem,simprocAttr,hb,k9,hv,oM,BK,List.map_nil];done)));try simp only [List.map_cons,List.map_nil]));try simp only [go_sem,simprocAttr,hb,k9,hv,oM,BK,List.map_nil])|((with_reducible refine oD ?_ ?_);kernel_rfl)|((with_reducible intro h);try simp only [go_sem,simprocAttr,hb,k9,hv,oM,BK,List.map_nil] at h)|omega|intro h)
   all_goals rfl
  |true=>
   rw [hpk yH] at mu
   have jR:(aC g f (x:Int) o).1.2=0:=rfl
   rw [rV] at dm
   generalize aC g f (x:Int) o=su at Eo rV mu jR dm
   generalize Un:dM g p k=E at dm NI hel hvl
   have EY:=fun d=>nZ NI d
   repeat' (first|(show cw _ (.region 11 _ _) _ _;(refine dO hX 13 2 101 100 rfl rfl rfl (by first|exact .inl rfl|exact .inr rfl) (by decide) (by decide) ?_;simp only [List.set_cons_zero,List.set_cons_succ,go_sem,simprocAttr,hb,k9,hv,oM,BK,jR,dm,EY,List.drop_succ_cons,List.drop_zero]))|refine Rn.p ?_|(with_reducible apply And.intro)|((first|(refine hK _ ?_;clear hK K)|with_reducible intro K hK|refine Rs.p ?_|((with_reducible first|apply oP|apply oQ);exact rfl)|(refine aA hX hC hP [(10000,13),(10001,100),(10002,101)] (mu) rfl rfl rfl ?_ ?_ ?_ ?_ ?_ ?_ ?_ ?_ ?_ ?_ ?_ ?_ ?_ ?_;(focus (simp only [go_sem,simprocAttr,hb,k9,hv,oM,BK,jR,dm,EY,List.drop_succ_cons,List.drop_zero];done));(iterate 12 (focus (simp [go_sem,simprocAttr,hb,k9,hv,oM,BK,jR,dm,EY,List.drop_succ_cons,List.drop_zero];done)));try simp only [List.map_cons,List.map_nil]));try simp only [go_sem,simprocAttr,hb,k9,hv,oM,BK,jR,dm,EY,List.drop_succ_cons,List.drop_zero])|((with_reducible refine oD ?_ ?_);kernel_rfl)|((with_reducible intro h);try simp only [go_sem,simprocAttr,hb,k9,hv,oM,BK,jR,dm,EY,List.drop_succ_cons,List.drop_zero] at h)|omega|intro h)
   refine ⟨k+1,⟨by omega,fun j hj=> ?_⟩, ?_,by omega⟩
   ·by_cases e:j=k
    ·subst e;exact yH
    ·exact hok j (by omega)
   ·rw [Eo]
    have GW:(vT E).set x [D.sl 3 (List.map rT su.1.1)]=vT (dM g p (k+1)):=dm
    refine Le.of ?_ ?_<;>simp [go_sem,simprocAttr,hb,k9,hv,oM,BK,jR,dm,EY,List.drop_succ_cons,List.drop_zero,GW]
 have hb:decide ((k:Int)<(p.ord.length:Int))=false:=decide_eq_false (by omega)
 obtain rfl:k=g.n.toNat:=by omega
 rw [fR.2 hok] at hR
 subst hR
 repeat' (first|refine Rn.p ?_|(with_reducible apply And.intro)|((first|(refine hK _ ?_;clear hK K)|with_reducible intro K hK|refine Rs.p ?_|((with_reducible first|apply oP|apply oQ);exact rfl)|(refine sG hX hC hP 60 (D9 [vw g,sI (fK g p g.n.toNat).pl] (fK g p g.n.toNat).row (by omega)) rfl rfl rfl ?_ ?_ (by first|exact ⟨_,_,_,rfl,Ae⟩|exact ⟨_,_,_,rfl,Af⟩|exact ⟨_,_,_,rfl,Ah⟩) rfl (by decide) ?_;(iterate 2 (focus (simp only [go_sem,simprocAttr,hb];done)));simp only [go_sem,simprocAttr,hb]));try simp only [go_sem,simprocAttr,hb])|((with_reducible refine oD ?_ ?_);kernel_rfl)|((with_reducible intro h);try simp only [go_sem,simprocAttr,hb] at h)|omega|intro h)
end Go.Ab
end
section
namespace Go.Ab
open Go.Proofs
attribute [local congr] ACall.congr gd.congr Nx.congr
set_option maxRecDepth 10000
set_option maxHeartbeats 8000000
def Vy (n:Int) (es:List Edge) (ord:List Int) (O:List (List Int)):List (Nat × AObj):= [(10000, .box [eN n, .ref 10001, .ref 10002, .ref 10003]),(10001, .tip 56 2 (es.map rE)),(10002, .tip 3 1 (ord.map rI)),(10003, .own 25 1 (vI O))]
def Vz (n:Int) (es:List Edge) (ord:List Int) (O:List (List Int)):List (Nat × AObj):= [(10000, .box [eN n, .ref 10004, .ref 10002, .ref 10003]),(10004, .tip 56 2 (es.map rE)),(10002, .tip 3 1 (ord.map rI)),(10003, .own 25 1 (vI O))]
def Uo (x:Int) (items:List It):List Edge:=(loose items).map fun v=>(v,x)
end Go.Ab
end
section
namespace Go.Ab
open Go.Proofs
attribute [local congr] ACall.congr gd.congr Nx.congr
set_option maxRecDepth 10000
set_option maxHeartbeats 16000000
def pz:Pl:=⟨[], []⟩
def Up (b:Bool) (g:Gr) (p:Pl):Gr × Pl × Int:=
 if (bX b g p).2.1≠0 then (gz,pz,1) else if 64<(GL g p).n∨128<(GL g p).es.length then (gz,pz,10) else (GL g p,Q6 g p,0)
theorem rW {b:Bool} {g:Gr} {p:Pl} (hr:b=true↔(bF g).1=0∧bt g p) (h:(bX b g p).2.1=0):bH g p∧bX b g p=((dM g p g.n.toNat,nj g p),(0,0)):=by
 cases b with
 |false=>simp [bX] at h
 |true=>
  have hR:bX true g p=match jP g p g.n.toNat with
   |some i=>(([], []),(3,(i:Int)))
   |none=>((dM g p g.n.toNat,(fK g p g.n.toNat).row),(0,0)):=rfl
  cases hs:jP g p g.n.toNat with
  |some i=>rw [hR,hs] at h;simp at h
  |none=>
   obtain ⟨h1,h2⟩:=hr.1 rfl
   exact ⟨⟨h1,h2,fR.1 hs⟩,by rw [hR,hs];rfl⟩
end Go.Ab
end
section
namespace Go.Ab
open Go.Proofs
attribute [local congr] ACall.congr gd.congr Nx.congr
set_option maxRecDepth 10000
set_option maxHeartbeats 16000000
def Uq (p:Pl) (x:Gr) (k:Nat):List (List Int):=(List.range k).map fun v=>if 0<(p.outs.getD v []).length then p.outs.getD v [] else bu x (v:Int)
theorem BP {g:Gr} {p:Pl} (hr:bH g p):∀t∈nj g p,t.1<0:=by
 obtain ⟨hc,h,hok⟩:=hr
 have hm:=an hc
 have hn:=aM hm
 obtain ⟨hi,fD,_⟩:=c7 hm h (k:=g.n.toNat) (Nat.le_refl _) hok
 intro t ht
 refine Decidable.byContradiction fun h0=> ?_
 rcases hi.it t ht with ⟨h1,_⟩|⟨h1,h2,_,h4⟩
 ·omega
 ·have OI:=(eH hm (k:=t.1.toNat) (by omega)).2
  rw [← h4] at OI
  refine hi.head t ht h1 (kR hi.toiU ?_ OI)
  rw [fD,List.length_take,bR h];omega
end Go.Ab
end
section
namespace Go.Ab
open Go.Proofs
attribute [local congr] ACall.congr gd.congr Nx.congr
set_option maxRecDepth 10000
set_option maxHeartbeats 8000000
def rX (g:Gr) (p:Pl):Bool:=decide (200<g.es.length)||decide (100<p.ord.length)||decide (100<p.outs.length)||p.outs.any fun l=>decide (200<l.length)
theorem tE {g:Gr} {p:Pl} (h:rX g p=false):g.es.length≤200∧p.ord.length≤100∧p.outs.length≤100∧∀l∈p.outs,l.length≤200:=by
 simp only [rX,Bool.or_eq_false_iff,decide_eq_false_iff_not,List.any_eq_false,decide_eq_true_eq] at h
 obtain ⟨⟨⟨h1,h2⟩,h3⟩,h4⟩:=h
 exact ⟨by omega,by omega,by omega,fun l hl=>by have:=h4 l hl;omega⟩
theorem vk {g:Gr} {p:Pl} (h:rX g p=false):qK p:=by
 obtain ⟨_,h1,h2,h3⟩:=tE h
 exact ⟨by omega,by omega,fun l hl=>by have:=h3 l hl;omega⟩
structure CT (p:Pl):Prop where
 ord:p.ord.length≤9223372036854775807
 outs:p.outs.length≤9223372036854775807
 each:∀l∈p.outs,l.length≤9223372036854775807
theorem yI (g:Gr) (p:Pl) (hl:g.es.length≤9223372036854775807) (hp:CT p):Spec Tryz.prog 19 (Args [eG g,ePl p]) [] (eB (rX g p)) []:=by
 have ho:=hp.ord
 have hu:=hp.outs
 (refine Spec.hd (C:=T.cfg [] []) (rs:= [.t 4]) (T.ah _ _) Tryz.func19 rfl rfl Tryz.ntmps19 Tryz.results19 (by simp [AObj.isNest]) (by simp [AObj.isNest]) (by kernel_rfl) T.mixed fun X hX hP hC aI bU=> ?_)
 generalize hB:rX g p=B
 by_cases h1:200<g.es.length
 ·have au:decide (200<(g.es.length:Int))=true:=decide_eq_true (by omega)
  have:B=true:=by rw [← hB,rX,decide_eq_true h1];rfl
  subst this
  repeat' (first|refine Rn.p ?_|(with_reducible apply And.intro)|((first|(refine hK _ ?_;clear hK K)|with_reducible intro K hK|refine Rs.p ?_|((with_reducible first|apply oP|apply oQ);exact rfl));try simp only [go_sem,simprocAttr,au])|((with_reducible refine oD ?_ ?_);kernel_rfl)|((with_reducible intro h);try simp only [go_sem,simprocAttr,au] at h)|omega|intro h)
 have au:decide (200<(g.es.length:Int))=false:=decide_eq_false (by omega)
 by_cases h2:100<p.ord.length
 ·have az:decide (100<(p.ord.length:Int))=true:=decide_eq_true (by omega)
  have:B=true:=by rw [← hB,rX,decide_eq_true h2];simp
  subst this
  repeat' (first|refine Rn.p ?_|(with_reducible apply And.intro)|((first|(refine hK _ ?_;clear hK K)|with_reducible intro K hK|refine Rs.p ?_|((with_reducible first|apply oP|apply oQ);exact rfl));try simp only [go_sem,simprocAttr,au,az])|((with_reducible refine oD ?_ ?_);kernel_rfl)|((with_reducible intro h);try simp only [go_sem,simprocAttr,au,az] at h)|omega|intro h)
 have az:decide (100<(p.ord.length:Int))=false:=decide_eq_false (by omega)
 by_cases h3:100<p.outs.length
 ·have cI:decide (100<(p.outs.length:Int))=true:=decide_eq_true (by omega)
  have:B=true:=by rw [← hB,rX,decide_eq_true h3];simp
  subst this
  repeat' (first|refine Rn.p ?_|(with_reducible apply And.intro)|((first|(refine hK _ ?_;clear hK K)|with_reducible intro K hK|refine Rs.p ?_|((with_reducible first|apply oP|apply oQ);exact rfl));try simp only [go_sem,simprocAttr,au,az,cI])|((with_reducible refine oD ?_ ?_);kernel_rfl)|((with_reducible intro h);try simp only [go_sem,simprocAttr,au,az,cI] at h)|omega|intro h)
 have cI:decide (100<(p.outs.length:Int))=false:=decide_eq_false (by omega)
 have vP:B=p.outs.any fun l=>decide (200<l.length):=by rw [← hB,rX,decide_eq_false h1,decide_eq_false h2,decide_eq_false h3];simp
 clear hB
 repeat' (first|refine Rn.p ?_|(with_reducible apply And.intro)|((first|(refine hK _ ?_;clear hK K)|with_reducible intro K hK|refine Rs.p ?_|((with_reducible first|apply oP|apply oQ);exact rfl));try simp only [go_sem,simprocAttr,au,az,cI])|((with_reducible refine oD ?_ ?_);kernel_rfl)|((with_reducible intro h);try simp only [go_sem,simprocAttr,au,az,cI] at h)|omega|intro h)
 refine ag (fun k:Nat=>k≤p.outs.length∧∀j,j<k→(p.outs.getD j []).length≤200) (fun k=>⟨[(24, .d (.sl 1 (vI p.outs))),(25,eN p.outs.length),(26,eN k)], []⟩) (fun k=>p.outs.length - k) 0 (by simp) ?_ ?_
 ·(refine Le.of ?_ ?_<;>simp [go_sem,simprocAttr])
 rintro k ⟨hk,hg⟩
 rcases Nat.lt_or_ge k p.outs.length with bS|Bh
 ·have hb:decide ((k:Int)<(p.outs.length:Int))=true:=decide_eq_true (by omega)
  have hv:=iu bS
  have hm:=aB (d:= []) bS
  have mU:=hp.each _ hm
  by_cases h4:200<(p.outs.getD k []).length
  ·have hb4:decide (200<((p.outs.getD k []).length:Int))=true:=decide_eq_true (by omega)
   have:B=true:=by rw [vP,List.any_eq_true];exact ⟨_,hm,decide_eq_true h4⟩
   subst this
   repeat' (first|refine Rn.p ?_|(with_reducible apply And.intro)|((first|(refine hK _ ?_;clear hK K)|with_reducible intro K hK|refine Rs.p ?_|((with_reducible first|apply oP|apply oQ);exact rfl));try simp only [go_sem,simprocAttr,hb,hv,hb4])|((with_reducible refine oD ?_ ?_);kernel_rfl)|((with_reducible intro h);try simp only [go_sem,simprocAttr,hb,hv,hb4] at h)|omega|intro h)
  ·have hb4:decide (200<((p.outs.getD k []).length:Int))=false:=decide_eq_false (by omega)
   repeat' (first|refine Rn.p ?_|(with_reducible apply And.intro)|((first|(refine hK _ ?_;clear hK K)|with_reducible intro K hK|refine Rs.p ?_|((with_reducible first|apply oP|apply oQ);exact rfl));try simp only [go_sem,simprocAttr,hb,hv,hb4])|((with_reducible refine oD ?_ ?_);kernel_rfl)|((with_reducible intro h);try simp only [go_sem,simprocAttr,hb,hv,hb4] at h)|omega|intro h)
   refine ⟨k+1,⟨by omega,fun j hj=> ?_⟩, ?_,by omega⟩
   ·by_cases e:j=k
    ·subst e;omega
    ·exact hg j (by omega)
   ·(refine Le.of ?_ ?_<;>simp [go_sem,simprocAttr,hb,hv,hb4])
 ·have hb:decide ((k:Int)<(p.outs.length:Int))=false:=decide_eq_false (by omega)
  have:B=false:=by
   rw [vP,List.any_eq_false]
   intro l hl
   obtain ⟨j,hj,rfl⟩:=List.mem_iff_getElem.1 hl
   have:=hg j (by omega)
   rw [List.getD_eq_getElem?_getD,List.getElem?_eq_getElem hj,Option.getD_some] at this
   simp;omega
  subst this
  repeat' (first|refine Rn.p ?_|(with_reducible apply And.intro)|((first|(refine hK _ ?_;clear hK K)|with_reducible intro K hK|refine Rs.p ?_|((with_reducible first|apply oP|apply oQ);exact rfl));try simp only [go_sem,simprocAttr,hb])|((with_reducible refine oD ?_ ?_);kernel_rfl)|((with_reducible intro h);try simp only [go_sem,simprocAttr,hb] at h)|omega|intro h)
def j8 (g:Gr):Bool:=decide ((bF g).1=0)&&decide ((bg (·.1) g).length=1)
theorem vl (g:Gr) (hl:g.es.length≤1000):Spec Tryz.prog 39 (Args [eG g]) [] (eB (j8 g)) []:=by
 by_cases hc:(bF g).1=0
 ·have hm:=an hc
  have au:decide ((bF g).1=0)=true:=decide_eq_true hc
  have hI:j8 g=decide (((bg (·.1) g).length:Int)=1):=by
   unfold j8;rw [au,Bool.true_and,decide_eq_decide];omega
  rw [hI]
  generalize kj:bg (·.1) g=bl
  have hS:=uH g hm
  rw [kj] at hS
  (refine Spec.hd (C:=T.cfg [] []) (rs:= [.t 2]) (T.ah _ _) Tryz.func39 rfl rfl Tryz.ntmps39 Tryz.results39 (by simp [AObj.isNest]) (by simp [AObj.isNest]) (by kernel_rfl) T.mixed fun X hX hP hC aI bU=> ?_)
  repeat' (first|refine Rn.p ?_|(with_reducible apply And.intro)|((first|(refine hK _ ?_;clear hK K)|with_reducible intro K hK|refine Rs.p ?_|((with_reducible first|apply oP|apply oQ);exact rfl)|refine aa hX hC hP (jx g hl) rfl rfl rfl (by simp only [go_sem,simprocAttr,au]) rfl ?_|refine aa hX hC hP (fL g hm) rfl rfl rfl (by simp only [go_sem,simprocAttr,au]) rfl ?_|refine aa hX hC hP (hS) rfl rfl rfl (by simp only [go_sem,simprocAttr,au]) rfl ?_);try simp only [go_sem,simprocAttr,au])|((with_reducible refine oD ?_ ?_);kernel_rfl)|((with_reducible intro h);try simp only [go_sem,simprocAttr,au] at h)|omega|intro h)
 ·have au:decide ((bF g).1=0)=false:=decide_eq_false hc
  have hI:j8 g=false:=by unfold j8;rw [au];rfl
  rw [hI]
  (refine Spec.hd (C:=T.cfg [] []) (rs:= [.t 2]) (T.ah _ _) Tryz.func39 rfl rfl Tryz.ntmps39 Tryz.results39 (by simp [AObj.isNest]) (by simp [AObj.isNest]) (by kernel_rfl) T.mixed fun X hX hP hC aI bU=> ?_)
  repeat' (first|refine Rn.p ?_|(with_reducible apply And.intro)|((first|(refine hK _ ?_;clear hK K)|with_reducible intro K hK|refine Rs.p ?_|((with_reducible first|apply oP|apply oQ);exact rfl)|refine aa hX hC hP (jx g hl) rfl rfl rfl (by simp only [go_sem,simprocAttr,au]) rfl ?_);try simp only [go_sem,simprocAttr,au])|((with_reducible refine oD ?_ ?_);kernel_rfl)|((with_reducible intro h);try simp only [go_sem,simprocAttr,au] at h)|omega|intro h)
theorem BQ (g:Gr) (hl:g.es.length≤1000):Spec Tryz.prog 36 (Args [eG g]) [] (eB (j8 g)) []:=by
 by_cases hc:(bF g).1=0
 ·have hm:=an hc
  have hn:=aM hm
  have au:decide ((bF g).1=0)=true:=decide_eq_true hc
  have hI:j8 g=decide (((bg (·.1) g).length:Int)=1):=by
   unfold j8;rw [au,Bool.true_and,decide_eq_decide];omega
  rw [hI]
  have hS:=cW g false hl (by omega)
  rw [show lK (!false)=(·.1) from rfl] at hS
  generalize bg (·.1) g=bl at hS
  (refine Spec.hd (C:=T.cfg [] []) (rs:= [.t 2]) (T.ah _ _) Tryz.func36 rfl rfl Tryz.ntmps36 Tryz.results36 (by simp [AObj.isNest]) (by simp [AObj.isNest]) (by kernel_rfl) T.mixed fun X hX hP hC aI bU=> ?_)
  repeat' (first|refine Rn.p ?_|(with_reducible apply And.intro)|((first|(refine hK _ ?_;clear hK K)|with_reducible intro K hK|refine Rs.p ?_|((with_reducible first|apply oP|apply oQ);exact rfl)|refine aa hX hC hP (aQ g (by omega)) rfl rfl rfl (by simp only [go_sem,simprocAttr,au]) rfl ?_|refine aa hX hC hP (hS) rfl rfl rfl (by simp only [go_sem,simprocAttr,au]) rfl ?_);try simp only [go_sem,simprocAttr,au])|((with_reducible refine oD ?_ ?_);kernel_rfl)|((with_reducible intro h);try simp only [go_sem,simprocAttr,au] at h)|omega|intro h)
 ·have au:decide ((bF g).1=0)=false:=decide_eq_false hc
  have hI:j8 g=false:=by unfold j8;rw [au];rfl
  rw [hI]
  (refine Spec.hd (C:=T.cfg [] []) (rs:= [.t 2]) (T.ah _ _) Tryz.func36 rfl rfl Tryz.ntmps36 Tryz.results36 (by simp [AObj.isNest]) (by simp [AObj.isNest]) (by kernel_rfl) T.mixed fun X hX hP hC aI bU=> ?_)
  repeat' (first|refine Rn.p ?_|(with_reducible apply And.intro)|((first|(refine hK _ ?_;clear hK K)|with_reducible intro K hK|refine Rs.p ?_|((with_reducible first|apply oP|apply oQ);exact rfl)|refine aa hX hC hP (aQ g (by omega)) rfl rfl rfl (by simp only [go_sem,simprocAttr,au]) rfl ?_);try simp only [go_sem,simprocAttr,au])|((with_reducible refine oD ?_ ?_);kernel_rfl)|((with_reducible intro h);try simp only [go_sem,simprocAttr,au] at h)|omega|intro h)
end Go.Ab
end
section
namespace Go.Ab
open Go.Proofs
attribute [local congr] ACall.congr gd.congr Nx.congr
set_option maxRecDepth 10000
set_option maxHeartbeats 8000000
def g16:Gr:=⟨3, [(0,1),(0,2)]⟩
def VA:Pl:=⟨[0,1,2], [[0,1], [], []]⟩
def VB:Gr:=⟨4, [(0,1),(0,2),(1,3),(2,3)]⟩
def VC:Pl:=⟨[0,1,2,3], [[0,1], [2], [3], []]⟩
end Go.Ab
end
section
namespace Go.Ab
def nm (names:List Int) (v:Int):Int:=names.getD v.toNat 0
structure jS (g:Gr) (names order:List Int):Prop where
 may:aO g=true
 K8:gL names g.n=true
 ord:gL order (g.es.length:Int)=true
section
variable {g:Gr} {names order:List Int} (h:jS g names order)
include h
theorem jS.len:(iM g names order).es.length=g.es.length:=by
 have:=(cD.1 h.ord).1
 simp only [iM,z7];omega
theorem jS.jW {i:Nat} (hi:i<g.es.length):∃j,j<g.es.length∧order.getD i 0=(j:Int)∧(iM g names order).es.getD i (0,0)=(nm names (tl g j),nm names (hd g j)):=by
 have Cq:=(cD.1 h.ord).1
 have:=mY h.ord _ (iF (l:=order) (m:=i) (by omega))
 refine ⟨(order.getD i 0).toNat,by omega,by omega, ?_⟩
 simp only [iM,I5,nm,tl,hd]
 rw [List.getD_eq_getElem?_getD,List.getElem?_map,List.getElem?_range (by omega)]
 rfl
theorem jS.back {j:Nat} (hj:j<g.es.length):∃i,i<g.es.length∧order.getD i 0=(j:Int)∧(iM g names order).es.getD i (0,0)=(nm names (tl g j),nm names (hd g j)):=by
 obtain ⟨Cq,hall⟩:=cD.1 h.ord
 obtain ⟨i,hi,hil,he⟩:=dW (hall (j:Int) (dX.2 (by omega)))
 obtain ⟨j',_,h2,h3⟩:=h.jW (i:=i) (by omega)
 have:j'=j:=by omega
 subst this
 exact ⟨i,by omega,he,h3⟩
theorem jS.inj {a b:Int} (ha:0≤a∧a<g.n) (hb:0≤b∧b<g.n) (e:nm names a=nm names b):a=b:=by
 have hnl:=(cD.1 h.K8).1
 have:=jy h.K8 (i:=a.toNat) (j:=b.toNat) (by omega) (by omega) e
 omega
theorem jS.range {a:Int} (ha:0≤a∧a<g.n):0≤nm names a∧nm names a<g.n:=by
 have hnl:=(cD.1 h.K8).1
 exact mY h.K8 _ (iF (by omega))
theorem jS.inv {a:Int} (ha:0≤a∧a<g.n):ee names (nm names a)=a:=by
 have hnl:=(cD.1 h.K8).1
 obtain ⟨k,hk,bS,he⟩:=dW (iF (l:=names) (m:=a.toNat) (by omega))
 have h2:=jy h.K8 bS (j:=a.toNat) (by omega) he
 have h3:ee names (nm names a)=k:=hk
 omega
theorem jS.of {v:Int} (hv:0≤v∧v<g.n):∃a,(0≤a∧a<g.n)∧nm names a=v:=by
 obtain ⟨hnl,hall⟩:=cD.1 h.K8
 obtain ⟨k,hk,bS,he⟩:=dW (hall v (dX.2 (by omega)))
 exact ⟨k,by omega,he⟩
theorem jS.may':aO (iM g names order)=true:=by
 have hn:=aM h.may
 have hlen:=h.len
 have hall:(iM g names order).es.any (qv (iM g names order))=false:=by
  rw [List.any_eq_false]
  intro e he
  obtain ⟨i,hi,rfl⟩:=List.getElem_of_mem he
  obtain ⟨j,hj,_,h3⟩:=h.jW (i:=i) (by omega)
  rw [List.getD_eq_getElem?_getD,List.getElem?_eq_getElem hi,Option.getD_some] at h3
  rw [h3]
  have h4:=h.range (bL h.may hj)
  have h5:=h.range (bQ h.may hj)
  have e1:(iM g names order).n=g.n:=rfl
  simp only [qv,vK,e1,Bool.or_eq_true,decide_eq_true_eq]
  omega
 have e1:(iM g names order).n=g.n:=rfl
 simp only [aO,hall,e1,Bool.not_false,Bool.and_true,Bool.and_eq_true,decide_eq_true_eq]
 omega
omit h in
theorem rY {i j:Nat} (e:(iM g names order).es.getD i (0,0)=(nm names (tl g j),nm names (hd g j))):tl (iM g names order) i=nm names (tl g j)∧hd (iM g names order) i=nm names (hd g j):=⟨congrArg Prod.fst e,congrArg Prod.snd e⟩
theorem jS.loop:(0≤kE (iM g names order))↔0≤kE g:=by
 have key:∀g:Gr,(0≤kE g)↔∃i,i<g.es.length∧tl g i=hd g i:=by
  intro g
  have:=ia (fun e:Edge=>decide (e.1=e.2)) g.es
  rw [show (0≤kE g)↔g.es.any (fun e:Edge=>decide (e.1=e.2))=true from by rw [← this];simp [kE],List.any_eq_true]
  constructor
  ·rintro ⟨e,he,h2⟩
   obtain ⟨i,hi,rfl⟩:=List.getElem_of_mem he
   refine ⟨i,hi, ?_⟩
   simpa [tl,hd,List.getD_eq_getElem?_getD,List.getElem?_eq_getElem hi] using h2
  ·rintro ⟨i,hi,h2⟩
   refine ⟨_,List.getElem_mem hi, ?_⟩
   simpa [tl,hd,List.getD_eq_getElem?_getD,List.getElem?_eq_getElem hi] using h2
 rw [key,key,h.len]
 constructor
 ·rintro ⟨i,hi,e⟩
  obtain ⟨j,hj,_,h3⟩:=h.jW hi
  obtain ⟨e1,e2⟩:=rY h3
  exact ⟨j,hj,h.inj (bL h.may hj) (bQ h.may hj) (by rw [← e1, ← e2,e])⟩
 ·rintro ⟨j,hj,e⟩
  obtain ⟨i,hi,_,h3⟩:=h.back hj
  obtain ⟨e1,e2⟩:=rY h3
  exact ⟨i,hi,by rw [e1,e2,e]⟩
omit h in
theorem xg (g:Gr):(0≤fP g)↔∃i k,i<g.es.length∧k<g.es.length∧i≠k∧g.es.getD i (0,0)=g.es.getD k (0,0):=by
 have:=ia (pg g) (List.range g.es.length)
 rw [show (0≤fP g)↔(List.range g.es.length).any (pg g)=true from by rw [← this];simp [fP],List.any_eq_true]
 constructor
 ·rintro ⟨i,hi,h2⟩
  have hil:=List.mem_range.1 hi
  have h3:=of_decide_eq_true h2
  rw [List.mem_iff_getElem?] at h3
  obtain ⟨k,hk⟩:=h3
  rw [List.getElem?_take] at hk
  split at hk
  ·rename_i hki
   exact ⟨i,k,hil,by omega,by omega,by rw [List.getD_eq_getElem?_getD (i:=k),hk];rfl⟩
  ·cases hk
 ·rintro ⟨i,k,hi,hk,hne,e⟩
  have main:∀i k,k<i→i<g.es.length→g.es.getD i (0,0)=g.es.getD k (0,0)→pg g i=true:=by
   intro i k hki hi e
   refine decide_eq_true ?_
   rw [e,List.mem_iff_getElem?]
   refine ⟨k, ?_⟩
   rw [List.getElem?_take,if_pos hki,List.getD_eq_getElem?_getD,List.getElem?_eq_getElem (by omega)];rfl
  rcases Nat.lt_or_gt_of_ne hne with hlt|hgt
  ·exact ⟨k,List.mem_range.2 hk,main k i hlt hk e.symm⟩
  ·exact ⟨i,List.mem_range.2 hi,main i k hgt hi e⟩
theorem jS.NJ:(0≤fP (iM g names order))↔0≤fP g:=by
 have Cq:=(cD.1 h.ord).1
 rw [xg,xg,h.len]
 constructor
 ·rintro ⟨i,k,hi,hk,hne,e⟩
  obtain ⟨j,hj,ho,h3⟩:=h.jW hi
  obtain ⟨j',hj',ho',IE⟩:=h.jW hk
  refine ⟨j,j',hj,hj',fun e'=> ?_, ?_⟩
  ·subst e'
   exact hne (jy h.ord (by omega) (by omega) (by rw [ho,ho']))
  ·rw [h3,IE,Prod.mk.injEq] at e
   have e1:=h.inj (bL h.may hj) (bL h.may hj') e.1
   have e2:=h.inj (bQ h.may hj) (bQ h.may hj') e.2
   exact Prod.ext e1 e2
 ·rintro ⟨j,j',hj,hj',hne,e⟩
  obtain ⟨i,hi,ho,h3⟩:=h.back hj
  obtain ⟨k,hk,ho',IE⟩:=h.back hj'
  refine ⟨i,k,hi,hk,fun e'=> ?_, ?_⟩
  ·subst e';omega
  ·have e1:tl g j=tl g j':=congrArg Prod.fst e
   have e2:hd g j=hd g j':=congrArg Prod.snd e
   rw [h3,IE,e1,e2]
theorem jS.Q7:oK (iM g names order)=oK g:=by
 rw [Bool.eq_iff_iff,tr h.may',tr h.may]
 constructor
 ·rintro ⟨r,hr⟩
  refine ⟨fun v=>r (nm names v),fun j hj=> ?_⟩
  obtain ⟨i,hi,_,h3⟩:=h.back hj
  obtain ⟨e1,e2⟩:=rY h3
  have:=hr i (by rw [h.len];exact hi)
  rwa [e1,e2] at this
 ·rintro ⟨r,hr⟩
  refine ⟨fun v=>r (ee names v),fun i hi=> ?_⟩
  rw [h.len] at hi
  obtain ⟨j,hj,_,h3⟩:=h.jW hi
  obtain ⟨e1,e2⟩:=rY h3
  have:=hr j hj
  rw [e1,e2];simp only;rw [h.inv (bL h.may hj),h.inv (bQ h.may hj)]
  exact this
omit h in
theorem eY {g:Gr} {y:Int} :y∈bg (·.2) g↔(0≤y∧y<g.n)∧∀i,i<g.es.length→hd g i≠y:=by
 simp only [bg,js,List.mem_map,List.mem_filter,List.mem_range,decide_eq_true_eq]
 have he:∀x:Nat,x<g.n.toNat→(((dL (·.2) g).getD x []).length=0↔∀i,i<g.es.length→hd g i≠(x:Int)):=by
  intro x hx
  have e:(dL (·.2) g).getD x []=aJ (·.2) g.es g.es.length (x:Int):=by
   simp [dL,List.getD_eq_getElem?_getD,List.getElem?_range hx,kG]
  rw [e,List.length_eq_zero_iff]
  simp only [aJ,List.map_eq_nil_iff,List.filter_eq_nil_iff,List.mem_range,decide_eq_true_eq]
  rfl
 constructor
 ·rintro ⟨x,⟨hx,h0⟩,rfl⟩
  refine ⟨by simp;omega,(he x hx).1 h0⟩
 ·rintro ⟨⟨h1,h2⟩,h3⟩
  have e:((y.toNat:Nat):Int)=y:=by omega
  exact ⟨y.toNat,⟨by omega,(he _ (by omega)).2 (by rw [e];exact h3)⟩,e⟩
omit h in
theorem pO {f:Edge→Int} {g:Gr} :(bg f g).Nodup:=by
 unfold bg js
 refine List.Pairwise.map _ (fun a b h e=>h (Int.ofNat.inj e)) (List.Pairwise.filter _ List.nodup_range)
theorem jS.bare:(bg (·.2) (iM g names order)).length=(bg (·.2) g).length:=by
 have e1:(iM g names order).n=g.n:=rfl
 have h1:((bg (·.2) g).map (nm names)).length≤(bg (·.2) (iM g names order)).length:=by
  refine Nat.le_trans (count_le _ (bg (·.2) (iM g names order)) ?_ ?_) List.countP_le_length
  ·rw [List.nodup_iff_pairwise_ne]
   refine List.Pairwise.map _ (fun a b h=>h) ?_
   refine List.Pairwise.imp_of_mem ?_ pO
   intro a b ha hb hab e
   exact hab (h.inj (eY.1 ha).1 (eY.1 hb).1 e)
  ·intro v hv
   obtain ⟨y,hy,rfl⟩:=List.mem_map.1 hv
   obtain ⟨hy1,hy2⟩:=eY.1 hy
   refine eY.2 ⟨h.range hy1,fun i hi e=> ?_⟩
   rw [h.len] at hi
   obtain ⟨j,hj,_,h3⟩:=h.jW hi
   rw [(rY h3).2] at e
   exact hy2 j hj (h.inj (bQ h.may hj) hy1 e)
 have h2:((bg (·.2) (iM g names order)).map (ee names)).length≤(bg (·.2) g).length:=by
  have hsplit:∀v∈bg (·.2) (iM g names order),∃a,(0≤a∧a<g.n)∧nm names a=v:=fun v hv=>h.of (eY.1 hv).1
  refine Nat.le_trans (count_le _ (bg (·.2) g) ?_ ?_) List.countP_le_length
  ·rw [List.nodup_iff_pairwise_ne]
   refine List.Pairwise.map _ (fun a b h=>h) ?_
   refine List.Pairwise.imp_of_mem ?_ pO
   intro a b ha hb hab e
   obtain ⟨a',DA,rfl⟩:=hsplit a ha
   obtain ⟨b',hb',rfl⟩:=hsplit b hb
   rw [h.inv DA,h.inv hb'] at e
   exact hab (by rw [e])
  ·intro v hv
   obtain ⟨y,hy,rfl⟩:=List.mem_map.1 hv
   obtain ⟨a,ha,rfl⟩:=hsplit y hy
   rw [h.inv ha]
   refine eY.2 ⟨ha,fun j hj e=> ?_⟩
   obtain ⟨i,hi,_,h3⟩:=h.back hj
   refine (eY.1 hy).2 i (by rw [h.len];exact hi) ?_
   rw [(rY h3).2,e]
 simp only [List.length_map] at h1 h2
 omega
theorem jS.kind:(bF (iM g names order)).1=(bF g).1:=by
 have hm:=h.may'
 have hc:(0<(kC (iM g names order)).length)↔0<(kC g).length:=by
  have key:∀g:Gr,aO g=true→((0<(kC g).length)↔oK g=false):=by
   intro g hm
   cases ho:oK g with
   |true=>rw [CF hm ho];simp
   |false=>simp [(uV hm ho).1]
  rw [key _ hm,key _ h.may,h.Q7]
 have h1:=h.loop
 have h2:=h.NJ
 have h3:=h.bare
 simp only [bF,iE,hm,h.may]
 simp only [Bool.true_eq_false,if_false,h1,h2,hc,h3]
 split
 ·rfl
 split
 ·rfl
 split
 ·rfl
 split<;>rfl
end
theorem Ep {g:Gr} (hm:aO g=true):
 (bF g).1=13∧(bF g).2.2= []∧oK g=false∨(bF g).1=14∧(bF g).2.2= []∨(bF g).1=15∧oK g=false∧Nt g (bF g).2.2∨
 (bF g).1=16∧oK g=true∧(∀a∈(bF g).2.2,∀i,i<g.es.length→hd g i≠a)∨(bF g).1=0∧(bF g).2.2= []∧oK g=true:=by
 unfold bF iE
 rw [if_neg (by simp [hm])]
 split
 ·rename_i hl
  refine .inl ⟨rfl,rfl, ?_⟩
  cases ho:oK g with
  |false=>rfl
  |true=>
   exfalso
   obtain ⟨r,hr⟩:=(tr hm).1 ho
   have:=ia (fun e:Edge=>decide (e.1=e.2)) g.es
   have h2:g.es.any (fun e:Edge=>decide (e.1=e.2))=true:=by rw [← this];exact decide_eq_true hl
   obtain ⟨e,he,h3⟩:=List.any_eq_true.1 h2
   obtain ⟨i,hi,rfl⟩:=List.getElem_of_mem he
   have h4:=hr i hi
   have h5:tl g i=hd g i:=by simpa [tl,hd,List.getD_eq_getElem?_getD,List.getElem?_eq_getElem hi] using h3
   rw [h5] at h4;omega
 split
 ·exact .inr (.inl ⟨rfl,rfl⟩)
 split
 ·rename_i hc
  refine .inr (.inr (.inl ⟨rfl, ?_⟩))
  cases ho:oK g with
  |false=>exact ⟨rfl,(uV hm ho).2⟩
  |true=>rw [CF hm ho] at hc;simp at hc
 rename_i hc
 have ho:oK g=true:=by
  cases ho:oK g with
  |true=>rfl
  |false=>exact absurd (uV hm ho).1 hc
 split
 ·refine .inr (.inr (.inr (.inl ⟨rfl,ho,fun a ha=> ?_⟩)))
  exact (eY.1 (List.mem_of_mem_take ha)).2
 ·exact .inr (.inr (.inr (.inr ⟨rfl,rfl,ho⟩)))
end Go.Ab
end
section
namespace Go.Ab
open Go.Proofs
set_option maxRecDepth 10000
def Su:Nat→List Edge→Int→Option (Int × Int)
 |_, [],_=>none
 |m,e::N,v=>if e.1=v then some ((m:Int),e.2) else Su (m+1) N v
def VD (m:Nat) (N:List Edge) (t:It):It:=if 0≤t.1 then t else match Su m N t.2.1 with
 |some (i,h)=>(i,t.2.1,h)
 |none=>t
structure Sv (g:Gr) (p:Pl):Prop where
 run:bH g p
 n:(GL g p).n≤64
 es:(GL g p).es.length≤128
variable {g:Gr} {p:Pl}
end Go.Ab
end
section
namespace Go.Ab
open Go.Proofs
set_option maxRecDepth 10000
variable {g:Gr} {p:Pl}
theorem CU {p:Pl} {k:Nat} {v:Int} (hk:k≤p.ord.length) (h:v∈p.ord.take k):∃j,j<k∧aj p j=v:=by
 obtain ⟨j,hj,e⟩:=List.mem_iff_getElem.1 h
 simp only [List.length_take] at hj
 refine ⟨j,by omega, ?_⟩
 rw [← e,aj,List.getD_eq_getElem?_getD,List.getElem?_eq_getElem (by omega)]
 simp
end Go.Ab
end
section
namespace Go.Ab
open Go.Proofs
set_option maxRecDepth 10000
variable {g:Gr} {p:Pl}
theorem rZ (hr:bH g p):bn p (aj p (g.n.toNat - 1))= []∧aj p (g.n.toNat - 1)∈loose (nj g p):=by
 have hm:=an hr.1
 have hn:=aM hm
 obtain ⟨k,hk⟩:∃k,g.n.toNat=k+1:=⟨g.n.toNat - 1,by omega⟩
 obtain ⟨hi,_,_⟩:=c7 hm hr.2.1 (k:=k) (by omega) fun j hj=>hr.2.2 j (by omega)
 obtain ⟨A,X,C,hrw,_,_,_,hs⟩:=jD hm hi.toiU (hr.2.2 k (by omega))
 have hL:nj g p=A++aP g (aj p k) (bn p (aj p k))++C:=by
  unfold nj;rw [hk]
  show (aC _ _ _ _).2.row=_
  rw [hs]
 have Bc:g.n.toNat - 1=k:=by omega
 rw [Bc]
 have mU:=BP hr
 have hx:=aF hr.2.1 (k:=k) (by omega)
 have h0:bn p (aj p k)= []:=by
  refine Decidable.byContradiction fun h0=> ?_
  have ha:aP g (aj p k) (bn p (aj p k))=(bn p (aj p k)).map (gr g (aj p k)):=if_neg h0
  obtain ⟨i,hi'⟩:=List.exists_mem_of_ne_nil _ h0
  have h1:=mU (gr g (aj p k) i) (by rw [hL,ha];simp;exact .inr (.inl ⟨i,hi',rfl⟩))
  obtain ⟨e,rfl,_⟩:=kO ((bN hr.2.1 hx.1 hx.2).mem_iff.1 hi')
  simp [gr] at h1
  omega
 refine ⟨h0, ?_⟩
 have ha:aP g (aj p k) (bn p (aj p k))= [(-1,aj p k, -1)]:=if_pos h0
 rw [hL,ha,xd,xd]
 simp [loose]
theorem fu {f:Edge→Int} {g:Gr} {y:Int} :y∈bg f g↔(0≤y∧y<g.n)∧aJ f g.es g.es.length y= []:=by
 simp only [bg,js,List.mem_map,List.mem_filter,List.mem_range,decide_eq_true_eq]
 have he:∀x:Nat,x<g.n.toNat→(((dL f g).getD x []).length=0↔aJ f g.es g.es.length (x:Int)= []):=by
  intro x hx
  have e:(dL f g).getD x []=aJ f g.es g.es.length (x:Int):=by
   simp [dL,List.getD_eq_getElem?_getD,List.getElem?_range hx,kG]
  rw [e,List.length_eq_zero_iff]
 constructor
 ·rintro ⟨x,⟨hx,h0⟩,rfl⟩
  exact ⟨by simp;omega,(he x hx).1 h0⟩
 ·rintro ⟨⟨h1,h2⟩,h3⟩
  have e:((y.toNat:Nat):Int)=y:=by omega
  exact ⟨y.toNat,⟨by omega,(he _ (by omega)).2 (by rw [e];exact h3)⟩,e⟩
end Go.Ab
end
section
namespace Go.Ab
open Go.Proofs
set_option maxRecDepth 10000
def fS (l:List It):List It:=l.filter fun t=>decide (0≤t.1)
theorem jT {a b:List It} :fS (a++b)=fS a++fS b:=by simp [fS]
theorem fz {l:List It} {t:It} :t∈fS l↔t∈l∧0≤t.1:=by simp [fS]
theorem tF {x:Int} {l:List It} (h:gM x l):gM x (fS l):=fun t ht=>h t (fz.1 ht).1
def vQ (x:Int) (l:List It):Prop:=∀t∈l,t.2.2=x
theorem kT {g:Gr} {x:Int} {o:List Int} (ho:∀i∈o,0≤i):fS (aP g x o)=o.map (gr g x):=by
 unfold aP
 split
 ·rename_i h;subst h;rfl
 ·refine List.filter_eq_self.2 fun t ht=> ?_
  obtain ⟨i,hi,rfl⟩:=List.mem_map.1 ht
  exact decide_eq_true (ho i hi)
theorem xh {x:Int} :∀ {X Y c d:List It},vQ x X→vQ x Y→gM x c→gM x d→X++c=Y++d→X=Y∧c=d
 | [], [],c,d,_,_,_,_,e=>⟨rfl,e⟩
 | [],u::Y,c,d,_,hY,hc,_,e=>by
   simp only [List.nil_append] at e
   exact absurd (hY u (by simp)) (hc u (by rw [e];simp))
 |t::X, [],c,d,hX,_,_,hd,e=>by
  simp only [List.nil_append] at e
  exact absurd (hX t (by simp)) (hd t (by rw [← e];simp))
 |t::X,u::Y,c,d,hX,hY,hc,hd,e=>by
  simp only [List.cons_append,List.cons.injEq] at e
  obtain ⟨e1,e2⟩:=xh (fun s hs=>hX s (by simp [hs])) (fun s hs=>hY s (by simp [hs])) hc hd e.2
  exact ⟨by rw [e.1,e1],e2⟩
theorem Av {x:Int} :∀ {a b X Y c d:List It},gM x a→gM x b→vQ x X→vQ x Y→gM x c→gM x d→X≠ []→Y≠ []→a++X++c=b++Y++d→a=b∧X=Y∧c=d
 |t::a, [],X,u::Y,c,d,ha,_,_,hY,_,_,_,_,e=>by
  simp only [List.cons_append,List.nil_append,List.cons.injEq] at e
  exact absurd (by rw [e.1];exact hY u (by simp)) (ha t (by simp))
 | [],t::b,u::X,Y,c,d,_,hb,hX,_,_,_,_,_,e=>by
   simp only [List.cons_append,List.nil_append,List.cons.injEq] at e
   exact absurd (by rw [← e.1];exact hX u (by simp)) (hb t (by simp))
 |t::a,u::b,X,Y,c,d,ha,hb,hX,hY,hc,hd,nX,nY,e=>by
  simp only [List.cons_append,List.cons.injEq] at e
  obtain ⟨e1,e2,e3⟩:=Av (fun s hs=>ha s (by simp [hs])) (fun s hs=>hb s (by simp [hs])) hX hY hc hd nX nY e.2
  exact ⟨by rw [e.1,e1],e2,e3⟩
 | [], [],X,Y,c,d,_,_,hX,hY,hc,hd,_,_,e=>by
   refine ⟨rfl, ?_⟩
   simp only [List.nil_append] at e
   exact xh hX hY hc hd e
 | [],_::_, [],_,_,_,_,_,_,_,_,_,h,_,_=>absurd rfl h
 |_::_, [],_, [],_,_,_,_,_,_,_,_,_,h,_=>absurd rfl h
theorem GX {g:Gr} (hm:aO g=true) {f:Fr} (hi:iU g f) {x:Int} (hR:aD g f x=true) (hn:bw g x≠0):
 ∃a X c,fS f.row=a++X++c∧gM x a∧gM x c∧vQ x X∧X.length=bw g x∧∀o,fS (aC g f x o).2.row=a++fS (aP g x o)++c:=by
 obtain ⟨A,X,C,hr,hA,hC,hX,cX⟩:=cr hm hi hR hn
 have hx:=(aW hR).1
 have hmem:∀t∈X,t∈f.row:=fun t ht=>by rw [hr];simp [ht]
 have hiff:∀t∈X,(0≤t.1↔t.2.2=x):=fun t ht=>by
  have h1:=(hi.it t (hmem t ht)).head hm
  have h2:=hX.al t ht
  omega
 refine ⟨fS A,fS X,fS C,by rw [hr,jT,jT],tF hA,tF hC,fun t ht=> ?_, ?_,fun o=> ?_⟩
 ·obtain ⟨h1,h2⟩:=fz.1 ht
  exact (hiff t h1).1 h2
 ·rw [← cX,fS, ← List.countP_eq_length_filter]
  refine List.countP_congr fun t ht=> ?_
  simp only [mC,decide_eq_true_eq]
  exact hiff t ht
 ·rw [iw o hr hA hC hX]
  simp only [jT]
theorem CV {g:Gr} (hm:aO g=true) {f:Fr} (hi:iU g f) {x:Int} (hR:aD g f x=true) (hn:bw g x≠0) {a X c:List It} (e:fS f.row=a++X++c) (ha:gM x a) (hc:gM x c) (hX:vQ x X) (nX:X≠ []) (o:List Int):
 fS (aC g f x o).2.row=a++fS (aP g x o)++c:=by
 obtain ⟨b,Y,d,e',hb,hd,hY,lY,hs⟩:=GX hm hi hR hn
 have nY:Y≠ []:=fun h=>hn (by rw [← lY,h];rfl)
 obtain ⟨e1,_,e3⟩:=Av hb ha hY hX hd hc nY nX (e'.symm.trans e)
 rw [hs o,e1,e3]
theorem Aw {g:Gr} (hm:aO g=true) {f:Fr} (hi:iU g f) {x:Int} (h0:0≤x) (h1:x<g.n) (hp:x∉f.pl) {a X c:List It} (e:fS f.row=a++X++c) (ha:gM x a) (hc:gM x c) (hX:vQ x X) (nX:X≠ []) (hl:X.length=bw g x):aD g f x=true:=by
 have hmem:∀j,j<f.row.length→BN g (f.row.getD j (0,0,0)):=fun j hj=>hi.it _ (aB hj)
 have DH:f.row.countP (mC x)=X.length:=by
  have h2:f.row.countP (mC x)=(fS f.row).countP (mC x):=by
   rw [fS,List.countP_filter]
   refine List.countP_congr fun t ht=> ?_
   have:=(hi.it t ht).head hm
   simp only [mC,Bool.and_eq_true,decide_eq_true_eq]
   omega
  have c1:a.countP (mC x)=0:=List.countP_eq_zero.2 fun t ht=>by simp [mC,ha t ht]
  have c2:c.countP (mC x)=0:=List.countP_eq_zero.2 fun t ht=>by simp [mC,hc t ht]
  have c3:X.countP (mC x)=X.length:=List.countP_eq_length.2 fun t ht=>by simp [mC,hX t ht]
  rw [h2,e,List.countP_append,List.countP_append,c1,c2,c3]
  omega
 rw [← qI hm hi,iq,if_neg (by rintro (h|h|h);omega;omega;exact hp h),gu h0 h1,Bool.and_eq_true,decide_eq_true_eq]
 have hN:(aJ (fun e=>e.2) g.es g.es.length x).length=bw g x:=rfl
 rw [hN]
 refine ⟨?_, ?_⟩
 ·unfold bp
  rw [kM,lT (Nat.le_refl _),List.take_length,DH,hl]
 ·rw [Bool.or_eq_true];right
  rcases dF (row:=f.row) (x:=x) f.row.length with ⟨hs,hno⟩|⟨p,q,n,hs,hab,kj,hc0,ga,hpx,Q8,hlo,hhi⟩
  ·have hs':bp f.row x=(-1,0,0):=hs
   rw [hs'];simp [sO]
  ·have hs':bp f.row x=((p:Int),(q:Int),(n:Int)):=hs
   rw [hs']
   simp only [Int.toNat_natCast,sO,Bool.not_eq_true']
   rw [← Bool.not_eq_true,wZ kj]
   rintro ⟨j,h2,h3,h4⟩
   simp only [lQ,Bool.and_eq_true,decide_eq_true_eq] at h4
   have hja:p<j:=by
    refine Nat.lt_of_le_of_ne h2 fun e=> ?_
    subst e;exact h4.1 hpx
   have hjb:j<q - 1:=by
    refine Nat.lt_of_le_of_ne (by omega) fun e=> ?_
    subst e;exact h4.1 Q8
   have hsub:=((vh (i:=j+1) (j:=q - 1) (vh (i:=p+1) (j:=j) (vh (i:=0) (j:=p) (List.nil_sublist _) (by omega) (by omega)) (by omega) (by omega)) (by omega) (by omega)).trans (List.take_sublist _ f.row)).filter fun t=>decide (0≤t.1)
   have hp1:=(hmem p (by omega)).head hm
   have hj1:=(hmem j (by omega)).head hm
   have hq1:=(hmem (q - 1) (by omega)).head hm
   generalize f.row.getD p (0,0,0)=s1 at hsub hp1 hpx
   generalize f.row.getD j (0,0,0)=s2 at hsub hj1 h4
   generalize f.row.getD (q - 1) (0,0,0)=s3 at hsub hq1 Q8
   have hf:([]++ [s1]++ [s2]++ [s3]).filter (fun t=>decide (0≤t.1))= [s1,s2,s3]:=List.filter_eq_self.2 fun t ht=>by
    simp only [List.nil_append,List.cons_append,List.mem_cons,List.not_mem_nil,or_false] at ht
    rcases ht with rfl|rfl|rfl
    ·exact decide_eq_true (hp1.1.2 (by omega))
    ·exact decide_eq_true (hj1.1.2 h4.2)
    ·exact decide_eq_true (hq1.1.2 (by omega))
   rw [hf] at hsub
   have hsub: [s1,s2,s3].Sublist (a++(X++c)):=by rw [← List.append_assoc, ← e];exact hsub
   rw [List.sublist_append_iff] at hsub
   obtain ⟨l1,l',el,k1,k'⟩:=hsub
   rw [List.sublist_append_iff] at k'
   obtain ⟨l2,l3,rfl,k2,k3⟩:=k'
   match l1,el,k1 with
   |t::l1,el,k1=>
    simp only [List.cons_append,List.cons.injEq] at el
    exact ha t (k1.subset (by simp)) (by rw [← el.1];exact hpx)
   | [],el,_=>
     match l2,el,k2 with
     | [],el,_=>
       simp only [List.nil_append] at el
       exact hc s1 (k3.subset (by rw [← el];simp)) hpx
     | [t],el,_=>
       simp only [List.nil_append,List.cons_append,List.cons.injEq] at el
       exact hc s3 (k3.subset (by rw [← el.2];simp)) Q8
     |t::u::l2,el,k2=>
      simp only [List.nil_append,List.cons_append,List.cons.injEq] at el
      exact h4.1 (by rw [el.2.1];exact hX u (k2.subset (by simp)))
end Go.Ab
end
section
namespace Go.Ab
open Go.Proofs
set_option maxRecDepth 10000
def NK (gone:List Int) (i:Nat):Bool:= !decide ((i:Int)∈gone)
def Lz (gone:List Int) (k:Nat):List Nat:=(List.range k).filter (NK gone)
def Ur (gone:List Int) (k:Nat):Nat:=(Lz gone k).length
def Q9 (gone:List Int) (es:List Edge) (k:Nat):List Edge:=(Lz gone k).map fun i=>es.getD i (0,0)
def Us (g:Gr) (gone:List Int):Gr:=⟨g.n,Q9 gone g.es g.es.length⟩
def Sw (gone:List Int) (i:Int):Int:=if i∈gone then -1 else (Ur gone i.toNat:Int)
def Ra (gone:List Int) (l:List Int):List Int:=(l.filter fun i=>decide (i∉gone)).map (Sw gone)
def Ut (p:Pl) (gone:List Int):Pl:=⟨p.ord,p.outs.map (Ra gone)⟩
variable {g:Gr} {p:Pl} {gone:List Int}
def Uu (gone:List Int) (t:It):It:=(Sw gone t.1,t.2.1,t.2.2)
def Uv (gone:List Int) (l:List It):List It:=(l.filter fun t=>decide (t.1∉gone)).map (Uu gone)
theorem gw (hr:bH g p):bw g (aj p 0)=0:=by
 have hm:=an hr.1
 have hn:=aM hm
 refine Decidable.byContradiction fun hnz=> ?_
 obtain ⟨A,X,C,hrw,_,_,hX,_⟩:=cr hm (CL g).toiU (hr.2.2 0 (by omega)) hnz
 obtain ⟨q,X0,e1,_⟩:=hX.fst
 rw [e1] at hrw
 simp at hrw
end Go.Ab
end
section
namespace Go.Ab
open Go.Proofs
set_option maxRecDepth 10000
theorem yJ {g:Gr} (hm:aO g=true) {f:Fr} (hi:iU g f) {x:Int} (hR:aD g f x=true) (hn:bw g x≠0) (o:List Int):
 ∃a c,fS f.row=a++fS (aC g f x o).1.1++c∧gM x a∧gM x c∧vQ x (fS (aC g f x o).1.1)∧(fS (aC g f x o).1.1).length=bw g x∧fS (aC g f x o).2.row=a++fS (aP g x o)++c:=by
 obtain ⟨A,X,C,hr,hA,hC,hX,hc⟩:=cr hm hi hR hn
 have hx:=(aW hR).1
 have hmem:∀t∈X,t∈f.row:=fun t ht=>by rw [hr];simp [ht]
 have hiff:∀t∈X,(0≤t.1↔t.2.2=x):=fun t ht=>by
  have h1:=(hi.it t (hmem t ht)).head hm
  have h2:=hX.al t ht
  constructor
  ·intro h;rcases h2 with h2|h2
   ·exact h2
   ·exact absurd h2 (h1.1.1 h)
  ·intro h;exact h1.1.2 (by omega)
 rw [iw o hr hA hC hX]
 refine ⟨fS A,fS C,by rw [hr,jT,jT],tF hA,tF hC,fun t ht=> ?_, ?_,by simp only [jT]⟩
 ·obtain ⟨h1,h2⟩:=fz.1 ht
  exact (hiff t h1).1 h2
 ·rw [← hc,fS, ← List.countP_eq_length_filter]
  refine List.countP_congr fun t ht=> ?_
  simp only [mC,decide_eq_true_eq]
  exact hiff t ht
def b8 (g:Gr) (p:Pl) (x:Int):List Int:=(fS ((dM g p g.n.toNat).getD x.toNat [])).map (·.1)
def pP (g:Gr) (p:Pl) (f:Fr) (x:Int):List Int:=(fS (aC g f x (bn p x)).1.1).map (·.1)
def sQ (g:Gr) (p:Pl):Nat→Fr→Prop
 |0,f=>(f.pl.length:Int)=g.n
 |m+1,f=>∃x,aD g f x=true∧pP g p f x=b8 g p x∧sQ g p m (xb g p f x)
theorem vm {g:Gr} {p:Pl} :∀ {m:Nat} {f f':Fr},f.row=f'.row→f.pl.Perm f'.pl→sQ g p m f→sQ g p m f'
 |0,f,f',_,hp,h=>by
  have h:(f.pl.length:Int)=g.n:=h
  show (f'.pl.length:Int)=g.n
  rw [← hp.length_eq];exact h
 |m+1,f,f',hr,hp,⟨x,h1,h3,h2⟩=>by
  refine ⟨x,by rw [← Am hr hp];exact h1, ?_,vm ?_ ?_ h2⟩
  ·simp only [pP,aC,hr] at h3 ⊢;exact h3
  ·simp only [xb,aC,hr]
  ·exact hp.append_right _
theorem xk {g:Gr} (hc:(bF g).1=0) {p:Pl} (hp:bt g p):∀ {m:Nat} {f:Fr},y9 g f→(f.pl.length:Int)+(m+1:Nat)=g.n→sQ g p (m+1) f→∀ {x:Int},aD g f x=true→pP g p f x=b8 g p x∧sQ g p m (xb g p f x)
 |m,f,hi,hl,⟨y,w8,OJ,hcan⟩,x,hR=>by
  have hm:=an hc
  by_cases hxy:x=y
  ·subst hxy;exact ⟨OJ,hcan⟩
  have py:=bN hp (aW w8).1 (aW w8).2.1
  have px:=bN hp (aW hR).1 (aW hR).2.1
  have i2:=kQ hm hi w8 py
  match m,hl,hcan with
  |0,hl,hcan=>
   exfalso
   have h1:=kR i2.toiU (by show ((f.pl++ [y]).length:Int)=g.n;simp;omega) (x:=x) ⟨(aW hR).1,(aW hR).2.1⟩
   have h2:x∈f.pl++ [y]:=h1
   simp [(aW hR).2.2,hxy] at h2
  |m+1,hl,hcan=>
   obtain ⟨h4,h5,h6,h7,h8⟩:=Ek hc hi hxy hR w8 px py
   obtain ⟨h9,h3⟩:=xk hc hp i2 (by show (((f.pl++ [y]).length:Nat):Int)+_=_;simp;omega) hcan h5
   refine ⟨?_,y,h4, ?_,vm h6.symm ?_ h3⟩
   ·unfold pP at h9 ⊢;rw [h7];exact h9
   ·unfold pP at OJ ⊢;rw [h8] at OJ;exact OJ
   show (f.pl++ [y]++ [x]).Perm (f.pl++ [x]++ [y])
   rw [List.append_assoc,List.append_assoc]
   exact List.Perm.append_left _ (List.Perm.swap ..)
theorem xl {g:Gr} {p:Pl} (h:bH g p):∀ {d k:Nat},k+d=g.n.toNat→sQ g p d (fK g p k)
 |0,k,hk=>by
  have hn:=aM (an h.1)
  obtain ⟨_,fD,_⟩:=c7 (an h.1) h.2.1 (k:=k) (by omega) fun j hj=>h.2.2 j (by omega)
  show ((fK g p k).pl.length:Int)=g.n
  rw [fD,List.length_take,bR h.2.1];omega
 |d+1,k,hk=>⟨aj p k,h.2.2 k (by omega),by
   unfold b8
   rw [oc h.2.1 (Nat.le_refl _) (show k<g.n.toNat by omega)]
   rfl,xl h (k:=k+1) (by omega)⟩
theorem CW {g:Gr} (hc:(bF g).1=0) {p:Pl} (hp:bt g p):∀ {m:Nat} {f:Fr},y9 g f→sQ g p m f→∀ {i:Nat},i<g.es.length→tl g i∈f.pl→hd g i∉f.pl→∃t∈f.row,t.1=(i:Int)
 |0,f,hi,h,i,hil,_,hh=>by
  have hr:=bQ (an hc) hil
  exact absurd (kR hi.toiU h (x:=hd g i) hr) hh
 |m+1,f,hi,⟨x,hR,_,h⟩,i,hil,ht,hh=>by
  have hm:=an hc
  have px:=bN hp (aW hR).1 (aW hR).2.1
  by_cases hx:hd g i=x
  ·obtain ⟨t,h1,h2,_⟩:=yG hm hi hR hil hx
   exact ⟨t,h1,h2⟩
  ·obtain ⟨t,h1,h2⟩:=CW hc hp (kQ hm hi hR px) h hil (List.mem_append.2 (.inl ht)) (fun h1=>by
    rcases List.mem_append.1 h1 with h1|h1
    ·exact hh h1
    ·exact hx (by simpa using h1))
   obtain ⟨A,X,C,hr,_,_,_,hs⟩:=jD hm hi.toiU hR
   rw [hs] at h1
   simp only [List.mem_append] at h1
   rcases h1 with (h1|h1)|h1
   ·exact ⟨t,by rw [hr];simp [h1],h2⟩
   ·rcases kP (fun i hi=>px.mem_iff.1 hi) h1 with ⟨h3,_⟩|⟨k,h3,h4,h5,_,h6,_⟩
    ·omega
    ·have:k=i:=by omega
     subst this
     exact absurd (h6 ▸ ht) (aW hR).2.2
   ·exact ⟨t,by rw [hr];simp [h1],h2⟩
def iV (g:Gr) (e:Int):Int:=(g.es.getD e.toNat (0,0)).1
def nk (g:Gr) (e:Int):Int:=(g.es.getD e.toNat (0,0)).2
def iN (g:Gr) (x:Int):Prop:=0≤x∧x<g.n
instance {g:Gr} {x:Int} :Decidable (iN g x):=inferInstanceAs (Decidable (0≤x∧x<g.n))
def nt (g:Gr) (p:Pl) (k:Nat) (W D:List Int):Prop:=∃f,y9 g f∧f.pl=D∧W=(fS f.row).map (·.1)∧sQ g p k f∧(D.length:Int)+k=g.n∧aj p 0∈D
def GY (g:Gr) (p:Pl) (x:Int):Nat:=((z1 g.n.toNat p.ord p.ord.length).getD x.toNat 0).toNat
def aY (g:Gr) (p:Pl):PS:=
 {m:=g.es.length,src:=aj p 0,KY:=aj p (g.n.toNat - 1),tl:=iV g,hd:=nk g,ins:=fun x=>if iN g x then b8 g p x else [],outs:=fun x=>if iN g x then bn p x else [],Ig:=GY g p,Row:=nt g p,k0:=g.n.toNat - 1}
theorem fT {g:Gr} {p:Pl} {x:Int} (h:iN g x):(aY g p).ins x=b8 g p x:=if_pos h
theorem od {g:Gr} {p:Pl} {x:Int} (h:¬iN g x):(aY g p).ins x= []:=if_neg h
theorem dg {g:Gr} {p:Pl} {x:Int} (h:iN g x):(aY g p).outs x=bn p x:=if_pos h
theorem nu {g:Gr} {p:Pl} {x:Int} (h:¬iN g x):(aY g p).outs x= []:=if_neg h
theorem bG {f:Edge→Int} {es:List Edge} {x e:Int} :e∈aJ f es es.length x↔(0≤e∧e<es.length)∧f (es.getD e.toNat (0,0))=x:=by
 refine ⟨dY,fun ⟨h1,h2⟩=> ?_⟩
 simp only [aJ,List.mem_map,List.mem_filter,List.mem_range,decide_eq_true_eq]
 exact ⟨e.toNat,⟨by omega,h2⟩,by simp;omega⟩
section
variable {g:Gr} {p:Pl}
theorem CX (hm:aO g=true) (hp:bt g p) {k:Nat} (hk:k<g.n.toNat):GY g p (aj p k)=k:=by
 have hE:=((CP hm).2 hp).1
 have:=yq hE (p:=k) (k:=p.ord.length) (by rw [bR hp];exact hk) (Nat.le_refl _)
 unfold GY
 show ((z1 _ _ _).getD (p.ord.getD k 0).toNat 0).toNat=k
 rw [this];simp
theorem r8 (h:bH g p) {e:Int} (he:0≤e∧e<g.es.length) {k:Nat} (hk:k<g.n.toNat) (hx:nk g e=aj p k):∃j,j<k∧aj p j=iV g e:=by
 have hm:=an h.1
 obtain ⟨hi,fD,_⟩:=c7 hm h.2.1 (k:=k) (by omega) fun j hj=>h.2.2 j (by omega)
 obtain ⟨t,h1,h2,h3,_⟩:=yG hm hi (h.2.2 k hk) (i:=e.toNat) (by omega) hx
 have h4:=hi.tail t h1 (by omega)
 rw [h3,fD] at h4
 exact CU (by rw [bR h.2.1];omega) h4
theorem qM (hm:aO g=true) {f:Fr} (hi:iU g f) {t:It} (ht:t∈fS f.row):(0≤t.1∧t.1<g.es.length)∧t.2.1=iV g t.1∧t.2.2=nk g t.1:=by
 obtain ⟨h1,h2⟩:=fz.1 ht
 rcases hi.it t h1 with h3|h3
 ·omega
 ·exact ⟨⟨h3.1,h3.2.1⟩,h3.2.2.1,h3.2.2.2⟩
theorem GZ {f:Fr} (hi:y9 g f):((fS f.row).map (·.1)).Nodup:=by
 refine List.pairwise_map.2 ?_
 have:=hi.once.filter (fun t:It=>decide (0≤t.1))
 refine List.Pairwise.imp_of_mem (fun {s t} hs ht h1=>h1 (fz.1 hs).2) this
theorem Je (hm:aO g=true) {f:Fr} (hi:y9 g f) {x:Int} (hR:aD g f x=true):(pP g p f x).Nodup∧∀e,e∈pP g p f x↔(0≤e∧e<g.es.length)∧nk g e=x:=by
 by_cases hn:bw g x=0
 ·have hno:=ir hm hi.toiU (aW hR).1 hn
  have e0:pP g p f x= []:=by unfold pP;rw [gv _ hno];rfl
  rw [e0]
  refine ⟨List.nodup_nil,fun e=>⟨fun h=>by (cases h),fun ⟨h1,h2⟩=> ?_⟩⟩
  have:=bG.2 ⟨h1,h2⟩
  have h3:aJ (·.2) g.es g.es.length x= []:=List.eq_nil_of_length_eq_zero hn
  rw [h3] at this;cases this
 ·obtain ⟨a,c,e1,ha,hc,hX,hl,_⟩:=yJ hm hi.toiU hR hn (bn p x)
  have cC:=GZ hi
  have hmem:∀t∈fS (aC g f x (bn p x)).1.1,t∈fS f.row:=fun t ht=>by rw [e1];simp [ht]
  rw [e1,List.map_append,List.map_append,List.nodup_append] at cC
  have F9:(pP g p f x).Nodup:=(List.nodup_append.1 cC.1).2.1
  have hsub:∀e∈pP g p f x,e∈aJ (·.2) g.es g.es.length x:=fun e he=>by
   obtain ⟨t,ht,rfl⟩:=List.mem_map.1 he
   obtain ⟨h1,_,h3⟩:=qM hm hi.toiU (hmem t ht)
   exact bG.2 ⟨h1,by rw [← hX t ht,h3];rfl⟩
  have hlen:(aJ (·.2) g.es g.es.length x).length=(pP g p f x).length:=by
   unfold pP;rw [List.length_map,hl];rfl
  exact ⟨F9,fun e=>⟨fun he=>bG.1 (hsub e he),fun he=>yF F9 hsub hlen e (bG.2 he)⟩⟩
theorem yK (h:bH g p) {k:Nat} (hk:k<g.n.toNat):b8 g p (aj p k)=pP g p (fK g p k) (aj p k):=by
 unfold b8
 rw [oc h.2.1 (Nat.le_refl _) hk];rfl
theorem gN (h:bH g p) {x:Int} (hx:iN g x):(b8 g p x).Nodup∧∀e,e∈b8 g p x↔(0≤e∧e<g.es.length)∧nk g e=x:=by
 obtain ⟨k,hk,rfl⟩:=dH h.2.1 hx.1 hx.2
 have hm:=an h.1
 obtain ⟨hi,_,_⟩:=c7 hm h.2.1 (k:=k) (by omega) fun j hj=>h.2.2 j (by omega)
 rw [yK h hk]
 exact Je hm hi (h.2.2 k hk)
theorem jF (h:bH g p) {x:Int} (hx:iN g x):(b8 g p x).length=bw g x:=by
 obtain ⟨h1,h2⟩:=gN h hx
 refine Nat.le_antisymm ?_ ?_
 ·exact gq h1 fun e he=>bG.2 ((h2 e).1 he)
 ·exact gq cq fun e he=>(h2 e).2 (bG.1 he)
theorem dZ (h:bH g p) (hI:j8 g=true) {x:Int} (hx:iN g x):bn p x= []↔x=aj p (g.n.toNat - 1):=by
 have hm:=an h.1
 have hn:=aM hm
 constructor
 ·intro h1
  have hs:=(rZ h).1
  have hsi:=aF h.2.1 (k:=g.n.toNat - 1) (by omega)
  have b1:=fu (f:=(·.1)) (g:=g) (y:=x) |>.2 ⟨hx,(iI h.2.1 hx.1 hx.2).2 h1⟩
  have b2:=fu (f:=(·.1)) (g:=g) (y:=aj p (g.n.toNat - 1)) |>.2 ⟨hsi,(iI h.2.1 hsi.1 hsi.2).2 hs⟩
  have hl:(bg (·.1) g).length=1:=by
   unfold j8 at hI
   simp only [Bool.and_eq_true,decide_eq_true_eq] at hI
   exact hI.2
  obtain ⟨y,hy⟩:=List.length_eq_one_iff.1 hl
  rw [hy,List.mem_singleton] at b1 b2
  rw [b1,b2]
 ·rintro rfl;exact (rZ h).1
theorem xm (h:bH g p) (hI:j8 g=true) {f:Fr} (hi:y9 g f):∀ {d k:Nat},k+d=g.n.toNat→k<g.n.toNat→aj p k∉f.pl→aj p (g.n.toNat - 1)∉f.pl
 |0,k,h1,h2,_=>by omega
 |d+1,k,h1,h2,h3=>by
  have hm:=an h.1
  have hx:=aF h.2.1 h2
  by_cases hs:bn p (aj p k)= []
  ·rw [(dZ h hI hx).1 hs] at h3;exact h3
  ·obtain ⟨e,u,he⟩:=fM hs
   have q8:e∈bu g (aj p k):=(bN h.2.1 hx.1 hx.2).mem_iff.1 (by rw [he];simp)
   obtain ⟨sy,wg⟩:=bG.1 q8
   have hh:=bQ hm (i:=e.toNat) (by omega)
   obtain ⟨k',hk',e'⟩:=dH h.2.1 hh.1 hh.2
   obtain ⟨j,hj,e2⟩:=r8 h sy hk' e'.symm
   have:j=k:=cZ h.2.1 (by omega) h2 (e2.trans wg)
   refine xm h hI hi (d:=g.n.toNat - k') (k:=k') (by omega) hk' fun h4=> ?_
   have:=hi.low e.toNat (by omega) (e' ▸ h4)
   have h5:tl g e.toNat=aj p k:=wg
   exact h3 (h5 ▸ this)
 termination_by d=>d
theorem nt.nd {k:Nat} {W D:List Int} (h:nt g p k W D):W.Nodup:=by
 obtain ⟨f,hi,_,rfl,_⟩:=h;exact GZ hi
theorem nt.mem (h:bH g p) {k:Nat} {W D:List Int} (hr:nt g p k W D) (e:Int):e∈W↔(0≤e∧e<g.es.length)∧iV g e∈D∧nk g e∉D:=by
 have hm:=an h.1
 obtain ⟨f,hi,rfl,rfl,hc,_⟩:=hr
 constructor
 ·intro he
  obtain ⟨t,ht,rfl⟩:=List.mem_map.1 he
  obtain ⟨h1,h2,h3⟩:=qM hm hi.toiU ht
  obtain ⟨h4,h5⟩:=fz.1 ht
  exact ⟨h1,h2 ▸ hi.tail t h4 h5,h3 ▸ hi.head t h4 h5⟩
 ·rintro ⟨h1,h2,h3⟩
  obtain ⟨t,h4,h5⟩:=CW h.1 h.2.1 hi hc (i:=e.toNat) (by omega) h2 h3
  exact List.mem_map.2 ⟨t,fz.2 ⟨h4,by omega⟩,by omega⟩
theorem nt.next (h:bH g p) {k:Nat} {W D:List Int} (hr:nt g p (k+1) W D):∃x A C,W=A++(aY g p).ins x++C∧(aY g p).ins x≠ []:=by
 have hm:=an h.1
 obtain ⟨f,hi,rfl,rfl,⟨x,hR,hg,_⟩,_,hs⟩:=hr
 obtain ⟨x0,x1,x2⟩:=aW hR
 have hx:iN g x:=⟨x0,x1⟩
 have hn:bw g x≠0:=fun h0=>by
  have:=jO h.1 (x:=x) (y:=aj p 0) hx (hi.EX _ hs) h0 (gw h)
  exact x2 (this ▸ hs)
 obtain ⟨a,c,e1,_,_,_,hl,_⟩:=yJ hm hi.toiU hR hn (bn p x)
 refine ⟨x,a.map (·.1),c.map (·.1), ?_, ?_⟩
 ·rw [fT hx, ← hg,e1,List.map_append,List.map_append];rfl
 ·rw [fT hx]
  intro h0
  have:=jF h hx
  rw [h0] at this
  exact hn this.symm
theorem nt.step (h:bH g p) {k:Nat} {W D A C:List Int} {x:Int} (hr:nt g p k W D) (hW:W=A++(aY g p).ins x++C) (hI:(aY g p).ins x≠ []):∃k',k=k'+1∧nt g p k' (A++(aY g p).outs x++C) (D++ [x]):=by
 have hm:=an h.1
 have hx:iN g x:=Decidable.byContradiction fun h0=>hI (od h0)
 have cC:=hr.nd
 have hmem:=nt.mem h hr
 rw [fT hx] at hW hI
 rw [dg hx]
 obtain ⟨i1,i2⟩:=gN h hx
 obtain ⟨e0,u0,IZ⟩:=fM hI
 have OK:x∉D:=by
  have h1:=(i2 e0).1 (by rw [IZ];simp)
  have h2:=(hmem e0).1 (by rw [hW,IZ];simp)
  rw [h1.2] at h2;exact h2.2.2
 obtain ⟨f,hi,rfl,Uw,hc,hD,hs⟩:=hr
 rw [Uw] at hW cC
 obtain ⟨l1,c,e1,e2,e3⟩:=List.map_eq_append_iff.1 hW
 obtain ⟨a,X,e4,e5,e6⟩:=List.map_eq_append_iff.1 e2
 have hrow:fS f.row=a++X++c:=by rw [e1,e4]
 rw [hrow,List.map_append,List.map_append,e5,e6,e3] at cC
 have hit:∀t∈a++X++c,(0≤t.1∧t.1<g.es.length)∧t.2.1=iV g t.1∧t.2.2=nk g t.1:=fun t ht=>qM hm hi.toiU (by rw [hrow];exact ht)
 have hX:vQ x X:=fun t ht=>by
  have h1:t.1∈b8 g p x:=by rw [← e6];exact List.mem_map_of_mem ht
  rw [(hit t (by simp [ht])).2.2,((i2 _).1 h1).2]
 have hin:∀t∈a++X++c,t.2.2=x→t.1∈b8 g p x:=fun t ht e=>by
  obtain ⟨h1,_,h3⟩:=hit t ht
  exact (i2 _).2 ⟨h1,by rw [← h3,e]⟩
 have ha:gM x a:=fun t ht e=>by
  have h1:=hin t (by simp [ht]) e
  have h2:t.1∈A:=by rw [← e5];exact List.mem_map_of_mem ht
  exact (List.nodup_append.1 (List.nodup_append.1 cC).1).2.2 _ h2 _ h1 rfl
 have OL:gM x c:=fun t ht e=>by
  have h1:=hin t (by simp [ht]) e
  have h2:t.1∈C:=by rw [← e3];exact List.mem_map_of_mem ht
  exact (List.nodup_append.1 cC).2.2 _ (List.mem_append.2 (.inr h1)) _ h2 rfl
 have QZ:X.length=bw g x:=by rw [← jF h hx, ← e6,List.length_map]
 have nX:X≠ []:=fun h0=>hI (by rw [← e6,h0];rfl)
 have hR:=Aw hm hi.toiU hx.1 hx.2 OK hrow ha OL hX nX QZ
 have hn:bw g x≠0:=fun h0=>nX (List.eq_nil_of_length_eq_zero (QZ.trans h0))
 have px:=bN h.2.1 hx.1 hx.2
 cases k with
 |zero=>exact absurd (kR hi.toiU (by omega) hx) OK
 |succ k=>
  refine ⟨k,rfl,xb g p f x,kQ hm hi hR px,rfl, ?_,(xk h.1 h.2.1 hi (by omega) hc hR).2, ?_,List.mem_append.2 (.inl hs)⟩
  ·have:=CV hm hi.toiU hR hn hrow ha OL hX nX (bn p x)
   show _=(fS (aC g f x (bn p x)).2.row).map (·.1)
   rw [this,List.map_append,List.map_append,e5,e3,kT (fun i hi=>by
    have:=bG.1 (px.mem_iff.1 hi);exact this.1.1),List.map_map]
   have e7:((fun t:It=>t.1) ∘ gr g x)=id:=rfl
   rw [e7,List.map_id]
  ·show (((f.pl++ [x]).length:Nat):Int)+_=_
   rw [List.length_append,List.length_singleton];omega
theorem Er (h:bH g p):nt g p (g.n.toNat - 1) (bn p (aj p 0)) [aj p 0]:=by
 have hm:=an h.1
 have hn:=aM hm
 have hx:=aF h.2.1 (k:=0) (by omega)
 obtain ⟨hi,fD,_⟩:=c7 hm h.2.1 (k:=1) (by omega) fun j hj=>h.2.2 j (by omega)
 have px:=bN h.2.1 hx.1 hx.2
 have hno:gM (aj p 0) (fK g p 0).row:=fun t ht=>by cases ht
 have hf:fK g p 1=⟨aP g (aj p 0) (bn p (aj p 0)), [aj p 0]⟩:=by
  show (aC g (fK g p 0) (aj p 0) _).2=_
  rw [gv _ hno]
  show (⟨_++ [], []++ [_]⟩:Fr)=_
  simp
 refine ⟨fK g p 1,hi,by rw [hf], ?_,xl h (by omega),by simp;omega,by simp⟩
 rw [hf]
 show _=(fS (aP g (aj p 0) (bn p (aj p 0)))).map (·.1)
 rw [kT (fun i hi=>(bG.1 (px.mem_iff.1 hi)).1.1),List.map_map]
 have e7:((fun t:It=>t.1) ∘ gr g (aj p 0))=id:=rfl
 rw [e7,List.map_id]
theorem mh (h:bH g p) (hI:j8 g=true):(aY g p).Ok:=by
 have hm:=an h.1
 have hn:=aM hm
 have h0:iN g (aj p 0):=aF h.2.1 (by omega)
 exact {
  bE:=fun x e=>by
   show _↔(0≤e∧e<g.es.length)∧iV g e=x
   by_cases hx:iN g x
   ·rw [dg hx,(bN h.2.1 hx.1 hx.2).mem_iff];exact bG
   ·rw [nu hx]
    refine ⟨fun h=>by (cases h),fun ⟨h1,h2⟩=>absurd ?_ hx⟩
    rw [← h2];exact bL hm (i:=e.toNat) (by omega)
  bW:=fun x e=>by
   show _↔(0≤e∧e<g.es.length)∧nk g e=x
   by_cases hx:iN g x
   ·rw [fT hx];exact (gN h hx).2 e
   ·rw [od hx]
    refine ⟨fun h=>by (cases h),fun ⟨h1,h2⟩=>absurd ?_ hx⟩
    rw [← h2];exact bQ hm (i:=e.toNat) (by omega)
  qA:=fun x=>by
   by_cases hx:iN g x
   ·rw [dg hx,(bN h.2.1 hx.1 hx.2).nodup_iff];exact cq
   ·rw [nu hx];exact List.nodup_nil
  BF:=fun x=>by
   by_cases hx:iN g x
   ·rw [fT hx];exact (gN h hx).1
   ·rw [od hx];exact List.nodup_nil
  rK:=fun e he=>by
   have he:0≤e∧e<g.es.length:=he
   have hh:=bQ hm (i:=e.toNat) (by omega)
   obtain ⟨k,hk,e1⟩:=dH h.2.1 hh.1 hh.2
   obtain ⟨j,hj,e2⟩:=r8 h he hk e1.symm
   show GY g p (iV g e)<GY g p (nk g e)
   have e3:nk g e=aj p k:=e1.symm
   rw [← e2,e3,CX hm h.2.1 hk,CX hm h.2.1 (by omega)]
   exact hj
  I6:=by
   show nt g p (g.n.toNat - 1) ((aY g p).outs (aj p 0)) [aj p 0]
   rw [dg h0];exact Er h
  mZ:=fun hr=>nt.nd hr
  dP:=fun hr e=>nt.mem h hr e
  ng:=fun hr=>nt.next h hr
  qB:=fun hr h1 h2=>nt.step h hr h1 h2
  nV:=fun {W D} hr e he=>by
   obtain ⟨f,hi,rfl,_,_,hD,_⟩:=hr
   exact kR hi.toiU (by omega) (bQ hm (i:=e.toNat) (by have:=he.1;have:=he.2;have:e<g.es.length:=he.2;omega))
  tu:=fun {k W D} hr=>by obtain ⟨f,hi,rfl,_,_,_,hs⟩:=hr;exact hs
  tw:=fun {k W D} hr hs=>by
   obtain ⟨f,hi,rfl,_,_,hD,_⟩:=hr
   refine Decidable.byContradiction fun hk=> ?_
   have:∃k',k'<g.n.toNat∧aj p k'∉f.pl:=by
    refine Decidable.byContradiction fun hall=> ?_
    have hall:∀k',k'<g.n.toNat→aj p k'∈f.pl:=fun k' hk'=>Decidable.byContradiction fun h1=>hall ⟨k',hk',h1⟩
    have:=gq (l:=p.ord) (m:=f.pl) (vi h.2.1) fun x hx=>by
     have hx:=dX.1 (h.2.1.2.1.mem_iff.1 hx)
     obtain ⟨k',h1,rfl⟩:=dH h.2.1 hx.1 (by omega)
     exact hall k' h1
    rw [bR h.2.1] at this
    omega
   obtain ⟨k',h1,h2⟩:=this
   exact xm h hI hi (d:=g.n.toNat - k') (by omega) h1 h2 hs
  uW:=by
   show (aY g p).ins (aj p 0)= []
   rw [fT h0]
   have:=jF h h0
   rw [gw h] at this
   exact List.eq_nil_of_length_eq_zero this
  qC:=fun x hx=>by
   have GN:iN g x:=Decidable.byContradiction fun h0=>hx (od h0)
   rw [dg GN]
   exact dZ h hI GN}
end
end Go.Ab
end
section
namespace Go.Ab
open Go.Proofs
attribute [local congr] ACall.congr gd.congr Nx.congr
set_option maxRecDepth 20000
set_option maxHeartbeats 8000000
theorem yL (g:Gr) (hm:aO g=true):Spec Tryz.prog 99 (Args [eG g]) [] (.tup [.d (vw g), .d (sI (bT g)),eB (oK g)]) []:=by
 have hn:=aM hm
 have hO:=fL g hm
 have hR:=BA g hm
 have hM:=gJ g (by omega)
 rw [hm] at hM
 cases hok:oK g with
 |false=>
  rw [hok] at hR
  (refine Spec.hd (C:=T.cfg [] []) (rs:= [.t 2, .t 3, .t 4]) (T.ah _ _) Tryz.func99 rfl rfl Tryz.ntmps99 Tryz.results99 (by simp [AObj.isNest]) (by simp [AObj.isNest]) (by kernel_rfl) T.mixed fun X hX hP hC aI bU=> ?_)
  repeat' (first|refine Rn.p ?_|(with_reducible apply And.intro)|((first|(refine hK _ ?_;clear hK K)|with_reducible intro K hK|refine Rs.p ?_|((with_reducible first|apply oP|apply oQ);exact rfl)|refine aa hX hC hP (hO) rfl rfl rfl (by simp only [go_sem,simprocAttr]) rfl ?_|refine aa hX hC hP (hR) rfl rfl rfl (by simp only [go_sem,simprocAttr]) rfl ?_|refine aa hX hC hP (hM) rfl rfl rfl (by simp only [go_sem,simprocAttr]) rfl ?_);try simp only [go_sem,simprocAttr])|((with_reducible refine oD ?_ ?_);kernel_rfl)|((with_reducible intro h);try simp only [go_sem,simprocAttr] at h)|omega|intro h)
 |true=>
  rw [hok] at hR
  (refine Spec.hd (C:=T.cfg [] []) (rs:= [.t 2, .t 3, .t 4]) (T.ah _ _) Tryz.func99 rfl rfl Tryz.ntmps99 Tryz.results99 (by simp [AObj.isNest]) (by simp [AObj.isNest]) (by kernel_rfl) T.mixed fun X hX hP hC aI bU=> ?_)
  repeat' (first|refine Rn.p ?_|(with_reducible apply And.intro)|((first|(refine hK _ ?_;clear hK K)|with_reducible intro K hK|refine Rs.p ?_|((with_reducible first|apply oP|apply oQ);exact rfl)|refine aa hX hC hP (hO) rfl rfl rfl (by simp only [go_sem,simprocAttr]) rfl ?_|refine aa hX hC hP (hR) rfl rfl rfl (by simp only [go_sem,simprocAttr]) rfl ?_|refine aa hX hC hP (hM) rfl rfl rfl (by simp only [go_sem,simprocAttr]) rfl ?_);try simp only [go_sem,simprocAttr])|((with_reducible refine oD ?_ ?_);kernel_rfl)|((with_reducible intro h);try simp only [go_sem,simprocAttr] at h)|omega|intro h)
def ou (g:Gr) (st:List Int) (x:Nat) (l:List Int):Nat→List Int
 |0=>st
 |j+1=>(ou g st x l j).set x (max ((ou g st x l j).getD x 0) ((ou g st x l j).getD (iV g (l.getD j 0)).toNat 0+1))
def qY (g:Gr):Nat→List Int
 |0=>List.replicate g.n.toNat 0
 |k+1=>ou g (qY g k) ((bT g).getD k 0).toNat (aJ (fun e=>e.2) g.es g.es.length ((bT g).getD k 0)) (aJ (fun e=>e.2) g.es g.es.length ((bT g).getD k 0)).length
def fU (g:Gr):List Int:=qY g (bT g).length
theorem qN {g:Gr} {st:List Int} {x:Nat} {l:List Int} :∀ {j:Nat},(ou g st x l j).length=st.length
 |0=>rfl
 |j+1=>by rw [ou,List.length_set,qN]
theorem tG {g:Gr} :∀ {k:Nat},(qY g k).length=g.n.toNat
 |0=>by simp [qY]
 |k+1=>by rw [qY,qN,tG]
theorem yM {g:Gr} {st:List Int} {x:Nat} {l:List Int} {B:Int} (hst:∀v,0≤st.getD v 0∧st.getD v 0≤B):∀ {j:Nat} (v:Nat),0≤(ou g st x l j).getD v 0∧(ou g st x l j).getD v 0≤B+j
 |0,v=>by have:=hst v;show 0≤st.getD v 0∧st.getD v 0≤B+(0:Nat);omega
 |j+1,v=>by
  have h1:=yM hst (g:=g) (x:=x) (l:=l) (j:=j)
  have h2:=h1 v
  have h3:=h1 x
  have h4:=h1 (iV g (l.getD j 0)).toNat
  have:(ou g st x l (j+1)).getD v 0=(ou g st x l j).getD v 0∨(ou g st x l (j+1)).getD v 0=max ((ou g st x l j).getD x 0) ((ou g st x l j).getD (iV g (l.getD j 0)).toNat 0+1):=by
   rw [ou,List.getD_eq_getElem?_getD,List.getElem?_set]
   split
   ·rename_i e
    subst e
    split
    ·exact .inr rfl
    ·rename_i hl
     left
     rw [List.getD_eq_getElem?_getD,List.getElem?_eq_none (by omega)]
   ·left;rw [← List.getD_eq_getElem?_getD]
  omega
theorem oe {g:Gr} :∀ {k:Nat} (v:Nat),0≤(qY g k).getD v 0∧(qY g k).getD v 0≤(k*g.es.length:Nat)
 |0,v=>by
  have:(qY g 0).getD v 0=0:=by
   rw [qY,List.getD_eq_getElem?_getD,List.getElem?_replicate];split<;>rfl
  omega
 |k+1,v=>by
  have:=yM (g:=g) (x:=((bT g).getD k 0).toNat) (l:=aJ (fun e=>e.2) g.es g.es.length ((bT g).getD k 0)) (fun v=>oe (g:=g) (k:=k) v) (j:=(aJ (fun e=>e.2) g.es g.es.length ((bT g).getD k 0)).length) v
  have hl:(aJ (fun e=>e.2) g.es g.es.length ((bT g).getD k 0)).length≤g.es.length:=fe
  rw [qY,Nat.add_mul]
  omega
theorem sR (g:Gr) (hm:aO g=true) (hok:oK g=true):Spec Tryz.prog 53 (Args [eG g]) [] (.tup [.d (sI (fU g)),eN 0]) []:=by
 have hn:=aM hm
 have hPa:=yL g hm
 rw [hok] at hPa
 have Rb:=jA g hm
 have Cq:=yu hm
 have hall:=qz hm hok
 have LZ:bT g=aN g:=if_pos hok
 rw [← LZ] at hall
 have K9:=mY hall
 have As:List.replicate g.n.toNat [D.sc (.int .i64 0)]=(qY g 0).map rI:=by rw [qY,List.map_replicate];rfl
 (refine Spec.hd (C:=T.cfg [] []) (rs:= [.t 2, .t 3]) (T.ah _ _) Tryz.func53 rfl rfl Tryz.ntmps53 Tryz.results53 (by simp [AObj.isNest]) (by simp [AObj.isNest]) (by kernel_rfl) T.mixed fun X hX hP hC aI bU=> ?_)
 repeat' (first|refine Rn.p ?_|(with_reducible apply And.intro)|((first|(refine hK _ ?_;clear hK K)|with_reducible intro K hK|refine Rs.p ?_|((with_reducible first|apply oP|apply oQ);exact rfl)|refine aa hX hC hP (hPa) rfl rfl rfl (by simp only [go_sem,simprocAttr,As]) rfl ?_);try simp only [go_sem,simprocAttr,As])|((with_reducible refine oD ?_ ?_);kernel_rfl)|((with_reducible intro h);try simp only [go_sem,simprocAttr,As] at h)|omega|intro h)
 refine ag (fun k:Nat=>k≤(bT g).length) (fun k=>⟨[(1, .ptr 1 0),(4, .d (vw g)),(7, .ref 22),(23, .d (sI (bT g))),(24,eN (bT g).length),(25,eN k)], [(1, .box [eN g.n, .d (sE g.es)]),(22, .own 3 1 ((qY g k).map rI))]⟩) (fun k=>(bT g).length - k) 0 (by omega) ?_ ?_
 ·refine Le.of ?_ ?_<;>simp [go_sem,simprocAttr]
 rintro k hk
 rcases Nat.lt_or_ge k (bT g).length with bS|Bh
 rotate_left
 ·have hb:decide ((k:Int)<((bT g).length:Int))=false:=decide_eq_false (by omega)
  obtain rfl:k=(bT g).length:=by omega
  have hL:qY g (bT g).length=fU g:=rfl
  rw [hL]
  repeat' (first|refine Rn.p ?_|(with_reducible apply And.intro)|((first|(refine hK _ ?_;clear hK K)|with_reducible intro K hK|refine Rs.p ?_|((with_reducible first|apply oP|apply oQ);exact rfl));try simp only [go_sem,simprocAttr,hb])|((with_reducible refine oD ?_ ?_);kernel_rfl)|((with_reducible intro h);try simp only [go_sem,simprocAttr,hb] at h)|omega|intro h)
 have hb:decide ((k:Int)<((bT g).length:Int))=true:=decide_eq_true (by omega)
 have hx:=K9 _ (aB (d:=0) bS)
 have Sx:=Rb ((bT g).getD k 0)
 rw [gu hx.1 hx.2] at Sx
 have ef:qY g (k+1)=ou g (qY g k) ((bT g).getD k 0).toNat (aJ (fun e=>e.2) g.es g.es.length ((bT g).getD k 0)) (aJ (fun e=>e.2) g.es g.es.length ((bT g).getD k 0)).length:=rfl
 have mU:(aJ (fun e=>e.2) g.es g.es.length ((bT g).getD k 0)).length≤g.es.length:=fe
 have hmem:∀i∈aJ (fun e=>e.2) g.es g.es.length ((bT g).getD k 0),0≤i∧i<g.es.length:=fun i hi=>(dY hi).1
 have hbd:=oe (g:=g) (k:=k)
 have hmul:k*g.es.length≤64*128:=Nat.mul_le_mul (by omega) (by omega)
 have hlk:=tG (g:=g) (k:=k)
 generalize aJ (fun e=>e.2) g.es g.es.length ((bT g).getD k 0)=l at*
 generalize rV:(bT g).getD k 0=xv at*
 obtain ⟨x,rfl⟩:∃x:Nat,xv=x:=⟨xv.toNat,by omega⟩
 rw [Int.toNat_natCast] at ef
 generalize qY g k=st at*
 repeat' (first|refine Rn.p ?_|(with_reducible apply And.intro)|((first|(refine hK _ ?_;clear hK K)|with_reducible intro K hK|refine Rs.p ?_|((with_reducible first|apply oP|apply oQ);exact rfl)|refine aa hX hC hP (Sx) rfl rfl rfl (by simp only [go_sem,simprocAttr,hb,rV]) rfl ?_);try simp only [go_sem,simprocAttr,hb,rV])|((with_reducible refine oD ?_ ?_);kernel_rfl)|((with_reducible intro h);try simp only [go_sem,simprocAttr,hb,rV] at h)|omega|intro h)
 refine ag (fun j:Nat=>j≤l.length) (fun j=>⟨[(1, .ptr 1 0),(4, .d (vw g)),(7, .ref 22),(9,eN x),(23, .d (sI (bT g))),(24,eN (bT g).length),(25,eN k),(31, .d (sI l)),(32,eN l.length),(33,eN j)], [(1, .box [eN g.n, .d (sE g.es)]),(22, .own 3 1 ((ou g st x l j).map rI))]⟩) (fun j=>l.length - j) 0 (by omega) ?_ ?_
 ·refine Le.of ?_ ?_<;>simp [go_sem,simprocAttr,ou]
 rintro j hj
 rcases Nat.lt_or_ge j l.length with hjl|LR
 rotate_left
 ·have L0:decide ((j:Int)<(l.length:Int))=false:=decide_eq_false (by omega)
  obtain rfl:j=l.length:=by omega
  repeat' (first|refine Rn.p ?_|(with_reducible apply And.intro)|((first|(refine hK _ ?_;clear hK K)|with_reducible intro K hK|refine Rs.p ?_|((with_reducible first|apply oP|apply oQ);exact rfl));try simp only [go_sem,simprocAttr,L0])|((with_reducible refine oD ?_ ?_);kernel_rfl)|((with_reducible intro h);try simp only [go_sem,simprocAttr,L0] at h)|omega|intro h)
  refine ⟨k+1,by omega, ?_,by omega⟩
  rw [ef]
  refine Le.of ?_ ?_<;>simp [go_sem,simprocAttr,L0]
 have L0:decide ((j:Int)<(l.length:Int))=true:=decide_eq_true (by omega)
 have hin:=hmem _ (aB (d:=0) hjl)
 have hj1:ou g st x l (j+1)=(ou g st x l j).set x (max ((ou g st x l j).getD x 0) ((ou g st x l j).getD (iV g (l.getD j 0)).toNat 0+1)):=rfl
 have NL:=qN (g:=g) (st:=st) (x:=x) (l:=l) (j:=j)
 have NM:=yM (g:=g) (x:=x) (l:=l) (j:=j) hbd
 obtain ⟨e,he⟩:∃e:Nat,l.getD j 0=e:=⟨(l.getD j 0).toNat,by omega⟩
 obtain ⟨ht,_⟩:=eH hm (k:=e) (by omega)
 obtain ⟨t,Co⟩:∃t:Nat,(g.es.getD e (0,0)).1=t:=⟨(g.es.getD e (0,0)).1.toNat,by omega⟩
 have hte:(iV g (l.getD j 0)).toNat=t:=by rw [he];show ((g.es.getD e (0,0)).1).toNat=t;rw [Co];rfl
 rw [hte] at hj1
 have au:=NM t
 have az:=NM x
 generalize ou g st x l j=S1 at*
 repeat' (first|refine Rn.p ?_|(with_reducible apply And.intro)|((first|(refine hK _ ?_;clear hK K)|with_reducible intro K hK|refine Rs.p ?_|((with_reducible first|apply oP|apply oQ);exact rfl));try simp only [go_sem,simprocAttr,L0,he,Co,NL,hlk,aq,yd])|((with_reducible refine oD ?_ ?_);kernel_rfl)|((with_reducible intro h);try simp only [go_sem,simprocAttr,L0,he,Co,NL,hlk,aq,yd] at h)|omega|intro h)
 refine ⟨j+1,by omega, ?_,by omega⟩
 rw [hj1]
 refine Le.of ?_ ?_<;>simp [go_sem,rI,aq]
end Go.Ab
end
