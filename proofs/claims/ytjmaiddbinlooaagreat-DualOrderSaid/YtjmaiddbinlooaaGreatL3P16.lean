/- A part of the proof. -/
import Derived.Test.YtjmaiddbinlooaaGreatL3P15
set_option linter.unusedSimpArgs false
set_option linter.unusedVariables false
section
namespace Go.Ab
open Go.Proofs
set_option maxRecDepth 10000
set_option linter.unusedSectionVars false
def arr (f:Int→Int) (m:Nat):List Int:=(List.range m).map fun i:Nat=>f (i:Int)
theorem dG {f:Int→Int} {m:Nat} :(arr f m).length=m:=by simp [arr]
theorem uP {f:Int→Int} {m i:Nat} (h:i<m):(arr f m).getD i 0=f (i:Int):=by
 simp [arr,List.getD_eq_getElem?_getD,List.getElem?_range h]
theorem Cp {l m:List Int} (hl:l.length=m.length) (h:∀i,i<l.length→l.getD i 0=m.getD i 0):l=m:=by
 refine List.ext_getElem? fun i=> ?_
 by_cases hi:i<l.length
 ·have:=h i hi
  rw [List.getD_eq_getElem?_getD,List.getD_eq_getElem?_getD,List.getElem?_eq_getElem hi,List.getElem?_eq_getElem (by omega)] at this
  rw [List.getElem?_eq_getElem hi,List.getElem?_eq_getElem (by omega)]
  simpa using this
 ·rw [List.getElem?_eq_none (by omega),List.getElem?_eq_none (by omega)]
theorem jB {u v:List Int} {e:Int} :(u++e::v).getD u.length 0=e:=by
 rw [List.getD_eq_getElem?_getD,List.getElem?_append_right (Nat.le_refl _)];simp
section
variable {g:Gr} {p:Pl} (h:cA g p)
include h
theorem iJ {k:Nat} (hk:k<g.n.toNat) {e:Int} (he:e∈bE p (au p k)):(0≤e∧e<g.es.length)∧pY g e=au p k:=by
 have hx:=aF h.2.1 hk
 exact bZ.1 ((bM h.2.1 hx.1 hx.2).mem_iff.1 he)
theorem Cq {k:Nat} (hk:k<g.n.toNat):(bE p (au p k)).Nodup:=by
 have hx:=aF h.2.1 hk
 exact (bM h.2.1 hx.1 hx.2).nodup_iff.2 cO
theorem yR {k:Nat} (hk:k<g.n.toNat) {e:Int} (he:0≤e∧e<g.es.length) (ht:pY g e=au p k):∃u v,bE p (au p k)=u++e::v:=by
 have hx:=aF h.2.1 hk
 exact List.append_of_mem ((bM h.2.1 hx.1 hx.2).mem_iff.2 (bZ.2 ⟨he,ht⟩))
theorem tB {k:Nat} (hk:k<g.n.toNat) {f F F':Int→Int} {v:Nat→Int} (hin:∀u w e,bE p (au p k)=u++e::w→F' e=v u.length) (hout:∀e:Int,pY g e≠au p k→F' e=F e):
 iw (arr F g.es.length) (bE p (au p k)) v (bE p (au p k)).length=arr F' g.es.length:=by
 refine Cp (by rw [e8,dG,dG]) fun i hi=> ?_
 rw [e8,dG] at hi
 rw [uP hi]
 by_cases ht:pY g (i:Int)=au p k
 ·obtain ⟨u,w,Cr⟩:=yR h hk (e:=(i:Int)) (by omega) ht
  have e1:(bE p (au p k)).getD u.length 0=(i:Int):=by rw [Cr];exact jB
  have:=wQ (A:=arr F g.es.length) (o:=bE p (au p k)) (f:=v) (i:=u.length) (by rw [e1,dG];simpa using hi) (j:=(bE p (au p k)).length) (by rw [Cr];simp) fun q hq e2=>by
   rw [e1,Int.toNat_natCast] at e2
   have h2:=iJ h hk (aZ (d:=0) hq)
   have h3:(bE p (au p k)).getD q 0=(i:Int):=by omega
   have bT:=Cq h hk
   have:(bE p (au p k))[q]'hq=(bE p (au p k))[u.length]'(by rw [Cr];simp):=by
    rw [List.getD_eq_getElem?_getD,List.getElem?_eq_getElem hq] at h3
    rw [List.getD_eq_getElem?_getD,List.getElem?_eq_getElem (by rw [Cr];simp)] at e1
    simp only [Option.getD_some] at h3 e1
    rw [h3,e1]
   exact (List.getElem_inj bT).1 this
  rw [e1,Int.toNat_natCast] at this
  rw [this,hin u w (i:Int) Cr]
 ·rw [lD fun q hq e2=> ?_,uP hi,hout _ ht]
  have h2:=iJ h hk (aZ (d:=0) hq)
  exact ht (by rw [← h2.2];congr 1;omega)
theorem IU {k:Nat} (hk:k<g.n.toNat):lT (arr (LK g p k) g.es.length) (bE p (au p k)) (if k=0 then 0 else LK g p k (ek g p (au p k))) (cK p k) (bE p (au p k)).length=arr (LK g p (k+1)) g.es.length:=by
 refine tB (f:=fun _=>0) h hk (fun u w e Cr=> ?_) fun e he=>by rw [LK,if_neg he]
 obtain ⟨a,b⟩:=mH h hk Cr
 rw [LK,if_pos a,b]
theorem IV {r:Int} {k:Nat} (hk:k<g.n.toNat):lU (arr (RK g p r k) g.es.length) (bE p (au p k)) (if k=0 then r else RK g p r k (lS g p (au p k))) (cK p k) (bE p (au p k)).length=arr (RK g p r (k+1)) g.es.length:=by
 refine tB (f:=fun _=>0) h hk (fun u w e Cr=> ?_) fun e he=>by rw [RK,if_neg he]
 obtain ⟨a,b⟩:=mH h hk Cr
 rw [RK,if_pos a,b]
theorem wR (hI:kS g=true):∀ {k:Nat},k<g.n.toNat→∀t∈(fK g p k).row,0≤t.1
 |0,_,t,ht=>by cases ht
 |k+1,hk,t,ht=>by
  have hm:=aG h.1
  have ih:=wR hI (k:=k) (by omega)
  obtain ⟨hi,_,_⟩:=dy hm h.2.1 (k:=k) (by omega) fun j hj=>h.2.2 j (by omega)
  obtain ⟨A,X,C,hr,_,_,_,hs⟩:=ir hm hi.togH (h.2.2 k (by omega))
  have hO:bE p (au p k)≠ []:=fun h1=>by
   have:=(ej h hI (aF h.2.1 (show k<g.n.toNat by omega))).1 h1
   have:=dx h.2.1 (show k<g.n.toNat by omega) (by omega) this
   omega
  have ht:t∈(aA g (fK g p k) (au p k) (bE p (au p k))).2.row:=ht
  rw [hs] at ht
  simp only [List.mem_append] at ht
  rcases ht with (ht|ht)|ht
  ·exact ih t (by rw [hr];simp [ht])
  ·unfold aJ at ht
   rw [if_neg hO] at ht
   obtain ⟨i,hi2,rfl⟩:=List.mem_map.1 ht
   exact (iJ h (show k<g.n.toNat by omega) hi2).1.1
  ·exact ih t (by rw [hr];simp [ht])
theorem xV (hI:kS g=true) {k:Nat} (hk:k<g.n.toNat):iQ (eZ g p k)=eZ g p k:=by
 have hm:=aG h.1
 obtain ⟨hi,_,_⟩:=dy hm h.2.1 (k:=k) (by omega) fun j hj=>h.2.2 j (by omega)
 obtain ⟨A,X,C,hr,_,_,_,hs⟩:=ir hm hi.togH (h.2.2 k hk)
 have e:eZ g p k=X:=by unfold eZ;rw [hs]
 rw [e]
 refine List.filter_eq_self.2 fun t ht=>decide_eq_true (wR h hI hk t ?_)
 rw [hr];simp [ht]
theorem Cs (hI:kS g=true) {k:Nat} (hk:k<g.n.toNat):cl g p (au p k)=(eZ g p k).map (·.1):=by
 unfold cl
 rw [nI h.2.1 (Nat.le_refl _) hk,xV h hI hk]
end
section
variable (g:Gr) (p:Pl)
def fE:Nat→List Int
 |0=>bE p (au p 0)
 |j+1=>if bE p (au p (j+1))= [] then fE j else (fE j).take (de (fE j) (ek g p (au p (j+1)))).toNat++bE p (au p (j+1))++(fE j).drop ((de (fE j) (ek g p (au p (j+1)))).toNat+(cl g p (au p (j+1))).length)
def kY:Nat→List Int
 |0=> [0]++e9 1 ((bE p (au p 0)).length - 1)++ [-1]
 |j+1=>(kY j).take ((de (fE g p j) (ek g p (au p (j+1)))).toNat+1)++e9 (cK p (j+1)) ((bE p (au p (j+1))).length - 1)++(kY j).drop ((de (fE g p j) (ek g p (au p (j+1)))).toNat+(cl g p (au p (j+1))).length)
def iS (k:Nat):List Int:=((cl g p (au p k)).dropLast).map (RK g p (-1) k)
def nQ:Nat→List Int
 |0=> [au p (g.n.toNat - 1)]
 |k+1=>jz (nQ k) (iS g p k) (au p k) (iS g p k).length++List.replicate ((bE p (au p k)).length - 1) 0
end
section
variable {g:Gr} {p:Pl}
theorem fF:∀ {k:Nat},(nQ g p k).length=cK p k
 |0=>rfl
 |k+1=>by rw [nQ,List.length_append,jA,List.length_replicate,fF,cK]
variable (h:cA g p)
include h
theorem Ct {A I C:List Int} (bT:(A++I++C).Nodup) (hI:I≠ []):de (A++I++C) (I.headD 0)=(A.length:Int):=by
 obtain ⟨a,u,rfl⟩:=iB hI
 obtain ⟨k,h1,h2,h3⟩:=dc (l:=A++a::u++C) (x:=a) (by simp)
 have e:A++a::u++C=A++a::(u++C):=by simp
 have h4:(A++a::u++C).getD A.length 0=a:=by rw [e];exact jB
 show de _ a=_
 rw [h1]
 have hA:A.length<(A++a::u++C).length:=by simp
 rw [List.getD_eq_getElem?_getD,List.getElem?_eq_getElem h2] at h3
 rw [List.getD_eq_getElem?_getD,List.getElem?_eq_getElem hA] at h4
 simp only [Option.getD_some] at h3 h4
 have:=(List.getElem_inj bT (h₀:=h2) (h₁:=hA)).1 (h3.trans h4.symm)
 omega
theorem Cu {k:Nat} (hk:k≤g.n.toNat):(WK g p k).Nodup:=by
 have hm:=aG h.1
 obtain ⟨hi,_,_⟩:=dy hm h.2.1 (k:=k) (by omega) fun j hj=>h.2.2 j (by omega)
 exact Cm hi
theorem Cv {r:Int} {k:Nat} (hk:k<g.n.toNat) (hO:bE p (au p k)≠ []) {j:Nat} (h1:k+1≤j) (h2:j≤g.n.toNat):(bE p (au p k)).map (RK g p r j)=e9 (cK p k) ((bE p (au p k)).length - 1)++ [if k=0 then r else RK g p r k (lS g p (au p k))]:=by
 obtain ⟨v,b,hv⟩:=cm hO
 have e1:((bE p (au p k)).length - 1)=v.length:=by rw [hv];simp
 rw [e1]
 conv=>lhs;rw [hv]
 rw [List.map_append,List.map_cons,List.map_nil,rS h hk hv h1 h2]
 congr 1
 refine List.ext_getElem? fun i=> ?_
 by_cases hi:i<v.length
 ·rw [List.getElem?_map,List.getElem?_eq_getElem hi,e9,List.getElem?_map,List.getElem?_range hi,Option.map_some,Option.map_some]
  have hs:v=v.take i++v[i]::v.drop (i+1):=by simp
  obtain ⟨c,w,LC⟩:∃c w,v.drop (i+1)++ [b]=c::w:=by
   cases hd:v.drop (i+1) with
   |nil=>exact ⟨b, [],rfl⟩
   |cons c w=>exact ⟨c,w++ [b],rfl⟩
  have h3:bE p (au p k)=v.take i++v[i]::c::w:=by
   rw [hv]
   conv=>lhs;rw [hs]
   rw [List.append_assoc,List.cons_append,LC]
  rw [gO h hk h3 h1 h2,List.length_take,Nat.min_eq_left (by omega)]
  congr 1
 ·rw [List.getElem?_eq_none (by simpa using hi),List.getElem?_eq_none (by rw [jy];omega)]
theorem uQ (hI:kS g=true):∀ {j:Nat},j+1<g.n.toNat→fE g p j=WK g p (j+1)∧kY g p j=0::(WK g p (j+1)).map (RK g p (-1) (j+1))∧WK g p (j+1)≠ []
 |0,hj=>by
  have hO:bE p (au p 0)≠ []:=fun h1=>by
   have:=(ej h hI (aF h.2.1 (show 0<g.n.toNat by omega))).1 h1
   have:=dx h.2.1 (show 0<g.n.toNat by omega) (by omega) this
   omega
  refine ⟨(rV h (by omega)).symm, ?_,by rw [rV h (by omega)];exact hO⟩
  rw [rV h (by omega),Cv h (by omega) hO (Nat.le_refl _) (by omega),if_pos rfl]
  rfl
 |j+1,hj=>by
  obtain ⟨i1,i2,i3⟩:=uQ hI (j:=j) (by omega)
  obtain ⟨A,C,e1,hne,e2⟩:=j0 h (k:=j+1) (by omega) (by omega)
  have hO:bE p (au p (j+1))≠ []:=fun h1=>by
   have:=(ej h hI (aF h.2.1 (show j+1<g.n.toNat by omega))).1 h1
   have:=dx h.2.1 (show j+1<g.n.toNat by omega) (by omega) this
   omega
  have bT:=Cu h (k:=j+1) (by omega)
  have FP:de (WK g p (j+1)) (ek g p (au p (j+1)))=(A.length:Int):=by
   rw [e1] at bT ⊢
   exact Ct h bT hne
  have yQ:∀a∈WK g p (j+1),RK g p (-1) (j+1+1) a=RK g p (-1) (j+1) a:=fun a ha=>by
   obtain ⟨i,hi,e⟩:=pZ h (by omega) ha
   rw [dZ h (by omega) e (j:=j+1+1) (by omega) (by omega),dZ h (by omega) e (j:=j+1) (by omega) (by omega)]
  refine ⟨?_, ?_,by rw [e2];simp [hO]⟩
  ·rw [fE,if_neg hO,i1,FP,Int.toNat_natCast,e2]
   congr 1
   ·congr 1
    rw [e1,List.append_assoc,List.take_left]
   ·rw [e1, ← List.length_append,List.drop_left]
  ·rw [kY,i1,i2,FP,Int.toNat_natCast,List.take_succ_cons,e2]
   have e3:(WK g p (j+1)).map (RK g p (-1) (j+1))=A.map (RK g p (-1) (j+1))++((cl g p (au p (j+1))).map (RK g p (-1) (j+1))++C.map (RK g p (-1) (j+1))):=by rw [e1];simp
   have hA:A.map (RK g p (-1) (j+1+1))=A.map (RK g p (-1) (j+1)):=List.map_congr_left fun a ha=>yQ a (by rw [e1];simp [ha])
   have hC:C.map (RK g p (-1) (j+1+1))=C.map (RK g p (-1) (j+1)):=List.map_congr_left fun a ha=>yQ a (by rw [e1];simp [ha])
   rw [List.map_append,List.map_append,hA,hC,Cv h (by omega) hO (Nat.le_refl _) (by omega),if_neg (by omega)]
   rw [e3,List.take_append_of_le_length (by simp),List.take_of_length_le (by simp)]
   obtain ⟨u,a,hu⟩:=cm hne
   have hl:(cl g p (au p (j+1))).length=u.length+1:=by rw [hu];simp
   rw [hl,show A.length+(u.length+1)=(A.length+u.length)+1 by omega,List.drop_succ_cons]
   have e4:(A.map (RK g p (-1) (j+1))++((cl g p (au p (j+1))).map (RK g p (-1) (j+1))++C.map (RK g p (-1) (j+1)))).drop (A.length+u.length)=RK g p (-1) (j+1) (lS g p (au p (j+1)))::C.map (RK g p (-1) (j+1)):=by
    rw [kW h hu,hu]
    have:A.map (RK g p (-1) (j+1))++((u++ [a]).map (RK g p (-1) (j+1))++C.map (RK g p (-1) (j+1)))=(A++u).map (RK g p (-1) (j+1))++(RK g p (-1) (j+1) a::C.map (RK g p (-1) (j+1))):=by simp
    rw [this,show A.length+u.length=((A++u).map (RK g p (-1) (j+1))).length by simp,List.drop_left]
   rw [e4]
   simp
theorem cQ {A B:List Int} (h:B≠ []):(A++B).dropLast=A++B.dropLast:=by
 obtain ⟨u,a,rfl⟩:=cm h
 rw [← List.append_assoc,List.dropLast_concat,List.dropLast_concat]
theorem uR (hI:kS g=true):∀ {k:Nat},1≤k→k<g.n.toNat→∀a∈(WK g p k).dropLast,1≤RK g p (-1) k a∧RK g p (-1) k a<cK p k
 |0,h1,_,_,_=>by omega
 |k+1,_,hk,a,ha=>by
  have hO:bE p (au p k)≠ []:=fun h1=>by
   have:=(ej h hI (aF h.2.1 (show k<g.n.toNat by omega))).1 h1
   have:=dx h.2.1 (show k<g.n.toNat by omega) (by omega) this
   omega
  have hc:cK p (k+1)=cK p k+((bE p (au p k)).length - 1):=rfl
  have Gh:0<cK p k:=kU
  have hnew:∀b∈(bE p (au p k)).dropLast,1≤RK g p (-1) (k+1) b∧RK g p (-1) (k+1) b<cK p (k+1):=fun b hb=>by
   obtain ⟨v,c,hv⟩:=cm hO
   rw [hv,List.dropLast_concat] at hb
   obtain ⟨u,w,Cr⟩:=List.append_of_mem hb
   obtain ⟨c',w',LC⟩:∃c' w',w++ [c]=c'::w':=by
    cases w with
    |nil=>exact ⟨c, [],rfl⟩
    |cons d w=>exact ⟨d,w++ [c],rfl⟩
   have h3:bE p (au p k)=u++b::c'::w':=by rw [hv,Cr, ← LC];simp
   rw [gO h (show k<g.n.toNat by omega) h3 (Nat.le_refl _) (by omega)]
   have:(bE p (au p k)).length=u.length+(w'.length+2):=by rw [h3];simp
   omega
  by_cases h0:k=0
  ·subst h0
   rw [rV h (by omega)] at ha
   exact hnew a ha
  ·obtain ⟨A,C,e1,hne,e2⟩:=j0 h h0 (show k<g.n.toNat by omega)
   have ih:=uR hI (k:=k) (by omega) (by omega)
   have yQ:∀a∈WK g p k,RK g p (-1) (k+1) a=RK g p (-1) k a:=fun a ha=>by
    obtain ⟨i,hi,e⟩:=pZ h (by omega) ha
    rw [dZ h (by omega) e (j:=k+1) (by omega) (by omega),dZ h (by omega) e (j:=k) (by omega) (by omega)]
   have old:∀b∈(WK g p k).dropLast,1≤RK g p (-1) (k+1) b∧RK g p (-1) (k+1) b<cK p (k+1):=fun b hb=>by
    rw [yQ b ((List.dropLast_sublist _).subset hb)]
    have:=ih b hb
    omega
   rw [e1] at old yQ
   rw [e2] at ha
   by_cases hC:C= []
   ·subst hC
    rw [List.append_nil] at ha old
    rw [cQ h hO] at ha
    rw [cQ h hne] at old
    rcases List.mem_append.1 ha with ha|ha
    ·exact old a (by simp [ha])
    ·exact hnew a ha
   ·rw [cQ h hC] at ha old
    rcases List.mem_append.1 ha with ha|ha
    ·rcases List.mem_append.1 ha with ha|ha
     ·exact old a (by simp [ha])
     ·obtain ⟨v,b,hv⟩:=cm hO
      rw [hv,List.mem_append,List.mem_singleton] at ha
      rcases ha with ha|rfl
      ·exact hnew a (by rw [hv,List.dropLast_concat];exact ha)
      ·obtain ⟨u,c,hu⟩:=cm hne
       rw [rS h (show k<g.n.toNat by omega) hv (Nat.le_refl _) (by omega),if_neg h0,kW h hu, ← yQ c (by rw [hu];simp)]
       exact old c (by rw [hu];simp)
    ·exact old a (by simp [ha])
theorem uS (hI:kS g=true) {k:Nat} (hk:k<g.n.toNat):∀f∈iS g p k,0≤f∧f<(nQ g p k).length:=by
 intro f hf
 rw [fF]
 obtain ⟨a,ha,rfl⟩:=List.mem_map.1 hf
 have Ob:cl g p (au p k)≠ []:=fun h0=>by rw [h0] at ha;simp at ha
 have tT:=wP h hk Ob
 obtain ⟨A,C,e1,hne,_⟩:=j0 h tT hk
 have:=uR h hI (k:=k) (by omega) hk a (by
  rw [e1]
  by_cases hC:C= []
  ·subst hC;rw [List.append_nil,cQ h hne];simp [ha]
  ·rw [cQ h hC];simp [(List.dropLast_sublist _).subset ha])
 omega
theorem Cw (hI:kS g=true) {j:Nat} (hj:j+1<g.n.toNat):∃a:Nat,de (fE g p j) (ek g p (au p (j+1)))=a∧0<(cl g p (au p (j+1))).length∧a+(cl g p (au p (j+1))).length≤(fE g p j).length∧
 (kY g p j).length=(fE g p j).length+1∧(kY g p j).getD a 0=LK g p (j+1) (ek g p (au p (j+1)))∧(kY g p j).getD (a+(cl g p (au p (j+1))).length) 0=RK g p (-1) (j+1) (lS g p (au p (j+1)))∧
 ((kY g p j).take (a+(cl g p (au p (j+1))).length)).drop (a+1)=iS g p (j+1):=by
 obtain ⟨i1,i2,i3⟩:=uQ h hI hj
 obtain ⟨A,C,e1,hne,e2⟩:=j0 h (k:=j+1) (by omega) hj
 have bT:=Cu h (k:=j+1) (by omega)
 have FP:de (WK g p (j+1)) (ek g p (au p (j+1)))=(A.length:Int):=by
  rw [e1] at bT ⊢
  exact Ct h bT hne
 have hlk:=(xT (r:= -1) h hI (k:=j+1) (by omega) hj i3).1
 obtain ⟨u,c,hu⟩:=cm hne
 obtain ⟨c0,u0,CW⟩:=iB hne
 have hl:(cl g p (au p (j+1))).length=u.length+1:=by rw [hu];simp
 rw [i1,i2]
 refine ⟨A.length,FP,by omega,by rw [e1];simp,by simp, ?_, ?_, ?_⟩
 ·rw [e1,bN,bN] at hlk
  have h1:=hlk.1.2
  rw [CW] at h1
  rw [oT h CW,h1.1,e1]
  rcases List.eq_nil_or_concat A with hA|⟨A',t,hA⟩
  ·subst hA;rfl
  ·rw [List.concat_eq_append] at hA
   subst hA
   rw [cC]
   have:(0::(A'++ [t]++cl g p (au p (j+1))++C).map (RK g p (-1) (j+1)))=(0::A'.map (RK g p (-1) (j+1)))++RK g p (-1) (j+1) t::((cl g p (au p (j+1))++C).map (RK g p (-1) (j+1))):=by simp
   rw [this]
   have h2:(A'++ [t]).length=(0::A'.map (RK g p (-1) (j+1))).length:=by simp
   rw [h2];exact jB
 ·rw [kW h hu,e1,hl]
  have:(0::(A++cl g p (au p (j+1))++C).map (RK g p (-1) (j+1)))=(0::(A++u).map (RK g p (-1) (j+1)))++RK g p (-1) (j+1) c::(C.map (RK g p (-1) (j+1))):=by rw [hu];simp
  rw [this]
  have h2:A.length+(u.length+1)=(0::(A++u).map (RK g p (-1) (j+1))).length:=by simp;omega
  rw [h2];exact jB
 ·rw [e1,hl]
  have:(0::(A++cl g p (au p (j+1))++C).map (RK g p (-1) (j+1)))=(0::A.map (RK g p (-1) (j+1)))++(u.map (RK g p (-1) (j+1))++(RK g p (-1) (j+1) c::(C.map (RK g p (-1) (j+1))))):=by rw [hu];simp
  rw [this,List.take_append,List.drop_append]
  have h2:(0::A.map (RK g p (-1) (j+1))).length=A.length+1:=by simp
  rw [h2,List.take_of_length_le (by rw [h2];omega),List.drop_of_length_le (by rw [h2];omega),h2]
  rw [show A.length+(u.length+1) - (A.length+1)=u.length by omega,Nat.sub_self,List.drop_zero,List.nil_append]
  rw [List.take_append_of_le_length (by simp),List.take_of_length_le (by simp)]
  unfold iS
  rw [hu,List.dropLast_concat]
end
end Go.Ab
end
section
namespace Go.Ab
open Go.Proofs
attribute [local congr] ACall.congr
set_option maxRecDepth 10000
set_option maxHeartbeats 8000000
def swapT (l:List It) (k:Nat):List It:=(List.range l.length).map fun p=>if p<k∨l.length - 1<p+k then l.getD (l.length - 1 - p) (0,0,0) else l.getD p (0,0,0)
def MB (rs:List Int) (l:List It):Int:=match l.find? (fun t=>decide (t.2.2∈rs)) with
 |some t=>t.2.2
 |none=>rs.headD (-1)
end Go.Ab
end
section
namespace Go.Ab
open Go.Proofs
attribute [local congr] ACall.congr
set_option maxRecDepth 10000
set_option maxHeartbeats 8000000
def O4 (b:Bool) (g:Gr) (p:Pl):List Int × List Int × Int:=
 if (bJ b g p).2.1=0∧kS g=true then (B6 g p false g.n.toNat,B6 g p true g.n.toNat,0) else ([], [],1)
end Go.Ab
end
section
namespace Go.Ab
open Go.Proofs
attribute [local congr] ACall.congr
set_option maxRecDepth 10000
set_option maxHeartbeats 8000000
theorem rZ {b:Bool} {g:Gr} {p:Pl} (hr:b=true↔(cg g).1=0∧bF g p) (h:cA g p):bJ b g p=((dV g p g.n.toNat,kQ g p),(0,0)):=by
 obtain rfl:b=true:=hr.2 ⟨h.1,h.2.1⟩
 unfold bJ
 rw [if_neg (by simp),eM.2 h.2.2]
 rfl
theorem Oc (g:Gr) (p:Pl):∃b:Bool,(b=true↔(cg g).1=0∧bF g p):=by
 by_cases h:(cg g).1=0∧bF g p
 ·exact ⟨true,by simp [h]⟩
 ·exact ⟨false,by simp [h]⟩
end Go.Ab
end
section
namespace Go.Ab
open Go.Proofs
attribute [local congr] ACall.congr
set_option maxRecDepth 60000
set_option maxHeartbeats 8000000
structure Fc where
 L:List Int
 R:List Int
 lo:List Int
 hi:List Int
def ki (g:Gr) (p:Pl) (f:Int):Int:=if f= -1 then (cK p g.n.toNat:Int) else f
def DN (g:Gr) (p:Pl):Fc:=⟨arr (LK g p g.n.toNat) g.es.length,(arr (RK g p (-1) g.n.toNat) g.es.length).map (ki g p),gA p g.n.toNat++ [au p 0],nQ g p g.n.toNat++ [au p (g.n.toNat - 1)]⟩
def p8:Fc:=⟨[], [], [], []⟩
def CU (b:Bool) (g:Gr) (p:Pl):Fc × Int:=if ((bJ b g p).2.1=0∧kS g=true)∧0<g.es.length then (DN g p,0) else (p8,1)
def fh (f:Fc):AV:= .agg [.d (sI f.L), .d (sI f.R), .d (sI f.lo), .d (sI f.hi)]
def kZ (l:List Int) (f:Int→Int) (j:Nat):List Int:=(l.take j).map f++l.drop j
theorem Cx {l:List Int} {f:Int→Int} {j:Nat} :(kZ l f j).length=l.length:=by
 simp only [kZ,List.length_append,List.length_map,List.length_take,List.length_drop];omega
theorem tC {l:List Int} {f:Int→Int} {j:Nat} (h:j<l.length):kZ l f (j+1)=(kZ l f j).set j (f (l.getD j 0)):=by
 have h1:((l.take j).map f).length=j:=by simp;omega
 have e:l.getD j 0=l[j]:=by rw [List.getD_eq_getElem?_getD,List.getElem?_eq_getElem h];rfl
 unfold kZ
 have e2:l.take (j+1)=l.take j++ [l[j]]:=by rw [List.take_add_one,List.getElem?_eq_getElem h];rfl
 rw [List.drop_eq_getElem_cons h,List.set_append,h1,if_neg (by omega),Nat.sub_self,List.set_cons_zero,e2,e,List.map_append,List.append_assoc]
 rfl
theorem yS {l:List Int} {f:Int→Int} {j:Nat} (h:j<l.length):(kZ l f j).getD j 0=l.getD j 0:=by
 have h1:((l.take j).map f).length=j:=by simp;omega
 unfold kZ
 rw [List.getD_eq_getElem?_getD,List.getElem?_append_right (by omega),h1,Nat.sub_self,List.drop_eq_getElem_cons h,List.getD_eq_getElem?_getD,List.getElem?_eq_getElem h];rfl
theorem Cy {l:List Int} {f:Int→Int} :kZ l f l.length=l.map f:=by simp [kZ]
theorem Aa {l:List Int} {f:Int→Int} {j:Nat} (h:j<l.length) (hf:f (l.getD j 0)=l.getD j 0):kZ l f (j+1)=kZ l f j:=by
 rw [tC h,hf]
 refine List.ext_getElem? fun i=> ?_
 rw [List.getElem?_set]
 split
 ·rename_i e;subst e
  split
  ·have:=yS (l:=l) (f:=f) h
   rename_i hl
   rw [List.getD_eq_getElem?_getD,List.getElem?_eq_getElem hl] at this
   rw [List.getElem?_eq_getElem hl]
   simpa using this.symm
  ·rename_i hl;rw [List.getElem?_eq_none (by omega)]
 ·rfl
theorem Ac {g:Gr} {p:Pl} (h:cA g p):0<(bp (·.2) g).length∧(bp (·.2) g).getD 0 0=au p 0:=by
 have hn:=aY (aG h.1)
 have h0:=aF h.2.1 (k:=0) (by omega)
 have hm:au p 0∈bp (·.2) g:=lp.2 ⟨h0,fX h⟩
 have hl:=List.length_pos_of_mem hm
 refine ⟨hl, ?_⟩
 have:=lp.1 (aZ (l:=bp (·.2) g) (m:=0) (d:=0) hl)
 exact nG h.1 this.1 h0 this.2 (fX h)
theorem Ad {g:Gr} {p:Pl} (h:cA g p) (hI:kS g=true):0<(bp (·.1) g).length∧(bp (·.1) g).getD 0 0=au p (g.n.toNat - 1):=by
 have hn:=aY (aG h.1)
 have h0:=aF h.2.1 (k:=g.n.toNat - 1) (by omega)
 have hm:au p (g.n.toNat - 1)∈bp (·.1) g:=jw.2 ⟨h0,(nK h.2.1 h0.1 h0.2).2 (oR h).1⟩
 have hl:=List.length_pos_of_mem hm
 refine ⟨hl, ?_⟩
 have:=jw.1 (aZ (l:=bp (·.1) g) (m:=0) (d:=0) hl)
 exact (ej h hI this.1).1 ((nK h.2.1 this.1.1 this.1.2).1 this.2)
theorem El {g:Gr} {p:Pl} (h:cA g p):∀ {k:Nat},k≤g.n.toNat→cK p k≤1+k*g.es.length
 |0,_=>by simp [cK]
 |k+1,hk=>by
  have:=El h (k:=k) (by omega)
  have hx:=aF h.2.1 (show k<g.n.toNat by omega)
  have:=jZ h.2.1 hx.1 hx.2
  rw [cK,Nat.add_mul];omega
theorem pq {g:Gr} {p:Pl} (h:cA g p) {k:Nat} (hk:k≤g.n.toNat):cK p k≤100000∧(∀x:Int,(bE p x).length≤100000∨¬oS g x):=by
 have hn:=aY (aG h.1)
 have h1:=El h hk
 have h2:k*g.es.length≤64*128:=Nat.mul_le_mul (by omega) (by omega)
 refine ⟨by omega,fun x=> ?_⟩
 by_cases hx:oS g x
 ·have:=jZ h.2.1 hx.1 hx.2;exact .inl (by omega)
 ·exact .inr hx
theorem Ae (g:Gr) (p:Pl) (hp:pg p) (hrun:cA g p) (hI:kS g=true) (hm0:0<g.es.length) (b:Bool) (hr:b=true↔(cg g).1=0∧bF g p):
 Spec Tryz.prog 17 (Args [eG g,ePl p]) [] (.tup [fh (DN g p),eN 0]) []:=by
 have hm:=aG hrun.1
 have hn:=aY hm
 have hle:=bY hrun.2.1
 have hO:=lQ g (by omega) p hp b hr
 have Fq:=rO g (by omega)
 have Od:=fu g hm
 have Jo:=dw g hm
 have Jp:=mu g hm
 obtain ⟨hs1,r7⟩:=Ac hrun
 obtain ⟨O5,hs4⟩:=Ad hrun hI
 rw [rZ hr hrun] at hO
 simp only at hO
 rw [hI] at Fq
 have hb0:decide ((g.es.length:Int)=0)=false:=decide_eq_false (by omega)
 have hn2:1<g.n.toNat:=by
  refine Decidable.byContradiction fun hc=> ?_
  have ht:=bS hm (i:=0) hm0
  have hh:=cI hm (i:=0) hm0
  obtain ⟨j,hj,_⟩:=rR hrun (e:=0) (by omega) (k:=0) (by omega) (by
   obtain ⟨k,hk,e⟩:=fC hrun.2.1 hh.1 hh.2
   obtain rfl:k=0:=by omega
   exact e.symm)
  omega
 obtain ⟨s0,hs0⟩:∃s:Nat,au p 0=s:=by have:=aF hrun.2.1 (k:=0) (by omega);exact ⟨(au p 0).toNat,by omega⟩
 have LD:s0<p.outs.length:=by have:=aF hrun.2.1 (k:=0) (by omega);have:=hrun.2.1.1;omega
 have qd:=jW LD
 have LF:p.outs.getD s0 []=bE p (au p 0):=by unfold bE;rw [hs0,Int.toNat_natCast]
 rw [LF] at qd
 have Oe:=jZ hrun.2.1 (aF hrun.2.1 (k:=0) (by omega)).1 (aF hrun.2.1 (k:=0) (by omega)).2
 have Co:=tA (au p 0) 0 (-1) (bE p (au p 0)) (.sl 1 []) (sI [0, -1]) (arr (LK g p 0) g.es.length) (arr (RK g p (-1) 0) g.es.length) [au p 0] [au p (g.n.toNat - 1)] (by omega) (fun i hi=>by rw [dG];exact (iJ hrun (by omega) hi).1) (by rw [dG,dG]) (by simp) (by simp)
 have MC:=IU hrun (k:=0) (by omega)
 have MD:=IV (r:= -1) hrun (k:=0) (by omega)
 rw [if_pos rfl] at MC MD
 have IW:cl g p (au p 0)= []:=by
  have:=jx hrun (aF hrun.2.1 (k:=0) (by omega))
  rw [fX hrun] at this
  exact List.eq_nil_of_length_eq_zero this
 have hi1:nQ g p 1= [au p (g.n.toNat - 1)]++List.replicate ((bE p (au p 0)).length - 1) 0:=by
  have:iS g p 0= []:=by unfold iS;rw [IW];rfl
  show jz (nQ g p 0) (iS g p 0) (au p 0) (iS g p 0).length++_=_
  rw [this];rfl
 have LG:gA p 1= [au p 0]++List.replicate ((bE p (au p 0)).length - 1) (au p 0):=rfl
 have hc1:([au p 0]:List Int).length=cK p 0:=rfl
 rw [hc1,MC,MD, ← hi1, ← LG] at Co
 have DH:∀f:Int→Int,(∀e,f e=0)→List.replicate g.es.length [D.sc (.int .i64 0)]=(arr f g.es.length).map rI:=fun f hf=>by
  refine List.ext_getElem? fun i=> ?_
  simp only [arr,List.getElem?_replicate,List.getElem?_map]
  by_cases hi:i<g.es.length
  ·rw [if_pos hi,List.getElem?_range hi];simp [hf,rI]
  ·rw [if_neg hi,List.getElem?_eq_none (by simpa using hi)];rfl
 have fO:=DH (LK g p 0) fun _=>rfl
 have LH:=kI (bE p (au p 0)) (by omega)
 have LI:=iR [0, -1] (e9 (cK p 0) ((bE p (au p 0)).length - 1)) 1 1 (by simp) (by simp) (by rw [jy];omega)
 have EU:List.take 1 [(0:Int), -1]++e9 (cK p 0) ((bE p (au p 0)).length - 1)++List.drop 1 [(0:Int), -1]=kY g p 0:=rfl
 rw [EU] at LI
 have Of:RK g p (-1) 0=LK g p 0:=by funext e;rfl
 rw [Of] at Co
 have Dy:fE g p 0=bE p (au p 0):=rfl
 have LH:Spec Tryz.prog 53 (Args [.d (sI (bE p (s0:Int)))]) [] (.d (sI (fE g p 0))) []:=by
  rw [Dy, ← hs0];exact LH
 generalize ME:arr (LK g p 0) g.es.length=A0 at Co fO
 have qm:=jy (c:=cK p 0) (k:=(bE p (au p 0)).length - 1)
 generalize e9 (cK p 0) ((bE p (au p 0)).length - 1)=gs at Co LI qm
 unfold FR FT at Co
 have wS:List.drop 1 (List.map rI p.ord)=(p.ord.drop 1).map rI:=by rw [List.map_drop]
 have hdl:(p.ord.drop 1).length=g.n.toNat - 1:=by rw [List.length_drop];omega
 have vY:List.take p.ord.length (List.map rI p.ord)=List.map rI p.ord:=List.take_of_length_le (by simp)
 generalize JN:g.n.toNat - 1=N1 at hdl
 (refine Spec.intro (C:=T.cfg [67] []) (rs:= [.c 4 32, .t 5]) (T.aq _ _) Tryz.func17 rfl rfl Tryz.ntmps17 Tryz.results17 (by simp [AObj.isNest]) (by simp [AObj.isNest]) (by kernel_rfl) ?_;intro X hX hP hC aM aN vals hA;refine ⟨_,by simp,hA, ?_⟩;have af:X.P.follows .mixedOrders=true:=(by rw [hP];exact T.mixed);clear aM aN)
 repeat' (first|fail|((first|((with_reducible (first|apply oA|apply oB));exact rfl;intro K hK)|(refine hK _ ?_;clear hK K)|((with_reducible (first|apply oG|apply oH));iterate 3 exact rfl)|((with_reducible apply oI);(iterate 2 exact rfl);intro K hK)|(with_reducible (first|apply wI|apply wJ|apply wK)));try simp only [go_sem,simprocAttr,hb0,r7,hs4,fO,hs0,qd,wS,hdl,rI])|(show dB _ (.seq (.region 8 _ _) _) _ _;(refine nk 54 0 1 rfl rfl rfl ?_;simp only [LA.app,ASt.put,ASt.kill,putM,rml,List.set_cons_zero,List.set_cons_succ,go_sem,simprocAttr,hb0,r7,hs4,fO,hs0,qd,wS,hdl,rI]);(refine c9 hX 52 rfl ?_;simp only [go_sem,simprocAttr,hb0,r7,hs4,fO,hs0,qd,wS,hdl,rI]))|(with_reducible (first|apply oC|apply oJ|exact oK|apply wA|apply wB|apply wC hX hC|apply wD hX hC|apply wE hX hC af|apply wF hX hC af|apply wG|apply wH|apply And.intro))|((with_reducible refine oD ?_ ?_);first|fail|kernel_rfl)|((with_reducible (first|apply oE|apply oF));(iterate 3 exact rfl);all_goals (intro h;first|(exact absurd h (by decide))|((try simp only [go_sem,simprocAttr,hb0,r7,hs4,fO,hs0,qd,wS,hdl,rI] at h);(try with_reducible intro K hK);simp only [go_sem,simprocAttr,hb0,r7,hs4,fO,hs0,qd,wS,hdl,rI])))|((first|((with_reducible apply wL);exact rfl)|((with_reducible apply wM);exact rfl));all_goals (try ((with_reducible intro h);first|(exact absurd h (by decide))|(try simp only [go_sem,simprocAttr,hb0,r7,hs4,fO,hs0,qd,wS,hdl,rI] at h))))|omega|((first|first|refine aa hX hC hP (hO) rfl rfl rfl (by simp only [go_sem,simprocAttr,hb0,r7,hs4,fO,hs0,qd,wS,hdl,rI]) rfl ?_|refine aa hX hC hP (Fq) rfl rfl rfl (by simp only [go_sem,simprocAttr,hb0,r7,hs4,fO,hs0,qd,wS,hdl,rI]) rfl ?_|refine aa hX hC hP (Od) rfl rfl rfl (by simp only [go_sem,simprocAttr,hb0,r7,hs4,fO,hs0,qd,wS,hdl,rI]) rfl ?_|refine aa hX hC hP (Jo) rfl rfl rfl (by simp only [go_sem,simprocAttr,hb0,r7,hs4,fO,hs0,qd,wS,hdl,rI]) rfl ?_|refine aa hX hC hP (Jp) rfl rfl rfl (by simp only [go_sem,simprocAttr,hb0,r7,hs4,fO,hs0,qd,wS,hdl,rI]) rfl ?_|(refine az hX hC hP [(10000,54),(10001,59),(10002,63),(10003,65),(10004,67),(10005,300),(10006,301)] (Co) rfl rfl rfl ?_ ?_ ?_ ?_ ?_ ?_ ?_ ?_ ?_ ?_ ?_ ?_ ?_ ?_;(focus (simp only [go_sem,simprocAttr,hb0,r7,hs4,fO,hs0,qd,wS,hdl,rI];done));(iterate 12 (focus (simp [go_sem,simprocAttr,hb0,r7,hs4,fO,hs0,qd,wS,hdl,rI];done)));simp only [go_sem,simprocAttr,hb0,r7,hs4,fO,hs0,qd,wS,hdl,rI,List.map_cons,List.map_nil])|refine aa hX hC hP (LH) rfl rfl rfl (by simp only [go_sem,simprocAttr,hb0,r7,hs4,fO,hs0,qd,wS,hdl,rI]) rfl ?_|(refine bu hX hC hP (LI) rfl rfl rfl ?_ ?_ rfl ?_;iterate 2 (focus (simp only [go_sem,simprocAttr,hb0,r7,hs4,fO,hs0,qd,wS,hdl,rI];done))));try simp only [go_sem,simprocAttr,hb0,r7,hs4,fO,hs0,qd,wS,hdl,rI])|(intro h))
 refine an (fun j:Nat=>j≤N1) (fun j=>⟨[(3, .ptr 3 0),(4, .ptr 4 0),(6, .d (.sl 1 (vT (dV g p g.n.toNat)))),(10,eN s0),(11,eN (au p N1)),(12, .ptr 54 0),(106, .d (sI (p.ord.drop 1))),(107,eN N1),(108,eN j)], [(54, .box [.d (sI (fE g p j)), .d (sI (kY g p j)), .ref 59, .ref 63, .ref 300, .ref 301]),(59, .own 3 1 ((arr (LK g p (j+1)) g.es.length).map rI)),(63, .own 3 1 ((arr (RK g p (-1) (j+1)) g.es.length).map rI)),(300, .tip 3 1 ((gA p (j+1)).map rI)),(301, .own 3 1 ((nQ g p (j+1)).map rI)),(3, .box [.d (sI p.ord), .d (.sl 1 (vI p.outs))]),(4, .box [.nil 3, .nil 3, .nil 3, .nil 3])]⟩) (fun j=>N1 - j) 0 (by omega) ?_ ?_
 ·refine Le.of ?_ ?_<;>simp [go_sem,simprocAttr,JN,vY]
  omega
 rintro j hj
 rcases Nat.lt_or_ge j N1 with hjl|Jj
 ·have hb:decide ((j:Int)<(N1:Int))=true:=decide_eq_true (by omega)
  have hjn:j+1<g.n.toNat:=by omega
  obtain ⟨a,p1,p2,p3,p4,p5,p6,p7⟩:=Cw hrun hI hjn
  have CS:=aF hrun.2.1 hjn
  have hx:(p.ord.drop 1).getD j 0=au p (j+1):=by
   rw [List.getD_eq_getElem?_getD,List.getElem?_drop,Nat.add_comm 1 j]
   show _=p.ord.getD (j+1) 0
   rw [List.getD_eq_getElem?_getD]
  have jC:=fun i hi=>(iJ hrun hjn (e:=i) hi).1
  have nU:=jZ hrun.2.1 CS.1 CS.2
  have IX:=nI hrun.2.1 (Nat.le_refl _) hjn
  have hel:=kP (g:=g) (p:=p) (k:=g.n.toNat)
  have MF:=Cs hrun hI hjn
  have hL:=IU hrun (k:=j+1) hjn
  have hR:=IV (r:= -1) hrun (k:=j+1) hjn
  rw [if_neg (by omega)] at hL hR
  have tY:gA p (j+1+1)=gA p (j+1)++List.replicate ((bE p (au p (j+1))).length - 1) (au p (j+1)):=rfl
  have hhi:nQ g p (j+1+1)=jz (nQ g p (j+1)) (iS g p (j+1)) (au p (j+1)) (iS g p (j+1)).length++List.replicate ((bE p (au p (j+1))).length - 1) 0:=rfl
  have LJ:=uS hrun hI hjn
  have kf:=fD (p:=p) (k:=j+1)
  have rY:=fF (g:=g) (p:=p) (k:=j+1)
  have MG:=(pq hrun (k:=j+1) (by omega)).1
  have LL:fE g p (j+1)=if bE p (au p (j+1))= [] then fE g p j else (fE g p j).take (de (fE g p j) (ek g p (au p (j+1)))).toNat++bE p (au p (j+1))++(fE g p j).drop ((de (fE g p j) (ek g p (au p (j+1)))).toNat+(cl g p (au p (j+1))).length):=rfl
  have LM:kY g p (j+1)=(kY g p j).take ((de (fE g p j) (ek g p (au p (j+1)))).toNat+1)++e9 (cK p (j+1)) ((bE p (au p (j+1))).length - 1)++(kY g p j).drop ((de (fE g p j) (ek g p (au p (j+1)))).toNat+(cl g p (au p (j+1))).length):=rfl
  rw [p1,Int.toNat_natCast] at LL LM
  obtain ⟨r1,r2,r3⟩:=uQ hrun hI hjn
  have O6:(fE g p j).length≤10000:=by
   rw [r1]
   have:=eO (m:=(List.range g.es.length).map Int.ofNat) (Cu hrun (k:=j+1) (by omega)) fun e he=>by
    have hi:=dy hm hrun.2.1 (k:=j+1) (by omega) fun i hi=>hrun.2.2 i (by omega)
    obtain ⟨t,ht,rfl⟩:=List.mem_map.1 he
    obtain ⟨⟨h1,h2⟩,_⟩:=nO hm hi.1.togH ht
    exact List.mem_map.2 ⟨t.1.toNat,List.mem_range.2 (by omega),by simp;omega⟩
   simp at this
   omega
  have hfr:ek g p (au p (j+1))=((eZ g p (j+1)).getD 0 (0,0,0)).1:=by
   unfold ek
   rw [MF]
   cases eZ g p (j+1)<;>rfl
  rw [MF,List.length_map] at p2 p3 p6 p7 LL LM
  have hIx:=aO (fE g p j) (ek g p (au p (j+1))) (by omega)
  rw [p1] at hIx
  rw [hfr] at hIx p5
  have kg:=uO (au p (j+1)) (bE p (au p (j+1))) (fE g p j) (kY g p j) (arr (LK g p (j+1)) g.es.length) (arr (RK g p (-1) (j+1)) g.es.length) (gA p (j+1)) (nQ g p (j+1)) a (a+(eZ g p (j+1)).length) (by omega) (by omega) (by omega) (by omega) (by omega) (by rw [p7];exact LJ) (by omega) (fun i hi=>by rw [dG];exact jC i hi) (by rw [dG,dG]) (by omega) (by omega)
  rw [p7,p5,p6,kf, ← hhi, ← tY, ← LL, ← LM] at kg
  rw [← hfr] at kg
  rw [hL,hR] at kg
  obtain ⟨x,LN⟩:∃x:Nat,au p (j+1)=x:=⟨(au p (j+1)).toNat,by omega⟩
  have fZ:x<p.outs.length:=by have:=hrun.2.1.1;omega
  have hv:=jW fZ
  have hla:p.outs.getD x []=bE p (au p (j+1)):=by unfold bE;rw [LN,Int.toNat_natCast]
  rw [hla] at hv
  have xW:=fun d=>nw (ls:=dV g p g.n.toNat) (k:=x) (by omega) d
  have hex:(dV g p g.n.toNat).getD x []=eZ g p (j+1):=by rw [← IX,LN,Int.toNat_natCast]
  rw [hex] at xW
  have hvl:(vT (dV g p g.n.toNat)).length=g.n.toNat:=by rw [vT_length,hel]
  have Ef:x<g.n.toNat:=by omega
  obtain ⟨bb,lP⟩:∃bb:Nat,bb=a+(eZ g p (j+1)).length:=⟨_,rfl⟩
  have oU:(a:Int)+((eZ g p (j+1)).length:Int)=(bb:Int):=by omega
  rw [← lP] at kg
  have iL:bb≤10000:=by omega
  generalize bE p (au p (j+1))=o at kg hv
  rw [LN] at kg hx
  generalize eZ g p (j+1)=gn at hIx xW oU p2
  clear lP
  generalize EV:fE g p (j+1)=E2 at kg
  generalize fE g p j=E1 at kg hIx
  generalize hq1:kY g p (j+1)=G2 at kg
  generalize kY g p j=G1 at kg
  generalize Dp:arr (LK g p (j+1+1)) g.es.length=A2 at kg
  generalize Og:arr (RK g p (-1) (j+1+1)) g.es.length=B2 at kg
  generalize arr (LK g p (j+1)) g.es.length=A1 at kg
  generalize arr (RK g p (-1) (j+1)) g.es.length=B1 at kg
  generalize Oh:gA p (j+1+1)=L2 at kg
  generalize Oi:nQ g p (j+1+1)=H2 at kg
  generalize gA p (j+1)=L1 at kg
  generalize nQ g p (j+1)=H1 at kg
  generalize vT (dV g p g.n.toNat)=VE at xW hvl
  unfold FR FT at kg
  repeat' (first|fail|((first|((with_reducible (first|apply oA|apply oB));exact rfl;intro K hK)|(refine hK _ ?_;clear hK K)|((with_reducible (first|apply oG|apply oH));iterate 3 exact rfl)|((with_reducible apply oI);(iterate 2 exact rfl);intro K hK)|(with_reducible (first|apply wI|apply wJ|apply wK)));try simp only [go_sem,simprocAttr,hb,hx,hv,xW,hvl,oU])|(show dB _ (.region 15 _ _) _ _;(refine iE hX 54 4 302 300 rfl rfl rfl (by first|exact .inl rfl|exact .inr rfl) (by decide) (by decide) ?_;simp only [LA.app,ASt.put,ASt.kill,subT,rmk,putM,rml,kl,AV.sub,AV.subs,AObj.sub,List.set_cons_zero,List.set_cons_succ,go_sem,simprocAttr,hb,hx,hv,xW,hvl,oU]);(refine iE hX 54 5 303 301 rfl rfl rfl (by first|exact .inl rfl|exact .inr rfl) (by decide) (by decide) ?_;simp only [LA.app,ASt.put,ASt.kill,subT,rmk,putM,rml,kl,AV.sub,AV.subs,AObj.sub,List.set_cons_zero,List.set_cons_succ,go_sem,simprocAttr,hb,hx,hv,xW,hvl,oU]))|(with_reducible (first|apply oC|apply oJ|exact oK|apply wA|apply wB|apply wC hX hC|apply wD hX hC|apply wE hX hC af|apply wF hX hC af|apply wG|apply wH|apply And.intro))|((with_reducible refine oD ?_ ?_);first|fail|kernel_rfl)|((with_reducible (first|apply oE|apply oF));(iterate 3 exact rfl);all_goals (intro h;first|(exact absurd h (by decide))|((try simp only [go_sem,simprocAttr,hb,hx,hv,xW,hvl,oU] at h);(try with_reducible intro K hK);simp only [go_sem,simprocAttr,hb,hx,hv,xW,hvl,oU])))|((first|((with_reducible apply wL);exact rfl)|((with_reducible apply wM);exact rfl));all_goals (try ((with_reducible intro h);first|(exact absurd h (by decide))|(try simp only [go_sem,simprocAttr,hb,hx,hv,xW,hvl,oU] at h))))|omega|((first|first|refine aa hX hC hP (hIx) rfl rfl rfl (by simp only [go_sem,simprocAttr,hb,hx,hv,xW,hvl,oU]) rfl ?_|(refine az hX hC hP [(10000,54),(10001,59),(10002,63),(10003,300),(10004,301),(10005,302),(10006,303)] (kg) rfl rfl rfl ?_ ?_ ?_ ?_ ?_ ?_ ?_ ?_ ?_ ?_ ?_ ?_ ?_ ?_;(focus (simp only [go_sem,simprocAttr,hb,hx,hv,xW,hvl,oU];done));(iterate 12 (focus (simp [go_sem,simprocAttr,hb,hx,hv,xW,hvl,oU];done)));simp only [go_sem,simprocAttr,hb,hx,hv,xW,hvl,oU,List.map_cons,List.map_nil]));try simp only [go_sem,simprocAttr,hb,hx,hv,xW,hvl,oU])|(intro h))
  refine ⟨j+1,by omega, ?_,by omega⟩
  rw [EV,hq1,Dp,Og,Oh,Oi]
  refine Le.of ?_ ?_<;>simp [go_sem,simprocAttr,hb,hx,hv,xW,hvl,oU]
 have hb:decide ((j:Int)<(N1:Int))=false:=decide_eq_false (by omega)
 obtain rfl:j=N1:=by omega
 have Oj:j+1=g.n.toNat:=by omega
 rw [Oj]
 have kf:=fD (p:=p) (k:=g.n.toNat)
 have rY:=fF (g:=g) (p:=p) (k:=g.n.toNat)
 have MG:=(pq hrun (k:=g.n.toNat) (by omega)).1
 have Ol:DN g p=⟨arr (LK g p g.n.toNat) g.es.length,(arr (RK g p (-1) g.n.toNat) g.es.length).map (ki g p),gA p g.n.toNat++ [(s0:Int)],nQ g p g.n.toNat++ [au p j]⟩:=by unfold DN;rw [hs0,JN]
 have Om:(arr (RK g p (-1) g.n.toNat) g.es.length).length=g.es.length:=dG
 rw [Ol]
 have hrf:∀f,ki g p f=if f= -1 then (cK p g.n.toNat:Int) else f:=fun f=>rfl
 generalize arr (RK g p (-1) g.n.toNat) g.es.length=RA at Om
 generalize arr (LK g p g.n.toNat) g.es.length=LA
 generalize gA p g.n.toNat=LO at kf
 generalize nQ g p g.n.toNat=HI at rY
 generalize fE g p j=E1
 generalize kY g p j=G1
 generalize cK p g.n.toNat=cc at kf rY MG hrf
 repeat' (first|fail|((first|((with_reducible (first|apply oA|apply oB));exact rfl;intro K hK)|(refine hK _ ?_;clear hK K)|((with_reducible (first|apply oG|apply oH));iterate 3 exact rfl)|((with_reducible apply oI);(iterate 2 exact rfl);intro K hK)|(with_reducible (first|apply wI|apply wJ|apply wK)));try simp only [go_sem,simprocAttr,hb,kf])|fail|(with_reducible (first|apply oC|apply oJ|exact oK|apply wA|apply wB|apply wC hX hC|apply wD hX hC|apply wE hX hC af|apply wF hX hC af|apply wG|apply wH|apply And.intro))|((with_reducible refine oD ?_ ?_);first|fail|kernel_rfl)|((with_reducible (first|apply oE|apply oF));(iterate 3 exact rfl);all_goals (intro h;first|(exact absurd h (by decide))|((try simp only [go_sem,simprocAttr,hb,kf] at h);(try with_reducible intro K hK);simp only [go_sem,simprocAttr,hb,kf])))|((first|((with_reducible apply wL);exact rfl)|((with_reducible apply wM);exact rfl));all_goals (try ((with_reducible intro h);first|(exact absurd h (by decide))|(try simp only [go_sem,simprocAttr,hb,kf] at h))))|omega|((first|fail);try simp only [go_sem,simprocAttr,hb,kf])|(intro h))
 refine an (fun i:Nat=>i≤RA.length) (fun i=>⟨[(4, .ptr 4 0),(12, .ptr 54 0),(17,eN cc),(175, .ref 63),(176,eN RA.length),(177,eN i)], [(54, .box [.d (sI E1), .d (sI G1), .ref 59, .ref 63, .ref 156, .ref 164]),(59, .own 3 1 (LA.map rI)),(63, .own 3 1 ((kZ RA (ki g p) i).map rI)),(156, .tip 3 1 ((LO++ [(s0:Int)]).map rI)),(164, .own 3 1 ((HI++ [au p j]).map rI)),(4, .box [.nil 3, .nil 3, .nil 3, .nil 3])]⟩) (fun i=>RA.length - i) 0 (by omega) ?_ ?_
 ·refine Le.of ?_ ?_<;>simp [go_sem,simprocAttr,kZ,rI]
 rintro i hi
 rcases Nat.lt_or_ge i RA.length with hil|Ld
 ·have uW:decide ((i:Int)<(RA.length:Int))=true:=decide_eq_true (by omega)
  have hml:=Cx (l:=RA) (f:=ki g p) (j:=i)
  have hma:=yS (f:=ki g p) hil
  by_cases zn:RA.getD i 0= -1
  ·have aj:decide ((kZ RA (ki g p) i).getD i 0= -1)=true:=decide_eq_true (by rw [hma,zn])
   have eA:=tC (f:=ki g p) hil
   rw [hrf,if_pos zn] at eA
   generalize kZ RA (ki g p) i=M at hml aj eA
   repeat' (first|fail|((first|((with_reducible (first|apply oA|apply oB));exact rfl;intro K hK)|(refine hK _ ?_;clear hK K)|((with_reducible (first|apply oG|apply oH));iterate 3 exact rfl)|((with_reducible apply oI);(iterate 2 exact rfl);intro K hK)|(with_reducible (first|apply wI|apply wJ|apply wK)));try simp only [go_sem,simprocAttr,uW,aj,hml])|fail|(with_reducible (first|apply oC|apply oJ|exact oK|apply wA|apply wB|apply wC hX hC|apply wD hX hC|apply wE hX hC af|apply wF hX hC af|apply wG|apply wH|apply And.intro))|((with_reducible refine oD ?_ ?_);first|fail|kernel_rfl)|((with_reducible (first|apply oE|apply oF));(iterate 3 exact rfl);all_goals (intro h;first|(exact absurd h (by decide))|((try simp only [go_sem,simprocAttr,uW,aj,hml] at h);(try with_reducible intro K hK);simp only [go_sem,simprocAttr,uW,aj,hml])))|((first|((with_reducible apply wL);exact rfl)|((with_reducible apply wM);exact rfl));all_goals (try ((with_reducible intro h);first|(exact absurd h (by decide))|(try simp only [go_sem,simprocAttr,uW,aj,hml] at h))))|omega|((first|fail);try simp only [go_sem,simprocAttr,uW,aj,hml])|(intro h))
   refine ⟨i+1,by omega, ?_,by omega⟩
   rw [eA]
   refine Le.of ?_ ?_<;>simp [go_sem,simprocAttr,uW,aj,hml,rI]
  ·have aj:decide ((kZ RA (ki g p) i).getD i 0= -1)=false:=decide_eq_false (by rw [hma];exact zn)
   have eA:=Aa (f:=ki g p) hil (by rw [hrf,if_neg zn])
   generalize kZ RA (ki g p) i=M at hml aj eA
   repeat' (first|fail|((first|((with_reducible (first|apply oA|apply oB));exact rfl;intro K hK)|(refine hK _ ?_;clear hK K)|((with_reducible (first|apply oG|apply oH));iterate 3 exact rfl)|((with_reducible apply oI);(iterate 2 exact rfl);intro K hK)|(with_reducible (first|apply wI|apply wJ|apply wK)));try simp only [go_sem,simprocAttr,uW,aj,hml])|fail|(with_reducible (first|apply oC|apply oJ|exact oK|apply wA|apply wB|apply wC hX hC|apply wD hX hC|apply wE hX hC af|apply wF hX hC af|apply wG|apply wH|apply And.intro))|((with_reducible refine oD ?_ ?_);first|fail|kernel_rfl)|((with_reducible (first|apply oE|apply oF));(iterate 3 exact rfl);all_goals (intro h;first|(exact absurd h (by decide))|((try simp only [go_sem,simprocAttr,uW,aj,hml] at h);(try with_reducible intro K hK);simp only [go_sem,simprocAttr,uW,aj,hml])))|((first|((with_reducible apply wL);exact rfl)|((with_reducible apply wM);exact rfl));all_goals (try ((with_reducible intro h);first|(exact absurd h (by decide))|(try simp only [go_sem,simprocAttr,uW,aj,hml] at h))))|omega|((first|fail);try simp only [go_sem,simprocAttr,uW,aj,hml])|(intro h))
   refine ⟨i+1,by omega, ?_,by omega⟩
   rw [eA]
   refine Le.of ?_ ?_<;>simp [go_sem,simprocAttr,uW,aj,hml,rI]
 have uW:decide ((i:Int)<(RA.length:Int))=false:=decide_eq_false (by omega)
 obtain rfl:i=RA.length:=by omega
 rw [Cy]
 repeat' (first|fail|((first|((with_reducible (first|apply oA|apply oB));exact rfl;intro K hK)|(refine hK _ ?_;clear hK K)|((with_reducible (first|apply oG|apply oH));iterate 3 exact rfl)|((with_reducible apply oI);(iterate 2 exact rfl);intro K hK)|(with_reducible (first|apply wI|apply wJ|apply wK)));try simp only [go_sem,simprocAttr,uW,fh])|fail|(with_reducible (first|apply oC|apply oJ|exact oK|apply wA|apply wB|apply wC hX hC|apply wD hX hC|apply wE hX hC af|apply wF hX hC af|apply wG|apply wH|apply And.intro))|((with_reducible refine oD ?_ ?_);first|fail|kernel_rfl)|((with_reducible (first|apply oE|apply oF));(iterate 3 exact rfl);all_goals (intro h;first|(exact absurd h (by decide))|((try simp only [go_sem,simprocAttr,uW,fh] at h);(try with_reducible intro K hK);simp only [go_sem,simprocAttr,uW,fh])))|((first|((with_reducible apply wL);exact rfl)|((with_reducible apply wM);exact rfl));all_goals (try ((with_reducible intro h);first|(exact absurd h (by decide))|(try simp only [go_sem,simprocAttr,uW,fh] at h))))|omega|((first|fail);try simp only [go_sem,simprocAttr,uW,fh])|(intro h))
end Go.Ab
end
section
namespace Go.Ab
open Go.Proofs
set_option maxRecDepth 10000
set_option linter.unusedSectionVars false
section
variable (g:Gr) (p:Pl)
def cN:Nat:=cK p g.n.toNat
def Lf (e:Int):Int:=LK g p g.n.toNat e
def Rf (e:Int):Int:=RK g p (cN g p) g.n.toNat e
def Em:List Int:=gA p g.n.toNat++ [au p 0]
def IY:List Int:=nQ g p g.n.toNat++ [au p (g.n.toNat - 1)]
def MH (f:Int):Int:=(Em g p).getD f.toNat 0
def On (f:Int):Int:=(IY g p).getD f.toNat 0
end
section
variable {g:Gr} {p:Pl}
theorem DO:(Em g p).length=cN g p+1:=by simp [Em,fD,cN]
variable (h:cA g p) (hI:kS g=true)
include h hI
theorem IZ {a:Int} (ha:(ff g p).DZ a):∃k u b v,k<g.n.toNat∧pY g a=au p k∧bE p (au p k)=u++a::b::v:=by
 obtain ⟨x,u,b,v,e⟩:=ha
 by_cases hx:oS g x
 ·obtain ⟨k,hk,rfl⟩:=fC h.2.1 hx.1 hx.2
  rw [gN hx] at e
  exact ⟨k,u,b,v,hk,(mH h hk e).1,e⟩
 ·rw [nN hx] at e;cases u<;>cases e
theorem yT {a:Int} (ha:(ff g p).DZ a):∃f:Nat,1≤f∧f<cN g p∧∀r,RK g p r g.n.toNat a=f:=by
 obtain ⟨k,u,b,v,hk,_,e⟩:=IZ h hI ha
 have hl:(bE p (au p k)).length=u.length+(v.length+2):=by rw [e];simp
 have Dz:cK p (k+1)=cK p k+((bE p (au p k)).length - 1):=rfl
 obtain ⟨d,hd⟩:=Nat.exists_eq_add_of_le (show k+1≤g.n.toNat by omega)
 have hmo:=lC (p:=p) (k:=k+1) (d:=d)
 rw [← hd] at hmo
 have hp:0<cK p k:=kU
 have EK:cN g p=cK p g.n.toNat:=rfl
 exact ⟨cK p k+u.length,by omega,by omega,fun r=>by rw [gO h hk e (by omega) (Nat.le_refl _)];omega⟩
theorem Cz {f:Nat} (h1:1≤f) (h2:f<cN g p):∃a,(ff g p).DZ a∧Rf g p a=f:=by
 have key:∀n,n≤g.n.toNat→f<cK p n→∃k,k<n∧cK p k≤f∧f<cK p (k+1):=by
  intro n
  induction n with
  |zero=>intro _ h3;have:f<1:=h3;omega
  |succ n ih=>
   intro h3 h4
   by_cases h5:f<cK p n
   ·obtain ⟨k,h6,h7⟩:=ih (by omega) h5;exact ⟨k,by omega,h7⟩
   ·exact ⟨n,by omega,by omega,h4⟩
 obtain ⟨k,hk,h3,h4⟩:=key g.n.toNat (Nat.le_refl _) h2
 have Dz:cK p (k+1)=cK p k+((bE p (au p k)).length - 1):=rfl
 have hu:f - cK p k+1<(bE p (au p k)).length:=by omega
 have e:bE p (au p k)=(bE p (au p k)).take (f - cK p k)++(bE p (au p k))[f - cK p k]::(bE p (au p k))[f - cK p k+1]::(bE p (au p k)).drop (f - cK p k+2):=by
  rw [← List.drop_eq_getElem_cons hu, ← List.drop_eq_getElem_cons (by omega),List.take_append_drop]
 have hx:=aF h.2.1 (show k<g.n.toNat by omega)
 refine ⟨(bE p (au p k))[f - cK p k],⟨au p k,_,_,_,by rw [gN hx];exact e⟩, ?_⟩
 unfold Rf
 rw [gO h (by omega) e (by omega) (Nat.le_refl _),List.length_take]
 omega
theorem fG:(ff g p).gB (Lf g p) (Rf g p) 0 (cN g p) (MH g p):=by
 have F:=mI h hI (r:=cN g p) (.inr (Int.le_refl _))
 exact {F with
  new:=fun {x u a b v} e=>by
   obtain ⟨h1,h2,h3⟩:=F.new e
   obtain ⟨f,_,h5,h6⟩:=yT h hI (a:=a) ⟨x,u,b,v,e⟩
   have h7:Rf g p a=f:=h6 _
   have h8:RK g p (cN g p) g.n.toNat a=f:=h6 _
   refine ⟨?_,h2,h3⟩
   rw [h8] at h1
   show (gA p g.n.toNat++ [au p 0]).getD (Rf g p a).toNat 0=x
   rw [h7, ← h1,Int.toNat_natCast,fz (by rw [fD];exact h5)]}
theorem CA {e:Int} (he:0≤e∧e<g.es.length):ki g p (RK g p (-1) g.n.toNat e)=Rf g p e:=by
 have F:=mI h hI (r:= -1) (.inl (by omega))
 have F':=mI h hI (r:=cN g p) (.inr (Int.le_refl _))
 rcases Az (lR h hI) F F' (d:=_+1) (Nat.lt_succ_self _) (e:=e) he with ⟨h1,h2⟩|⟨a,h1,_,h2,h3⟩
 ·rw [h1];unfold ki Rf;rw [if_pos rfl,h2];rfl
 ·obtain ⟨f,h4,_,h5⟩:=yT h hI h1
  unfold ki Rf
  rw [h2,h3,h5,h5,if_neg (by omega)]
theorem Fs:DN g p=⟨arr (Lf g p) g.es.length,arr (Rf g p) g.es.length,Em g p,IY g p⟩:=by
 unfold DN
 have:(arr (RK g p (-1) g.n.toNat) g.es.length).map (ki g p)=arr (Rf g p) g.es.length:=by
  unfold arr
  rw [List.map_map]
  refine List.map_congr_left fun i hi=> ?_
  have:=List.mem_range.1 hi
  exact CA h hI (e:=(i:Int)) (by omega)
 rw [this];rfl
theorem xX {x x':Int} {u u' v v':List Int} {a b a' b':Int} (e1:(ff g p).ins x=u++a::b::v) (e2:(ff g p).ins x'=u'++a'::b'::v') (hR:Rf g p a=Rf g p a'):x=x':=by
 have hok:=lR h hI
 have F:=fG h hI
 obtain ⟨ha,A6⟩:=(hok.bV x a).1 (by rw [e1];simp)
 obtain ⟨hb,ug⟩:=(hok.bV x b).1 (by rw [e1];simp)
 obtain ⟨DX,I0⟩:=(hok.bV x' a').1 (by rw [e2];simp)
 obtain ⟨hb',LP⟩:=(hok.bV x' b').1 (by rw [e2];simp)
 by_cases hne:a=a'
 ·rw [← A6, ← I0,hne]
 ·exfalso
  have l1:=F.lW e1
  have l2:=F.lW e2
  rcases yY hok F ha DX hne with h1|h1|h1|h1
  ·rw [A6, ← ug] at h1
   exact mP hok F hb DX h1 (by rw [← hR,l1];exact .refl)
  ·rw [I0, ← LP] at h1
   exact mP hok F hb' ha h1 (by rw [hR,l2];exact .refl)
  ·rw [hR] at h1
   exact ku hok F DX DX h1 h1
  ·rw [← hR] at h1
   exact ku hok F ha ha h1 h1
theorem Af {k:Nat} (hk:k<g.n.toNat) {a:Int} (ha:a∈(cl g p (au p k)).dropLast):∃u b v,cl g p (au p k)=u++a::b::v:=by
 have hne:cl g p (au p k)≠ []:=fun h0=>by rw [h0] at ha;cases ha
 obtain ⟨w,c,hw⟩:=cm hne
 rw [hw,List.dropLast_concat] at ha
 obtain ⟨u,v,rfl⟩:=List.append_of_mem ha
 cases v with
 |nil=>exact ⟨u,c, [],by rw [hw];simp⟩
 |cons b v=>exact ⟨u,b,v++ [c],by rw [hw];simp⟩
theorem p9 {k:Nat} (hk:k<g.n.toNat) {f:Int} (hf:f∈iS g p k):1≤f∧∃u a b v,cl g p (au p k)=u++a::b::v∧Rf g p a=f:=by
 obtain ⟨a,ha,rfl⟩:=List.mem_map.1 hf
 obtain ⟨u,b,v,e⟩:=Af h hI hk ha
 have tT:=wP h hk (by rw [e];simp)
 obtain ⟨j,hj,et⟩:=nP h hk (a:=a) (by rw [e];simp)
 have h1:RK g p (-1) k a=RK g p (-1) g.n.toNat a:=by
  rw [dZ h (by omega) et (j:=g.n.toNat) (by omega) (by omega),dZ h (by omega) et (j:=k) (by omega) (by omega)]
 obtain ⟨A,C,e1,hne,_⟩:=j0 h tT hk
 have h2:=uR h hI (k:=k) (by omega) hk a (by
  rw [e1]
  by_cases hC:C= []
  ·subst hC;rw [List.append_nil,cQ h hne];simp [ha]
  ·rw [cQ h hC];simp [(List.dropLast_sublist _).subset ha])
 refine ⟨h2.1,u,a,b,v,e, ?_⟩
 have LQ:0≤a∧a<g.es.length:=((iu h (aF h.2.1 hk)).2 a).1 (by rw [e];simp) |>.1
 rw [← CA h hI LQ, ← h1]
 unfold ki
 rw [if_neg (by omega)]
theorem wT:∀ {k:Nat},k≤g.n.toNat→(nQ g p k).getD 0 0=au p (g.n.toNat - 1)
 |0,_=>rfl
 |k+1,hk=>by
  have ih:=wT (k:=k) (by omega)
  have hl:(nQ g p k).length=cK p k:=fF
  have hp:0<cK p k:=kU
  rw [nQ,fz (by rw [jA];omega)]
  unfold jz
  rw [lD fun i hi=> ?_,ih]
  have:=(p9 h hI (k:=k) (by omega) (f:=(iS g p k).getD i 0) (aZ hi)).1
  omega
theorem CB {j:Nat} (hj:j<g.n.toNat) {f:Int} (hf:f∈iS g p j):∀ {k:Nat},j+1≤k→k≤g.n.toNat→(nQ g p k).getD f.toNat 0=au p j
 |0,h1,_=>by omega
 |k+1,h1,hk=>by
  have LR:=uS h hI hj f hf
  have hl:(nQ g p j).length=cK p j:=fF
  have hlk:(nQ g p k).length=cK p k:=fF
  obtain ⟨d,rfl⟩:=Nat.exists_eq_add_of_le (show j≤k by omega)
  have hmo:=lC (p:=p) (k:=j) (d:=d)
  rw [nQ,fz (by rw [jA];omega)]
  unfold jz
  by_cases hd:d=0
  ·subst hd
   obtain ⟨i,hi,e⟩:=List.mem_iff_getElem.1 hf
   have e2:(iS g p (j+0)).getD i 0=f:=by rw [List.getD_eq_getElem?_getD,List.getElem?_eq_getElem (by exact hi)];exact e
   have:∀n,i<n→n≤(iS g p j).length→(iw (nQ g p j) (iS g p j) (fun _=>au p j) n).getD f.toNat 0=au p j:=by
    intro n
    induction n with
    |zero=>intro h2;omega
    |succ n ih=>
     intro h2 h3
     rw [iw,List.getD_eq_getElem?_getD,List.getElem?_set]
     by_cases h4:((iS g p j).getD n 0).toNat=f.toNat
     ·rw [if_pos h4,if_pos (by rw [e8];omega)];rfl
     ·rw [if_neg h4, ← List.getD_eq_getElem?_getD]
      by_cases h5:i=n
      ·subst h5;exact absurd (by rw [show (iS g p j).getD i 0=f from e2]) h4
      ·exact ih (by omega) (by omega)
   exact this _ hi (Nat.le_refl _)
  ·rw [lD fun i hi e=> ?_,CB hj hf (k:=j+d) (by omega) (by omega)]
   obtain ⟨g1,u,a,b,v,g2,g3⟩:=p9 h hI (k:=j+d) (by omega) (f:=(iS g p (j+d)).getD i 0) (aZ hi)
   obtain ⟨g4,u',a',b',v',g5,g6⟩:=p9 h hI hj hf
   have:=xX h hI (x:=au p (j+d)) (x':=au p j) (by rw [gy (aF h.2.1 (by omega))];exact g2) (by rw [gy (aF h.2.1 hj)];exact g5) (by rw [g3,g6];omega)
   have:=dx h.2.1 (show j+d<g.n.toNat by omega) hj this
   omega
theorem I1:(ff g p).Hi (Rf g p) 0 (cN g p) (On g p) where
 mid:=fun {x u a b v} e=>by
  by_cases hx:oS g x
  rotate_left
  ·rw [lB hx] at e;cases u<;>cases e
  obtain ⟨k,hk,rfl⟩:=fC h.2.1 hx.1 hx.2
  rw [gy hx] at e
  have ha:a∈(cl g p (au p k)).dropLast:=by
   rw [e,show u++a::b::v=(u++ [a])++(b::v) by simp,cQ h (by simp)];simp
  have hf:RK g p (-1) k a∈iS g p k:=List.mem_map_of_mem ha
  obtain ⟨j,hj,et⟩:=nP h hk (a:=a) (by rw [e];simp)
  have h1:RK g p (-1) k a=RK g p (-1) g.n.toNat a:=by
   rw [dZ h (by omega) et (j:=g.n.toNat) (by omega) (by omega),dZ h (by omega) et (j:=k) (by omega) (by omega)]
  have h2:=(p9 h hI hk hf).1
  have LQ:0≤a∧a<g.es.length:=((iu h (aF h.2.1 hk)).2 a).1 (by rw [e];simp) |>.1
  have h3:Rf g p a=RK g p (-1) k a:=by
   rw [← CA h hI LQ, ← h1];unfold ki;rw [if_neg (by omega)]
  have h4:=CB h hI hk hf (k:=g.n.toNat) (by omega) (Nat.le_refl _)
  have LR:=uS h hI hk _ hf
  have hl:(nQ g p k).length=cK p k:=fF
  obtain ⟨d,hd⟩:=Nat.exists_eq_add_of_le (show k≤g.n.toNat by omega)
  have hmo:=lC (p:=p) (k:=k) (d:=d)
  rw [← hd] at hmo
  show (nQ g p g.n.toNat++_).getD (Rf g p a).toNat 0=_
  rw [h3,fz (by rw [fF];omega),h4]
 h0:=by
  have hp:0<cK p g.n.toNat:=kU
  show (nQ g p g.n.toNat++_).getD 0 0=_
  rw [fz (by rw [fF];exact hp),wT h hI (Nat.le_refl _)];rfl
 h1:=by
  show (nQ g p g.n.toNat++_).getD ((cN g p:Int)).toNat 0=_
  rw [Int.toNat_natCast,show cN g p=(nQ g p g.n.toNat).length by rw [fF];rfl]
  exact jB
theorem DP:MH g p (cN g p)=au p 0:=by
 show (gA p g.n.toNat++ [au p 0]).getD ((cN g p:Int)).toNat 0=_
 rw [Int.toNat_natCast,show cN g p=(gA p g.n.toNat).length by rw [fD];rfl]
 exact jB
theorem En {e:Int} (he:0≤e∧e<g.es.length):1≤Rf g p e∧Rf g p e≤cN g p:=by
 have hp:0<cK p g.n.toNat:=kU
 rcases Az (lR h hI) (fG h hI) (fG h hI) (d:=_+1) (Nat.lt_succ_self _) (e:=e) he with ⟨h1,_⟩|⟨a,h1,_,h2,_⟩
 ·rw [h1];have:cN g p=cK p g.n.toNat:=rfl;omega
 ·obtain ⟨f,h3,h4,h5⟩:=yT h hI h1
  have h5:Rf g p a=f:=h5 _
  omega
theorem Eo {e:Int} (he:0≤e∧e<g.es.length):0≤Lf g p e∧Lf g p e<cN g p:=by
 have hp:0<cK p g.n.toNat:=kU
 rcases D2 (lR h hI) (fG h hI) (fG h hI) (d:=_+1) (Nat.lt_succ_self _) (e:=e) he with ⟨h1,_⟩|⟨a,h1,h2,_⟩
 ·rw [h1];have:cN g p=cK p g.n.toNat:=rfl;omega
 ·obtain ⟨f,h3,h4,h5⟩:=yT h hI h1
  have h5:Rf g p a=f:=h5 _
  omega
theorem I2:(cN g p:Int)=g.es.length - g.n+2:=by
 have hm:=aG h.1
 have hn:=aY hm
 have th:bE p (au p (g.n.toNat - 1))= []:=(ej h hI (aF h.2.1 (by omega))).2 rfl
 have key:∀k,k<g.n.toNat→(cK p k:Int)=1+((List.range k).flatMap fun j=>bE p (au p j)).length - k:=by
  intro k
  induction k with
  |zero=>intro _;simp [cK]
  |succ k ih=>
   intro hk
   have hO:bE p (au p k)≠ []:=fun h1=>by
    have:=(ej h hI (aF h.2.1 (show k<g.n.toNat by omega))).1 h1
    have:=dx h.2.1 (show k<g.n.toNat by omega) (by omega) this
    omega
   have:=List.length_pos_iff.2 hO
   have ih:=ih (by omega)
   have e1:((List.range (k+1)).flatMap fun j=>bE p (au p j))=((List.range k).flatMap fun j=>bE p (au p j))++bE p (au p k):=by rw [List.range_succ,List.flatMap_append];simp
   rw [e1,List.length_append,cK]
   omega
 have hall:((List.range (g.n.toNat - 1)).flatMap fun j=>bE p (au p j)).length=g.es.length:=by
  have bT:∀k,k≤g.n.toNat→((List.range k).flatMap fun j=>bE p (au p j)).Nodup:=by
   intro k
   induction k with
   |zero=>intro _;simp
   |succ k ih=>
    intro hk
    rw [List.range_succ,List.flatMap_append,List.nodup_append]
    refine ⟨ih (by omega),by simpa using Cq h (by omega),fun a ha b hb e=> ?_⟩
    subst e
    obtain ⟨j,hj,hja⟩:=List.mem_flatMap.1 ha
    have hj:=List.mem_range.1 hj
    have hb:a∈bE p (au p k):=by simpa using hb
    have t1:=(iJ h (by omega) hja).2
    have t2:=(iJ h (by omega) hb).2
    have:=dx h.2.1 (show j<g.n.toNat by omega) (by omega) (t1.symm.trans t2)
    omega
  have I3:∀e:Int,0≤e→e<g.es.length→e∈((List.range (g.n.toNat - 1)).flatMap fun j=>bE p (au p j)):=fun e h1 h2=>by
   have ht:=bS hm (i:=e.toNat) (by omega)
   obtain ⟨k,hk,e1⟩:=fC h.2.1 ht.1 ht.2
   have e1:au p k=pY g e:=e1
   obtain ⟨u,v,e2⟩:=yR h hk ⟨h1,h2⟩ e1.symm
   refine List.mem_flatMap.2 ⟨k,List.mem_range.2 ?_,by rw [e2];simp⟩
   refine Decidable.byContradiction fun hc=> ?_
   obtain rfl:k=g.n.toNat - 1:=by omega
   rw [th] at e2;cases u<;>cases e2
  have h1:=oa I3
  have h2:=eO (m:=(List.range g.es.length).map Int.ofNat) (bT (g.n.toNat - 1) (by omega)) fun e he=>by
   obtain ⟨j,hj,hja⟩:=List.mem_flatMap.1 he
   have hj:=List.mem_range.1 hj
   have:=(iJ h (by omega) hja).1
   exact List.mem_map.2 ⟨e.toNat,List.mem_range.2 (by omega),by simp;omega⟩
  rw [List.length_map,List.length_range] at h2
  omega
 have h1:=key (g.n.toNat - 1) (by omega)
 rw [hall] at h1
 have h2:cN g p=cK p (g.n.toNat - 1):=by
  show cK p g.n.toNat=_
  rw [show g.n.toNat=(g.n.toNat - 1)+1 by omega,cK,show g.n.toNat - 1+1 - 1=g.n.toNat - 1 by omega,th];rfl
 omega
theorem Ft (h0:0<g.es.length):2≤g.n:=by
 have hm:=aG h.1
 have ht:=bS hm (i:=0) h0
 have hh:=cI hm (i:=0) h0
 obtain ⟨k,hk,e⟩:=fC h.2.1 hh.1 hh.2
 obtain ⟨j,hj,_⟩:=rR h (e:=0) (by omega) hk e.symm
 omega
end
end Go.Ab
end
section
namespace Go.Ab
open Go.Proofs
set_option maxRecDepth 10000
def CC (q:Nat→Bool):Nat→Nat
 |0=>0
 |n+1=>CC q n ||| (if q n then 2 ^ n else 0)
theorem nR {q:Nat→Bool} {y:Nat} :∀ {n:Nat},(CC q n).testBit y=(decide (y<n)&&q y)
 |0=>by simp [CC]
 |n+1=>by
  rw [CC,Nat.testBit_or,nR]
  by_cases h:y=n
  ·subst h
   cases hq:q y<;>simp [Nat.testBit_two_pow_self]
  ·have h2:(if q n then 2 ^ n else 0).testBit y=false:=by
    split
    ·rw [Nat.testBit_two_pow];exact decide_eq_false fun e=>h e.symm
    ·simp
   rw [h2,Bool.or_false]
   congr 1
   rw [decide_eq_decide];omega
inductive Ar (g:Gr) (both:Bool) (c:Nat→Bool) (x:Nat):Nat→Prop
 |refl:Ar g both c x x
 |fwd {i:Nat} :i<g.es.length→c i=true→Ar g both c x (tl g i).toNat→Ar g both c x (hd g i).toNat
 |MI {i:Nat} :i<g.es.length→c i=true→both=true→Ar g both c x (hd g i).toNat→Ar g both c x (tl g i).toNat
theorem Ar.trans {g:Gr} {both:Bool} {c:Nat→Bool} {x y z:Nat} (h1:Ar g both c x y) (h2:Ar g both c y z):Ar g both c x z:=by
 induction h2 with
 |refl=>exact h1
 |fwd a b _ ih=>exact .fwd a b ih
 |MI a b d _ ih=>exact .MI a b d ih
open Classical in
noncomputable def LS (g:Gr) (both:Bool) (c:Nat→Bool) (x:Nat):Nat:=CC (fun y=>decide (Ar g both c x y)) g.n.toNat
noncomputable def Oo (g:Gr) (both:Bool) (c:Nat→Bool):List Nat:=(List.range g.n.toNat).map (LS g both c)
open Classical in
theorem Jq {g:Gr} {both:Bool} {c:Nat→Bool} {x y:Nat} :(LS g both c x).testBit y=true↔y<g.n.toNat∧Ar g both c x y:=by
 unfold LS
 rw [nR]
 simp
def I4 (g:Gr) (both:Bool) (c:Nat→Bool) (a:List Nat):Nat→List Nat × Bool
 |0=>(a,false)
 |k+1=>
  let s:=I4 g both c a k
  if c k=true then
   let t:=s.1.getD (tl g k).toNat 0 ||| s.1.getD (hd g k).toNat 0
   let h:=if both=true then t else s.1.getD (hd g k).toNat 0
   ((s.1.set (tl g k).toNat t).set (hd g k).toNat h,s.2||(decide (t≠s.1.getD (tl g k).toNat 0)||decide (h≠s.1.getD (hd g k).toNat 0)))
  else s
structure MJ (g:Gr) (both:Bool) (c:Nat→Bool) (a:List Nat):Prop where
 len:a.length=g.n.toNat
 own:∀x,x<g.n.toNat→(a.getD x 0).testBit x=true
 snd:∀x y,x<g.n.toNat→(a.getD x 0).testBit y=true→y<g.n.toNat∧Ar g both c x y
theorem MJ.lt {g:Gr} {both:Bool} {c:Nat→Bool} {a:List Nat} (h:MJ g both c a) (hn:g.n.toNat≤64) (x:Nat):a.getD x 0<18446744073709551616:=by
 by_cases hx:x<g.n.toNat
 ·have:a.getD x 0<2 ^ 64:=Nat.lt_pow_two_of_testBit _ fun i hi=>by
   cases hb:(a.getD x 0).testBit i with
   |false=>rfl
   |true=>have:=(h.snd x i hx hb).1;omega
  simpa using this
 ·rw [List.getD_eq_getElem?_getD,List.getElem?_eq_none (by rw [h.len];omega)];simp
def Oq (a:List Nat):Nat:=a.foldr (· + ·) 0
end Go.Ab
end
section
namespace Go.Ab
open Go.Proofs
attribute [local congr] ACall.congr
set_option maxRecDepth 20000
set_option maxHeartbeats 8000000
def rU (n:Nat):List D:= [.sc (.int .u64 (n:Int))]
def eU (n:Nat):AV:= .d (.sc (.int .u64 (n:Int)))
def sU (l:List Nat):D:= .sl 1 (l.map rU)
theorem getD_rU (ps:List Nat) (i:Nat):(ps.map rU).getD i [.sc (.int .u64 0)]= [.sc (.int .u64 ((ps.getD i 0:Nat):Int))]:=by
 rw [List.getD_eq_getElem?_getD,List.getElem?_map,List.getD_eq_getElem?_getD]
 cases ps[i]? <;>rfl
attribute [go_sem] eU sU getD_rU InU
end Go.Ab
end
section
namespace Go.Ab
open Go.Proofs
attribute [local congr] ACall.congr
set_option maxRecDepth 20000
set_option maxHeartbeats 8000000
def LU (k:Nat):List Nat:=(List.range k).map fun x=>2 ^ x
def MK (g:Gr):List Nat:=if aT g=true then LU g.n.toNat else []
theorem Ej {l:List Nat} :∀r∈l.map rU,∀x∈r,∃v,x=D.sc v:=by
 intro r hr x hx
 obtain ⟨y,_,rfl⟩:=List.mem_map.1 hr
 simp only [rU,List.mem_singleton] at hx
 exact ⟨_,hx⟩
noncomputable def O7 (g:Gr):List Nat:=if aT g=true then Oo g false (fun _=>true) else []
end Go.Ab
end
section
namespace Go.Ab
open Go.Proofs
set_option maxRecDepth 10000
set_option linter.unusedSectionVars false
def Ot (s:Nat) (x:Int):Bool:=decide (0≤x)&&decide (x<64)&&s.testBit x.toNat
section
variable {P:PS} (h:P.Ok) {L R:Int→Int} {f0 f1:Int} {low:Int→Int} (F:P.gB L R f0 f1 low)
def DQ (P:PS) (R:Int→Int) (f:Int):Nat→Nat
 |0=>0
 |j+1=>if R (P.sh j)=f then j+1 else DQ P R f j
theorem yU {i:Nat} {f:Int} (hf:R (P.sh i)=f):∀ {m:Nat},i<m→i+1≤DQ P R f m
 |0,h=>by omega
 |m+1,h=>by
  unfold DQ
  split
  ·omega
  ·rename_i hne
   by_cases e:i=m
   ·subst e;exact absurd hf hne
   ·exact yU hf (by omega)
theorem CD {i:Nat} {f:Int} :∀ {m:Nat},(∀j,j<m→R (P.sh j)=f→j<i)→DQ P R f m≤i
 |0,_=>Nat.zero_le _
 |m+1,hj=>by
  unfold DQ
  split
  ·rename_i e;exact hj m (by omega) e
  ·exact CD fun j h1 h2=>hj j (by omega) h2
include h F
theorem DR {e:Int} (he:P.E e):DQ P R (L e) P.m<DQ P R (R e) P.m:=by
 obtain ⟨i,hi,rfl⟩:=dD h he
 have h1:=yU (P:=P) (R:=R) (i:=i) (f:=R (P.sh i)) rfl hi
 have h2:DQ P R (L (P.sh i)) P.m≤i:=CD fun j hj hR=>sC h F hj hi (by rw [hR];exact .refl)
 omega
end
theorem wU {f:Edge→Int} {g:Gr} {x:Int} (h:∀y,y∈bp f g↔y=x):bp f g= [x]:=by
 have hn:=mG (f:=f) (g:=g)
 match hb:bp f g with
 | []=>have:=(h x).2 rfl;rw [hb] at this;cases this
 | [a]=>have:=(h a).1 (by rw [hb];simp);rw [this]
 |a::c::l=>
  have h1:=(h a).1 (by rw [hb];simp)
  have h2:=(h c).1 (by rw [hb];simp)
  rw [hb,h1,h2] at hn
  simp at hn
theorem Ag {g:Gr} {y:Int} :y∈bp (·.1) g↔(0≤y∧y<g.n)∧∀i,i<g.es.length→tl g i≠y:=by
 rw [jw]
 refine and_congr_right fun _=> ?_
 constructor
 ·intro h i hi e
  have:((i:Nat):Int)∈aW (fun e=>e.1) g.es g.es.length y:=bZ.2 ⟨by omega,by simp only [Int.toNat_natCast];exact e⟩
  rw [h] at this;cases this
 ·intro h
  refine List.eq_nil_iff_forall_not_mem.2 fun e he=> ?_
  obtain ⟨h1,h2⟩:=bZ.1 he
  exact h e.toNat (by omega) h2
section
variable (g:Gr) (p:Pl)
def nS:Gr:=⟨(cN g p:Int)+1,(List.range g.es.length).map fun i:Nat=>(Lf g p i,Rf g p i)⟩
end
section
variable {g:Gr} {p:Pl}
theorem lE:(nS g p).es.length=g.es.length:=by simp [nS]
theorem xY {i:Nat} (hi:i<g.es.length):tl (nS g p) i=Lf g p i:=by
 show ((nS g p).es.getD i (0,0)).1=_
 simp [nS,List.getD_eq_getElem?_getD,List.getElem?_range hi]
theorem xZ {i:Nat} (hi:i<g.es.length):hd (nS g p) i=Rf g p i:=by
 show ((nS g p).es.getD i (0,0)).2=_
 simp [nS,List.getD_eq_getElem?_getD,List.getElem?_range hi]
variable (h:cA g p) (hI:kS g=true)
include h hI
theorem DS (h0:0<g.es.length) (hl:g.es.length≤60):aT (nS g p)=true:=by
 have he:=I2 h hI
 have hn:=Ft h hI h0
 unfold aT
 have hn:(nS g p).n=(cN g p:Int)+1:=rfl
 rw [lE,hn]
 simp only [Bool.and_eq_true,decide_eq_true_eq,Bool.not_eq_true',List.any_eq_false]
 refine ⟨⟨⟨by omega,by omega⟩,by omega⟩,fun e hm=> ?_⟩
 obtain ⟨i,hi,rfl⟩:=List.mem_map.1 hm
 have hi:=List.mem_range.1 hi
 have h1:=Eo h hI (e:=(i:Int)) (by omega)
 have h2:=En h hI (e:=(i:Int)) (by omega)
 simp only [nq,sn,hn,Bool.or_eq_true,decide_eq_true_eq]
 omega
theorem Fu (hm:aT (nS g p)=true):xI (nS g p)=true:=(uK hm).2 ⟨fun f=>DQ (ff g p) (Rf g p) f (ff g p).m,fun i hi=>by
 rw [lE] at hi
 rw [xY hi,xZ hi]
 exact DR (lR h hI) (fG h hI) (e:=(i:Int)) ⟨by omega,by show (i:Int)<(g.es.length:Int);omega⟩⟩
theorem I5 {a:Int} (ha:(ff g p).DZ a):0≤a∧a<g.es.length:=(Ay (lR h hI) (fG h hI) ha).1
theorem Fv (h0:0<g.es.length) {f:Nat} (h1:1≤f) (h2:f≤cN g p):∃e:Int,(0≤e∧e<g.es.length)∧Rf g p e=f:=by
 rcases Nat.lt_or_ge f (cN g p) with hlt|hge
 ·obtain ⟨a,ha,e⟩:=Cz h hI h1 hlt
  exact ⟨a,I5 h hI ha,e⟩
 ·obtain rfl:f=cN g p:=by omega
  obtain ⟨e,h3,h4,_⟩:=AA (lR h hI) (fG h hI) (I1 h hI) h0 (DP h hI) (k:=(cN g p:Int)) (.inl rfl)
  exact ⟨e,h3,h4⟩
theorem Fw (h0:0<g.es.length) {f:Nat} (h2:f<cN g p):∃e:Int,(0≤e∧e<g.es.length)∧Lf g p e=f:=by
 have F:=fG h hI
 by_cases hf:f=0
 ·subst hf
  obtain ⟨B,hB⟩:=eo (lR h hI) (j:=0) h0
  have hB:(ff g p).outs (ff g p).src=(ff g p).sh 0::B:=hB
  exact ⟨(ff g p).sh 0,mN (lR h hI) h0,F.s0 hB⟩
 ·obtain ⟨a,⟨x,u,b,v,e1⟩,e⟩:=Cz h hI (f:=f) (by omega) h2
  have hb:=((lR h hI).dz x b).1 (by rw [e1];simp)
  exact ⟨b,hb.1,by rw [← F.fY e1,e]⟩
theorem DT (h0:0<g.es.length):bp (·.1) (nS g p)= [(cN g p:Int)]:=by
 refine wU fun y=> ?_
 rw [Ag]
 have hn:(nS g p).n=(cN g p:Int)+1:=rfl
 constructor
 ·rintro ⟨⟨h1,h2⟩,h3⟩
  refine Decidable.byContradiction fun hy=> ?_
  obtain ⟨e,he,e2⟩:=Fw h hI h0 (f:=y.toNat) (by omega)
  refine h3 e.toNat (by rw [lE];omega) ?_
  rw [xY (by omega),show ((e.toNat:Nat):Int)=e by omega,e2];omega
 ·rintro rfl
  refine ⟨⟨by omega,by omega⟩,fun i hi e=> ?_⟩
  rw [lE] at hi
  rw [xY hi] at e
  have:=Eo h hI (e:=(i:Int)) (by omega)
  omega
theorem DU (h0:0<g.es.length):bp (·.2) (nS g p)= [0]:=by
 have hmem:∀y,y∈bp (·.2) (nS g p)↔y=0:=fun y=>by
  rw [gu]
  constructor
  ·rintro ⟨⟨h1,h2⟩,h3⟩
   refine Decidable.byContradiction fun hy=> ?_
   have hn:(nS g p).n=(cN g p:Int)+1:=rfl
   obtain ⟨e,he,e2⟩:=Fv h hI h0 (f:=y.toNat) (by omega) (by omega)
   refine h3 e.toNat (by rw [lE];omega) ?_
   rw [xZ (by omega),show ((e.toNat:Nat):Int)=e by omega,e2];omega
  ·rintro rfl
   refine ⟨⟨by omega,by show (0:Int)<(cN g p:Int)+1;omega⟩,fun i hi e=> ?_⟩
   rw [lE] at hi
   rw [xZ hi] at e
   have:=En h hI (e:=(i:Int)) (by omega)
   omega
 exact wU hmem
end
end Go.Ab
end
section
namespace Go.Ab
open Go.Proofs
attribute [local congr] ACall.congr
set_option maxRecDepth 10000
set_option maxHeartbeats 16000000
theorem Ah (g:Gr) (hl:g.es.length≤9223372036854775807) (p:Pl) (hp:pg p) (b:Bool) (hr:b=true↔(cg g).1=0∧bF g p):Spec Tryz.prog 47 (Args [eG g,ePl p]) [] (eB (decide ((bJ b g p).2.1=0))) []:=by
 have hO:=wv g hl p hp b hr
 generalize bJ b g p=R at hO
 (refine Spec.intro (C:=T.cfg [] []) (rs:= [.t 4]) (T.aq _ _) Tryz.func47 rfl rfl Tryz.ntmps47 Tryz.results47 (by simp [AObj.isNest]) (by simp [AObj.isNest]) (by kernel_rfl) ?_;intro X hX hP hC aM aN vals hA;refine ⟨_,by simp,hA, ?_⟩;have af:X.P.follows .mixedOrders=true:=(by rw [hP];exact T.mixed);clear aM aN)
 repeat' (first|fail|((first|((with_reducible (first|apply oA|apply oB));exact rfl;intro K hK)|(refine hK _ ?_;clear hK K)|((with_reducible (first|apply oG|apply oH));iterate 3 exact rfl)|((with_reducible apply oI);(iterate 2 exact rfl);intro K hK)|(with_reducible (first|apply wI|apply wJ|apply wK)));try simp only [go_sem,simprocAttr])|fail|(with_reducible (first|apply oC|apply oJ|exact oK|apply wA|apply wB|apply wC hX hC|apply wD hX hC|apply wE hX hC af|apply wF hX hC af|apply wG|apply wH|apply And.intro))|((with_reducible refine oD ?_ ?_);first|fail|kernel_rfl)|((with_reducible (first|apply oE|apply oF));(iterate 3 exact rfl);all_goals (intro h;first|(exact absurd h (by decide))|((try simp only [go_sem,simprocAttr] at h);(try with_reducible intro K hK);simp only [go_sem,simprocAttr])))|((first|((with_reducible apply wL);exact rfl)|((with_reducible apply wM);exact rfl));all_goals (try ((with_reducible intro h);first|(exact absurd h (by decide))|(try simp only [go_sem,simprocAttr] at h))))|omega|((first|first|refine aa hX hC hP (hO) rfl rfl rfl (by simp only [go_sem,simprocAttr]) rfl ?_);try simp only [go_sem,simprocAttr])|(intro h))
end Go.Ab
end
section
namespace Go.Ab
open Go.Proofs
attribute [local congr] ACall.congr
set_option maxRecDepth 20000
set_option maxHeartbeats 8000000
theorem pE (g:Gr) (hl:g.es.length≤1000) (p:Pl) (hp:pg p) (b:Bool) (hr:b=true↔(cg g).1=0∧bF g p):
 Spec Tryz.prog 17 (Args [eG g,ePl p]) [] (.tup [fh (CU b g p).1,eN (CU b g p).2]) []:=by
 have hO:=lQ g hl p hp b hr
 have Fq:=rO g hl
 by_cases h0:(bJ b g p).2.1=0
 rotate_left
 ·have hK:CU b g p=(p8,1):=if_neg fun h=>h0 h.1.1
  have hb0:decide ((bJ b g p).2.1=0)=false:=decide_eq_false h0
  rw [hK]
  (refine Spec.intro (C:=T.cfg [] []) (rs:= [.c 4 32, .t 5]) (T.aq _ _) Tryz.func17 rfl rfl Tryz.ntmps17 Tryz.results17 (by simp [AObj.isNest]) (by simp [AObj.isNest]) (by kernel_rfl) ?_;intro X hX hP hC aM aN vals hA;refine ⟨_,by simp,hA, ?_⟩;have af:X.P.follows .mixedOrders=true:=(by rw [hP];exact T.mixed);clear aM aN)
  repeat' (first|fail|((first|((with_reducible (first|apply oA|apply oB));exact rfl;intro K hK)|(refine hK _ ?_;clear hK K)|((with_reducible (first|apply oG|apply oH));iterate 3 exact rfl)|((with_reducible apply oI);(iterate 2 exact rfl);intro K hK)|(with_reducible (first|apply wI|apply wJ|apply wK)));try simp only [go_sem,simprocAttr,hb0,fh,p8,List.map_nil])|fail|(with_reducible (first|apply oC|apply oJ|exact oK|apply wA|apply wB|apply wC hX hC|apply wD hX hC|apply wE hX hC af|apply wF hX hC af|apply wG|apply wH|apply And.intro))|((with_reducible refine oD ?_ ?_);first|fail|kernel_rfl)|((with_reducible (first|apply oE|apply oF));(iterate 3 exact rfl);all_goals (intro h;first|(exact absurd h (by decide))|((try simp only [go_sem,simprocAttr,hb0,fh,p8,List.map_nil] at h);(try with_reducible intro K hK);simp only [go_sem,simprocAttr,hb0,fh,p8,List.map_nil])))|((first|((with_reducible apply wL);exact rfl)|((with_reducible apply wM);exact rfl));all_goals (try ((with_reducible intro h);first|(exact absurd h (by decide))|(try simp only [go_sem,simprocAttr,hb0,fh,p8,List.map_nil] at h))))|omega|((first|first|refine aa hX hC hP (hO) rfl rfl rfl (by simp only [go_sem,simprocAttr,hb0,fh,p8,List.map_nil]) rfl ?_);try simp only [go_sem,simprocAttr,hb0,fh,p8,List.map_nil])|(intro h))
 obtain ⟨hrun,hR⟩:=tg hr h0
 cases hI:kS g with
 |false=>
  have hK:CU b g p=(p8,1):=if_neg fun h=>by rw [hI] at h;cases h.1.2
  rw [hR] at hO
  simp only at hO
  rw [hI] at Fq
  rw [hK]
  (refine Spec.intro (C:=T.cfg [] []) (rs:= [.c 4 32, .t 5]) (T.aq _ _) Tryz.func17 rfl rfl Tryz.ntmps17 Tryz.results17 (by simp [AObj.isNest]) (by simp [AObj.isNest]) (by kernel_rfl) ?_;intro X hX hP hC aM aN vals hA;refine ⟨_,by simp,hA, ?_⟩;have af:X.P.follows .mixedOrders=true:=(by rw [hP];exact T.mixed);clear aM aN)
  repeat' (first|fail|((first|((with_reducible (first|apply oA|apply oB));exact rfl;intro K hK)|(refine hK _ ?_;clear hK K)|((with_reducible (first|apply oG|apply oH));iterate 3 exact rfl)|((with_reducible apply oI);(iterate 2 exact rfl);intro K hK)|(with_reducible (first|apply wI|apply wJ|apply wK)));try simp only [go_sem,simprocAttr,fh,p8,List.map_nil])|fail|(with_reducible (first|apply oC|apply oJ|exact oK|apply wA|apply wB|apply wC hX hC|apply wD hX hC|apply wE hX hC af|apply wF hX hC af|apply wG|apply wH|apply And.intro))|((with_reducible refine oD ?_ ?_);first|fail|kernel_rfl)|((with_reducible (first|apply oE|apply oF));(iterate 3 exact rfl);all_goals (intro h;first|(exact absurd h (by decide))|((try simp only [go_sem,simprocAttr,fh,p8,List.map_nil] at h);(try with_reducible intro K hK);simp only [go_sem,simprocAttr,fh,p8,List.map_nil])))|((first|((with_reducible apply wL);exact rfl)|((with_reducible apply wM);exact rfl));all_goals (try ((with_reducible intro h);first|(exact absurd h (by decide))|(try simp only [go_sem,simprocAttr,fh,p8,List.map_nil] at h))))|omega|((first|first|refine aa hX hC hP (hO) rfl rfl rfl (by simp only [go_sem,simprocAttr,fh,p8,List.map_nil]) rfl ?_|refine aa hX hC hP (Fq) rfl rfl rfl (by simp only [go_sem,simprocAttr,fh,p8,List.map_nil]) rfl ?_);try simp only [go_sem,simprocAttr,fh,p8,List.map_nil])|(intro h))
 |true=>
  by_cases hm:0<g.es.length
  ·have hK:CU b g p=(DN g p,0):=if_pos ⟨⟨h0,hI⟩,hm⟩
   rw [hK]
   exact Ae g p hp hrun hI hm b hr
  ·have hK:CU b g p=(p8,1):=if_neg fun h=>hm h.2
   have aj:decide ((g.es.length:Int)=0)=true:=decide_eq_true (by omega)
   rw [hR] at hO
   simp only at hO
   rw [hI] at Fq
   rw [hK]
   (refine Spec.intro (C:=T.cfg [] []) (rs:= [.c 4 32, .t 5]) (T.aq _ _) Tryz.func17 rfl rfl Tryz.ntmps17 Tryz.results17 (by simp [AObj.isNest]) (by simp [AObj.isNest]) (by kernel_rfl) ?_;intro X hX hP hC aM aN vals hA;refine ⟨_,by simp,hA, ?_⟩;have af:X.P.follows .mixedOrders=true:=(by rw [hP];exact T.mixed);clear aM aN)
   repeat' (first|fail|((first|((with_reducible (first|apply oA|apply oB));exact rfl;intro K hK)|(refine hK _ ?_;clear hK K)|((with_reducible (first|apply oG|apply oH));iterate 3 exact rfl)|((with_reducible apply oI);(iterate 2 exact rfl);intro K hK)|(with_reducible (first|apply wI|apply wJ|apply wK)));try simp only [go_sem,simprocAttr,aj,fh,p8,List.map_nil])|fail|(with_reducible (first|apply oC|apply oJ|exact oK|apply wA|apply wB|apply wC hX hC|apply wD hX hC|apply wE hX hC af|apply wF hX hC af|apply wG|apply wH|apply And.intro))|((with_reducible refine oD ?_ ?_);first|fail|kernel_rfl)|((with_reducible (first|apply oE|apply oF));(iterate 3 exact rfl);all_goals (intro h;first|(exact absurd h (by decide))|((try simp only [go_sem,simprocAttr,aj,fh,p8,List.map_nil] at h);(try with_reducible intro K hK);simp only [go_sem,simprocAttr,aj,fh,p8,List.map_nil])))|((first|((with_reducible apply wL);exact rfl)|((with_reducible apply wM);exact rfl));all_goals (try ((with_reducible intro h);first|(exact absurd h (by decide))|(try simp only [go_sem,simprocAttr,aj,fh,p8,List.map_nil] at h))))|omega|((first|first|refine aa hX hC hP (hO) rfl rfl rfl (by simp only [go_sem,simprocAttr,aj,fh,p8,List.map_nil]) rfl ?_|refine aa hX hC hP (Fq) rfl rfl rfl (by simp only [go_sem,simprocAttr,aj,fh,p8,List.map_nil]) rfl ?_);try simp only [go_sem,simprocAttr,aj,fh,p8,List.map_nil])|(intro h))
end Go.Ab
end
section
namespace Go.Ab
open Go.Proofs
attribute [local congr] ACall.congr
set_option maxRecDepth 20000
set_option maxHeartbeats 8000000
def CE (f:Fc) (k:Nat):List Edge:=(List.range k).map fun i:Nat=>(f.L.getD i 0,f.R.getD i 0)
theorem DV {f:Fc} {k:Nat} :(CE f k).length=k:=by simp [CE]
theorem CF {f:Fc} {k:Nat} :(CE f (k+1)).map rE=(CE f k).map rE++ [rE (f.L.getD k 0,f.R.getD k 0)]:=by simp [CE,List.range_succ]
theorem wV (f:Fc) (h1:f.L.length≤100000) (h2:f.R.length=f.L.length):Spec Tryz.prog 23 (Args [fh f]) [] (eG ⟨f.lo.length,CE f f.L.length⟩) []:=by
 have hmin:min (f.L.length:Int) (f.R.length:Int)=f.L.length:=by rw [h2];simp
 (refine Spec.intro (C:=T.cfg [] []) (rs:= [.c 2 24]) (T.aq _ _) Tryz.func23 rfl rfl Tryz.ntmps23 Tryz.results23 (by simp [AObj.isNest]) (by simp [AObj.isNest]) (by kernel_rfl) ?_;intro X hX hP hC aM aN vals hA;refine ⟨_,by simp,hA, ?_⟩;have af:X.P.follows .mixedOrders=true:=(by rw [hP];exact T.mixed);clear aM aN)
 repeat' (first|fail|((first|((with_reducible (first|apply oA|apply oB));exact rfl;intro K hK)|(refine hK _ ?_;clear hK K)|((with_reducible (first|apply oG|apply oH));iterate 3 exact rfl)|((with_reducible apply oI);(iterate 2 exact rfl);intro K hK)|(with_reducible (first|apply wI|apply wJ|apply wK)));try simp only [go_sem,simprocAttr,fh,hmin])|(show dB _ (.seq (.region 2 _ _) _) _ _;(refine vM hX 3 1 200 (.tip 58 2 []) rfl rfl rfl (by simp only [go_sem,simprocAttr,fh,hmin]) (by decide) (by simp [go_sem,simprocAttr,fh,hmin]) ⟨58,2,by decide, .inr rfl⟩ ?_;simp only [LA.app,ASt.put,ASt.kill,subT,rmk,putM,rml,kl,AV.sub,AV.subs,AObj.sub,List.set_cons_zero,List.set_cons_succ,go_sem,simprocAttr,fh,hmin]))|(with_reducible (first|apply oC|apply oJ|exact oK|apply wA|apply wB|apply wC hX hC|apply wD hX hC|apply wE hX hC af|apply wF hX hC af|apply wG|apply wH|apply And.intro))|((with_reducible refine oD ?_ ?_);first|fail|kernel_rfl)|((with_reducible (first|apply oE|apply oF));(iterate 3 exact rfl);all_goals (intro h;first|(exact absurd h (by decide))|((try simp only [go_sem,simprocAttr,fh,hmin] at h);(try with_reducible intro K hK);simp only [go_sem,simprocAttr,fh,hmin])))|((first|((with_reducible apply wL);exact rfl)|((with_reducible apply wM);exact rfl));all_goals (try ((with_reducible intro h);first|(exact absurd h (by decide))|(try simp only [go_sem,simprocAttr,fh,hmin] at h))))|omega|((first|fail);try simp only [go_sem,simprocAttr,fh,hmin])|(intro h))
 refine an (fun k:Nat=>k≤f.L.length) (fun k=>⟨[(1, .ptr 1 0),(2, .ptr 2 0),(3, .ptr 3 0),(15,eN f.L.length),(16,eN k)], [(1, .box [.d (sI f.L), .d (sI f.R), .d (sI f.lo), .d (sI f.hi)]),(2, .box [eN 0, .nil 58]),(3, .box [eN f.lo.length, .ref 200]),(200, .tip 58 2 ((CE f k).map rE))]⟩) (fun k=>f.L.length - k) 0 (by omega) ?_ ?_
 ·refine Le.of ?_ ?_<;>simp [go_sem,simprocAttr,fh,hmin,CE]
 rintro k hk
 rcases Nat.lt_or_ge k f.L.length with hlt|hge
 ·have hb:decide ((k:Int)<(f.L.length:Int))=true:=decide_eq_true (by omega)
  have eA:=CF (f:=f) (k:=k)
  have Aq:=DV (f:=f) (k:=k)
  generalize CE f k=G at eA Aq
  repeat' (first|fail|((first|((with_reducible (first|apply oA|apply oB));exact rfl;intro K hK)|(refine hK _ ?_;clear hK K)|((with_reducible (first|apply oG|apply oH));iterate 3 exact rfl)|((with_reducible apply oI);(iterate 2 exact rfl);intro K hK)|(with_reducible (first|apply wI|apply wJ|apply wK)));try simp only [go_sem,simprocAttr,hb,Aq])|(show dB _ (.region 6 _ _) _ _;(refine iE hX 3 1 33 200 rfl rfl rfl (by first|exact .inl rfl|exact .inr rfl) (by decide) (by decide) ?_;simp only [LA.app,ASt.put,ASt.kill,subT,rmk,putM,rml,kl,AV.sub,AV.subs,AObj.sub,List.set_cons_zero,List.set_cons_succ,go_sem,simprocAttr,hb,Aq]))|(with_reducible (first|apply oC|apply oJ|exact oK|apply wA|apply wB|apply wC hX hC|apply wD hX hC|apply wE hX hC af|apply wF hX hC af|apply wG|apply wH|apply And.intro))|((with_reducible refine oD ?_ ?_);first|fail|kernel_rfl)|((with_reducible (first|apply oE|apply oF));(iterate 3 exact rfl);all_goals (intro h;first|(exact absurd h (by decide))|((try simp only [go_sem,simprocAttr,hb,Aq] at h);(try with_reducible intro K hK);simp only [go_sem,simprocAttr,hb,Aq])))|((first|((with_reducible apply wL);exact rfl)|((with_reducible apply wM);exact rfl));all_goals (try ((with_reducible intro h);first|(exact absurd h (by decide))|(try simp only [go_sem,simprocAttr,hb,Aq] at h))))|omega|((first|fail);try simp only [go_sem,simprocAttr,hb,Aq])|(intro h))
  refine ⟨k+1,by omega, ?_,by omega⟩
  rw [eA]
  refine Le.of ?_ ?_<;>simp [go_sem,simprocAttr,hb,Aq,rE]
 ·have hb:decide ((k:Int)<(f.L.length:Int))=false:=decide_eq_false (by omega)
  obtain rfl:k=f.L.length:=by omega
  repeat' (first|fail|((first|((with_reducible (first|apply oA|apply oB));exact rfl;intro K hK)|(refine hK _ ?_;clear hK K)|((with_reducible (first|apply oG|apply oH));iterate 3 exact rfl)|((with_reducible apply oI);(iterate 2 exact rfl);intro K hK)|(with_reducible (first|apply wI|apply wJ|apply wK)));try simp only [go_sem,simprocAttr,hb])|fail|(with_reducible (first|apply oC|apply oJ|exact oK|apply wA|apply wB|apply wC hX hC|apply wD hX hC|apply wE hX hC af|apply wF hX hC af|apply wG|apply wH|apply And.intro))|((with_reducible refine oD ?_ ?_);first|fail|kernel_rfl)|((with_reducible (first|apply oE|apply oF));(iterate 3 exact rfl);all_goals (intro h;first|(exact absurd h (by decide))|((try simp only [go_sem,simprocAttr,hb] at h);(try with_reducible intro K hK);simp only [go_sem,simprocAttr,hb])))|((first|((with_reducible apply wL);exact rfl)|((with_reducible apply wM);exact rfl));all_goals (try ((with_reducible intro h);first|(exact absurd h (by decide))|(try simp only [go_sem,simprocAttr,hb] at h))))|omega|((first|fail);try simp only [go_sem,simprocAttr,hb])|(intro h))
def wW (b:Bool) (g:Gr) (p:Pl):Bool:= !pJ g p&&kS g&&decide ((bJ b g p).2.1=0)&&decide (0<(g.es.length:Int))&&decide ((g.es.length:Int)≤60)
theorem uT (g:Gr) (hl:g.es.length≤9223372036854775807) (p:Pl) (hp:yG p) (b:Bool) (hr:b=true↔(cg g).1=0∧bF g p):Spec Tryz.prog 16 (Args [eG g,ePl p]) [] (eB (wW b g p)) []:=by
 have hG:=uJ g p hl hp
 cases hB:pJ g p with
 |true=>
  rw [hB] at hG
  have ha:wW b g p=false:=by unfold wW;rw [hB];rfl
  rw [ha]
  (refine Spec.intro (C:=T.cfg [] []) (rs:= [.t 4]) (T.aq _ _) Tryz.func16 rfl rfl Tryz.ntmps16 Tryz.results16 (by simp [AObj.isNest]) (by simp [AObj.isNest]) (by kernel_rfl) ?_;intro X hX hP hC aM aN vals hA;refine ⟨_,by simp,hA, ?_⟩;have af:X.P.follows .mixedOrders=true:=(by rw [hP];exact T.mixed);clear aM aN)
  repeat' (first|fail|((first|((with_reducible (first|apply oA|apply oB));exact rfl;intro K hK)|(refine hK _ ?_;clear hK K)|((with_reducible (first|apply oG|apply oH));iterate 3 exact rfl)|((with_reducible apply oI);(iterate 2 exact rfl);intro K hK)|(with_reducible (first|apply wI|apply wJ|apply wK)));try simp only [go_sem,simprocAttr])|fail|(with_reducible (first|apply oC|apply oJ|exact oK|apply wA|apply wB|apply wC hX hC|apply wD hX hC|apply wE hX hC af|apply wF hX hC af|apply wG|apply wH|apply And.intro))|((with_reducible refine oD ?_ ?_);first|fail|kernel_rfl)|((with_reducible (first|apply oE|apply oF));(iterate 3 exact rfl);all_goals (intro h;first|(exact absurd h (by decide))|((try simp only [go_sem,simprocAttr] at h);(try with_reducible intro K hK);simp only [go_sem,simprocAttr])))|((first|((with_reducible apply wL);exact rfl)|((with_reducible apply wM);exact rfl));all_goals (try ((with_reducible intro h);first|(exact absurd h (by decide))|(try simp only [go_sem,simprocAttr] at h))))|omega|((first|first|refine aa hX hC hP (hG) rfl rfl rfl (by simp only [go_sem,simprocAttr]) rfl ?_);try simp only [go_sem,simprocAttr])|(intro h))
 |false=>
  rw [hB] at hG
  have hI:=xS g (by have:=(yF hB).1;omega)
  have z8:=Ah g hl p (wz hB) b hr
  have ha:wW b g p=(kS g&&decide ((bJ b g p).2.1=0)&&decide (0<(g.es.length:Int))&&decide ((g.es.length:Int)≤60)):=by unfold wW;rw [hB];rfl
  rw [ha]
  cases hi:kS g with
  |false=>
   rw [hi] at hI
   (refine Spec.intro (C:=T.cfg [] []) (rs:= [.t 4]) (T.aq _ _) Tryz.func16 rfl rfl Tryz.ntmps16 Tryz.results16 (by simp [AObj.isNest]) (by simp [AObj.isNest]) (by kernel_rfl) ?_;intro X hX hP hC aM aN vals hA;refine ⟨_,by simp,hA, ?_⟩;have af:X.P.follows .mixedOrders=true:=(by rw [hP];exact T.mixed);clear aM aN)
   repeat' (first|fail|((first|((with_reducible (first|apply oA|apply oB));exact rfl;intro K hK)|(refine hK _ ?_;clear hK K)|((with_reducible (first|apply oG|apply oH));iterate 3 exact rfl)|((with_reducible apply oI);(iterate 2 exact rfl);intro K hK)|(with_reducible (first|apply wI|apply wJ|apply wK)));try simp only [go_sem,simprocAttr,Bool.false_and])|fail|(with_reducible (first|apply oC|apply oJ|exact oK|apply wA|apply wB|apply wC hX hC|apply wD hX hC|apply wE hX hC af|apply wF hX hC af|apply wG|apply wH|apply And.intro))|((with_reducible refine oD ?_ ?_);first|fail|kernel_rfl)|((with_reducible (first|apply oE|apply oF));(iterate 3 exact rfl);all_goals (intro h;first|(exact absurd h (by decide))|((try simp only [go_sem,simprocAttr,Bool.false_and] at h);(try with_reducible intro K hK);simp only [go_sem,simprocAttr,Bool.false_and])))|((first|((with_reducible apply wL);exact rfl)|((with_reducible apply wM);exact rfl));all_goals (try ((with_reducible intro h);first|(exact absurd h (by decide))|(try simp only [go_sem,simprocAttr,Bool.false_and] at h))))|omega|((first|first|refine aa hX hC hP (hG) rfl rfl rfl (by simp only [go_sem,simprocAttr,Bool.false_and]) rfl ?_|refine aa hX hC hP (hI) rfl rfl rfl (by simp only [go_sem,simprocAttr,Bool.false_and]) rfl ?_);try simp only [go_sem,simprocAttr,Bool.false_and])|(intro h))
  |true=>
   rw [hi] at hI
   cases hd:decide ((bJ b g p).2.1=0) with
   |false=>
    rw [hd] at z8
    (refine Spec.intro (C:=T.cfg [] []) (rs:= [.t 4]) (T.aq _ _) Tryz.func16 rfl rfl Tryz.ntmps16 Tryz.results16 (by simp [AObj.isNest]) (by simp [AObj.isNest]) (by kernel_rfl) ?_;intro X hX hP hC aM aN vals hA;refine ⟨_,by simp,hA, ?_⟩;have af:X.P.follows .mixedOrders=true:=(by rw [hP];exact T.mixed);clear aM aN)
    repeat' (first|fail|((first|((with_reducible (first|apply oA|apply oB));exact rfl;intro K hK)|(refine hK _ ?_;clear hK K)|((with_reducible (first|apply oG|apply oH));iterate 3 exact rfl)|((with_reducible apply oI);(iterate 2 exact rfl);intro K hK)|(with_reducible (first|apply wI|apply wJ|apply wK)));try simp only [go_sem,simprocAttr,Bool.false_and,Bool.true_and])|fail|(with_reducible (first|apply oC|apply oJ|exact oK|apply wA|apply wB|apply wC hX hC|apply wD hX hC|apply wE hX hC af|apply wF hX hC af|apply wG|apply wH|apply And.intro))|((with_reducible refine oD ?_ ?_);first|fail|kernel_rfl)|((with_reducible (first|apply oE|apply oF));(iterate 3 exact rfl);all_goals (intro h;first|(exact absurd h (by decide))|((try simp only [go_sem,simprocAttr,Bool.false_and,Bool.true_and] at h);(try with_reducible intro K hK);simp only [go_sem,simprocAttr,Bool.false_and,Bool.true_and])))|((first|((with_reducible apply wL);exact rfl)|((with_reducible apply wM);exact rfl));all_goals (try ((with_reducible intro h);first|(exact absurd h (by decide))|(try simp only [go_sem,simprocAttr,Bool.false_and,Bool.true_and] at h))))|omega|((first|first|refine aa hX hC hP (hG) rfl rfl rfl (by simp only [go_sem,simprocAttr,Bool.false_and,Bool.true_and]) rfl ?_|refine aa hX hC hP (hI) rfl rfl rfl (by simp only [go_sem,simprocAttr,Bool.false_and,Bool.true_and]) rfl ?_|refine aa hX hC hP (z8) rfl rfl rfl (by simp only [go_sem,simprocAttr,Bool.false_and,Bool.true_and]) rfl ?_);try simp only [go_sem,simprocAttr,Bool.false_and,Bool.true_and])|(intro h))
   |true=>
    rw [hd] at z8
    (refine Spec.intro (C:=T.cfg [] []) (rs:= [.t 4]) (T.aq _ _) Tryz.func16 rfl rfl Tryz.ntmps16 Tryz.results16 (by simp [AObj.isNest]) (by simp [AObj.isNest]) (by kernel_rfl) ?_;intro X hX hP hC aM aN vals hA;refine ⟨_,by simp,hA, ?_⟩;have af:X.P.follows .mixedOrders=true:=(by rw [hP];exact T.mixed);clear aM aN)
    repeat' (first|fail|((first|((with_reducible (first|apply oA|apply oB));exact rfl;intro K hK)|(refine hK _ ?_;clear hK K)|((with_reducible (first|apply oG|apply oH));iterate 3 exact rfl)|((with_reducible apply oI);(iterate 2 exact rfl);intro K hK)|(with_reducible (first|apply wI|apply wJ|apply wK)));try simp only [go_sem,simprocAttr,Bool.false_and,Bool.true_and])|fail|(with_reducible (first|apply oC|apply oJ|exact oK|apply wA|apply wB|apply wC hX hC|apply wD hX hC|apply wE hX hC af|apply wF hX hC af|apply wG|apply wH|apply And.intro))|((with_reducible refine oD ?_ ?_);first|fail|kernel_rfl)|((with_reducible (first|apply oE|apply oF));(iterate 3 exact rfl);all_goals (intro h;first|(exact absurd h (by decide))|((try simp only [go_sem,simprocAttr,Bool.false_and,Bool.true_and] at h);(try with_reducible intro K hK);simp only [go_sem,simprocAttr,Bool.false_and,Bool.true_and])))|((first|((with_reducible apply wL);exact rfl)|((with_reducible apply wM);exact rfl));all_goals (try ((with_reducible intro h);first|(exact absurd h (by decide))|(try simp only [go_sem,simprocAttr,Bool.false_and,Bool.true_and] at h))))|omega|((first|first|refine aa hX hC hP (hG) rfl rfl rfl (by simp only [go_sem,simprocAttr,Bool.false_and,Bool.true_and]) rfl ?_|refine aa hX hC hP (hI) rfl rfl rfl (by simp only [go_sem,simprocAttr,Bool.false_and,Bool.true_and]) rfl ?_|refine aa hX hC hP (z8) rfl rfl rfl (by simp only [go_sem,simprocAttr,Bool.false_and,Bool.true_and]) rfl ?_);try simp only [go_sem,simprocAttr,Bool.false_and,Bool.true_and])|(intro h))
    all_goals (simp [*];omega)
theorem Fx {b:Bool} {g:Gr} {p:Pl} (hr:b=true↔(cg g).1=0∧bF g p) (h:wW b g p=true):pJ g p=false∧kS g=true∧cA g p∧0<g.es.length∧g.es.length≤60:=by
 simp only [wW,Bool.and_eq_true,Bool.not_eq_true',decide_eq_true_eq] at h
 exact ⟨h.1.1.1.1,h.1.1.1.2,(tg hr h.1.1.2).1,by omega,by omega⟩
theorem Fy {b:Bool} {g:Gr} {p:Pl} (hr:b=true↔(cg g).1=0∧bF g p) (hrun:cA g p) (hI:kS g=true) (h0:0<g.es.length):CU b g p=(⟨arr (Lf g p) g.es.length,arr (Rf g p) g.es.length,Em g p,IY g p⟩,0):=by
 have:CU b g p=(DN g p,0):=if_pos ⟨⟨by rw [rZ hr hrun],hI⟩,h0⟩
 rw [this,Fs hrun hI]
theorem DW {g:Gr} {p:Pl} :(⟨((Em g p).length:Nat),CE ⟨arr (Lf g p) g.es.length,arr (Rf g p) g.es.length,Em g p,IY g p⟩ (arr (Lf g p) g.es.length).length⟩:Gr)=nS g p:=by
 unfold nS CE
 rw [DO,dG]
 congr 1
 refine List.map_congr_left fun i hi=> ?_
 have hi:=List.mem_range.1 hi
 rw [uP hi,uP hi]
def Ep:Gr:=⟨4, [(0,1),(1,3),(0,2),(2,3)]⟩
def Fz:Pl:=⟨[0,1,2,3], [[0,2], [1], [3], []]⟩
theorem LV:(true=true)↔(cg Ep).1=0∧bF Ep Fz:=⟨fun _=>⟨by decide,⟨rfl,by decide,by decide⟩⟩,fun _=>rfl⟩
theorem LW:CU true Ep Fz=(⟨[0,0,1,1], [1,1,2,2], [0,0,0], [3,3,3]⟩,0):=by
 have:CU true Ep Fz=(DN Ep Fz,0):=if_pos ⟨⟨rfl,by decide⟩,by decide⟩
 rw [this]
 rfl
theorem lV:Spec Tryz.prog 15 (Args []) [] (eB true) []:=by
 have Fk:=pE Ep (by decide) Fz ⟨by decide,by decide,by decide⟩ true LV
 rw [LW] at Fk
 simp only at Fk
 have e1:Ep.es.map rE= [[.sc (.int .i64 0), .sc (.int .i64 1)], [.sc (.int .i64 1), .sc (.int .i64 3)], [.sc (.int .i64 0), .sc (.int .i64 2)], [.sc (.int .i64 2), .sc (.int .i64 3)]]:=rfl
 have e2:Fz.ord.map rI= [[.sc (.int .i64 0)], [.sc (.int .i64 1)], [.sc (.int .i64 2)], [.sc (.int .i64 3)]]:=rfl
 have e3:vI Fz.outs= [[.sl 1 [[.sc (.int .i64 0)], [.sc (.int .i64 2)]]], [.sl 1 [[.sc (.int .i64 1)]]], [.sl 1 [[.sc (.int .i64 3)]]], [.sl 1 []]]:=rfl
 have e4:Ep.n=4:=rfl
 (refine Spec.intro (C:=T.cfg [] []) (rs:= [.t 0]) (T.aq _ _) Tryz.func15 rfl rfl Tryz.ntmps15 Tryz.results15 (by simp [AObj.isNest]) (by simp [AObj.isNest]) (by kernel_rfl) ?_;intro X hX hP hC aM aN vals hA;refine ⟨_,by simp,hA, ?_⟩;have af:X.P.follows .mixedOrders=true:=(by rw [hP];exact T.mixed);clear aM aN)
 repeat' (first|fail|((first|((with_reducible (first|apply oA|apply oB));exact rfl;intro K hK)|(refine hK _ ?_;clear hK K)|((with_reducible (first|apply oG|apply oH));iterate 3 exact rfl)|((with_reducible apply oI);(iterate 2 exact rfl);intro K hK)|(with_reducible (first|apply wI|apply wJ|apply wK)));try simp only [go_sem,simprocAttr,fh,e1,e2,e3,e4,List.map_cons,List.map_nil,rI,decide_true])|fail|(with_reducible (first|apply oC|apply oJ|exact oK|apply wA|apply wB|apply wC hX hC|apply wD hX hC|apply wE hX hC af|apply wF hX hC af|apply wG|apply wH|apply And.intro))|((with_reducible refine oD ?_ ?_);first|fail|kernel_rfl)|((with_reducible (first|apply oE|apply oF));(iterate 3 exact rfl);all_goals (intro h;first|(exact absurd h (by decide))|((try simp only [go_sem,simprocAttr,fh,e1,e2,e3,e4,List.map_cons,List.map_nil,rI,decide_true] at h);(try with_reducible intro K hK);simp only [go_sem,simprocAttr,fh,e1,e2,e3,e4,List.map_cons,List.map_nil,rI,decide_true])))|((first|((with_reducible apply wL);exact rfl)|((with_reducible apply wM);exact rfl));all_goals (try ((with_reducible intro h);first|(exact absurd h (by decide))|(try simp only [go_sem,simprocAttr,fh,e1,e2,e3,e4,List.map_cons,List.map_nil,rI,decide_true] at h))))|omega|((first|first|(refine bu hX hC hP (Fk) rfl rfl rfl ?_ ?_ rfl ?_;iterate 2 (focus (simp only [go_sem,simprocAttr,fh,e1,e2,e3,e4,List.map_cons,List.map_nil,rI,decide_true];done)))|(refine bu hX hC hP (ga [0,0,1,1] [0,0,1,1] (by decide)) rfl rfl rfl ?_ ?_ rfl ?_;iterate 2 (focus (simp only [go_sem,simprocAttr,fh,e1,e2,e3,e4,List.map_cons,List.map_nil,rI,decide_true];done)))|(refine bu hX hC hP (ga [1,1,2,2] [1,1,2,2] (by decide)) rfl rfl rfl ?_ ?_ rfl ?_;iterate 2 (focus (simp only [go_sem,simprocAttr,fh,e1,e2,e3,e4,List.map_cons,List.map_nil,rI,decide_true];done))));try simp only [go_sem,simprocAttr,fh,e1,e2,e3,e4,List.map_cons,List.map_nil,rI,decide_true])|(intro h))
end Go.Ab
end
section
namespace Go.Ab
open Go.Proofs
attribute [local congr] ACall.congr
set_option maxRecDepth 10000
set_option maxHeartbeats 8000000
def ML (l:List Int) (k:Nat):List Int:=(List.range l.length).map fun p=>if p<k∨l.length - 1<p+k then l.getD (l.length - 1 - p) 0 else l.getD p 0
end Go.Ab
end
section
namespace Go.Ab
open Go.Proofs
attribute [local congr] ACall.congr
set_option maxRecDepth 20000
set_option maxHeartbeats 16000000
theorem r6 (g:Gr) (p:Pl) (hl:g.es.length≤9223372036854775807) (hp:yG p):Spec Tryz.prog 6 (Args [eG g,ePl p]) [] (eB true) []:=by
 obtain ⟨b,hr⟩:=Oc g p
 have Jr:=uT g hl p hp b hr
 (refine Spec.intro (C:=T.cfg [] []) (rs:= [.t 4]) (T.aq _ _) Tryz.func6 rfl rfl Tryz.ntmps6 Tryz.results6 (by simp [AObj.isNest]) (by simp [AObj.isNest]) (by kernel_rfl) ?_;intro X hX hP hC aM aN vals hA;refine ⟨_,by simp,hA, ?_⟩;have af:X.P.follows .mixedOrders=true:=(by rw [hP];exact T.mixed);clear aM aN)
 cases ha:wW b g p with
 |false=>
  rw [ha] at Jr
  repeat' (first|fail|((first|((with_reducible (first|apply oA|apply oB));exact rfl;intro K hK)|(refine hK _ ?_;clear hK K)|((with_reducible (first|apply oG|apply oH));iterate 3 exact rfl)|((with_reducible apply oI);(iterate 2 exact rfl);intro K hK)|(with_reducible (first|apply wI|apply wJ|apply wK)));try simp only [go_sem,simprocAttr])|fail|(with_reducible (first|apply oC|apply oJ|exact oK|apply wA|apply wB|apply wC hX hC|apply wD hX hC|apply wE hX hC af|apply wF hX hC af|apply wG|apply wH|apply And.intro))|((with_reducible refine oD ?_ ?_);first|fail|kernel_rfl)|((with_reducible (first|apply oE|apply oF));(iterate 3 exact rfl);all_goals (intro h;first|(exact absurd h (by decide))|((try simp only [go_sem,simprocAttr] at h);(try with_reducible intro K hK);simp only [go_sem,simprocAttr])))|((first|((with_reducible apply wL);exact rfl)|((with_reducible apply wM);exact rfl));all_goals (try ((with_reducible intro h);first|(exact absurd h (by decide))|(try simp only [go_sem,simprocAttr] at h))))|omega|((first|first|refine aa hX hC hP (lV) rfl rfl rfl (by simp only [go_sem,simprocAttr]) rfl ?_|refine aa hX hC hP (Jr) rfl rfl rfl (by simp only [go_sem,simprocAttr]) rfl ?_);try simp only [go_sem,simprocAttr])|(intro h))
 |true=>
 rw [ha] at Jr
 obtain ⟨hB,hI,hrun,h0,Ou⟩:=Fx hr ha
 have hm:=aG hrun.1
 have hm2:=DS hrun hI h0 Ou
 have hD:=pE g (by omega) p (wz hB) b hr
 rw [Fy hr hrun hI h0] at hD
 simp only at hD
 have MM:=wV ⟨arr (Lf g p) g.es.length,arr (Rf g p) g.es.length,Em g p,IY g p⟩ (by simp only [dG];omega) (by simp only [dG])
 simp only [DW] at MM
 have Ov:=fu (nS g p) hm2
 have hOr:=xJ (nS g p) hm2
 have hok:=Fu hrun hI hm2
 have Jo:=dw (nS g p) hm2
 have Jp:=mu (nS g p) hm2
 rw [DU hrun hI h0] at Jo
 rw [DT hrun hI h0] at Jp
 have nU:(zH (nS g p)).length=cN g p+1:=by
  unfold zH
  rw [if_pos hok]
  have h1:=uz hm2 hok
  simp only [fA,Bool.and_eq_true,decide_eq_true_eq] at h1
  have hn:(nS g p).n=(cN g p:Int)+1:=rfl
  omega
 rw [hok] at hOr
 have hn:decide (((cN g p+1:Nat):Int)=(nS g p).n)=true:=decide_eq_true rfl
 have hc1:(nS g p).n - 1=(cN g p:Int):=by show (cN g p:Int)+1 - 1=_;omega
 have hs1:=ga [0] [0] (by decide)
 have r7:=ga [(cN g p:Int)] [(cN g p:Int)] (by simp)
 rw [decide_eq_true rfl] at hs1 r7
 generalize zH (nS g p)=O at*
 generalize cN g p=cn at*
 generalize nS g p=G2 at*
 have EK:(cn:Int)≤9223372036854775807:=by have:=aY hm2;omega
 repeat' (first|fail|((first|((with_reducible (first|apply oA|apply oB));exact rfl;intro K hK)|(refine hK _ ?_;clear hK K)|((with_reducible (first|apply oG|apply oH));iterate 3 exact rfl)|((with_reducible apply oI);(iterate 2 exact rfl);intro K hK)|(with_reducible (first|apply wI|apply wJ|apply wK)));try simp only [go_sem,simprocAttr,fh,nU,hn,hc1,decide_true,decide_false,List.map_cons,List.map_nil,rI])|fail|(with_reducible (first|apply oC|apply oJ|exact oK|apply wA|apply wB|apply wC hX hC|apply wD hX hC|apply wE hX hC af|apply wF hX hC af|apply wG|apply wH|apply And.intro))|((with_reducible refine oD ?_ ?_);first|fail|kernel_rfl)|((with_reducible (first|apply oE|apply oF));(iterate 3 exact rfl);all_goals (intro h;first|(exact absurd h (by decide))|((try simp only [go_sem,simprocAttr,fh,nU,hn,hc1,decide_true,decide_false,List.map_cons,List.map_nil,rI] at h);(try with_reducible intro K hK);simp only [go_sem,simprocAttr,fh,nU,hn,hc1,decide_true,decide_false,List.map_cons,List.map_nil,rI])))|((first|((with_reducible apply wL);exact rfl)|((with_reducible apply wM);exact rfl));all_goals (try ((with_reducible intro h);first|(exact absurd h (by decide))|(try simp only [go_sem,simprocAttr,fh,nU,hn,hc1,decide_true,decide_false,List.map_cons,List.map_nil,rI] at h))))|omega|((first|first|refine aa hX hC hP (lV) rfl rfl rfl (by simp only [go_sem,simprocAttr,fh,nU,hn,hc1,decide_true,decide_false,List.map_cons,List.map_nil,rI]) rfl ?_|refine aa hX hC hP (Jr) rfl rfl rfl (by simp only [go_sem,simprocAttr,fh,nU,hn,hc1,decide_true,decide_false,List.map_cons,List.map_nil,rI]) rfl ?_|refine aa hX hC hP (hD) rfl rfl rfl (by simp only [go_sem,simprocAttr,fh,nU,hn,hc1,decide_true,decide_false,List.map_cons,List.map_nil,rI]) rfl ?_|refine aa hX hC hP (MM) rfl rfl rfl (by simp only [go_sem,simprocAttr,fh,nU,hn,hc1,decide_true,decide_false,List.map_cons,List.map_nil,rI]) rfl ?_|refine aa hX hC hP (Ov) rfl rfl rfl (by simp only [go_sem,simprocAttr,fh,nU,hn,hc1,decide_true,decide_false,List.map_cons,List.map_nil,rI]) rfl ?_|refine aa hX hC hP (hOr) rfl rfl rfl (by simp only [go_sem,simprocAttr,fh,nU,hn,hc1,decide_true,decide_false,List.map_cons,List.map_nil,rI]) rfl ?_|refine aa hX hC hP (Jo) rfl rfl rfl (by simp only [go_sem,simprocAttr,fh,nU,hn,hc1,decide_true,decide_false,List.map_cons,List.map_nil,rI]) rfl ?_|refine aa hX hC hP (Jp) rfl rfl rfl (by simp only [go_sem,simprocAttr,fh,nU,hn,hc1,decide_true,decide_false,List.map_cons,List.map_nil,rI]) rfl ?_|(refine bu hX hC hP (hs1) rfl rfl rfl ?_ ?_ rfl ?_;iterate 2 (focus (simp only [go_sem,simprocAttr,fh,nU,hn,hc1,decide_true,decide_false,List.map_cons,List.map_nil,rI];done)))|(refine bu hX hC hP (r7) rfl rfl rfl ?_ ?_ rfl ?_;iterate 2 (focus (simp only [go_sem,simprocAttr,fh,nU,hn,hc1,decide_true,decide_false,List.map_cons,List.map_nil,rI];done))));try simp only [go_sem,simprocAttr,fh,nU,hn,hc1,decide_true,decide_false,List.map_cons,List.map_nil,rI])|(intro h))
 all_goals (first|exact EK|skip)
end Go.Ab
end
