/- A part of the proof. -/
import Derived.Test.YtjmaiddbinlooaaGreatL2P15
set_option linter.unusedSimpArgs false
set_option linter.unusedVariables false
section
namespace Go.Ab
open Go.Proofs
set_option maxRecDepth 10000
set_option linter.unusedSectionVars false
def arr (f:Int→Int) (m:Nat):List Int:=(List.range m).map fun i:Nat=>f (i:Int)
theorem dX {f:Int→Int} {m:Nat} :(arr f m).length=m:=by simp [arr]
theorem vi {f:Int→Int} {m i:Nat} (h:i<m):(arr f m).getD i 0=f (i:Int):=by
 simp [arr,List.getD_eq_getElem?_getD,List.getElem?_range h]
theorem CT {l m:List Int} (hl:l.length=m.length) (h:∀i,i<l.length→l.getD i 0=m.getD i 0):l=m:=by
 refine List.ext_getElem? fun i=> ?_
 by_cases hi:i<l.length
 ·have:=h i hi
  rw [List.getD_eq_getElem?_getD,List.getD_eq_getElem?_getD,List.getElem?_eq_getElem hi,List.getElem?_eq_getElem (by omega)] at this
  rw [List.getElem?_eq_getElem hi,List.getElem?_eq_getElem (by omega)]
  simpa using this
 ·rw [List.getElem?_eq_none (by omega),List.getElem?_eq_none (by omega)]
theorem jI {u v:List Int} {e:Int} :(u++e::v).getD u.length 0=e:=by
 rw [List.getD_eq_getElem?_getD,List.getElem?_append_right (Nat.le_refl _)];simp
section
variable {g:Gr} {p:Pl} (h:cB g p)
include h
theorem iM {k:Nat} (hk:k<g.n.toNat) {e:Int} (he:e∈bE p (au p k)):(0≤e∧e<g.es.length)∧kH g e=au p k:=by
 have hx:=aF h.2.1 hk
 exact cC.1 ((bN h.2.1 hx.1 hx.2).mem_iff.1 he)
theorem CU {k:Nat} (hk:k<g.n.toNat):(bE p (au p k)).Nodup:=by
 have hx:=aF h.2.1 hk
 exact (bN h.2.1 hx.1 hx.2).nodup_iff.2 cP
theorem zv {k:Nat} (hk:k<g.n.toNat) {e:Int} (he:0≤e∧e<g.es.length) (ht:kH g e=au p k):∃u v,bE p (au p k)=u++e::v:=by
 have hx:=aF h.2.1 hk
 exact List.append_of_mem ((bN h.2.1 hx.1 hx.2).mem_iff.2 (cC.2 ⟨he,ht⟩))
theorem tV {k:Nat} (hk:k<g.n.toNat) {f F F':Int→Int} {v:Nat→Int} (hin:∀u w e,bE p (au p k)=u++e::w→F' e=v u.length) (hout:∀e:Int,kH g e≠au p k→F' e=F e):
 iB (arr F g.es.length) (bE p (au p k)) v (bE p (au p k)).length=arr F' g.es.length:=by
 refine CT (by rw [fm,dX,dX]) fun i hi=> ?_
 rw [fm,dX] at hi
 rw [vi hi]
 by_cases ht:kH g (i:Int)=au p k
 ·obtain ⟨u,w,CV⟩:=zv h hk (e:=(i:Int)) (by omega) ht
  have e1:(bE p (au p k)).getD u.length 0=(i:Int):=by rw [CV];exact jI
  have:=xl (A:=arr F g.es.length) (o:=bE p (au p k)) (f:=v) (i:=u.length) (by rw [e1,dX];simpa using hi) (j:=(bE p (au p k)).length) (by rw [CV];simp) fun q hq e2=>by
   rw [e1,Int.toNat_natCast] at e2
   have h2:=iM h hk (aT (d:=0) hq)
   have h3:(bE p (au p k)).getD q 0=(i:Int):=by omega
   have bT:=CU h hk
   have:(bE p (au p k))[q]'hq=(bE p (au p k))[u.length]'(by rw [CV];simp):=by
    rw [List.getD_eq_getElem?_getD,List.getElem?_eq_getElem hq] at h3
    rw [List.getD_eq_getElem?_getD,List.getElem?_eq_getElem (by rw [CV];simp)] at e1
    simp only [Option.getD_some] at h3 e1
    rw [h3,e1]
   exact (List.getElem_inj bT).1 this
  rw [e1,Int.toNat_natCast] at this
  rw [this,hin u w (i:Int) CV]
 ·rw [lT fun q hq e2=> ?_,vi hi,hout _ ht]
  have h2:=iM h hk (aT (d:=0) hq)
  exact ht (by rw [← h2.2];congr 1;omega)
theorem Jl {k:Nat} (hk:k<g.n.toNat):mj (arr (LK g p k) g.es.length) (bE p (au p k)) (if k=0 then 0 else LK g p k (ew g p (au p k))) (cK p k) (bE p (au p k)).length=arr (LK g p (k+1)) g.es.length:=by
 refine tV (f:=fun _=>0) h hk (fun u w e CV=> ?_) fun e he=>by rw [LK,if_neg he]
 obtain ⟨a,b⟩:=mU h hk CV
 rw [LK,if_pos a,b]
theorem Jm {r:Int} {k:Nat} (hk:k<g.n.toNat):mo (arr (RK g p r k) g.es.length) (bE p (au p k)) (if k=0 then r else RK g p r k (mh g p (au p k))) (cK p k) (bE p (au p k)).length=arr (RK g p r (k+1)) g.es.length:=by
 refine tV (f:=fun _=>0) h hk (fun u w e CV=> ?_) fun e he=>by rw [RK,if_neg he]
 obtain ⟨a,b⟩:=mU h hk CV
 rw [RK,if_pos a,b]
theorem xm (hI:kG g=true):∀ {k:Nat},k<g.n.toNat→∀t∈(fK g p k).row,0≤t.1
 |0,_,t,ht=>by cases ht
 |k+1,hk,t,ht=>by
  have hm:=aG h.1
  have ih:=xm hI (k:=k) (by omega)
  obtain ⟨hi,_,_⟩:=dB hm h.2.1 (k:=k) (by omega) fun j hj=>h.2.2 j (by omega)
  obtain ⟨A,X,C,hr,_,_,_,hs⟩:=iy hm hi.togG (h.2.2 k (by omega))
  have hO:bE p (au p k)≠ []:=fun h1=>by
   have:=(eu h hI (aF h.2.1 (show k<g.n.toNat by omega))).1 h1
   have:=dA h.2.1 (show k<g.n.toNat by omega) (by omega) this
   omega
  have ht:t∈(aA g (fK g p k) (au p k) (bE p (au p k))).2.row:=ht
  rw [hs] at ht
  simp only [List.mem_append] at ht
  rcases ht with (ht|ht)|ht
  ·exact ih t (by rw [hr];simp [ht])
  ·unfold aJ at ht
   rw [if_neg hO] at ht
   obtain ⟨i,hi2,rfl⟩:=List.mem_map.1 ht
   exact (iM h (show k<g.n.toNat by omega) hi2).1.1
  ·exact ih t (by rw [hr];simp [ht])
theorem yp (hI:kG g=true) {k:Nat} (hk:k<g.n.toNat):iT (fk g p k)=fk g p k:=by
 have hm:=aG h.1
 obtain ⟨hi,_,_⟩:=dB hm h.2.1 (k:=k) (by omega) fun j hj=>h.2.2 j (by omega)
 obtain ⟨A,X,C,hr,_,_,_,hs⟩:=iy hm hi.togG (h.2.2 k hk)
 have e:fk g p k=X:=by unfold fk;rw [hs]
 rw [e]
 refine List.filter_eq_self.2 fun t ht=>decide_eq_true (xm h hI hk t ?_)
 rw [hr];simp [ht]
theorem CW (hI:kG g=true) {k:Nat} (hk:k<g.n.toNat):cq g p (au p k)=(fk g p k).map (·.1):=by
 unfold cq
 rw [nT h.2.1 (Nat.le_refl _) hk,yp h hI hk]
end
section
variable (g:Gr) (p:Pl)
def fF:Nat→List Int
 |0=>bE p (au p 0)
 |j+1=>if bE p (au p (j+1))= [] then fF j else (fF j).take (dn (fF j) (ew g p (au p (j+1)))).toNat++bE p (au p (j+1))++(fF j).drop ((dn (fF j) (ew g p (au p (j+1)))).toNat+(cq g p (au p (j+1))).length)
def lg:Nat→List Int
 |0=> [0]++fq 1 ((bE p (au p 0)).length - 1)++ [-1]
 |j+1=>(lg j).take ((dn (fF g p j) (ew g p (au p (j+1)))).toNat+1)++fq (cK p (j+1)) ((bE p (au p (j+1))).length - 1)++(lg j).drop ((dn (fF g p j) (ew g p (au p (j+1)))).toNat+(cq g p (au p (j+1))).length)
def iV (k:Nat):List Int:=((cq g p (au p k)).dropLast).map (RK g p (-1) k)
def od:Nat→List Int
 |0=> [au p (g.n.toNat - 1)]
 |k+1=>jG (od k) (iV g p k) (au p k) (iV g p k).length++List.replicate ((bE p (au p k)).length - 1) 0
end
section
variable {g:Gr} {p:Pl}
theorem eM:∀ {k:Nat},(od g p k).length=cK p k
 |0=>rfl
 |k+1=>by rw [od,List.length_append,jH,List.length_replicate,eM,cK]
variable (h:cB g p)
include h
theorem CX {A I C:List Int} (bT:(A++I++C).Nodup) (hI:I≠ []):dn (A++I++C) (I.headD 0)=(A.length:Int):=by
 obtain ⟨a,u,rfl⟩:=gI hI
 obtain ⟨k,h1,h2,h3⟩:=dh (l:=A++a::u++C) (x:=a) (by simp)
 have e:A++a::u++C=A++a::(u++C):=by simp
 have h4:(A++a::u++C).getD A.length 0=a:=by rw [e];exact jI
 show dn _ a=_
 rw [h1]
 have hA:A.length<(A++a::u++C).length:=by simp
 rw [List.getD_eq_getElem?_getD,List.getElem?_eq_getElem h2] at h3
 rw [List.getD_eq_getElem?_getD,List.getElem?_eq_getElem hA] at h4
 simp only [Option.getD_some] at h3 h4
 have:=(List.getElem_inj bT (h₀:=h2) (h₁:=hA)).1 (h3.trans h4.symm)
 omega
theorem CY {k:Nat} (hk:k≤g.n.toNat):(WK g p k).Nodup:=by
 have hm:=aG h.1
 obtain ⟨hi,_,_⟩:=dB hm h.2.1 (k:=k) (by omega) fun j hj=>h.2.2 j (by omega)
 exact CQ hi
theorem CZ {r:Int} {k:Nat} (hk:k<g.n.toNat) (hO:bE p (au p k)≠ []) {j:Nat} (h1:k+1≤j) (h2:j≤g.n.toNat):(bE p (au p k)).map (RK g p r j)=fq (cK p k) ((bE p (au p k)).length - 1)++ [if k=0 then r else RK g p r k (mh g p (au p k))]:=by
 obtain ⟨v,b,hv⟩:=bV hO
 have e1:((bE p (au p k)).length - 1)=v.length:=by rw [hv];simp
 rw [e1]
 conv=>lhs;rw [hv]
 rw [List.map_append,List.map_cons,List.map_nil,sq h hk hv h1 h2]
 congr 1
 refine List.ext_getElem? fun i=> ?_
 by_cases hi:i<v.length
 ·rw [List.getElem?_map,List.getElem?_eq_getElem hi,fq,List.getElem?_map,List.getElem?_range hi,Option.map_some,Option.map_some]
  have hs:v=v.take i++v[i]::v.drop (i+1):=by simp
  obtain ⟨c,w,Mb⟩:∃c w,v.drop (i+1)++ [b]=c::w:=by
   cases hd:v.drop (i+1) with
   |nil=>exact ⟨b, [],rfl⟩
   |cons c w=>exact ⟨c,w++ [b],rfl⟩
  have h3:bE p (au p k)=v.take i++v[i]::c::w:=by
   rw [hv]
   conv=>lhs;rw [hs]
   rw [List.append_assoc,List.cons_append,Mb]
  rw [gO h hk h3 h1 h2,List.length_take,Nat.min_eq_left (by omega)]
  congr 1
 ·rw [List.getElem?_eq_none (by simpa using hi),List.getElem?_eq_none (by rw [jF];omega)]
theorem vj (hI:kG g=true):∀ {j:Nat},j+1<g.n.toNat→fF g p j=WK g p (j+1)∧lg g p j=0::(WK g p (j+1)).map (RK g p (-1) (j+1))∧WK g p (j+1)≠ []
 |0,hj=>by
  have hO:bE p (au p 0)≠ []:=fun h1=>by
   have:=(eu h hI (aF h.2.1 (show 0<g.n.toNat by omega))).1 h1
   have:=dA h.2.1 (show 0<g.n.toNat by omega) (by omega) this
   omega
  refine ⟨(sr h (by omega)).symm, ?_,by rw [sr h (by omega)];exact hO⟩
  rw [sr h (by omega),CZ h (by omega) hO (Nat.le_refl _) (by omega),if_pos rfl]
  rfl
 |j+1,hj=>by
  obtain ⟨i1,i2,i3⟩:=vj hI (j:=j) (by omega)
  obtain ⟨A,C,e1,hne,e2⟩:=kg h (k:=j+1) (by omega) (by omega)
  have hO:bE p (au p (j+1))≠ []:=fun h1=>by
   have:=(eu h hI (aF h.2.1 (show j+1<g.n.toNat by omega))).1 h1
   have:=dA h.2.1 (show j+1<g.n.toNat by omega) (by omega) this
   omega
  have bT:=CY h (k:=j+1) (by omega)
  have Ge:dn (WK g p (j+1)) (ew g p (au p (j+1)))=(A.length:Int):=by
   rw [e1] at bT ⊢
   exact CX h bT hne
  have zu:∀a∈WK g p (j+1),RK g p (-1) (j+1+1) a=RK g p (-1) (j+1) a:=fun a ha=>by
   obtain ⟨i,hi,e⟩:=qk h (by omega) ha
   rw [ef h (by omega) e (j:=j+1+1) (by omega) (by omega),ef h (by omega) e (j:=j+1) (by omega) (by omega)]
  refine ⟨?_, ?_,by rw [e2];simp [hO]⟩
  ·rw [fF,if_neg hO,i1,Ge,Int.toNat_natCast,e2]
   congr 1
   ·congr 1
    rw [e1,List.append_assoc,List.take_left]
   ·rw [e1, ← List.length_append,List.drop_left]
  ·rw [lg,i1,i2,Ge,Int.toNat_natCast,List.take_succ_cons,e2]
   have e3:(WK g p (j+1)).map (RK g p (-1) (j+1))=A.map (RK g p (-1) (j+1))++((cq g p (au p (j+1))).map (RK g p (-1) (j+1))++C.map (RK g p (-1) (j+1))):=by rw [e1];simp
   have hA:A.map (RK g p (-1) (j+1+1))=A.map (RK g p (-1) (j+1)):=List.map_congr_left fun a ha=>zu a (by rw [e1];simp [ha])
   have hC:C.map (RK g p (-1) (j+1+1))=C.map (RK g p (-1) (j+1)):=List.map_congr_left fun a ha=>zu a (by rw [e1];simp [ha])
   rw [List.map_append,List.map_append,hA,hC,CZ h (by omega) hO (Nat.le_refl _) (by omega),if_neg (by omega)]
   rw [e3,List.take_append_of_le_length (by simp),List.take_of_length_le (by simp)]
   obtain ⟨u,a,hu⟩:=bV hne
   have hl:(cq g p (au p (j+1))).length=u.length+1:=by rw [hu];simp
   rw [hl,show A.length+(u.length+1)=(A.length+u.length)+1 by omega,List.drop_succ_cons]
   have e4:(A.map (RK g p (-1) (j+1))++((cq g p (au p (j+1))).map (RK g p (-1) (j+1))++C.map (RK g p (-1) (j+1)))).drop (A.length+u.length)=RK g p (-1) (j+1) (mh g p (au p (j+1)))::C.map (RK g p (-1) (j+1)):=by
    rw [ld h hu,hu]
    have:A.map (RK g p (-1) (j+1))++((u++ [a]).map (RK g p (-1) (j+1))++C.map (RK g p (-1) (j+1)))=(A++u).map (RK g p (-1) (j+1))++(RK g p (-1) (j+1) a::C.map (RK g p (-1) (j+1))):=by simp
    rw [this,show A.length+u.length=((A++u).map (RK g p (-1) (j+1))).length by simp,List.drop_left]
   rw [e4]
   simp
theorem cR {A B:List Int} (h:B≠ []):(A++B).dropLast=A++B.dropLast:=by
 obtain ⟨u,a,rfl⟩:=bV h
 rw [← List.append_assoc,List.dropLast_concat,List.dropLast_concat]
theorem vk (hI:kG g=true):∀ {k:Nat},1≤k→k<g.n.toNat→∀a∈(WK g p k).dropLast,1≤RK g p (-1) k a∧RK g p (-1) k a<cK p k
 |0,h1,_,_,_=>by omega
 |k+1,_,hk,a,ha=>by
  have hO:bE p (au p k)≠ []:=fun h1=>by
   have:=(eu h hI (aF h.2.1 (show k<g.n.toNat by omega))).1 h1
   have:=dA h.2.1 (show k<g.n.toNat by omega) (by omega) this
   omega
  have hc:cK p (k+1)=cK p k+((bE p (au p k)).length - 1):=rfl
  have GK:0<cK p k:=kf
  have hnew:∀b∈(bE p (au p k)).dropLast,1≤RK g p (-1) (k+1) b∧RK g p (-1) (k+1) b<cK p (k+1):=fun b hb=>by
   obtain ⟨v,c,hv⟩:=bV hO
   rw [hv,List.dropLast_concat] at hb
   obtain ⟨u,w,CV⟩:=List.append_of_mem hb
   obtain ⟨c',w',Mb⟩:∃c' w',w++ [c]=c'::w':=by
    cases w with
    |nil=>exact ⟨c, [],rfl⟩
    |cons d w=>exact ⟨d,w++ [c],rfl⟩
   have h3:bE p (au p k)=u++b::c'::w':=by rw [hv,CV, ← Mb];simp
   rw [gO h (show k<g.n.toNat by omega) h3 (Nat.le_refl _) (by omega)]
   have:(bE p (au p k)).length=u.length+(w'.length+2):=by rw [h3];simp
   omega
  by_cases h0:k=0
  ·subst h0
   rw [sr h (by omega)] at ha
   exact hnew a ha
  ·obtain ⟨A,C,e1,hne,e2⟩:=kg h h0 (show k<g.n.toNat by omega)
   have ih:=vk hI (k:=k) (by omega) (by omega)
   have zu:∀a∈WK g p k,RK g p (-1) (k+1) a=RK g p (-1) k a:=fun a ha=>by
    obtain ⟨i,hi,e⟩:=qk h (by omega) ha
    rw [ef h (by omega) e (j:=k+1) (by omega) (by omega),ef h (by omega) e (j:=k) (by omega) (by omega)]
   have old:∀b∈(WK g p k).dropLast,1≤RK g p (-1) (k+1) b∧RK g p (-1) (k+1) b<cK p (k+1):=fun b hb=>by
    rw [zu b ((List.dropLast_sublist _).subset hb)]
    have:=ih b hb
    omega
   rw [e1] at old zu
   rw [e2] at ha
   by_cases hC:C= []
   ·subst hC
    rw [List.append_nil] at ha old
    rw [cR h hO] at ha
    rw [cR h hne] at old
    rcases List.mem_append.1 ha with ha|ha
    ·exact old a (by simp [ha])
    ·exact hnew a ha
   ·rw [cR h hC] at ha old
    rcases List.mem_append.1 ha with ha|ha
    ·rcases List.mem_append.1 ha with ha|ha
     ·exact old a (by simp [ha])
     ·obtain ⟨v,b,hv⟩:=bV hO
      rw [hv,List.mem_append,List.mem_singleton] at ha
      rcases ha with ha|rfl
      ·exact hnew a (by rw [hv,List.dropLast_concat];exact ha)
      ·obtain ⟨u,c,hu⟩:=bV hne
       rw [sq h (show k<g.n.toNat by omega) hv (Nat.le_refl _) (by omega),if_neg h0,ld h hu, ← zu c (by rw [hu];simp)]
       exact old c (by rw [hu];simp)
    ·exact old a (by simp [ha])
theorem vl (hI:kG g=true) {k:Nat} (hk:k<g.n.toNat):∀f∈iV g p k,0≤f∧f<(od g p k).length:=by
 intro f hf
 rw [eM]
 obtain ⟨a,ha,rfl⟩:=List.mem_map.1 hf
 have OH:cq g p (au p k)≠ []:=fun h0=>by rw [h0] at ha;simp at ha
 have sN:=xk h hk OH
 obtain ⟨A,C,e1,hne,_⟩:=kg h sN hk
 have:=vk h hI (k:=k) (by omega) hk a (by
  rw [e1]
  by_cases hC:C= []
  ·subst hC;rw [List.append_nil,cR h hne];simp [ha]
  ·rw [cR h hC];simp [(List.dropLast_sublist _).subset ha])
 omega
theorem C0 (hI:kG g=true) {j:Nat} (hj:j+1<g.n.toNat):∃a:Nat,dn (fF g p j) (ew g p (au p (j+1)))=a∧0<(cq g p (au p (j+1))).length∧a+(cq g p (au p (j+1))).length≤(fF g p j).length∧
 (lg g p j).length=(fF g p j).length+1∧(lg g p j).getD a 0=LK g p (j+1) (ew g p (au p (j+1)))∧(lg g p j).getD (a+(cq g p (au p (j+1))).length) 0=RK g p (-1) (j+1) (mh g p (au p (j+1)))∧
 ((lg g p j).take (a+(cq g p (au p (j+1))).length)).drop (a+1)=iV g p (j+1):=by
 obtain ⟨i1,i2,i3⟩:=vj h hI hj
 obtain ⟨A,C,e1,hne,e2⟩:=kg h (k:=j+1) (by omega) hj
 have bT:=CY h (k:=j+1) (by omega)
 have Ge:dn (WK g p (j+1)) (ew g p (au p (j+1)))=(A.length:Int):=by
  rw [e1] at bT ⊢
  exact CX h bT hne
 have hlk:=(ym (r:= -1) h hI (k:=j+1) (by omega) hj i3).1
 obtain ⟨u,c,hu⟩:=bV hne
 obtain ⟨c0,u0,Dp⟩:=gI hne
 have hl:(cq g p (au p (j+1))).length=u.length+1:=by rw [hu];simp
 rw [i1,i2]
 refine ⟨A.length,Ge,by omega,by rw [e1];simp,by simp, ?_, ?_, ?_⟩
 ·rw [e1,bP,bP] at hlk
  have h1:=hlk.1.2
  rw [Dp] at h1
  rw [o9 h Dp,h1.1,e1]
  rcases List.eq_nil_or_concat A with hA|⟨A',t,hA⟩
  ·subst hA;rfl
  ·rw [List.concat_eq_append] at hA
   subst hA
   rw [cy]
   have:(0::(A'++ [t]++cq g p (au p (j+1))++C).map (RK g p (-1) (j+1)))=(0::A'.map (RK g p (-1) (j+1)))++RK g p (-1) (j+1) t::((cq g p (au p (j+1))++C).map (RK g p (-1) (j+1))):=by simp
   rw [this]
   have h2:(A'++ [t]).length=(0::A'.map (RK g p (-1) (j+1))).length:=by simp
   rw [h2];exact jI
 ·rw [ld h hu,e1,hl]
  have:(0::(A++cq g p (au p (j+1))++C).map (RK g p (-1) (j+1)))=(0::(A++u).map (RK g p (-1) (j+1)))++RK g p (-1) (j+1) c::(C.map (RK g p (-1) (j+1))):=by rw [hu];simp
  rw [this]
  have h2:A.length+(u.length+1)=(0::(A++u).map (RK g p (-1) (j+1))).length:=by simp;omega
  rw [h2];exact jI
 ·rw [e1,hl]
  have:(0::(A++cq g p (au p (j+1))++C).map (RK g p (-1) (j+1)))=(0::A.map (RK g p (-1) (j+1)))++(u.map (RK g p (-1) (j+1))++(RK g p (-1) (j+1) c::(C.map (RK g p (-1) (j+1))))):=by rw [hu];simp
  rw [this,List.take_append,List.drop_append]
  have h2:(0::A.map (RK g p (-1) (j+1))).length=A.length+1:=by simp
  rw [h2,List.take_of_length_le (by rw [h2];omega),List.drop_of_length_le (by rw [h2];omega),h2]
  rw [show A.length+(u.length+1) - (A.length+1)=u.length by omega,Nat.sub_self,List.drop_zero,List.nil_append]
  rw [List.take_append_of_le_length (by simp),List.take_of_length_le (by simp)]
  unfold iV
  rw [hu,List.dropLast_concat]
end
end Go.Ab
end
section
namespace Go.Ab
open Go.Proofs
attribute [local congr] ACall.congr
set_option maxRecDepth 10000
set_option maxHeartbeats 8000000
def swapT (l:List It) (k:Nat):List It:=(List.range l.length).map fun p=>if p<k∨l.length - 1<p+k then l.getD (l.length - 1 - p) (0,0,0) else l.getD p (0,0,0)
def M9 (rs:List Int) (l:List It):Int:=match l.find? (fun t=>decide (t.2.2∈rs)) with
 |some t=>t.2.2
 |none=>rs.headD (-1)
end Go.Ab
end
section
namespace Go.Ab
open Go.Proofs
attribute [local congr] ACall.congr
set_option maxRecDepth 10000
set_option maxHeartbeats 8000000
def PD (b:Bool) (g:Gr) (p:Pl):List Int × List Int × Int:=
 if (bK b g p).2.1=0∧kG g=true then (CA g p false g.n.toNat,CA g p true g.n.toNat,0) else ([], [],1)
end Go.Ab
end
section
namespace Go.Ab
open Go.Proofs
attribute [local congr] ACall.congr
set_option maxRecDepth 10000
set_option maxHeartbeats 8000000
theorem sC {b:Bool} {g:Gr} {p:Pl} (hr:b=true↔(cg g).1=0∧bF g p) (h:cB g p):bK b g p=((dW g p g.n.toNat,k5 g p),(0,0)):=by
 obtain rfl:b=true:=hr.2 ⟨h.1,h.2.1⟩
 unfold bK
 rw [if_neg (by simp),eX.2 h.2.2]
 rfl
theorem OI (g:Gr) (p:Pl):∃b:Bool,(b=true↔(cg g).1=0∧bF g p):=by
 by_cases h:(cg g).1=0∧bF g p
 ·exact ⟨true,by simp [h]⟩
 ·exact ⟨false,by simp [h]⟩
end Go.Ab
end
section
namespace Go.Ab
open Go.Proofs
attribute [local congr] ACall.congr
set_option maxRecDepth 60000
set_option maxHeartbeats 8000000
structure Fc where
 L:List Int
 R:List Int
 lo:List Int
 hi:List Int
def kE (g:Gr) (p:Pl) (f:Int):Int:=if f= -1 then (cK p g.n.toNat:Int) else f
def Ei (g:Gr) (p:Pl):Fc:=⟨arr (LK g p g.n.toNat) g.es.length,(arr (RK g p (-1) g.n.toNat) g.es.length).map (kE g p),gu p g.n.toNat++ [au p 0],od g p g.n.toNat++ [au p (g.n.toNat - 1)]⟩
def ql:Fc:=⟨[], [], [], []⟩
def Dl (b:Bool) (g:Gr) (p:Pl):Fc × Int:=if ((bK b g p).2.1=0∧kG g=true)∧0<g.es.length then (Ei g p,0) else (ql,1)
def iW (f:Fc):AV:= .agg [.d (sI f.L), .d (sI f.R), .d (sI f.lo), .d (sI f.hi)]
def lp (l:List Int) (f:Int→Int) (j:Nat):List Int:=(l.take j).map f++l.drop j
theorem C1 {l:List Int} {f:Int→Int} {j:Nat} :(lp l f j).length=l.length:=by
 simp only [lp,List.length_append,List.length_map,List.length_take,List.length_drop];omega
theorem tW {l:List Int} {f:Int→Int} {j:Nat} (h:j<l.length):lp l f (j+1)=(lp l f j).set j (f (l.getD j 0)):=by
 have h1:((l.take j).map f).length=j:=by simp;omega
 have e:l.getD j 0=l[j]:=by rw [List.getD_eq_getElem?_getD,List.getElem?_eq_getElem h];rfl
 unfold lp
 have e2:l.take (j+1)=l.take j++ [l[j]]:=by rw [List.take_add_one,List.getElem?_eq_getElem h];rfl
 rw [List.drop_eq_getElem_cons h,List.set_append,h1,if_neg (by omega),Nat.sub_self,List.set_cons_zero,e2,e,List.map_append,List.append_assoc]
 rfl
theorem zw {l:List Int} {f:Int→Int} {j:Nat} (h:j<l.length):(lp l f j).getD j 0=l.getD j 0:=by
 have h1:((l.take j).map f).length=j:=by simp;omega
 unfold lp
 rw [List.getD_eq_getElem?_getD,List.getElem?_append_right (by omega),h1,Nat.sub_self,List.drop_eq_getElem_cons h,List.getD_eq_getElem?_getD,List.getElem?_eq_getElem h];rfl
theorem C2 {l:List Int} {f:Int→Int} :lp l f l.length=l.map f:=by simp [lp]
theorem AI {l:List Int} {f:Int→Int} {j:Nat} (h:j<l.length) (hf:f (l.getD j 0)=l.getD j 0):lp l f (j+1)=lp l f j:=by
 rw [tW h,hf]
 refine List.ext_getElem? fun i=> ?_
 rw [List.getElem?_set]
 split
 ·rename_i e;subst e
  split
  ·have:=zw (l:=l) (f:=f) h
   rename_i hl
   rw [List.getD_eq_getElem?_getD,List.getElem?_eq_getElem hl] at this
   rw [List.getElem?_eq_getElem hl]
   simpa using this.symm
  ·rename_i hl;rw [List.getElem?_eq_none (by omega)]
 ·rfl
theorem AJ {g:Gr} {p:Pl} (h:cB g p):0<(bI (·.2) g).length∧(bI (·.2) g).getD 0 0=au p 0:=by
 have hn:=aY (aG h.1)
 have h0:=aF h.2.1 (k:=0) (by omega)
 have hm:au p 0∈bI (·.2) g:=lM.2 ⟨h0,fW h⟩
 have hl:=List.length_pos_of_mem hm
 refine ⟨hl, ?_⟩
 have:=lM.1 (aT (l:=bI (·.2) g) (m:=0) (d:=0) hl)
 exact nR h.1 this.1 h0 this.2 (fW h)
theorem AK {g:Gr} {p:Pl} (h:cB g p) (hI:kG g=true):0<(bI (·.1) g).length∧(bI (·.1) g).getD 0 0=au p (g.n.toNat - 1):=by
 have hn:=aY (aG h.1)
 have h0:=aF h.2.1 (k:=g.n.toNat - 1) (by omega)
 have hm:au p (g.n.toNat - 1)∈bI (·.1) g:=lN.2 ⟨h0,(nV h.2.1 h0.1 h0.2).2 (o6 h).1⟩
 have hl:=List.length_pos_of_mem hm
 refine ⟨hl, ?_⟩
 have:=lN.1 (aT (l:=bI (·.1) g) (m:=0) (d:=0) hl)
 exact (eu h hI this.1).1 ((nV h.2.1 this.1.1 this.1.2).1 this.2)
theorem EM {g:Gr} {p:Pl} (h:cB g p):∀ {k:Nat},k≤g.n.toNat→cK p k≤1+k*g.es.length
 |0,_=>by simp [cK]
 |k+1,hk=>by
  have:=EM h (k:=k) (by omega)
  have hx:=aF h.2.1 (show k<g.n.toNat by omega)
  have:=ke h.2.1 hx.1 hx.2
  rw [cK,Nat.add_mul];omega
theorem pQ {g:Gr} {p:Pl} (h:cB g p) {k:Nat} (hk:k≤g.n.toNat):cK p k≤100000∧(∀x:Int,(bE p x).length≤100000∨¬o7 g x):=by
 have hn:=aY (aG h.1)
 have h1:=EM h hk
 have h2:k*g.es.length≤64*128:=Nat.mul_le_mul (by omega) (by omega)
 refine ⟨by omega,fun x=> ?_⟩
 by_cases hx:o7 g x
 ·have:=ke h.2.1 hx.1 hx.2;exact .inl (by omega)
 ·exact .inr hx
theorem AL (g:Gr) (p:Pl) (hp:pO p) (hrun:cB g p) (hI:kG g=true) (hm0:0<g.es.length) (b:Bool) (hr:b=true↔(cg g).1=0∧bF g p):
 Spec Tryz.prog 17 (Args [eG g,ePl p]) [] (.tup [iW (Ei g p),eN 0]) []:=by
 have hm:=aG hrun.1
 have hn:=aY hm
 have hle:=bZ hrun.2.1
 have hO:=mg g (by omega) p hp b hr
 have FU:=si g (by omega)
 have OJ:=fZ g hm
 have OK:=dS g hm
 have OL:=rC g hm
 obtain ⟨hs1,uv⟩:=AJ hrun
 obtain ⟨PE,hs4⟩:=AK hrun hI
 rw [sC hr hrun] at hO
 simp only at hO
 rw [hI] at FU
 have hb0:decide ((g.es.length:Int)=0)=false:=decide_eq_false (by omega)
 have hn2:1<g.n.toNat:=by
  refine Decidable.byContradiction fun hc=> ?_
  have ht:=bY hm (i:=0) hm0
  have hh:=di hm (i:=0) hm0
  obtain ⟨j,hj,_⟩:=vf hrun (e:=0) (by omega) (k:=0) (by omega) (by
   obtain ⟨k,hk,e⟩:=ga hrun.2.1 hh.1 hh.2
   obtain rfl:k=0:=by omega
   exact e.symm)
  omega
 obtain ⟨s0,hs0⟩:∃s:Nat,au p 0=s:=by have:=aF hrun.2.1 (k:=0) (by omega);exact ⟨(au p 0).toNat,by omega⟩
 have Mc:s0<p.outs.length:=by have:=aF hrun.2.1 (k:=0) (by omega);have:=hrun.2.1.1;omega
 have qq:=j7 Mc
 have Md:p.outs.getD s0 []=bE p (au p 0):=by unfold bE;rw [hs0,Int.toNat_natCast]
 rw [Md] at qq
 have OM:=ke hrun.2.1 (aF hrun.2.1 (k:=0) (by omega)).1 (aF hrun.2.1 (k:=0) (by omega)).2
 have CS:=tU (au p 0) 0 (-1) (bE p (au p 0)) (.sl 1 []) (sI [0, -1]) (arr (LK g p 0) g.es.length) (arr (RK g p (-1) 0) g.es.length) [au p 0] [au p (g.n.toNat - 1)] (by omega) (fun i hi=>by rw [dX];exact (iM hrun (by omega) hi).1) (by rw [dX,dX]) (by simp) (by simp)
 have Na:=Jl hrun (k:=0) (by omega)
 have Nb:=Jm (r:= -1) hrun (k:=0) (by omega)
 rw [if_pos rfl] at Na Nb
 have Jn:cq g p (au p 0)= []:=by
  have:=jE hrun (aF hrun.2.1 (k:=0) (by omega))
  rw [fW hrun] at this
  exact List.eq_nil_of_length_eq_zero this
 have hi1:od g p 1= [au p (g.n.toNat - 1)]++List.replicate ((bE p (au p 0)).length - 1) 0:=by
  have:iV g p 0= []:=by unfold iV;rw [Jn];rfl
  show jG (od g p 0) (iV g p 0) (au p 0) (iV g p 0).length++_=_
  rw [this];rfl
 have Me:gu p 1= [au p 0]++List.replicate ((bE p (au p 0)).length - 1) (au p 0):=rfl
 have hc1:([au p 0]:List Int).length=cK p 0:=rfl
 rw [hc1,Na,Nb, ← hi1, ← Me] at CS
 have sS:∀f:Int→Int,(∀e,f e=0)→List.replicate g.es.length [D.sc (.int .i64 0)]=(arr f g.es.length).map rI:=fun f hf=>by
  refine List.ext_getElem? fun i=> ?_
  simp only [arr,List.getElem?_replicate,List.getElem?_map]
  by_cases hi:i<g.es.length
  ·rw [if_pos hi,List.getElem?_range hi];simp [hf,rI]
  ·rw [if_neg hi,List.getElem?_eq_none (by simpa using hi)];rfl
 have fO:=sS (LK g p 0) fun _=>rfl
 have Mf:=kT (bE p (au p 0)) (by omega)
 have Mg:=iU [0, -1] (fq (cK p 0) ((bE p (au p 0)).length - 1)) 1 1 (by simp) (by simp) (by rw [jF];omega)
 have Ft:List.take 1 [(0:Int), -1]++fq (cK p 0) ((bE p (au p 0)).length - 1)++List.drop 1 [(0:Int), -1]=lg g p 0:=rfl
 rw [Ft] at Mg
 have ON:RK g p (-1) 0=LK g p 0:=by funext e;rfl
 rw [ON] at CS
 have D3:fF g p 0=bE p (au p 0):=rfl
 have Mf:Spec Tryz.prog 53 (Args [.d (sI (bE p (s0:Int)))]) [] (.d (sI (fF g p 0))) []:=by
  rw [D3, ← hs0];exact Mf
 generalize Nc:arr (LK g p 0) g.es.length=A0 at CS fO
 have qC:=jF (c:=cK p 0) (k:=(bE p (au p 0)).length - 1)
 generalize fq (cK p 0) ((bE p (au p 0)).length - 1)=gs at CS Mg qC
 unfold Gh Gi at CS
 have xo:List.drop 1 (List.map rI p.ord)=(p.ord.drop 1).map rI:=by rw [List.map_drop]
 have hdl:(p.ord.drop 1).length=g.n.toNat - 1:=by rw [List.length_drop];omega
 have wU:List.take p.ord.length (List.map rI p.ord)=List.map rI p.ord:=List.take_of_length_le (by simp)
 generalize Kh:g.n.toNat - 1=N1 at hdl
 (refine Spec.intro (C:=T.cfg [67] []) (rs:= [.c 4 32, .t 5]) (T.aq _ _) Tryz.func17 rfl rfl Tryz.ntmps17 Tryz.results17 (by simp [AObj.isNest]) (by simp [AObj.isNest]) (by kernel_rfl) ?_;intro X hX hP hC aM aN vals hA;refine ⟨_,by simp,hA, ?_⟩;have af:X.P.follows .mixedOrders=true:=(by rw [hP];exact T.mixed);clear aM aN)
 repeat' (first|fail|((first|((with_reducible (first|apply oA|apply oB));exact rfl;intro K hK)|(refine hK _ ?_;clear hK K)|((with_reducible (first|apply oG|apply oH));iterate 3 exact rfl)|((with_reducible apply oI);(iterate 2 exact rfl);intro K hK)|(with_reducible (first|apply wI|apply wJ|apply wK)));try simp only [go_sem,simprocAttr,hb0,uv,hs4,fO,hs0,qq,xo,hdl,rI])|(show dG _ (.seq (.region 8 _ _) _) _ _;(refine nJ 54 0 1 rfl rfl rfl ?_;simp only [LA.app,ASt.put,ASt.kill,putM,rml,List.set_cons_zero,List.set_cons_succ,go_sem,simprocAttr,hb0,uv,hs4,fO,hs0,qq,xo,hdl,rI]);(refine dg hX 52 rfl ?_;simp only [go_sem,simprocAttr,hb0,uv,hs4,fO,hs0,qq,xo,hdl,rI]))|(with_reducible (first|apply oC|apply oJ|exact oK|apply wA|apply wB|apply wC hX hC|apply wD hX hC|apply wE hX hC af|apply wF hX hC af|apply wG|apply wH|apply And.intro))|((with_reducible refine oD ?_ ?_);first|fail|kernel_rfl)|((with_reducible (first|apply oE|apply oF));(iterate 3 exact rfl);all_goals (intro h;first|(exact absurd h (by decide))|((try simp only [go_sem,simprocAttr,hb0,uv,hs4,fO,hs0,qq,xo,hdl,rI] at h);(try with_reducible intro K hK);simp only [go_sem,simprocAttr,hb0,uv,hs4,fO,hs0,qq,xo,hdl,rI])))|((first|((with_reducible apply wL);exact rfl)|((with_reducible apply wM);exact rfl));all_goals (try ((with_reducible intro h);first|(exact absurd h (by decide))|(try simp only [go_sem,simprocAttr,hb0,uv,hs4,fO,hs0,qq,xo,hdl,rI] at h))))|omega|((first|first|refine aa hX hC hP (hO) rfl rfl rfl (by simp only [go_sem,simprocAttr,hb0,uv,hs4,fO,hs0,qq,xo,hdl,rI]) rfl ?_|refine aa hX hC hP (FU) rfl rfl rfl (by simp only [go_sem,simprocAttr,hb0,uv,hs4,fO,hs0,qq,xo,hdl,rI]) rfl ?_|refine aa hX hC hP (OJ) rfl rfl rfl (by simp only [go_sem,simprocAttr,hb0,uv,hs4,fO,hs0,qq,xo,hdl,rI]) rfl ?_|refine aa hX hC hP (OK) rfl rfl rfl (by simp only [go_sem,simprocAttr,hb0,uv,hs4,fO,hs0,qq,xo,hdl,rI]) rfl ?_|refine aa hX hC hP (OL) rfl rfl rfl (by simp only [go_sem,simprocAttr,hb0,uv,hs4,fO,hs0,qq,xo,hdl,rI]) rfl ?_|(refine az hX hC hP [(10000,54),(10001,59),(10002,63),(10003,65),(10004,67),(10005,300),(10006,301)] (CS) rfl rfl rfl ?_ ?_ ?_ ?_ ?_ ?_ ?_ ?_ ?_ ?_ ?_ ?_ ?_ ?_;(focus (simp only [go_sem,simprocAttr,hb0,uv,hs4,fO,hs0,qq,xo,hdl,rI];done));(iterate 12 (focus (simp [go_sem,simprocAttr,hb0,uv,hs4,fO,hs0,qq,xo,hdl,rI];done)));simp only [go_sem,simprocAttr,hb0,uv,hs4,fO,hs0,qq,xo,hdl,rI,List.map_cons,List.map_nil])|refine aa hX hC hP (Mf) rfl rfl rfl (by simp only [go_sem,simprocAttr,hb0,uv,hs4,fO,hs0,qq,xo,hdl,rI]) rfl ?_|(refine bk hX hC hP (Mg) rfl rfl rfl ?_ ?_ rfl ?_;iterate 2 (focus (simp only [go_sem,simprocAttr,hb0,uv,hs4,fO,hs0,qq,xo,hdl,rI];done))));try simp only [go_sem,simprocAttr,hb0,uv,hs4,fO,hs0,qq,xo,hdl,rI])|(intro h))
 refine an (fun j:Nat=>j≤N1) (fun j=>⟨[(3, .ptr 3 0),(4, .ptr 4 0),(6, .d (.sl 1 (vT (dW g p g.n.toNat)))),(10,eN s0),(11,eN (au p N1)),(12, .ptr 54 0),(106, .d (sI (p.ord.drop 1))),(107,eN N1),(108,eN j)], [(54, .box [.d (sI (fF g p j)), .d (sI (lg g p j)), .ref 59, .ref 63, .ref 300, .ref 301]),(59, .own 3 1 ((arr (LK g p (j+1)) g.es.length).map rI)),(63, .own 3 1 ((arr (RK g p (-1) (j+1)) g.es.length).map rI)),(300, .tip 3 1 ((gu p (j+1)).map rI)),(301, .own 3 1 ((od g p (j+1)).map rI)),(3, .box [.d (sI p.ord), .d (.sl 1 (vI p.outs))]),(4, .box [.nil 3, .nil 3, .nil 3, .nil 3])]⟩) (fun j=>N1 - j) 0 (by omega) ?_ ?_
 ·refine Le.of ?_ ?_<;>simp [go_sem,simprocAttr,Kh,wU]
  omega
 rintro j hj
 rcases Nat.lt_or_ge j N1 with hjl|I4
 ·have hb:decide ((j:Int)<(N1:Int))=true:=decide_eq_true (by omega)
  have hjn:j+1<g.n.toNat:=by omega
  obtain ⟨a,p1,p2,p3,p4,p5,p6,p7⟩:=C0 hrun hI hjn
  have Dk:=aF hrun.2.1 hjn
  have hx:(p.ord.drop 1).getD j 0=au p (j+1):=by
   rw [List.getD_eq_getElem?_getD,List.getElem?_drop,Nat.add_comm 1 j]
   show _=p.ord.getD (j+1) 0
   rw [List.getD_eq_getElem?_getD]
  have jJ:=fun i hi=>(iM hrun hjn (e:=i) hi).1
  have AU:=ke hrun.2.1 Dk.1 Dk.2
  have Jo:=nT hrun.2.1 (Nat.le_refl _) hjn
  have hel:=k4 (g:=g) (p:=p) (k:=g.n.toNat)
  have Nd:=CW hrun hI hjn
  have hL:=Jl hrun (k:=j+1) hjn
  have hR:=Jm (r:= -1) hrun (k:=j+1) hjn
  rw [if_neg (by omega)] at hL hR
  have mH:gu p (j+1+1)=gu p (j+1)++List.replicate ((bE p (au p (j+1))).length - 1) (au p (j+1)):=rfl
  have hhi:od g p (j+1+1)=jG (od g p (j+1)) (iV g p (j+1)) (au p (j+1)) (iV g p (j+1)).length++List.replicate ((bE p (au p (j+1))).length - 1) 0:=rfl
  have Mh:=vl hrun hI hjn
  have kC:=ez (p:=p) (k:=j+1)
  have sy:=eM (g:=g) (p:=p) (k:=j+1)
  have Nf:=(pQ hrun (k:=j+1) (by omega)).1
  have Mi:fF g p (j+1)=if bE p (au p (j+1))= [] then fF g p j else (fF g p j).take (dn (fF g p j) (ew g p (au p (j+1)))).toNat++bE p (au p (j+1))++(fF g p j).drop ((dn (fF g p j) (ew g p (au p (j+1)))).toNat+(cq g p (au p (j+1))).length):=rfl
  have Mj:lg g p (j+1)=(lg g p j).take ((dn (fF g p j) (ew g p (au p (j+1)))).toNat+1)++fq (cK p (j+1)) ((bE p (au p (j+1))).length - 1)++(lg g p j).drop ((dn (fF g p j) (ew g p (au p (j+1)))).toNat+(cq g p (au p (j+1))).length):=rfl
  rw [p1,Int.toNat_natCast] at Mi Mj
  obtain ⟨r1,r2,r3⟩:=vj hrun hI hjn
  have PF:(fF g p j).length≤10000:=by
   rw [r1]
   have:=eY (m:=(List.range g.es.length).map Int.ofNat) (CY hrun (k:=j+1) (by omega)) fun e he=>by
    have hi:=dB hm hrun.2.1 (k:=j+1) (by omega) fun i hi=>hrun.2.2 i (by omega)
    obtain ⟨t,ht,rfl⟩:=List.mem_map.1 he
    obtain ⟨⟨h1,h2⟩,_⟩:=oa hm hi.1.togG ht
    exact List.mem_map.2 ⟨t.1.toNat,List.mem_range.2 (by omega),by simp;omega⟩
   simp at this
   omega
  have hfr:ew g p (au p (j+1))=((fk g p (j+1)).getD 0 (0,0,0)).1:=by
   unfold ew
   rw [Nd]
   cases fk g p (j+1)<;>rfl
  rw [Nd,List.length_map] at p2 p3 p6 p7 Mi Mj
  have hIx:=aO (fF g p j) (ew g p (au p (j+1))) (by omega)
  rw [p1] at hIx
  rw [hfr] at hIx p5
  have kD:=vh (au p (j+1)) (bE p (au p (j+1))) (fF g p j) (lg g p j) (arr (LK g p (j+1)) g.es.length) (arr (RK g p (-1) (j+1)) g.es.length) (gu p (j+1)) (od g p (j+1)) a (a+(fk g p (j+1)).length) (by omega) (by omega) (by omega) (by omega) (by omega) (by rw [p7];exact Mh) (by omega) (fun i hi=>by rw [dX];exact jJ i hi) (by rw [dX,dX]) (by omega) (by omega)
  rw [p7,p5,p6,kC, ← hhi, ← mH, ← Mi, ← Mj] at kD
  rw [← hfr] at kD
  rw [hL,hR] at kD
  obtain ⟨x,Mk⟩:∃x:Nat,au p (j+1)=x:=⟨(au p (j+1)).toNat,by omega⟩
  have fY:x<p.outs.length:=by have:=hrun.2.1.1;omega
  have hv:=j7 fY
  have hla:p.outs.getD x []=bE p (au p (j+1)):=by unfold bE;rw [Mk,Int.toNat_natCast]
  rw [hla] at hv
  have yq:=fun d=>nO (ls:=dW g p g.n.toNat) (k:=x) (by omega) d
  have hex:(dW g p g.n.toNat).getD x []=fk g p (j+1):=by rw [← Jo,Mk,Int.toNat_natCast]
  rw [hex] at yq
  have hvl:(vT (dW g p g.n.toNat)).length=g.n.toNat:=by rw [vT_length,hel]
  have EG:x<g.n.toNat:=by omega
  obtain ⟨bb,me⟩:∃bb:Nat,bb=a+(fk g p (j+1)).length:=⟨_,rfl⟩
  have pe:(a:Int)+((fk g p (j+1)).length:Int)=(bb:Int):=by omega
  rw [← me] at kD
  have iO:bb≤10000:=by omega
  generalize bE p (au p (j+1))=o at kD hv
  rw [Mk] at kD hx
  generalize fk g p (j+1)=gn at hIx yq pe p2
  clear me
  generalize Fu:fF g p (j+1)=E2 at kD
  generalize fF g p j=E1 at kD hIx
  generalize hq1:lg g p (j+1)=G2 at kD
  generalize lg g p j=G1 at kD
  generalize DS:arr (LK g p (j+1+1)) g.es.length=A2 at kD
  generalize OO:arr (RK g p (-1) (j+1+1)) g.es.length=B2 at kD
  generalize arr (LK g p (j+1)) g.es.length=A1 at kD
  generalize arr (RK g p (-1) (j+1)) g.es.length=B1 at kD
  generalize OP:gu p (j+1+1)=L2 at kD
  generalize OQ:od g p (j+1+1)=H2 at kD
  generalize gu p (j+1)=L1 at kD
  generalize od g p (j+1)=H1 at kD
  generalize vT (dW g p g.n.toNat)=VE at yq hvl
  unfold Gh Gi at kD
  repeat' (first|fail|((first|((with_reducible (first|apply oA|apply oB));exact rfl;intro K hK)|(refine hK _ ?_;clear hK K)|((with_reducible (first|apply oG|apply oH));iterate 3 exact rfl)|((with_reducible apply oI);(iterate 2 exact rfl);intro K hK)|(with_reducible (first|apply wI|apply wJ|apply wK)));try simp only [go_sem,simprocAttr,hb,hx,hv,yq,hvl,pe])|(show dG _ (.region 15 _ _) _ _;(refine jV hX 54 4 302 300 rfl rfl rfl (by first|exact .inl rfl|exact .inr rfl) (by decide) (by decide) ?_;simp only [LA.app,ASt.put,ASt.kill,subT,rmk,putM,rml,kl,AV.sub,AV.subs,AObj.sub,List.set_cons_zero,List.set_cons_succ,go_sem,simprocAttr,hb,hx,hv,yq,hvl,pe]);(refine jV hX 54 5 303 301 rfl rfl rfl (by first|exact .inl rfl|exact .inr rfl) (by decide) (by decide) ?_;simp only [LA.app,ASt.put,ASt.kill,subT,rmk,putM,rml,kl,AV.sub,AV.subs,AObj.sub,List.set_cons_zero,List.set_cons_succ,go_sem,simprocAttr,hb,hx,hv,yq,hvl,pe]))|(with_reducible (first|apply oC|apply oJ|exact oK|apply wA|apply wB|apply wC hX hC|apply wD hX hC|apply wE hX hC af|apply wF hX hC af|apply wG|apply wH|apply And.intro))|((with_reducible refine oD ?_ ?_);first|fail|kernel_rfl)|((with_reducible (first|apply oE|apply oF));(iterate 3 exact rfl);all_goals (intro h;first|(exact absurd h (by decide))|((try simp only [go_sem,simprocAttr,hb,hx,hv,yq,hvl,pe] at h);(try with_reducible intro K hK);simp only [go_sem,simprocAttr,hb,hx,hv,yq,hvl,pe])))|((first|((with_reducible apply wL);exact rfl)|((with_reducible apply wM);exact rfl));all_goals (try ((with_reducible intro h);first|(exact absurd h (by decide))|(try simp only [go_sem,simprocAttr,hb,hx,hv,yq,hvl,pe] at h))))|omega|((first|first|refine aa hX hC hP (hIx) rfl rfl rfl (by simp only [go_sem,simprocAttr,hb,hx,hv,yq,hvl,pe]) rfl ?_|(refine az hX hC hP [(10000,54),(10001,59),(10002,63),(10003,300),(10004,301),(10005,302),(10006,303)] (kD) rfl rfl rfl ?_ ?_ ?_ ?_ ?_ ?_ ?_ ?_ ?_ ?_ ?_ ?_ ?_ ?_;(focus (simp only [go_sem,simprocAttr,hb,hx,hv,yq,hvl,pe];done));(iterate 12 (focus (simp [go_sem,simprocAttr,hb,hx,hv,yq,hvl,pe];done)));simp only [go_sem,simprocAttr,hb,hx,hv,yq,hvl,pe,List.map_cons,List.map_nil]));try simp only [go_sem,simprocAttr,hb,hx,hv,yq,hvl,pe])|(intro h))
  refine ⟨j+1,by omega, ?_,by omega⟩
  rw [Fu,hq1,DS,OO,OP,OQ]
  refine Le.of ?_ ?_<;>simp [go_sem,simprocAttr,hb,hx,hv,yq,hvl,pe]
 have hb:decide ((j:Int)<(N1:Int))=false:=decide_eq_false (by omega)
 obtain rfl:j=N1:=by omega
 have OR:j+1=g.n.toNat:=by omega
 rw [OR]
 have kC:=ez (p:=p) (k:=g.n.toNat)
 have sy:=eM (g:=g) (p:=p) (k:=g.n.toNat)
 have Nf:=(pQ hrun (k:=g.n.toNat) (by omega)).1
 have OS:Ei g p=⟨arr (LK g p g.n.toNat) g.es.length,(arr (RK g p (-1) g.n.toNat) g.es.length).map (kE g p),gu p g.n.toNat++ [(s0:Int)],od g p g.n.toNat++ [au p j]⟩:=by unfold Ei;rw [hs0,Kh]
 have OU:(arr (RK g p (-1) g.n.toNat) g.es.length).length=g.es.length:=dX
 rw [OS]
 have hrf:∀f,kE g p f=if f= -1 then (cK p g.n.toNat:Int) else f:=fun f=>rfl
 generalize arr (RK g p (-1) g.n.toNat) g.es.length=RA at OU
 generalize arr (LK g p g.n.toNat) g.es.length=LA
 generalize gu p g.n.toNat=LO at kC
 generalize od g p g.n.toNat=HI at sy
 generalize fF g p j=E1
 generalize lg g p j=G1
 generalize cK p g.n.toNat=cc at kC sy Nf hrf
 repeat' (first|fail|((first|((with_reducible (first|apply oA|apply oB));exact rfl;intro K hK)|(refine hK _ ?_;clear hK K)|((with_reducible (first|apply oG|apply oH));iterate 3 exact rfl)|((with_reducible apply oI);(iterate 2 exact rfl);intro K hK)|(with_reducible (first|apply wI|apply wJ|apply wK)));try simp only [go_sem,simprocAttr,hb,kC])|fail|(with_reducible (first|apply oC|apply oJ|exact oK|apply wA|apply wB|apply wC hX hC|apply wD hX hC|apply wE hX hC af|apply wF hX hC af|apply wG|apply wH|apply And.intro))|((with_reducible refine oD ?_ ?_);first|fail|kernel_rfl)|((with_reducible (first|apply oE|apply oF));(iterate 3 exact rfl);all_goals (intro h;first|(exact absurd h (by decide))|((try simp only [go_sem,simprocAttr,hb,kC] at h);(try with_reducible intro K hK);simp only [go_sem,simprocAttr,hb,kC])))|((first|((with_reducible apply wL);exact rfl)|((with_reducible apply wM);exact rfl));all_goals (try ((with_reducible intro h);first|(exact absurd h (by decide))|(try simp only [go_sem,simprocAttr,hb,kC] at h))))|omega|((first|fail);try simp only [go_sem,simprocAttr,hb,kC])|(intro h))
 refine an (fun i:Nat=>i≤RA.length) (fun i=>⟨[(4, .ptr 4 0),(12, .ptr 54 0),(17,eN cc),(175, .ref 63),(176,eN RA.length),(177,eN i)], [(54, .box [.d (sI E1), .d (sI G1), .ref 59, .ref 63, .ref 156, .ref 164]),(59, .own 3 1 (LA.map rI)),(63, .own 3 1 ((lp RA (kE g p) i).map rI)),(156, .tip 3 1 ((LO++ [(s0:Int)]).map rI)),(164, .own 3 1 ((HI++ [au p j]).map rI)),(4, .box [.nil 3, .nil 3, .nil 3, .nil 3])]⟩) (fun i=>RA.length - i) 0 (by omega) ?_ ?_
 ·refine Le.of ?_ ?_<;>simp [go_sem,simprocAttr,lp,rI]
 rintro i hi
 rcases Nat.lt_or_ge i RA.length with hil|JO
 ·have eO:decide ((i:Int)<(RA.length:Int))=true:=decide_eq_true (by omega)
  have hml:=C1 (l:=RA) (f:=kE g p) (j:=i)
  have hma:=zw (f:=kE g p) hil
  by_cases zY:RA.getD i 0= -1
  ·have aj:decide ((lp RA (kE g p) i).getD i 0= -1)=true:=decide_eq_true (by rw [hma,zY])
   have eH:=tW (f:=kE g p) hil
   rw [hrf,if_pos zY] at eH
   generalize lp RA (kE g p) i=M at hml aj eH
   repeat' (first|fail|((first|((with_reducible (first|apply oA|apply oB));exact rfl;intro K hK)|(refine hK _ ?_;clear hK K)|((with_reducible (first|apply oG|apply oH));iterate 3 exact rfl)|((with_reducible apply oI);(iterate 2 exact rfl);intro K hK)|(with_reducible (first|apply wI|apply wJ|apply wK)));try simp only [go_sem,simprocAttr,eO,aj,hml])|fail|(with_reducible (first|apply oC|apply oJ|exact oK|apply wA|apply wB|apply wC hX hC|apply wD hX hC|apply wE hX hC af|apply wF hX hC af|apply wG|apply wH|apply And.intro))|((with_reducible refine oD ?_ ?_);first|fail|kernel_rfl)|((with_reducible (first|apply oE|apply oF));(iterate 3 exact rfl);all_goals (intro h;first|(exact absurd h (by decide))|((try simp only [go_sem,simprocAttr,eO,aj,hml] at h);(try with_reducible intro K hK);simp only [go_sem,simprocAttr,eO,aj,hml])))|((first|((with_reducible apply wL);exact rfl)|((with_reducible apply wM);exact rfl));all_goals (try ((with_reducible intro h);first|(exact absurd h (by decide))|(try simp only [go_sem,simprocAttr,eO,aj,hml] at h))))|omega|((first|fail);try simp only [go_sem,simprocAttr,eO,aj,hml])|(intro h))
   refine ⟨i+1,by omega, ?_,by omega⟩
   rw [eH]
   refine Le.of ?_ ?_<;>simp [go_sem,simprocAttr,eO,aj,hml,rI]
  ·have aj:decide ((lp RA (kE g p) i).getD i 0= -1)=false:=decide_eq_false (by rw [hma];exact zY)
   have eH:=AI (f:=kE g p) hil (by rw [hrf,if_neg zY])
   generalize lp RA (kE g p) i=M at hml aj eH
   repeat' (first|fail|((first|((with_reducible (first|apply oA|apply oB));exact rfl;intro K hK)|(refine hK _ ?_;clear hK K)|((with_reducible (first|apply oG|apply oH));iterate 3 exact rfl)|((with_reducible apply oI);(iterate 2 exact rfl);intro K hK)|(with_reducible (first|apply wI|apply wJ|apply wK)));try simp only [go_sem,simprocAttr,eO,aj,hml])|fail|(with_reducible (first|apply oC|apply oJ|exact oK|apply wA|apply wB|apply wC hX hC|apply wD hX hC|apply wE hX hC af|apply wF hX hC af|apply wG|apply wH|apply And.intro))|((with_reducible refine oD ?_ ?_);first|fail|kernel_rfl)|((with_reducible (first|apply oE|apply oF));(iterate 3 exact rfl);all_goals (intro h;first|(exact absurd h (by decide))|((try simp only [go_sem,simprocAttr,eO,aj,hml] at h);(try with_reducible intro K hK);simp only [go_sem,simprocAttr,eO,aj,hml])))|((first|((with_reducible apply wL);exact rfl)|((with_reducible apply wM);exact rfl));all_goals (try ((with_reducible intro h);first|(exact absurd h (by decide))|(try simp only [go_sem,simprocAttr,eO,aj,hml] at h))))|omega|((first|fail);try simp only [go_sem,simprocAttr,eO,aj,hml])|(intro h))
   refine ⟨i+1,by omega, ?_,by omega⟩
   rw [eH]
   refine Le.of ?_ ?_<;>simp [go_sem,simprocAttr,eO,aj,hml,rI]
 have eO:decide ((i:Int)<(RA.length:Int))=false:=decide_eq_false (by omega)
 obtain rfl:i=RA.length:=by omega
 rw [C2]
 repeat' (first|fail|((first|((with_reducible (first|apply oA|apply oB));exact rfl;intro K hK)|(refine hK _ ?_;clear hK K)|((with_reducible (first|apply oG|apply oH));iterate 3 exact rfl)|((with_reducible apply oI);(iterate 2 exact rfl);intro K hK)|(with_reducible (first|apply wI|apply wJ|apply wK)));try simp only [go_sem,simprocAttr,eO,iW])|fail|(with_reducible (first|apply oC|apply oJ|exact oK|apply wA|apply wB|apply wC hX hC|apply wD hX hC|apply wE hX hC af|apply wF hX hC af|apply wG|apply wH|apply And.intro))|((with_reducible refine oD ?_ ?_);first|fail|kernel_rfl)|((with_reducible (first|apply oE|apply oF));(iterate 3 exact rfl);all_goals (intro h;first|(exact absurd h (by decide))|((try simp only [go_sem,simprocAttr,eO,iW] at h);(try with_reducible intro K hK);simp only [go_sem,simprocAttr,eO,iW])))|((first|((with_reducible apply wL);exact rfl)|((with_reducible apply wM);exact rfl));all_goals (try ((with_reducible intro h);first|(exact absurd h (by decide))|(try simp only [go_sem,simprocAttr,eO,iW] at h))))|omega|((first|fail);try simp only [go_sem,simprocAttr,eO,iW])|(intro h))
end Go.Ab
end
section
namespace Go.Ab
open Go.Proofs
set_option maxRecDepth 10000
set_option linter.unusedSectionVars false
section
variable (g:Gr) (p:Pl)
def cN:Nat:=cK p g.n.toNat
def Lf (e:Int):Int:=LK g p g.n.toNat e
def Rf (e:Int):Int:=RK g p (cN g p) g.n.toNat e
def FV:List Int:=gu p g.n.toNat++ [au p 0]
def FW:List Int:=od g p g.n.toNat++ [au p (g.n.toNat - 1)]
def AZ (f:Int):Int:=(FV g p).getD f.toNat 0
def Dm (f:Int):Int:=(FW g p).getD f.toNat 0
end
section
variable {g:Gr} {p:Pl}
theorem Ej:(FV g p).length=cN g p+1:=by simp [FV,ez,cN]
theorem Ek:(FW g p).length=cN g p+1:=by simp [FW,eM,cN]
variable (h:cB g p) (hI:kG g=true)
include h hI
theorem Jp {a:Int} (ha:(gr g p).Dc a):∃k u b v,k<g.n.toNat∧kH g a=au p k∧bE p (au p k)=u++a::b::v:=by
 obtain ⟨x,u,b,v,e⟩:=ha
 by_cases hx:o7 g x
 ·obtain ⟨k,hk,rfl⟩:=ga h.2.1 hx.1 hx.2
  rw [gN hx] at e
  exact ⟨k,u,b,v,hk,(mU h hk e).1,e⟩
 ·rw [n0 hx] at e;cases u<;>cases e
theorem zx {a:Int} (ha:(gr g p).Dc a):∃f:Nat,1≤f∧f<cN g p∧∀r,RK g p r g.n.toNat a=f:=by
 obtain ⟨k,u,b,v,hk,_,e⟩:=Jp h hI ha
 have hl:(bE p (au p k)).length=u.length+(v.length+2):=by rw [e];simp
 have D4:cK p (k+1)=cK p k+((bE p (au p k)).length - 1):=rfl
 obtain ⟨d,hd⟩:=Nat.exists_eq_add_of_le (show k+1≤g.n.toNat by omega)
 have hmo:=lS (p:=p) (k:=k+1) (d:=d)
 rw [← hd] at hmo
 have hp:0<cK p k:=kf
 have F7:cN g p=cK p g.n.toNat:=rfl
 exact ⟨cK p k+u.length,by omega,by omega,fun r=>by rw [gO h hk e (by omega) (Nat.le_refl _)];omega⟩
theorem C3 {f:Nat} (h1:1≤f) (h2:f<cN g p):∃a,(gr g p).Dc a∧Rf g p a=f:=by
 have key:∀n,n≤g.n.toNat→f<cK p n→∃k,k<n∧cK p k≤f∧f<cK p (k+1):=by
  intro n
  induction n with
  |zero=>intro _ h3;have:f<1:=h3;omega
  |succ n ih=>
   intro h3 h4
   by_cases h5:f<cK p n
   ·obtain ⟨k,h6,h7⟩:=ih (by omega) h5;exact ⟨k,by omega,h7⟩
   ·exact ⟨n,by omega,by omega,h4⟩
 obtain ⟨k,hk,h3,h4⟩:=key g.n.toNat (Nat.le_refl _) h2
 have D4:cK p (k+1)=cK p k+((bE p (au p k)).length - 1):=rfl
 have hu:f - cK p k+1<(bE p (au p k)).length:=by omega
 have e:bE p (au p k)=(bE p (au p k)).take (f - cK p k)++(bE p (au p k))[f - cK p k]::(bE p (au p k))[f - cK p k+1]::(bE p (au p k)).drop (f - cK p k+2):=by
  rw [← List.drop_eq_getElem_cons hu, ← List.drop_eq_getElem_cons (by omega),List.take_append_drop]
 have hx:=aF h.2.1 (show k<g.n.toNat by omega)
 refine ⟨(bE p (au p k))[f - cK p k],⟨au p k,_,_,_,by rw [gN hx];exact e⟩, ?_⟩
 unfold Rf
 rw [gO h (by omega) e (by omega) (Nat.le_refl _),List.length_take]
 omega
theorem dP:(gr g p).gA (Lf g p) (Rf g p) 0 (cN g p) (AZ g p):=by
 have F:=mV h hI (r:=cN g p) (.inr (Int.le_refl _))
 exact {F with
  new:=fun {x u a b v} e=>by
   obtain ⟨h1,h2,h3⟩:=F.new e
   obtain ⟨f,_,h5,h6⟩:=zx h hI (a:=a) ⟨x,u,b,v,e⟩
   have h7:Rf g p a=f:=h6 _
   have h8:RK g p (cN g p) g.n.toNat a=f:=h6 _
   refine ⟨?_,h2,h3⟩
   rw [h8] at h1
   show (gu p g.n.toNat++ [au p 0]).getD (Rf g p a).toNat 0=x
   rw [h7, ← h1,Int.toNat_natCast,eo (by rw [ez];exact h5)]}
theorem C4 {e:Int} (he:0≤e∧e<g.es.length):kE g p (RK g p (-1) g.n.toNat e)=Rf g p e:=by
 have F:=mV h hI (r:= -1) (.inl (by omega))
 have F':=mV h hI (r:=cN g p) (.inr (Int.le_refl _))
 rcases yA (k8 h hI) F F' (d:=_+1) (Nat.lt_succ_self _) (e:=e) he with ⟨h1,h2⟩|⟨a,h1,_,h2,h3⟩
 ·rw [h1];unfold kE Rf;rw [if_pos rfl,h2];rfl
 ·obtain ⟨f,h4,_,h5⟩:=zx h hI h1
  unfold kE Rf
  rw [h2,h3,h5,h5,if_neg (by omega)]
theorem FX:Ei g p=⟨arr (Lf g p) g.es.length,arr (Rf g p) g.es.length,FV g p,FW g p⟩:=by
 unfold Ei
 have:(arr (RK g p (-1) g.n.toNat) g.es.length).map (kE g p)=arr (Rf g p) g.es.length:=by
  unfold arr
  rw [List.map_map]
  refine List.map_congr_left fun i hi=> ?_
  have:=List.mem_range.1 hi
  exact C4 h hI (e:=(i:Int)) (by omega)
 rw [this];rfl
theorem yu {x x':Int} {u u' v v':List Int} {a b a' b':Int} (e1:(gr g p).ins x=u++a::b::v) (e2:(gr g p).ins x'=u'++a'::b'::v') (hR:Rf g p a=Rf g p a'):x=x':=by
 have hok:=k8 h hI
 have F:=dP h hI
 obtain ⟨ha,BB⟩:=(hok.bA x a).1 (by rw [e1];simp)
 obtain ⟨hb,uK⟩:=(hok.bA x b).1 (by rw [e1];simp)
 obtain ⟨A8,Jq⟩:=(hok.bA x' a').1 (by rw [e2];simp)
 obtain ⟨hb',Ml⟩:=(hok.bA x' b').1 (by rw [e2];simp)
 by_cases hne:a=a'
 ·rw [← BB, ← Jq,hne]
 ·exfalso
  have l1:=F.mu e1
  have l2:=F.mu e2
  rcases zF hok F ha A8 hne with h1|h1|h1|h1
  ·rw [BB, ← uK] at h1
   exact nc hok F hb A8 h1 (by rw [← hR,l1];exact .refl)
  ·rw [Jq, ← Ml] at h1
   exact nc hok F hb' ha h1 (by rw [hR,l2];exact .refl)
  ·rw [hR] at h1
   exact gX hok F A8 A8 h1 h1
  ·rw [← hR] at h1
   exact gX hok F ha ha h1 h1
theorem AM {k:Nat} (hk:k<g.n.toNat) {a:Int} (ha:a∈(cq g p (au p k)).dropLast):∃u b v,cq g p (au p k)=u++a::b::v:=by
 have hne:cq g p (au p k)≠ []:=fun h0=>by rw [h0] at ha;cases ha
 obtain ⟨w,c,hw⟩:=bV hne
 rw [hw,List.dropLast_concat] at ha
 obtain ⟨u,v,rfl⟩:=List.append_of_mem ha
 cases v with
 |nil=>exact ⟨u,c, [],by rw [hw];simp⟩
 |cons b v=>exact ⟨u,b,v++ [c],by rw [hw];simp⟩
theorem qm {k:Nat} (hk:k<g.n.toNat) {f:Int} (hf:f∈iV g p k):1≤f∧∃u a b v,cq g p (au p k)=u++a::b::v∧Rf g p a=f:=by
 obtain ⟨a,ha,rfl⟩:=List.mem_map.1 hf
 obtain ⟨u,b,v,e⟩:=AM h hI hk ha
 have sN:=xk h hk (by rw [e];simp)
 obtain ⟨j,hj,et⟩:=oc h hk (a:=a) (by rw [e];simp)
 have h1:RK g p (-1) k a=RK g p (-1) g.n.toNat a:=by
  rw [ef h (by omega) et (j:=g.n.toNat) (by omega) (by omega),ef h (by omega) et (j:=k) (by omega) (by omega)]
 obtain ⟨A,C,e1,hne,_⟩:=kg h sN hk
 have h2:=vk h hI (k:=k) (by omega) hk a (by
  rw [e1]
  by_cases hC:C= []
  ·subst hC;rw [List.append_nil,cR h hne];simp [ha]
  ·rw [cR h hC];simp [(List.dropLast_sublist _).subset ha])
 refine ⟨h2.1,u,a,b,v,e, ?_⟩
 have Mm:0≤a∧a<g.es.length:=((iA h (aF h.2.1 hk)).2 a).1 (by rw [e];simp) |>.1
 rw [← C4 h hI Mm, ← h1]
 unfold kE
 rw [if_neg (by omega)]
theorem xp:∀ {k:Nat},k≤g.n.toNat→(od g p k).getD 0 0=au p (g.n.toNat - 1)
 |0,_=>rfl
 |k+1,hk=>by
  have ih:=xp (k:=k) (by omega)
  have hl:(od g p k).length=cK p k:=eM
  have hp:0<cK p k:=kf
  rw [od,eo (by rw [jH];omega)]
  unfold jG
  rw [lT fun i hi=> ?_,ih]
  have:=(qm h hI (k:=k) (by omega) (f:=(iV g p k).getD i 0) (aT hi)).1
  omega
theorem C5 {j:Nat} (hj:j<g.n.toNat) {f:Int} (hf:f∈iV g p j):∀ {k:Nat},j+1≤k→k≤g.n.toNat→(od g p k).getD f.toNat 0=au p j
 |0,h1,_=>by omega
 |k+1,h1,hk=>by
  have Mn:=vl h hI hj f hf
  have hl:(od g p j).length=cK p j:=eM
  have hlk:(od g p k).length=cK p k:=eM
  obtain ⟨d,rfl⟩:=Nat.exists_eq_add_of_le (show j≤k by omega)
  have hmo:=lS (p:=p) (k:=j) (d:=d)
  rw [od,eo (by rw [jH];omega)]
  unfold jG
  by_cases hd:d=0
  ·subst hd
   obtain ⟨i,hi,e⟩:=List.mem_iff_getElem.1 hf
   have e2:(iV g p (j+0)).getD i 0=f:=by rw [List.getD_eq_getElem?_getD,List.getElem?_eq_getElem (by exact hi)];exact e
   have:∀n,i<n→n≤(iV g p j).length→(iB (od g p j) (iV g p j) (fun _=>au p j) n).getD f.toNat 0=au p j:=by
    intro n
    induction n with
    |zero=>intro h2;omega
    |succ n ih=>
     intro h2 h3
     rw [iB,List.getD_eq_getElem?_getD,List.getElem?_set]
     by_cases h4:((iV g p j).getD n 0).toNat=f.toNat
     ·rw [if_pos h4,if_pos (by rw [fm];omega)];rfl
     ·rw [if_neg h4, ← List.getD_eq_getElem?_getD]
      by_cases h5:i=n
      ·subst h5;exact absurd (by rw [show (iV g p j).getD i 0=f from e2]) h4
      ·exact ih (by omega) (by omega)
   exact this _ hi (Nat.le_refl _)
  ·rw [lT fun i hi e=> ?_,C5 hj hf (k:=j+d) (by omega) (by omega)]
   obtain ⟨g1,u,a,b,v,g2,g3⟩:=qm h hI (k:=j+d) (by omega) (f:=(iV g p (j+d)).getD i 0) (aT hi)
   obtain ⟨g4,u',a',b',v',g5,g6⟩:=qm h hI hj hf
   have:=yu h hI (x:=au p (j+d)) (x':=au p j) (by rw [gy (aF h.2.1 (by omega))];exact g2) (by rw [gy (aF h.2.1 hj)];exact g5) (by rw [g3,g6];omega)
   have:=dA h.2.1 (show j+d<g.n.toNat by omega) hj this
   omega
theorem C6:(gr g p).Hi (Rf g p) 0 (cN g p) (Dm g p) where
 mid:=fun {x u a b v} e=>by
  by_cases hx:o7 g x
  rotate_left
  ·rw [lR hx] at e;cases u<;>cases e
  obtain ⟨k,hk,rfl⟩:=ga h.2.1 hx.1 hx.2
  rw [gy hx] at e
  have ha:a∈(cq g p (au p k)).dropLast:=by
   rw [e,show u++a::b::v=(u++ [a])++(b::v) by simp,cR h (by simp)];simp
  have hf:RK g p (-1) k a∈iV g p k:=List.mem_map_of_mem ha
  obtain ⟨j,hj,et⟩:=oc h hk (a:=a) (by rw [e];simp)
  have h1:RK g p (-1) k a=RK g p (-1) g.n.toNat a:=by
   rw [ef h (by omega) et (j:=g.n.toNat) (by omega) (by omega),ef h (by omega) et (j:=k) (by omega) (by omega)]
  have h2:=(qm h hI hk hf).1
  have Mm:0≤a∧a<g.es.length:=((iA h (aF h.2.1 hk)).2 a).1 (by rw [e];simp) |>.1
  have h3:Rf g p a=RK g p (-1) k a:=by
   rw [← C4 h hI Mm, ← h1];unfold kE;rw [if_neg (by omega)]
  have h4:=C5 h hI hk hf (k:=g.n.toNat) (by omega) (Nat.le_refl _)
  have Mn:=vl h hI hk _ hf
  have hl:(od g p k).length=cK p k:=eM
  obtain ⟨d,hd⟩:=Nat.exists_eq_add_of_le (show k≤g.n.toNat by omega)
  have hmo:=lS (p:=p) (k:=k) (d:=d)
  rw [← hd] at hmo
  show (od g p g.n.toNat++_).getD (Rf g p a).toNat 0=_
  rw [h3,eo (by rw [eM];omega),h4]
 h0:=by
  have hp:0<cK p g.n.toNat:=kf
  show (od g p g.n.toNat++_).getD 0 0=_
  rw [eo (by rw [eM];exact hp),xp h hI (Nat.le_refl _)];rfl
 h1:=by
  show (od g p g.n.toNat++_).getD ((cN g p:Int)).toNat 0=_
  rw [Int.toNat_natCast,show cN g p=(od g p g.n.toNat).length by rw [eM];rfl]
  exact jI
theorem C7:AZ g p 0=au p 0:=by
 have hp:0<cK p g.n.toNat:=kf
 show (gu p g.n.toNat++ [au p 0]).getD 0 0=_
 rw [eo (by rw [ez];exact hp)]
 have:=o8 (p:=p) (k:=0) (f:=0) (by simp [cK]) (d:=g.n.toNat)
 rw [Nat.zero_add] at this
 rw [this];rfl
theorem El:AZ g p (cN g p)=au p 0:=by
 show (gu p g.n.toNat++ [au p 0]).getD ((cN g p:Int)).toNat 0=_
 rw [Int.toNat_natCast,show cN g p=(gu p g.n.toNat).length by rw [ez];rfl]
 exact jI
theorem EN {e:Int} (he:0≤e∧e<g.es.length):1≤Rf g p e∧Rf g p e≤cN g p:=by
 have hp:0<cK p g.n.toNat:=kf
 rcases yA (k8 h hI) (dP h hI) (dP h hI) (d:=_+1) (Nat.lt_succ_self _) (e:=e) he with ⟨h1,_⟩|⟨a,h1,_,h2,_⟩
 ·rw [h1];have:cN g p=cK p g.n.toNat:=rfl;omega
 ·obtain ⟨f,h3,h4,h5⟩:=zx h hI h1
  have h5:Rf g p a=f:=h5 _
  omega
theorem EO {e:Int} (he:0≤e∧e<g.es.length):0≤Lf g p e∧Lf g p e<cN g p:=by
 have hp:0<cK p g.n.toNat:=kf
 rcases Er (k8 h hI) (dP h hI) (dP h hI) (d:=_+1) (Nat.lt_succ_self _) (e:=e) he with ⟨h1,_⟩|⟨a,h1,h2,_⟩
 ·rw [h1];have:cN g p=cK p g.n.toNat:=rfl;omega
 ·obtain ⟨f,h3,h4,h5⟩:=zx h hI h1
  have h5:Rf g p a=f:=h5 _
  omega
theorem Jr:(cN g p:Int)=g.es.length - g.n+2:=by
 have hm:=aG h.1
 have hn:=aY hm
 have tO:bE p (au p (g.n.toNat - 1))= []:=(eu h hI (aF h.2.1 (by omega))).2 rfl
 have key:∀k,k<g.n.toNat→(cK p k:Int)=1+((List.range k).flatMap fun j=>bE p (au p j)).length - k:=by
  intro k
  induction k with
  |zero=>intro _;simp [cK]
  |succ k ih=>
   intro hk
   have hO:bE p (au p k)≠ []:=fun h1=>by
    have:=(eu h hI (aF h.2.1 (show k<g.n.toNat by omega))).1 h1
    have:=dA h.2.1 (show k<g.n.toNat by omega) (by omega) this
    omega
   have:=List.length_pos_iff.2 hO
   have ih:=ih (by omega)
   have e1:((List.range (k+1)).flatMap fun j=>bE p (au p j))=((List.range k).flatMap fun j=>bE p (au p j))++bE p (au p k):=by rw [List.range_succ,List.flatMap_append];simp
   rw [e1,List.length_append,cK]
   omega
 have hall:((List.range (g.n.toNat - 1)).flatMap fun j=>bE p (au p j)).length=g.es.length:=by
  have bT:∀k,k≤g.n.toNat→((List.range k).flatMap fun j=>bE p (au p j)).Nodup:=by
   intro k
   induction k with
   |zero=>intro _;simp
   |succ k ih=>
    intro hk
    rw [List.range_succ,List.flatMap_append,List.nodup_append]
    refine ⟨ih (by omega),by simpa using CU h (by omega),fun a ha b hb e=> ?_⟩
    subst e
    obtain ⟨j,hj,hja⟩:=List.mem_flatMap.1 ha
    have hj:=List.mem_range.1 hj
    have hb:a∈bE p (au p k):=by simpa using hb
    have t1:=(iM h (by omega) hja).2
    have t2:=(iM h (by omega) hb).2
    have:=dA h.2.1 (show j<g.n.toNat by omega) (by omega) (t1.symm.trans t2)
    omega
  have Js:∀e:Int,0≤e→e<g.es.length→e∈((List.range (g.n.toNat - 1)).flatMap fun j=>bE p (au p j)):=fun e h1 h2=>by
   have ht:=bY hm (i:=e.toNat) (by omega)
   obtain ⟨k,hk,e1⟩:=ga h.2.1 ht.1 ht.2
   have e1:au p k=kH g e:=e1
   obtain ⟨u,v,e2⟩:=zv h hk ⟨h1,h2⟩ e1.symm
   refine List.mem_flatMap.2 ⟨k,List.mem_range.2 ?_,by rw [e2];simp⟩
   refine Decidable.byContradiction fun hc=> ?_
   obtain rfl:k=g.n.toNat - 1:=by omega
   rw [tO] at e2;cases u<;>cases e2
  have h1:=ou Js
  have h2:=eY (m:=(List.range g.es.length).map Int.ofNat) (bT (g.n.toNat - 1) (by omega)) fun e he=>by
   obtain ⟨j,hj,hja⟩:=List.mem_flatMap.1 he
   have hj:=List.mem_range.1 hj
   have:=(iM h (by omega) hja).1
   exact List.mem_map.2 ⟨e.toNat,List.mem_range.2 (by omega),by simp;omega⟩
  rw [List.length_map,List.length_range] at h2
  omega
 have h1:=key (g.n.toNat - 1) (by omega)
 rw [hall] at h1
 have h2:cN g p=cK p (g.n.toNat - 1):=by
  show cK p g.n.toNat=_
  rw [show g.n.toNat=(g.n.toNat - 1)+1 by omega,cK,show g.n.toNat - 1+1 - 1=g.n.toNat - 1 by omega,tO];rfl
 omega
end
end Go.Ab
end
section
namespace Go.Ab
open Go.Proofs
set_option maxRecDepth 10000
def C8 (q:Nat→Bool):Nat→Nat
 |0=>0
 |n+1=>C8 q n ||| (if q n then 2 ^ n else 0)
theorem oe {q:Nat→Bool} {y:Nat} :∀ {n:Nat},(C8 q n).testBit y=(decide (y<n)&&q y)
 |0=>by simp [C8]
 |n+1=>by
  rw [C8,Nat.testBit_or,oe]
  by_cases h:y=n
  ·subst h
   cases hq:q y<;>simp [Nat.testBit_two_pow_self]
  ·have h2:(if q n then 2 ^ n else 0).testBit y=false:=by
    split
    ·rw [Nat.testBit_two_pow];exact decide_eq_false fun e=>h e.symm
    ·simp
   rw [h2,Bool.or_false]
   congr 1
   rw [decide_eq_decide];omega
inductive A4 (g:Gr) (both:Bool) (c:Nat→Bool) (x:Nat):Nat→Prop
 |refl:A4 g both c x x
 |fwd {i:Nat} :i<g.es.length→c i=true→A4 g both c x (tl g i).toNat→A4 g both c x (hd g i).toNat
 |Ng {i:Nat} :i<g.es.length→c i=true→both=true→A4 g both c x (hd g i).toNat→A4 g both c x (tl g i).toNat
theorem A4.trans {g:Gr} {both:Bool} {c:Nat→Bool} {x y z:Nat} (h1:A4 g both c x y) (h2:A4 g both c y z):A4 g both c x z:=by
 induction h2 with
 |refl=>exact h1
 |fwd a b _ ih=>exact .fwd a b ih
 |Ng a b d _ ih=>exact .Ng a b d ih
open Classical in
noncomputable def Mo (g:Gr) (both:Bool) (c:Nat→Bool) (x:Nat):Nat:=C8 (fun y=>decide (A4 g both c x y)) g.n.toNat
noncomputable def OV (g:Gr) (both:Bool) (c:Nat→Bool):List Nat:=(List.range g.n.toNat).map (Mo g both c)
open Classical in
theorem JT {g:Gr} {both:Bool} {c:Nat→Bool} {x y:Nat} :(Mo g both c x).testBit y=true↔y<g.n.toNat∧A4 g both c x y:=by
 unfold Mo
 rw [oe]
 simp
def Jt (g:Gr) (both:Bool) (c:Nat→Bool) (a:List Nat):Nat→List Nat × Bool
 |0=>(a,false)
 |k+1=>
  let s:=Jt g both c a k
  if c k=true then
   let t:=s.1.getD (tl g k).toNat 0 ||| s.1.getD (hd g k).toNat 0
   let h:=if both=true then t else s.1.getD (hd g k).toNat 0
   ((s.1.set (tl g k).toNat t).set (hd g k).toNat h,s.2||(decide (t≠s.1.getD (tl g k).toNat 0)||decide (h≠s.1.getD (hd g k).toNat 0)))
  else s
structure Nh (g:Gr) (both:Bool) (c:Nat→Bool) (a:List Nat):Prop where
 len:a.length=g.n.toNat
 own:∀x,x<g.n.toNat→(a.getD x 0).testBit x=true
 snd:∀x y,x<g.n.toNat→(a.getD x 0).testBit y=true→y<g.n.toNat∧A4 g both c x y
theorem Nh.lt {g:Gr} {both:Bool} {c:Nat→Bool} {a:List Nat} (h:Nh g both c a) (hn:g.n.toNat≤64) (x:Nat):a.getD x 0<18446744073709551616:=by
 by_cases hx:x<g.n.toNat
 ·have:a.getD x 0<2 ^ 64:=Nat.lt_pow_two_of_testBit _ fun i hi=>by
   cases hb:(a.getD x 0).testBit i with
   |false=>rfl
   |true=>have:=(h.snd x i hx hb).1;omega
  simpa using this
 ·rw [List.getD_eq_getElem?_getD,List.getElem?_eq_none (by rw [h.len];omega)];simp
def OW (a:List Nat):Nat:=a.foldr (· + ·) 0
end Go.Ab
end
section
namespace Go.Ab
open Go.Proofs
attribute [local congr] ACall.congr
set_option maxRecDepth 20000
set_option maxHeartbeats 8000000
def rU (n:Nat):List D:= [.sc (.int .u64 (n:Int))]
def eU (n:Nat):AV:= .d (.sc (.int .u64 (n:Int)))
def sU (l:List Nat):D:= .sl 1 (l.map rU)
theorem getD_rU (ps:List Nat) (i:Nat):(ps.map rU).getD i [.sc (.int .u64 0)]= [.sc (.int .u64 ((ps.getD i 0:Nat):Int))]:=by
 rw [List.getD_eq_getElem?_getD,List.getElem?_map,List.getD_eq_getElem?_getD]
 cases ps[i]? <;>rfl
attribute [go_sem] eU sU getD_rU InU
end Go.Ab
end
section
namespace Go.Ab
open Go.Proofs
attribute [local congr] ACall.congr
set_option maxRecDepth 20000
set_option maxHeartbeats 8000000
def Mp (k:Nat):List Nat:=(List.range k).map fun x=>2 ^ x
def Ni (g:Gr):List Nat:=if aU g=true then Mp g.n.toNat else []
theorem EK {l:List Nat} :∀r∈l.map rU,∀x∈r,∃v,x=D.sc v:=by
 intro r hr x hx
 obtain ⟨y,_,rfl⟩:=List.mem_map.1 hr
 simp only [rU,List.mem_singleton] at hx
 exact ⟨_,hx⟩
noncomputable def PG (g:Gr):List Nat:=if aU g=true then OV g false (fun _=>true) else []
end Go.Ab
end
section
namespace Go.Ab
open Go.Proofs
set_option maxRecDepth 10000
set_option linter.unusedSectionVars false
def OX (s:Nat) (x:Int):Bool:=decide (0≤x)&&decide (x<64)&&s.testBit x.toNat
section
variable {P:PS} (h:P.Ok) {L R:Int→Int} {f0 f1:Int} {low:Int→Int} (F:P.gA L R f0 f1 low)
def OY (P:PS) (R:Int→Int) (f:Int):Nat→Nat
 |0=>0
 |j+1=>if R (P.sh j)=f then j+1 else OY P R f j
include h F
end
section
variable (g:Gr) (p:Pl)
def PI:Gr:=⟨(cN g p:Int)+1,(List.range g.es.length).map fun i:Nat=>(Lf g p i,Rf g p i)⟩
end
section
variable {g:Gr} {p:Pl}
variable (h:cB g p) (hI:kG g=true)
include h hI
end
end Go.Ab
end
section
namespace Go.Ab
open Go.Proofs
attribute [local congr] ACall.congr
set_option maxRecDepth 10000
set_option maxHeartbeats 16000000
theorem AN (g:Gr) (hl:g.es.length≤9223372036854775807) (p:Pl) (hp:pO p) (b:Bool) (hr:b=true↔(cg g).1=0∧bF g p):Spec Tryz.prog 47 (Args [eG g,ePl p]) [] (eB (decide ((bK b g p).2.1=0))) []:=by
 have hO:=xe g hl p hp b hr
 generalize bK b g p=R at hO
 (refine Spec.intro (C:=T.cfg [] []) (rs:= [.t 4]) (T.aq _ _) Tryz.func47 rfl rfl Tryz.ntmps47 Tryz.results47 (by simp [AObj.isNest]) (by simp [AObj.isNest]) (by kernel_rfl) ?_;intro X hX hP hC aM aN vals hA;refine ⟨_,by simp,hA, ?_⟩;have af:X.P.follows .mixedOrders=true:=(by rw [hP];exact T.mixed);clear aM aN)
 repeat' (first|fail|((first|((with_reducible (first|apply oA|apply oB));exact rfl;intro K hK)|(refine hK _ ?_;clear hK K)|((with_reducible (first|apply oG|apply oH));iterate 3 exact rfl)|((with_reducible apply oI);(iterate 2 exact rfl);intro K hK)|(with_reducible (first|apply wI|apply wJ|apply wK)));try simp only [go_sem,simprocAttr])|fail|(with_reducible (first|apply oC|apply oJ|exact oK|apply wA|apply wB|apply wC hX hC|apply wD hX hC|apply wE hX hC af|apply wF hX hC af|apply wG|apply wH|apply And.intro))|((with_reducible refine oD ?_ ?_);first|fail|kernel_rfl)|((with_reducible (first|apply oE|apply oF));(iterate 3 exact rfl);all_goals (intro h;first|(exact absurd h (by decide))|((try simp only [go_sem,simprocAttr] at h);(try with_reducible intro K hK);simp only [go_sem,simprocAttr])))|((first|((with_reducible apply wL);exact rfl)|((with_reducible apply wM);exact rfl));all_goals (try ((with_reducible intro h);first|(exact absurd h (by decide))|(try simp only [go_sem,simprocAttr] at h))))|omega|((first|first|refine aa hX hC hP (hO) rfl rfl rfl (by simp only [go_sem,simprocAttr]) rfl ?_);try simp only [go_sem,simprocAttr])|(intro h))
end Go.Ab
end
section
namespace Go.Ab
open Go.Proofs
attribute [local congr] ACall.congr
set_option maxRecDepth 20000
set_option maxHeartbeats 8000000
theorem pR (g:Gr) (hl:g.es.length≤1000) (p:Pl) (hp:pO p) (b:Bool) (hr:b=true↔(cg g).1=0∧bF g p):
 Spec Tryz.prog 17 (Args [eG g,ePl p]) [] (.tup [iW (Dl b g p).1,eN (Dl b g p).2]) []:=by
 have hO:=mg g hl p hp b hr
 have FU:=si g hl
 by_cases h0:(bK b g p).2.1=0
 rotate_left
 ·have hK:Dl b g p=(ql,1):=if_neg fun h=>h0 h.1.1
  have hb0:decide ((bK b g p).2.1=0)=false:=decide_eq_false h0
  rw [hK]
  (refine Spec.intro (C:=T.cfg [] []) (rs:= [.c 4 32, .t 5]) (T.aq _ _) Tryz.func17 rfl rfl Tryz.ntmps17 Tryz.results17 (by simp [AObj.isNest]) (by simp [AObj.isNest]) (by kernel_rfl) ?_;intro X hX hP hC aM aN vals hA;refine ⟨_,by simp,hA, ?_⟩;have af:X.P.follows .mixedOrders=true:=(by rw [hP];exact T.mixed);clear aM aN)
  repeat' (first|fail|((first|((with_reducible (first|apply oA|apply oB));exact rfl;intro K hK)|(refine hK _ ?_;clear hK K)|((with_reducible (first|apply oG|apply oH));iterate 3 exact rfl)|((with_reducible apply oI);(iterate 2 exact rfl);intro K hK)|(with_reducible (first|apply wI|apply wJ|apply wK)));try simp only [go_sem,simprocAttr,hb0,iW,ql,List.map_nil])|fail|(with_reducible (first|apply oC|apply oJ|exact oK|apply wA|apply wB|apply wC hX hC|apply wD hX hC|apply wE hX hC af|apply wF hX hC af|apply wG|apply wH|apply And.intro))|((with_reducible refine oD ?_ ?_);first|fail|kernel_rfl)|((with_reducible (first|apply oE|apply oF));(iterate 3 exact rfl);all_goals (intro h;first|(exact absurd h (by decide))|((try simp only [go_sem,simprocAttr,hb0,iW,ql,List.map_nil] at h);(try with_reducible intro K hK);simp only [go_sem,simprocAttr,hb0,iW,ql,List.map_nil])))|((first|((with_reducible apply wL);exact rfl)|((with_reducible apply wM);exact rfl));all_goals (try ((with_reducible intro h);first|(exact absurd h (by decide))|(try simp only [go_sem,simprocAttr,hb0,iW,ql,List.map_nil] at h))))|omega|((first|first|refine aa hX hC hP (hO) rfl rfl rfl (by simp only [go_sem,simprocAttr,hb0,iW,ql,List.map_nil]) rfl ?_);try simp only [go_sem,simprocAttr,hb0,iW,ql,List.map_nil])|(intro h))
 obtain ⟨hrun,hR⟩:=tN hr h0
 cases hI:kG g with
 |false=>
  have hK:Dl b g p=(ql,1):=if_neg fun h=>by rw [hI] at h;cases h.1.2
  rw [hR] at hO
  simp only at hO
  rw [hI] at FU
  rw [hK]
  (refine Spec.intro (C:=T.cfg [] []) (rs:= [.c 4 32, .t 5]) (T.aq _ _) Tryz.func17 rfl rfl Tryz.ntmps17 Tryz.results17 (by simp [AObj.isNest]) (by simp [AObj.isNest]) (by kernel_rfl) ?_;intro X hX hP hC aM aN vals hA;refine ⟨_,by simp,hA, ?_⟩;have af:X.P.follows .mixedOrders=true:=(by rw [hP];exact T.mixed);clear aM aN)
  repeat' (first|fail|((first|((with_reducible (first|apply oA|apply oB));exact rfl;intro K hK)|(refine hK _ ?_;clear hK K)|((with_reducible (first|apply oG|apply oH));iterate 3 exact rfl)|((with_reducible apply oI);(iterate 2 exact rfl);intro K hK)|(with_reducible (first|apply wI|apply wJ|apply wK)));try simp only [go_sem,simprocAttr,iW,ql,List.map_nil])|fail|(with_reducible (first|apply oC|apply oJ|exact oK|apply wA|apply wB|apply wC hX hC|apply wD hX hC|apply wE hX hC af|apply wF hX hC af|apply wG|apply wH|apply And.intro))|((with_reducible refine oD ?_ ?_);first|fail|kernel_rfl)|((with_reducible (first|apply oE|apply oF));(iterate 3 exact rfl);all_goals (intro h;first|(exact absurd h (by decide))|((try simp only [go_sem,simprocAttr,iW,ql,List.map_nil] at h);(try with_reducible intro K hK);simp only [go_sem,simprocAttr,iW,ql,List.map_nil])))|((first|((with_reducible apply wL);exact rfl)|((with_reducible apply wM);exact rfl));all_goals (try ((with_reducible intro h);first|(exact absurd h (by decide))|(try simp only [go_sem,simprocAttr,iW,ql,List.map_nil] at h))))|omega|((first|first|refine aa hX hC hP (hO) rfl rfl rfl (by simp only [go_sem,simprocAttr,iW,ql,List.map_nil]) rfl ?_|refine aa hX hC hP (FU) rfl rfl rfl (by simp only [go_sem,simprocAttr,iW,ql,List.map_nil]) rfl ?_);try simp only [go_sem,simprocAttr,iW,ql,List.map_nil])|(intro h))
 |true=>
  by_cases hm:0<g.es.length
  ·have hK:Dl b g p=(Ei g p,0):=if_pos ⟨⟨h0,hI⟩,hm⟩
   rw [hK]
   exact AL g p hp hrun hI hm b hr
  ·have hK:Dl b g p=(ql,1):=if_neg fun h=>hm h.2
   have aj:decide ((g.es.length:Int)=0)=true:=decide_eq_true (by omega)
   rw [hR] at hO
   simp only at hO
   rw [hI] at FU
   rw [hK]
   (refine Spec.intro (C:=T.cfg [] []) (rs:= [.c 4 32, .t 5]) (T.aq _ _) Tryz.func17 rfl rfl Tryz.ntmps17 Tryz.results17 (by simp [AObj.isNest]) (by simp [AObj.isNest]) (by kernel_rfl) ?_;intro X hX hP hC aM aN vals hA;refine ⟨_,by simp,hA, ?_⟩;have af:X.P.follows .mixedOrders=true:=(by rw [hP];exact T.mixed);clear aM aN)
   repeat' (first|fail|((first|((with_reducible (first|apply oA|apply oB));exact rfl;intro K hK)|(refine hK _ ?_;clear hK K)|((with_reducible (first|apply oG|apply oH));iterate 3 exact rfl)|((with_reducible apply oI);(iterate 2 exact rfl);intro K hK)|(with_reducible (first|apply wI|apply wJ|apply wK)));try simp only [go_sem,simprocAttr,aj,iW,ql,List.map_nil])|fail|(with_reducible (first|apply oC|apply oJ|exact oK|apply wA|apply wB|apply wC hX hC|apply wD hX hC|apply wE hX hC af|apply wF hX hC af|apply wG|apply wH|apply And.intro))|((with_reducible refine oD ?_ ?_);first|fail|kernel_rfl)|((with_reducible (first|apply oE|apply oF));(iterate 3 exact rfl);all_goals (intro h;first|(exact absurd h (by decide))|((try simp only [go_sem,simprocAttr,aj,iW,ql,List.map_nil] at h);(try with_reducible intro K hK);simp only [go_sem,simprocAttr,aj,iW,ql,List.map_nil])))|((first|((with_reducible apply wL);exact rfl)|((with_reducible apply wM);exact rfl));all_goals (try ((with_reducible intro h);first|(exact absurd h (by decide))|(try simp only [go_sem,simprocAttr,aj,iW,ql,List.map_nil] at h))))|omega|((first|first|refine aa hX hC hP (hO) rfl rfl rfl (by simp only [go_sem,simprocAttr,aj,iW,ql,List.map_nil]) rfl ?_|refine aa hX hC hP (FU) rfl rfl rfl (by simp only [go_sem,simprocAttr,aj,iW,ql,List.map_nil]) rfl ?_);try simp only [go_sem,simprocAttr,aj,iW,ql,List.map_nil])|(intro h))
end Go.Ab
end
section
namespace Go.Ab
open Go.Proofs
attribute [local congr] ACall.congr
set_option maxRecDepth 20000
set_option maxHeartbeats 8000000
def PJ (f:Fc) (k:Nat):List Edge:=(List.range k).map fun i:Nat=>(f.L.getD i 0,f.R.getD i 0)
def xq (b:Bool) (g:Gr) (p:Pl):Bool:= !pW g p&&kG g&&decide ((bK b g p).2.1=0)&&decide (0<(g.es.length:Int))&&decide ((g.es.length:Int)≤60)
theorem vm (g:Gr) (hl:g.es.length≤9223372036854775807) (p:Pl) (hp:za p) (b:Bool) (hr:b=true↔(cg g).1=0∧bF g p):Spec Tryz.prog 16 (Args [eG g,ePl p]) [] (eB (xq b g p)) []:=by
 have hG:=va g p hl hp
 cases hB:pW g p with
 |true=>
  rw [hB] at hG
  have ha:xq b g p=false:=by unfold xq;rw [hB];rfl
  rw [ha]
  (refine Spec.intro (C:=T.cfg [] []) (rs:= [.t 4]) (T.aq _ _) Tryz.func16 rfl rfl Tryz.ntmps16 Tryz.results16 (by simp [AObj.isNest]) (by simp [AObj.isNest]) (by kernel_rfl) ?_;intro X hX hP hC aM aN vals hA;refine ⟨_,by simp,hA, ?_⟩;have af:X.P.follows .mixedOrders=true:=(by rw [hP];exact T.mixed);clear aM aN)
  repeat' (first|fail|((first|((with_reducible (first|apply oA|apply oB));exact rfl;intro K hK)|(refine hK _ ?_;clear hK K)|((with_reducible (first|apply oG|apply oH));iterate 3 exact rfl)|((with_reducible apply oI);(iterate 2 exact rfl);intro K hK)|(with_reducible (first|apply wI|apply wJ|apply wK)));try simp only [go_sem,simprocAttr])|fail|(with_reducible (first|apply oC|apply oJ|exact oK|apply wA|apply wB|apply wC hX hC|apply wD hX hC|apply wE hX hC af|apply wF hX hC af|apply wG|apply wH|apply And.intro))|((with_reducible refine oD ?_ ?_);first|fail|kernel_rfl)|((with_reducible (first|apply oE|apply oF));(iterate 3 exact rfl);all_goals (intro h;first|(exact absurd h (by decide))|((try simp only [go_sem,simprocAttr] at h);(try with_reducible intro K hK);simp only [go_sem,simprocAttr])))|((first|((with_reducible apply wL);exact rfl)|((with_reducible apply wM);exact rfl));all_goals (try ((with_reducible intro h);first|(exact absurd h (by decide))|(try simp only [go_sem,simprocAttr] at h))))|omega|((first|first|refine aa hX hC hP (hG) rfl rfl rfl (by simp only [go_sem,simprocAttr]) rfl ?_);try simp only [go_sem,simprocAttr])|(intro h))
 |false=>
  rw [hB] at hG
  have hI:=yl g (by have:=(y9 hB).1;omega)
  have AH:=AN g hl p (xg hB) b hr
  have ha:xq b g p=(kG g&&decide ((bK b g p).2.1=0)&&decide (0<(g.es.length:Int))&&decide ((g.es.length:Int)≤60)):=by unfold xq;rw [hB];rfl
  rw [ha]
  cases hi:kG g with
  |false=>
   rw [hi] at hI
   (refine Spec.intro (C:=T.cfg [] []) (rs:= [.t 4]) (T.aq _ _) Tryz.func16 rfl rfl Tryz.ntmps16 Tryz.results16 (by simp [AObj.isNest]) (by simp [AObj.isNest]) (by kernel_rfl) ?_;intro X hX hP hC aM aN vals hA;refine ⟨_,by simp,hA, ?_⟩;have af:X.P.follows .mixedOrders=true:=(by rw [hP];exact T.mixed);clear aM aN)
   repeat' (first|fail|((first|((with_reducible (first|apply oA|apply oB));exact rfl;intro K hK)|(refine hK _ ?_;clear hK K)|((with_reducible (first|apply oG|apply oH));iterate 3 exact rfl)|((with_reducible apply oI);(iterate 2 exact rfl);intro K hK)|(with_reducible (first|apply wI|apply wJ|apply wK)));try simp only [go_sem,simprocAttr,Bool.false_and])|fail|(with_reducible (first|apply oC|apply oJ|exact oK|apply wA|apply wB|apply wC hX hC|apply wD hX hC|apply wE hX hC af|apply wF hX hC af|apply wG|apply wH|apply And.intro))|((with_reducible refine oD ?_ ?_);first|fail|kernel_rfl)|((with_reducible (first|apply oE|apply oF));(iterate 3 exact rfl);all_goals (intro h;first|(exact absurd h (by decide))|((try simp only [go_sem,simprocAttr,Bool.false_and] at h);(try with_reducible intro K hK);simp only [go_sem,simprocAttr,Bool.false_and])))|((first|((with_reducible apply wL);exact rfl)|((with_reducible apply wM);exact rfl));all_goals (try ((with_reducible intro h);first|(exact absurd h (by decide))|(try simp only [go_sem,simprocAttr,Bool.false_and] at h))))|omega|((first|first|refine aa hX hC hP (hG) rfl rfl rfl (by simp only [go_sem,simprocAttr,Bool.false_and]) rfl ?_|refine aa hX hC hP (hI) rfl rfl rfl (by simp only [go_sem,simprocAttr,Bool.false_and]) rfl ?_);try simp only [go_sem,simprocAttr,Bool.false_and])|(intro h))
  |true=>
   rw [hi] at hI
   cases hd:decide ((bK b g p).2.1=0) with
   |false=>
    rw [hd] at AH
    (refine Spec.intro (C:=T.cfg [] []) (rs:= [.t 4]) (T.aq _ _) Tryz.func16 rfl rfl Tryz.ntmps16 Tryz.results16 (by simp [AObj.isNest]) (by simp [AObj.isNest]) (by kernel_rfl) ?_;intro X hX hP hC aM aN vals hA;refine ⟨_,by simp,hA, ?_⟩;have af:X.P.follows .mixedOrders=true:=(by rw [hP];exact T.mixed);clear aM aN)
    repeat' (first|fail|((first|((with_reducible (first|apply oA|apply oB));exact rfl;intro K hK)|(refine hK _ ?_;clear hK K)|((with_reducible (first|apply oG|apply oH));iterate 3 exact rfl)|((with_reducible apply oI);(iterate 2 exact rfl);intro K hK)|(with_reducible (first|apply wI|apply wJ|apply wK)));try simp only [go_sem,simprocAttr,Bool.false_and,Bool.true_and])|fail|(with_reducible (first|apply oC|apply oJ|exact oK|apply wA|apply wB|apply wC hX hC|apply wD hX hC|apply wE hX hC af|apply wF hX hC af|apply wG|apply wH|apply And.intro))|((with_reducible refine oD ?_ ?_);first|fail|kernel_rfl)|((with_reducible (first|apply oE|apply oF));(iterate 3 exact rfl);all_goals (intro h;first|(exact absurd h (by decide))|((try simp only [go_sem,simprocAttr,Bool.false_and,Bool.true_and] at h);(try with_reducible intro K hK);simp only [go_sem,simprocAttr,Bool.false_and,Bool.true_and])))|((first|((with_reducible apply wL);exact rfl)|((with_reducible apply wM);exact rfl));all_goals (try ((with_reducible intro h);first|(exact absurd h (by decide))|(try simp only [go_sem,simprocAttr,Bool.false_and,Bool.true_and] at h))))|omega|((first|first|refine aa hX hC hP (hG) rfl rfl rfl (by simp only [go_sem,simprocAttr,Bool.false_and,Bool.true_and]) rfl ?_|refine aa hX hC hP (hI) rfl rfl rfl (by simp only [go_sem,simprocAttr,Bool.false_and,Bool.true_and]) rfl ?_|refine aa hX hC hP (AH) rfl rfl rfl (by simp only [go_sem,simprocAttr,Bool.false_and,Bool.true_and]) rfl ?_);try simp only [go_sem,simprocAttr,Bool.false_and,Bool.true_and])|(intro h))
   |true=>
    rw [hd] at AH
    (refine Spec.intro (C:=T.cfg [] []) (rs:= [.t 4]) (T.aq _ _) Tryz.func16 rfl rfl Tryz.ntmps16 Tryz.results16 (by simp [AObj.isNest]) (by simp [AObj.isNest]) (by kernel_rfl) ?_;intro X hX hP hC aM aN vals hA;refine ⟨_,by simp,hA, ?_⟩;have af:X.P.follows .mixedOrders=true:=(by rw [hP];exact T.mixed);clear aM aN)
    repeat' (first|fail|((first|((with_reducible (first|apply oA|apply oB));exact rfl;intro K hK)|(refine hK _ ?_;clear hK K)|((with_reducible (first|apply oG|apply oH));iterate 3 exact rfl)|((with_reducible apply oI);(iterate 2 exact rfl);intro K hK)|(with_reducible (first|apply wI|apply wJ|apply wK)));try simp only [go_sem,simprocAttr,Bool.false_and,Bool.true_and])|fail|(with_reducible (first|apply oC|apply oJ|exact oK|apply wA|apply wB|apply wC hX hC|apply wD hX hC|apply wE hX hC af|apply wF hX hC af|apply wG|apply wH|apply And.intro))|((with_reducible refine oD ?_ ?_);first|fail|kernel_rfl)|((with_reducible (first|apply oE|apply oF));(iterate 3 exact rfl);all_goals (intro h;first|(exact absurd h (by decide))|((try simp only [go_sem,simprocAttr,Bool.false_and,Bool.true_and] at h);(try with_reducible intro K hK);simp only [go_sem,simprocAttr,Bool.false_and,Bool.true_and])))|((first|((with_reducible apply wL);exact rfl)|((with_reducible apply wM);exact rfl));all_goals (try ((with_reducible intro h);first|(exact absurd h (by decide))|(try simp only [go_sem,simprocAttr,Bool.false_and,Bool.true_and] at h))))|omega|((first|first|refine aa hX hC hP (hG) rfl rfl rfl (by simp only [go_sem,simprocAttr,Bool.false_and,Bool.true_and]) rfl ?_|refine aa hX hC hP (hI) rfl rfl rfl (by simp only [go_sem,simprocAttr,Bool.false_and,Bool.true_and]) rfl ?_|refine aa hX hC hP (AH) rfl rfl rfl (by simp only [go_sem,simprocAttr,Bool.false_and,Bool.true_and]) rfl ?_);try simp only [go_sem,simprocAttr,Bool.false_and,Bool.true_and])|(intro h))
    all_goals (simp [*];omega)
theorem FY {b:Bool} {g:Gr} {p:Pl} (hr:b=true↔(cg g).1=0∧bF g p) (h:xq b g p=true):pW g p=false∧kG g=true∧cB g p∧0<g.es.length∧g.es.length≤60:=by
 simp only [xq,Bool.and_eq_true,Bool.not_eq_true',decide_eq_true_eq] at h
 exact ⟨h.1.1.1.1,h.1.1.1.2,(tN hr h.1.1.2).1,by omega,by omega⟩
theorem FZ {b:Bool} {g:Gr} {p:Pl} (hr:b=true↔(cg g).1=0∧bF g p) (hrun:cB g p) (hI:kG g=true) (h0:0<g.es.length):Dl b g p=(⟨arr (Lf g p) g.es.length,arr (Rf g p) g.es.length,FV g p,FW g p⟩,0):=by
 have:Dl b g p=(Ei g p,0):=if_pos ⟨⟨by rw [sC hr hrun],hI⟩,h0⟩
 rw [this,FX hrun hI]
def EP:Gr:=⟨4, [(0,1),(1,3),(0,2),(2,3)]⟩
def F0:Pl:=⟨[0,1,2,3], [[0,2], [1], [3], []]⟩
theorem Mq:(true=true)↔(cg EP).1=0∧bF EP F0:=⟨fun _=>⟨by decide,⟨rfl,by decide,by decide⟩⟩,fun _=>rfl⟩
theorem Mr:Dl true EP F0=(⟨[0,0,1,1], [1,1,2,2], [0,0,0], [3,3,3]⟩,0):=by
 have:Dl true EP F0=(Ei EP F0,0):=if_pos ⟨⟨rfl,by decide⟩,by decide⟩
 rw [this]
 rfl
theorem mq:Spec Tryz.prog 15 (Args []) [] (eB true) []:=by
 have FO:=pR EP (by decide) F0 ⟨by decide,by decide,by decide⟩ true Mq
 rw [Mr] at FO
 simp only at FO
 have e1:EP.es.map rE= [[.sc (.int .i64 0), .sc (.int .i64 1)], [.sc (.int .i64 1), .sc (.int .i64 3)], [.sc (.int .i64 0), .sc (.int .i64 2)], [.sc (.int .i64 2), .sc (.int .i64 3)]]:=rfl
 have e2:F0.ord.map rI= [[.sc (.int .i64 0)], [.sc (.int .i64 1)], [.sc (.int .i64 2)], [.sc (.int .i64 3)]]:=rfl
 have e3:vI F0.outs= [[.sl 1 [[.sc (.int .i64 0)], [.sc (.int .i64 2)]]], [.sl 1 [[.sc (.int .i64 1)]]], [.sl 1 [[.sc (.int .i64 3)]]], [.sl 1 []]]:=rfl
 have e4:EP.n=4:=rfl
 (refine Spec.intro (C:=T.cfg [] []) (rs:= [.t 0]) (T.aq _ _) Tryz.func15 rfl rfl Tryz.ntmps15 Tryz.results15 (by simp [AObj.isNest]) (by simp [AObj.isNest]) (by kernel_rfl) ?_;intro X hX hP hC aM aN vals hA;refine ⟨_,by simp,hA, ?_⟩;have af:X.P.follows .mixedOrders=true:=(by rw [hP];exact T.mixed);clear aM aN)
 repeat' (first|fail|((first|((with_reducible (first|apply oA|apply oB));exact rfl;intro K hK)|(refine hK _ ?_;clear hK K)|((with_reducible (first|apply oG|apply oH));iterate 3 exact rfl)|((with_reducible apply oI);(iterate 2 exact rfl);intro K hK)|(with_reducible (first|apply wI|apply wJ|apply wK)));try simp only [go_sem,simprocAttr,iW,e1,e2,e3,e4,List.map_cons,List.map_nil,rI,decide_true])|fail|(with_reducible (first|apply oC|apply oJ|exact oK|apply wA|apply wB|apply wC hX hC|apply wD hX hC|apply wE hX hC af|apply wF hX hC af|apply wG|apply wH|apply And.intro))|((with_reducible refine oD ?_ ?_);first|fail|kernel_rfl)|((with_reducible (first|apply oE|apply oF));(iterate 3 exact rfl);all_goals (intro h;first|(exact absurd h (by decide))|((try simp only [go_sem,simprocAttr,iW,e1,e2,e3,e4,List.map_cons,List.map_nil,rI,decide_true] at h);(try with_reducible intro K hK);simp only [go_sem,simprocAttr,iW,e1,e2,e3,e4,List.map_cons,List.map_nil,rI,decide_true])))|((first|((with_reducible apply wL);exact rfl)|((with_reducible apply wM);exact rfl));all_goals (try ((with_reducible intro h);first|(exact absurd h (by decide))|(try simp only [go_sem,simprocAttr,iW,e1,e2,e3,e4,List.map_cons,List.map_nil,rI,decide_true] at h))))|omega|((first|first|(refine bk hX hC hP (FO) rfl rfl rfl ?_ ?_ rfl ?_;iterate 2 (focus (simp only [go_sem,simprocAttr,iW,e1,e2,e3,e4,List.map_cons,List.map_nil,rI,decide_true];done)))|(refine bk hX hC hP (l9 [0,0,1,1] [0,0,1,1] (by decide)) rfl rfl rfl ?_ ?_ rfl ?_;iterate 2 (focus (simp only [go_sem,simprocAttr,iW,e1,e2,e3,e4,List.map_cons,List.map_nil,rI,decide_true];done)))|(refine bk hX hC hP (l9 [1,1,2,2] [1,1,2,2] (by decide)) rfl rfl rfl ?_ ?_ rfl ?_;iterate 2 (focus (simp only [go_sem,simprocAttr,iW,e1,e2,e3,e4,List.map_cons,List.map_nil,rI,decide_true];done))));try simp only [go_sem,simprocAttr,iW,e1,e2,e3,e4,List.map_cons,List.map_nil,rI,decide_true])|(intro h))
end Go.Ab
end
section
namespace Go.Ab
open Go.Proofs
attribute [local congr] ACall.congr
set_option maxRecDepth 20000
set_option maxHeartbeats 16000000
theorem sD {f:Int→Bool} :∀ {l:List Int} {q:Nat},q<l.length→(∀i,i<q→f (l.getD i 0)=false)→f (l.getD q 0)=true→l.find? f=some (l.getD q 0)
 | [],q,h,_,_=>by cases h
 |a::l,0,_,_,h=>by
  have h:f a=true:=h
  rw [List.find?_cons_of_pos h];rfl
 |a::l,q+1,h1,h2,h3=>by
  have h0:f a=false:=h2 0 (by omega)
  rw [List.find?_cons_of_neg (by rw [h0];decide)]
  exact sD (l:=l) (q:=q) (by simpa using h1) (fun i hi=>h2 (i+1) (by omega)) h3
theorem Em {t h:Int→Int} {l:List Int} {x:Int} {q:Nat} (hq:q<l.length) (hn:∀i,i<q→t (l.getD i 0)≠x) (he:t (l.getD q 0)=x):sJ t h l x=h (l.getD q 0):=by
 unfold sJ
 rw [sD (f:=fun i=>decide (t i=x)) hq (fun i hi=>decide_eq_false (hn i hi)) (decide_eq_true he)]
theorem C9 {t h:Int→Int} {l:List Int} {x:Int} (hn:∀i,i<l.length→t (l.getD i 0)≠x):sJ t h l x=x:=s7 fun f hf=>by
 obtain ⟨i,hi,rfl⟩:=List.mem_iff_getElem.1 hf
 have:=hn i hi
 rw [List.getD_eq_getElem?_getD,List.getElem?_eq_getElem hi] at this
 exact this
def yw (h:Int→Int) (n:Nat) (l:List Int):Nat→List Int
 |0=>List.replicate n 0
 |k+1=>(yw h n l k).set (h (l.getD k 0)).toNat ((yw h n l k).getD (h (l.getD k 0)).toNat 0+1)
theorem zy {h:Int→Int} {n:Nat} {l:List Int} :∀ {k:Nat},(yw h n l k).length=n
 |0=>by simp [yw]
 |k+1=>by rw [yw,List.length_set];exact zy
theorem xu {h:Int→Int} {n:Nat} {l:List Int} {v:Nat} (hv:v<n):∀ {k:Nat},(∀i,i<k→(h (l.getD i 0)).toNat≠v)→(yw h n l k).getD v 0=0
 |0,_=>by rw [yw,List.getD_eq_getElem?_getD,List.getElem?_replicate,if_pos hv];rfl
 |k+1,hk=>by
  rw [yw,List.getD_eq_getElem?_getD,List.getElem?_set_ne (hk k (by omega)), ← List.getD_eq_getElem?_getD]
  exact xu hv fun i hi=>hk i (by omega)
theorem xw (g:Gr) (hm:aU g=true) (l:List Int) (hl:l.length≤1000) (hr:∀i∈l,0≤i∧i<g.es.length) (Gt:∀a b,a<l.length→b<l.length→iY g (l.getD a 0)=iY g (l.getD b 0)→a=b) (x to:Int):
 Spec Tryz.prog 18 (Args [eG g, .d (sI l),eN x,eN to]) [] (eB (decide (mC (kH g) (iY g) l x l.length=to)&&decide (0<(l.length:Int)))) []:=by
 have hn:=aY hm
 have Gg:∀i,i<l.length→0≤l.getD i 0∧l.getD i 0<g.es.length:=fun i hi=>hr _ (aT hi)
 (refine Spec.intro (C:=T.cfg [] []) (rs:= [.t 8]) (T.aq _ _) Tryz.func18 rfl rfl Tryz.ntmps18 Tryz.results18 (by simp [AObj.isNest]) (by simp [AObj.isNest]) (by kernel_rfl) ?_;intro X hX hP hC aM aN vals hA;refine ⟨_,by simp,hA, ?_⟩;have af:X.P.follows .mixedOrders=true:=(by rw [hP];exact T.mixed);clear aM aN)
 repeat' (first|fail|((first|((with_reducible (first|apply oA|apply oB));exact rfl;intro K hK)|(refine hK _ ?_;clear hK K)|((with_reducible (first|apply oG|apply oH));iterate 3 exact rfl)|((with_reducible apply oI);(iterate 2 exact rfl);intro K hK)|(with_reducible (first|apply wI|apply wJ|apply wK)));try simp only [go_sem,simprocAttr])|fail|(with_reducible (first|apply oC|apply oJ|exact oK|apply wA|apply wB|apply wC hX hC|apply wD hX hC|apply wE hX hC af|apply wF hX hC af|apply wG|apply wH|apply And.intro))|((with_reducible refine oD ?_ ?_);first|fail|kernel_rfl)|((with_reducible (first|apply oE|apply oF));(iterate 3 exact rfl);all_goals (intro h;first|(exact absurd h (by decide))|((try simp only [go_sem,simprocAttr] at h);(try with_reducible intro K hK);simp only [go_sem,simprocAttr])))|((first|((with_reducible apply wL);exact rfl)|((with_reducible apply wM);exact rfl));all_goals (try ((with_reducible intro h);first|(exact absurd h (by decide))|(try simp only [go_sem,simprocAttr] at h))))|omega|((first|fail);try simp only [go_sem,simprocAttr])|(intro h))
 refine an (fun j:Nat=>j≤l.length) (fun j=>⟨[(1, .d (sI l)),(2,eN (mC (kH g) (iY g) l x j)),(3,eN to),(4, .ptr 4 0),(15,eN l.length),(16,eN j)], [(4, .box [eN g.n, .d (sE g.es)])]⟩) (fun j=>l.length - j) 0 (by omega) ?_ ?_
 ·refine Le.of ?_ ?_<;>simp [go_sem,simprocAttr,mC]
 rintro j hj
 rcases Nat.lt_or_ge j l.length with hjl|I4
 ·have hb:decide ((j:Int)<(l.length:Int))=true:=decide_eq_true (by omega)
  have eH:mC (kH g) (iY g) l x (j+1)=sJ (kH g) (iY g) l (mC (kH g) (iY g) l x j):=rfl
  generalize mC (kH g) (iY g) l x j=y at eH
  repeat' (first|fail|((first|((with_reducible (first|apply oA|apply oB));exact rfl;intro K hK)|(refine hK _ ?_;clear hK K)|((with_reducible (first|apply oG|apply oH));iterate 3 exact rfl)|((with_reducible apply oI);(iterate 2 exact rfl);intro K hK)|(with_reducible (first|apply wI|apply wJ|apply wK)));try simp only [go_sem,simprocAttr,hb])|fail|(with_reducible (first|apply oC|apply oJ|exact oK|apply wA|apply wB|apply wC hX hC|apply wD hX hC|apply wE hX hC af|apply wF hX hC af|apply wG|apply wH|apply And.intro))|((with_reducible refine oD ?_ ?_);first|fail|kernel_rfl)|((with_reducible (first|apply oE|apply oF));(iterate 3 exact rfl);all_goals (intro h;first|(exact absurd h (by decide))|((try simp only [go_sem,simprocAttr,hb] at h);(try with_reducible intro K hK);simp only [go_sem,simprocAttr,hb])))|((first|((with_reducible apply wL);exact rfl)|((with_reducible apply wM);exact rfl));all_goals (try ((with_reducible intro h);first|(exact absurd h (by decide))|(try simp only [go_sem,simprocAttr,hb] at h))))|omega|((first|fail);try simp only [go_sem,simprocAttr,hb])|(intro h))
  refine an (fun q:Nat=>q≤l.length∧∀i,i<q→kH g (l.getD i 0)≠y) (fun q=>⟨[(1, .d (sI l)),(2,eN y),(3,eN to),(4, .ptr 4 0),(15,eN l.length),(16,eN j),(18, .d (sI l)),(19,eN l.length),(20,eN q)], [(4, .box [eN g.n, .d (sE g.es)])]⟩) (fun q=>l.length - q) 0 ⟨by omega,fun i hi=>by omega⟩ ?_ ?_
  ·refine Le.of ?_ ?_<;>simp [go_sem,simprocAttr]
  rintro q ⟨hq,hno⟩
  rcases Nat.lt_or_ge q l.length with JK|PK
  ·have vn:decide ((q:Int)<(l.length:Int))=true:=decide_eq_true (by omega)
   have hg:=Gg q JK
   obtain ⟨e,he⟩:∃e:Nat,l.getD q 0=e:=⟨(l.getD q 0).toNat,by omega⟩
   have ht:(g.es.getD e (0,0)).1=kH g (l.getD q 0):=by rw [he];rfl
   have hh:(g.es.getD e (0,0)).2=iY g (l.getD q 0):=by rw [he];rfl
   by_cases hc:kH g (l.getD q 0)=y
   ·have hs:=Em (h:=iY g) JK hno hc
    rw [← eH] at hs
    have hbc:decide ((g.es.getD e (0,0)).1=y)=true:=by rw [ht];exact decide_eq_true hc
    repeat' (first|fail|((first|((with_reducible (first|apply oA|apply oB));exact rfl;intro K hK)|(refine hK _ ?_;clear hK K)|((with_reducible (first|apply oG|apply oH));iterate 3 exact rfl)|((with_reducible apply oI);(iterate 2 exact rfl);intro K hK)|(with_reducible (first|apply wI|apply wJ|apply wK)));try simp only [go_sem,simprocAttr,vn,he,hbc])|fail|(with_reducible (first|apply oC|apply oJ|exact oK|apply wA|apply wB|apply wC hX hC|apply wD hX hC|apply wE hX hC af|apply wF hX hC af|apply wG|apply wH|apply And.intro))|((with_reducible refine oD ?_ ?_);first|fail|kernel_rfl)|((with_reducible (first|apply oE|apply oF));(iterate 3 exact rfl);all_goals (intro h;first|(exact absurd h (by decide))|((try simp only [go_sem,simprocAttr,vn,he,hbc] at h);(try with_reducible intro K hK);simp only [go_sem,simprocAttr,vn,he,hbc])))|((first|((with_reducible apply wL);exact rfl)|((with_reducible apply wM);exact rfl));all_goals (try ((with_reducible intro h);first|(exact absurd h (by decide))|(try simp only [go_sem,simprocAttr,vn,he,hbc] at h))))|omega|((first|fail);try simp only [go_sem,simprocAttr,vn,he,hbc])|(intro h))
    refine ⟨j+1,by omega, ?_,by omega⟩
    rw [hs, ← hh]
    refine Le.of ?_ ?_<;>simp [go_sem,simprocAttr,vn,he,hbc]
   ·have hbc:decide ((g.es.getD e (0,0)).1=y)=false:=by rw [ht];exact decide_eq_false hc
    repeat' (first|fail|((first|((with_reducible (first|apply oA|apply oB));exact rfl;intro K hK)|(refine hK _ ?_;clear hK K)|((with_reducible (first|apply oG|apply oH));iterate 3 exact rfl)|((with_reducible apply oI);(iterate 2 exact rfl);intro K hK)|(with_reducible (first|apply wI|apply wJ|apply wK)));try simp only [go_sem,simprocAttr,vn,he,hbc])|fail|(with_reducible (first|apply oC|apply oJ|exact oK|apply wA|apply wB|apply wC hX hC|apply wD hX hC|apply wE hX hC af|apply wF hX hC af|apply wG|apply wH|apply And.intro))|((with_reducible refine oD ?_ ?_);first|fail|kernel_rfl)|((with_reducible (first|apply oE|apply oF));(iterate 3 exact rfl);all_goals (intro h;first|(exact absurd h (by decide))|((try simp only [go_sem,simprocAttr,vn,he,hbc] at h);(try with_reducible intro K hK);simp only [go_sem,simprocAttr,vn,he,hbc])))|((first|((with_reducible apply wL);exact rfl)|((with_reducible apply wM);exact rfl));all_goals (try ((with_reducible intro h);first|(exact absurd h (by decide))|(try simp only [go_sem,simprocAttr,vn,he,hbc] at h))))|omega|((first|fail);try simp only [go_sem,simprocAttr,vn,he,hbc])|(intro h))
    refine ⟨q+1,⟨by omega,fun i hi=> ?_⟩, ?_,by omega⟩
    ·by_cases h1:i=q
     ·subst h1;exact hc
     ·exact hno i (by omega)
    ·refine Le.of ?_ ?_<;>simp [go_sem,simprocAttr,vn,he,hbc]
  ·have vn:decide ((q:Int)<(l.length:Int))=false:=decide_eq_false (by omega)
   have hs:=C9 (h:=iY g) (l:=l) (x:=y) fun i hi=>hno i (by omega)
   rw [← eH] at hs
   repeat' (first|fail|((first|((with_reducible (first|apply oA|apply oB));exact rfl;intro K hK)|(refine hK _ ?_;clear hK K)|((with_reducible (first|apply oG|apply oH));iterate 3 exact rfl)|((with_reducible apply oI);(iterate 2 exact rfl);intro K hK)|(with_reducible (first|apply wI|apply wJ|apply wK)));try simp only [go_sem,simprocAttr,vn])|fail|(with_reducible (first|apply oC|apply oJ|exact oK|apply wA|apply wB|apply wC hX hC|apply wD hX hC|apply wE hX hC af|apply wF hX hC af|apply wG|apply wH|apply And.intro))|((with_reducible refine oD ?_ ?_);first|fail|kernel_rfl)|((with_reducible (first|apply oE|apply oF));(iterate 3 exact rfl);all_goals (intro h;first|(exact absurd h (by decide))|((try simp only [go_sem,simprocAttr,vn] at h);(try with_reducible intro K hK);simp only [go_sem,simprocAttr,vn])))|((first|((with_reducible apply wL);exact rfl)|((with_reducible apply wM);exact rfl));all_goals (try ((with_reducible intro h);first|(exact absurd h (by decide))|(try simp only [go_sem,simprocAttr,vn] at h))))|omega|((first|fail);try simp only [go_sem,simprocAttr,vn])|(intro h))
   refine ⟨j+1,by omega, ?_,by omega⟩
   rw [hs]
   refine Le.of ?_ ?_<;>simp [go_sem,simprocAttr,vn]
 have hb:decide ((j:Int)<(l.length:Int))=false:=decide_eq_false (by omega)
 obtain rfl:j=l.length:=by omega
 generalize mC (kH g) (iY g) l x l.length=y
 have sS:List.replicate g.n.toNat [D.sc (.int .i64 0)]=(yw (iY g) g.n.toNat l 0).map rI:=by rw [yw,List.map_replicate];rfl
 repeat' (first|fail|((first|((with_reducible (first|apply oA|apply oB));exact rfl;intro K hK)|(refine hK _ ?_;clear hK K)|((with_reducible (first|apply oG|apply oH));iterate 3 exact rfl)|((with_reducible apply oI);(iterate 2 exact rfl);intro K hK)|(with_reducible (first|apply wI|apply wJ|apply wK)));try simp only [go_sem,simprocAttr,hb,sS])|fail|(with_reducible (first|apply oC|apply oJ|exact oK|apply wA|apply wB|apply wC hX hC|apply wD hX hC|apply wE hX hC af|apply wF hX hC af|apply wG|apply wH|apply And.intro))|((with_reducible refine oD ?_ ?_);first|fail|kernel_rfl)|((with_reducible (first|apply oE|apply oF));(iterate 3 exact rfl);all_goals (intro h;first|(exact absurd h (by decide))|((try simp only [go_sem,simprocAttr,hb,sS] at h);(try with_reducible intro K hK);simp only [go_sem,simprocAttr,hb,sS])))|((first|((with_reducible apply wL);exact rfl)|((with_reducible apply wM);exact rfl));all_goals (try ((with_reducible intro h);first|(exact absurd h (by decide))|(try simp only [go_sem,simprocAttr,hb,sS] at h))))|omega|((first|fail);try simp only [go_sem,simprocAttr,hb,sS])|(intro h))
 refine an (fun k:Nat=>k≤l.length) (fun k=>⟨[(1, .d (sI l)),(2,eN y),(3,eN to),(4, .ptr 4 0),(11, .ref 42),(43, .d (sI l)),(44,eN l.length),(45,eN k)], [(4, .box [eN g.n, .d (sE g.es)]),(42, .own 3 1 ((yw (iY g) g.n.toNat l k).map rI))]⟩) (fun k=>l.length - k) 0 (by omega) ?_ ?_
 ·refine Le.of ?_ ?_<;>simp [go_sem,simprocAttr]
 rintro k hk
 rcases Nat.lt_or_ge k l.length with cw|Ev
 ·have cm:decide ((k:Int)<(l.length:Int))=true:=decide_eq_true (by omega)
  have hg:=Gg k cw
  have hz:=fun hv=>xu (h:=iY g) (n:=g.n.toNat) (l:=l) (v:=(iY g (l.getD k 0)).toNat) hv (k:=k) fun i hi e=>by
   have g1:=Gg i (by omega)
   obtain ⟨_,r1⟩:=ec hm (k:=(l.getD i 0).toNat) (by omega)
   obtain ⟨_,r2⟩:=ec hm (k:=(l.getD k 0).toNat) (by omega)
   have e1:(g.es.getD (l.getD i 0).toNat (0,0)).2=iY g (l.getD i 0):=rfl
   have e2:(g.es.getD (l.getD k 0).toNat (0,0)).2=iY g (l.getD k 0):=rfl
   have:=Gt i k (by omega) cw (by omega)
   omega
  have hst:yw (iY g) g.n.toNat l (k+1)=(yw (iY g) g.n.toNat l k).set (iY g (l.getD k 0)).toNat ((yw (iY g) g.n.toNat l k).getD (iY g (l.getD k 0)).toNat 0+1):=rfl
  obtain ⟨e,he⟩:∃e:Nat,l.getD k 0=e:=⟨(l.getD k 0).toNat,by omega⟩
  obtain ⟨_,r2⟩:=ec hm (k:=e) (by omega)
  have hh:iY g (l.getD k 0)=(g.es.getD e (0,0)).2:=by rw [he];rfl
  rw [hh] at hz hst
  obtain ⟨v,hv⟩:∃v:Nat,(g.es.getD e (0,0)).2=v:=⟨(g.es.getD e (0,0)).2.toNat,by omega⟩
  rw [hv,Int.toNat_natCast] at hz hst
  have hz:=hz (by omega)
  have dD:=zy (h:=iY g) (n:=g.n.toNat) (l:=l) (k:=k)
  rw [hz] at hst
  generalize yw (iY g) g.n.toNat l k=C at hz hst dD
  have EE:(C.set v 1).getD v 0=1:=by rw [List.getD_eq_getElem?_getD,List.getElem?_set_self (by omega)];rfl
  repeat' (first|fail|((first|((with_reducible (first|apply oA|apply oB));exact rfl;intro K hK)|(refine hK _ ?_;clear hK K)|((with_reducible (first|apply oG|apply oH));iterate 3 exact rfl)|((with_reducible apply oI);(iterate 2 exact rfl);intro K hK)|(with_reducible (first|apply wI|apply wJ|apply wK)));try simp only [go_sem,simprocAttr,cm,he,hv,hz,dD,ia,List.length_set,EE])|fail|(with_reducible (first|apply oC|apply oJ|exact oK|apply wA|apply wB|apply wC hX hC|apply wD hX hC|apply wE hX hC af|apply wF hX hC af|apply wG|apply wH|apply And.intro))|((with_reducible refine oD ?_ ?_);first|fail|kernel_rfl)|((with_reducible (first|apply oE|apply oF));(iterate 3 exact rfl);all_goals (intro h;first|(exact absurd h (by decide))|((try simp only [go_sem,simprocAttr,cm,he,hv,hz,dD,ia,List.length_set,EE] at h);(try with_reducible intro K hK);simp only [go_sem,simprocAttr,cm,he,hv,hz,dD,ia,List.length_set,EE])))|((first|((with_reducible apply wL);exact rfl)|((with_reducible apply wM);exact rfl));all_goals (try ((with_reducible intro h);first|(exact absurd h (by decide))|(try simp only [go_sem,simprocAttr,cm,he,hv,hz,dD,ia,List.length_set,EE] at h))))|omega|((first|fail);try simp only [go_sem,simprocAttr,cm,he,hv,hz,dD,ia,List.length_set,EE])|(intro h))
  refine ⟨k+1,by omega, ?_,by omega⟩
  rw [hst]
  refine Le.of ?_ ?_<;>simp [go_sem,simprocAttr,cm,he,hv,hz,dD,ia,List.length_set,EE]
 have cm:decide ((k:Int)<(l.length:Int))=false:=decide_eq_false (by omega)
 obtain rfl:k=l.length:=by omega
 cases hc:decide (y=to) with
 |false=>
  repeat' (first|fail|((first|((with_reducible (first|apply oA|apply oB));exact rfl;intro K hK)|(refine hK _ ?_;clear hK K)|((with_reducible (first|apply oG|apply oH));iterate 3 exact rfl)|((with_reducible apply oI);(iterate 2 exact rfl);intro K hK)|(with_reducible (first|apply wI|apply wJ|apply wK)));try simp only [go_sem,simprocAttr,cm,hc,Bool.false_and])|fail|(with_reducible (first|apply oC|apply oJ|exact oK|apply wA|apply wB|apply wC hX hC|apply wD hX hC|apply wE hX hC af|apply wF hX hC af|apply wG|apply wH|apply And.intro))|((with_reducible refine oD ?_ ?_);first|fail|kernel_rfl)|((with_reducible (first|apply oE|apply oF));(iterate 3 exact rfl);all_goals (intro h;first|(exact absurd h (by decide))|((try simp only [go_sem,simprocAttr,cm,hc,Bool.false_and] at h);(try with_reducible intro K hK);simp only [go_sem,simprocAttr,cm,hc,Bool.false_and])))|((first|((with_reducible apply wL);exact rfl)|((with_reducible apply wM);exact rfl));all_goals (try ((with_reducible intro h);first|(exact absurd h (by decide))|(try simp only [go_sem,simprocAttr,cm,hc,Bool.false_and] at h))))|omega|((first|fail);try simp only [go_sem,simprocAttr,cm,hc,Bool.false_and])|(intro h))
 |true=>
  repeat' (first|fail|((first|((with_reducible (first|apply oA|apply oB));exact rfl;intro K hK)|(refine hK _ ?_;clear hK K)|((with_reducible (first|apply oG|apply oH));iterate 3 exact rfl)|((with_reducible apply oI);(iterate 2 exact rfl);intro K hK)|(with_reducible (first|apply wI|apply wJ|apply wK)));try simp only [go_sem,simprocAttr,cm,hc,Bool.true_and])|fail|(with_reducible (first|apply oC|apply oJ|exact oK|apply wA|apply wB|apply wC hX hC|apply wD hX hC|apply wE hX hC af|apply wF hX hC af|apply wG|apply wH|apply And.intro))|((with_reducible refine oD ?_ ?_);first|fail|kernel_rfl)|((with_reducible (first|apply oE|apply oF));(iterate 3 exact rfl);all_goals (intro h;first|(exact absurd h (by decide))|((try simp only [go_sem,simprocAttr,cm,hc,Bool.true_and] at h);(try with_reducible intro K hK);simp only [go_sem,simprocAttr,cm,hc,Bool.true_and])))|((first|((with_reducible apply wL);exact rfl)|((with_reducible apply wM);exact rfl));all_goals (try ((with_reducible intro h);first|(exact absurd h (by decide))|(try simp only [go_sem,simprocAttr,cm,hc,Bool.true_and] at h))))|omega|((first|fail);try simp only [go_sem,simprocAttr,cm,hc,Bool.true_and])|(intro h))
def dm (f:Int→Int) (k:Int) (i:Nat):List Int:=((List.range i).filter fun j:Nat=>decide (f (j:Int)=k)).map Int.ofNat
theorem xx {f:Int→Int} {k:Int} {i:Nat} (h:f (i:Int)=k):dm f k (i+1)=dm f k i++ [(i:Int)]:=by
 simp [dm,List.range_succ,List.filter_append,h]
theorem tX {f:Int→Int} {k:Int} {i:Nat} (h:f (i:Int)≠k):dm f k (i+1)=dm f k i:=by
 simp [dm,List.range_succ,List.filter_append,h]
theorem eA {f:Int→Int} {k:Int} {i:Nat} {e:Int} :e∈dm f k i↔(0≤e∧e<i)∧f e=k:=by
 simp only [dm,List.mem_map,List.mem_filter,List.mem_range,decide_eq_true_eq]
 constructor
 ·rintro ⟨j,⟨h1,h2⟩,rfl⟩;exact ⟨by simp;omega,h2⟩
 ·rintro ⟨h1,h2⟩;exact ⟨e.toNat,⟨by omega,by rw [show ((e.toNat:Nat):Int)=e by omega];exact h2⟩,by simp;omega⟩
theorem og {f:Int→Int} {k:Int} {i:Nat} :(dm f k i).length≤i:=by
 simpa [dm] using List.length_filter_le (fun j:Nat=>decide (f (j:Int)=k)) (List.range i)
theorem En {f:Int→Int} {k:Int} {i:Nat} :(dm f k i).Nodup:=
 List.pairwise_map.2 ((List.nodup_range.filter _).imp fun hab e=>hab (Int.ofNat.inj e))
section
variable {g:Gr} {p:Pl} (h:cB g p) (hI:kG g=true)
include h hI
omit h hI in
theorem tY {g:Gr} {p:Pl} {f:Int→Int} {k:Int} (hu:∀e e',(gr g p).E e→(gr g p).E e'→f e=f e'→iY g e=iY g e'→e=e'):∀a b,a<(dm f k g.es.length).length→b<(dm f k g.es.length).length→iY g ((dm f k g.es.length).getD a 0)=iY g ((dm f k g.es.length).getD b 0)→a=b:=by
 intro a b ha hb e
 have m1:=eA.1 (aT (d:=0) ha)
 have m2:=eA.1 (aT (d:=0) hb)
 have:=hu _ _ m1.1 m2.1 (m1.2.trans m2.2.symm) e
 rw [List.getD_eq_getElem?_getD,List.getElem?_eq_getElem ha,List.getD_eq_getElem?_getD,List.getElem?_eq_getElem hb] at this
 exact (List.getElem_inj En).1 this
theorem Ju {k:Nat} (h0:0<g.es.length) (xA:1≤k) (hk2:k≤cN g p):mC (kH g) (iY g) (dm (Rf g p) k g.es.length) (AZ g p k) (dm (Rf g p) k g.es.length).length=Dm g p k∧0<(dm (Rf g p) k g.es.length).length:=by
 have mH:=vA (k8 h hI) (dP h hI) (C6 h hI) h0 (El h hI) (k:=(k:Int)) (by
  rcases Nat.lt_or_ge k (cN g p) with h1|h1
  ·exact .inr (C3 h hI xA h1)
  ·obtain rfl:k=cN g p:=by omega
   exact .inl rfl)
 refine ⟨vB (k8 h hI) (dP h hI) (C6 h hI) (fun e=>eA) mH, ?_⟩
 obtain ⟨e,h1,h2,_⟩:=mH
 exact List.length_pos_of_mem (eA.2 ⟨h1,h2⟩)
theorem Jv {k:Nat} (h0:0<g.es.length) (hk2:k<cN g p):mC (kH g) (iY g) (dm (Lf g p) k g.es.length) (AZ g p k) (dm (Lf g p) k g.es.length).length=Dm g p k∧0<(dm (Lf g p) k g.es.length).length:=by
 have ok:=k8 h hI
 have F:=dP h hI
 have H:=C6 h hI
 have mH:=vA ok.sV (F.sV ok) (PS.Hi.sV ok F H) h0 (C7 h hI) (k:=(k:Int)) (by
  by_cases h1:k=0
  ·subst h1;exact .inl rfl
  ·obtain ⟨a,⟨x,u,b,v,e⟩,e2⟩:=C3 h hI (f:=k) (by omega) hk2
   refine .inr ⟨b,⟨x,v.reverse,a,u.reverse, ?_⟩,by rw [← F.fX e,e2]⟩
   show ((gr g p).outs x).reverse=_
   rw [e];simp)
 refine ⟨vB ok.sV (F.sV ok) (PS.Hi.sV ok F H) (fun e=>eA) mH, ?_⟩
 obtain ⟨e,h1,h2,_⟩:=mH
 exact List.length_pos_of_mem (eA.2 ⟨h1,h2⟩)
end
theorem sF (g:Gr) (p:Pl) (hl:g.es.length≤9223372036854775807) (hp:za p):Spec Tryz.prog 3 (Args [eG g,ePl p]) [] (eB true) []:=by
 obtain ⟨b,hr⟩:=OI g p
 have JU:=vm g hl p hp b hr
 (refine Spec.intro (C:=T.cfg [] []) (rs:= [.t 4]) (T.aq _ _) Tryz.func3 rfl rfl Tryz.ntmps3 Tryz.results3 (by simp [AObj.isNest]) (by simp [AObj.isNest]) (by kernel_rfl) ?_;intro X hX hP hC aM aN vals hA;refine ⟨_,by simp,hA, ?_⟩;have af:X.P.follows .mixedOrders=true:=(by rw [hP];exact T.mixed);clear aM aN)
 cases ha:xq b g p with
 |false=>
  rw [ha] at JU
  repeat' (first|fail|((first|((with_reducible (first|apply oA|apply oB));exact rfl;intro K hK)|(refine hK _ ?_;clear hK K)|((with_reducible (first|apply oG|apply oH));iterate 3 exact rfl)|((with_reducible apply oI);(iterate 2 exact rfl);intro K hK)|(with_reducible (first|apply wI|apply wJ|apply wK)));try simp only [go_sem,simprocAttr])|fail|(with_reducible (first|apply oC|apply oJ|exact oK|apply wA|apply wB|apply wC hX hC|apply wD hX hC|apply wE hX hC af|apply wF hX hC af|apply wG|apply wH|apply And.intro))|((with_reducible refine oD ?_ ?_);first|fail|kernel_rfl)|((with_reducible (first|apply oE|apply oF));(iterate 3 exact rfl);all_goals (intro h;first|(exact absurd h (by decide))|((try simp only [go_sem,simprocAttr] at h);(try with_reducible intro K hK);simp only [go_sem,simprocAttr])))|((first|((with_reducible apply wL);exact rfl)|((with_reducible apply wM);exact rfl));all_goals (try ((with_reducible intro h);first|(exact absurd h (by decide))|(try simp only [go_sem,simprocAttr] at h))))|omega|((first|first|refine aa hX hC hP (mq) rfl rfl rfl (by simp only [go_sem,simprocAttr]) rfl ?_|refine aa hX hC hP (JU) rfl rfl rfl (by simp only [go_sem,simprocAttr]) rfl ?_);try simp only [go_sem,simprocAttr])|(intro h))
 |true=>
 rw [ha] at JU
 obtain ⟨hB,hI,hrun,h0,PL⟩:=FY hr ha
 have hm:=aG hrun.1
 have hn:=aY hm
 have hD:=pR g (by omega) p (xg hB) b hr
 rw [FZ hr hrun hI h0] at hD
 simp only at hD
 have PM:=Jr hrun hI
 have a1:=fun (i:Nat) (hi:i<g.es.length)=>vi (f:=Lf g p) hi
 have a2:=fun (i:Nat) (hi:i<g.es.length)=>vi (f:=Rf g p) hi
 have c1:(arr (Lf g p) g.es.length).length=g.es.length:=dX
 have c2:(arr (Rf g p) g.es.length).length=g.es.length:=dX
 have hlo:=Ej (g:=g) (p:=p)
 have hhi:=Ek (g:=g) (p:=p)
 have OZ:∀k:Nat,(FV g p).getD k 0=AZ g p k:=fun k=>by unfold AZ;rw [Int.toNat_natCast]
 have O0:∀k:Nat,(FW g p).getD k 0=Dm g p k:=fun k=>by unfold Dm;rw [Int.toNat_natCast]
 have JV:=fun (i:Nat) (hi:i<g.es.length)=>EO hrun hI (e:=(i:Int)) (by omega)
 have Ms:=fun (i:Nat) (hi:i<g.es.length)=>EN hrun hI (e:=(i:Int)) (by omega)
 have hne:=fun (i:Nat) (hi:i<g.es.length)=>EV (k8 hrun hI) (dP hrun hI) (e:=(i:Int)) ⟨by omega,by show (i:Int)<(g.es.length:Int);omega⟩
 have zK:=fun (k:Nat)=>Ju (k:=k) hrun hI h0
 have Nj:=fun (k:Nat)=>Jv (k:=k) hrun hI h0
 have JN:∀k:Nat,1≤k→k≤cN g p→Spec Tryz.prog 18 (Args [eG g, .d (sI (dm (Rf g p) k g.es.length)),eN (AZ g p k),eN (Dm g p k)]) [] (eB true) []:=fun k h1 h2=>by
  have:=xw g hm (dm (Rf g p) k g.es.length) (by have:=og (f:=Rf g p) (k:=(k:Int)) (i:=g.es.length);omega) (fun i hi=>(eA.1 hi).1) (tY (p:=p) fun e e' he he' h3 h4=>A9 (k8 hrun hI) (dP hrun hI) he he' h3 h4) (AZ g p k) (Dm g p k)
  obtain ⟨g1,g2⟩:=zK k h1 h2
  rwa [decide_eq_true g1,decide_eq_true (by omega)] at this
 have hwr:∀k:Nat,k<cN g p→Spec Tryz.prog 18 (Args [eG g, .d (sI (dm (Lf g p) k g.es.length)),eN (AZ g p k),eN (Dm g p k)]) [] (eB true) []:=fun k h1=>by
  have:=xw g hm (dm (Lf g p) k g.es.length) (by have:=og (f:=Lf g p) (k:=(k:Int)) (i:=g.es.length);omega) (fun i hi=>(eA.1 hi).1) (tY (p:=p) fun e e' he he' h3 h4=>A9 (k8 hrun hI).sV ((dP hrun hI).sV (k8 hrun hI)) he he' h3 h4) (AZ g p k) (Dm g p k)
  obtain ⟨g1,g2⟩:=Nj k h1
  rwa [decide_eq_true g1,decide_eq_true (by omega)] at this
 have EB:dm (Rf g p) 0 g.es.length= []:=List.eq_nil_iff_forall_not_mem.2 fun e he=>by
  have:=eA.1 he
  have:=EN hrun hI (e:=e) (by omega)
  omega
 have AR:dm (Lf g p) (cN g p:Int) g.es.length= []:=List.eq_nil_iff_forall_not_mem.2 fun e he=>by
  have:=eA.1 he
  have:=EO hrun hI (e:=e) (by omega)
  omega
 have O1:∀k:Int,∀i,i<g.es.length→((arr (Rf g p) g.es.length).getD i 0=k→dm (Rf g p) k (i+1)=dm (Rf g p) k i++ [(i:Int)])∧((arr (Rf g p) g.es.length).getD i 0≠k→dm (Rf g p) k (i+1)=dm (Rf g p) k i):=fun k i hi=>by
  rw [a2 i hi];exact ⟨xx,tX⟩
 have Eo:∀k:Int,∀i,i<g.es.length→((arr (Lf g p) g.es.length).getD i 0=k→dm (Lf g p) k (i+1)=dm (Lf g p) k i++ [(i:Int)])∧((arr (Lf g p) g.es.length).getD i 0≠k→dm (Lf g p) k (i+1)=dm (Lf g p) k i):=fun k i hi=>by
  rw [a1 i hi];exact ⟨xx,tX⟩
 have JV:∀i,i<g.es.length→0≤(arr (Lf g p) g.es.length).getD i 0∧(arr (Lf g p) g.es.length).getD i 0<cN g p:=fun i hi=>by rw [a1 i hi];exact JV i hi
 have Ms:∀i,i<g.es.length→1≤(arr (Rf g p) g.es.length).getD i 0∧(arr (Rf g p) g.es.length).getD i 0≤cN g p:=fun i hi=>by rw [a2 i hi];exact Ms i hi
 have hne:∀i,i<g.es.length→(arr (Lf g p) g.es.length).getD i 0≠(arr (Rf g p) g.es.length).getD i 0:=fun i hi=>by rw [a1 i hi,a2 i hi];exact hne i hi
 have Mt:∀k i,(dm (Rf g p) k i).length≤i:=fun k i=>og
 have Mu:∀k i,(dm (Lf g p) k i).length≤i:=fun k i=>og
 have hi1:∀k,dm (Rf g p) k 0= []:=fun _=>rfl
 have hi2:∀k,dm (Lf g p) k 0= []:=fun _=>rfl
 clear a1 a2 zK Nj
 generalize arr (Lf g p) g.es.length=LA at*
 generalize arr (Rf g p) g.es.length=RA at*
 generalize FV g p=lo at*
 generalize FW g p=hi at*
 generalize cN g p=cn at*
 generalize dm (Rf g p)=SL at*
 generalize dm (Lf g p)=SR at*
 generalize AZ g p=lF at*
 generalize Dm g p=hF at*
 have xy:decide (((cn+1:Nat):Int)=(g.es.length:Int) - g.n+3)=true:=decide_eq_true (by omega)
 repeat' (first|fail|((first|((with_reducible (first|apply oA|apply oB));exact rfl;intro K hK)|(refine hK _ ?_;clear hK K)|((with_reducible (first|apply oG|apply oH));iterate 3 exact rfl)|((with_reducible apply oI);(iterate 2 exact rfl);intro K hK)|(with_reducible (first|apply wI|apply wJ|apply wK)));try simp only [go_sem,simprocAttr,iW,c1,c2,hlo,hhi,xy,decide_true,decide_false])|fail|(with_reducible (first|apply oC|apply oJ|exact oK|apply wA|apply wB|apply wC hX hC|apply wD hX hC|apply wE hX hC af|apply wF hX hC af|apply wG|apply wH|apply And.intro))|((with_reducible refine oD ?_ ?_);first|fail|kernel_rfl)|((with_reducible (first|apply oE|apply oF));(iterate 3 exact rfl);all_goals (intro h;first|(exact absurd h (by decide))|((try simp only [go_sem,simprocAttr,iW,c1,c2,hlo,hhi,xy,decide_true,decide_false] at h);(try with_reducible intro K hK);simp only [go_sem,simprocAttr,iW,c1,c2,hlo,hhi,xy,decide_true,decide_false])))|((first|((with_reducible apply wL);exact rfl)|((with_reducible apply wM);exact rfl));all_goals (try ((with_reducible intro h);first|(exact absurd h (by decide))|(try simp only [go_sem,simprocAttr,iW,c1,c2,hlo,hhi,xy,decide_true,decide_false] at h))))|omega|((first|first|refine aa hX hC hP (mq) rfl rfl rfl (by simp only [go_sem,simprocAttr,iW,c1,c2,hlo,hhi,xy,decide_true,decide_false]) rfl ?_|refine aa hX hC hP (JU) rfl rfl rfl (by simp only [go_sem,simprocAttr,iW,c1,c2,hlo,hhi,xy,decide_true,decide_false]) rfl ?_|refine aa hX hC hP (hD) rfl rfl rfl (by simp only [go_sem,simprocAttr,iW,c1,c2,hlo,hhi,xy,decide_true,decide_false]) rfl ?_);try simp only [go_sem,simprocAttr,iW,c1,c2,hlo,hhi,xy,decide_true,decide_false])|(intro h))
 refine an (fun k:Nat=>k≤cn+1) (fun k=>⟨[(2, .ptr 2 0),(3, .ptr 3 0),(5, .ptr 5 0),(7,eN (cn+1:Nat)),(67,eN (cn+1:Nat)),(68,eN k)], [(2, .box [eN g.n, .d (sE g.es)]),(5, .box [.d (sI LA), .d (sI RA), .d (sI lo), .d (sI hi)])]⟩) (fun k=>cn+1 - k) 0 (by omega) ?_ ?_
 ·refine Le.of ?_ ?_<;>simp [go_sem,simprocAttr]
 rintro k xA
 rcases Nat.lt_or_ge k (cn+1) with cw|Ev
 rotate_left
 ·have cm:decide ((k:Int)<((cn+1:Nat):Int))=false:=decide_eq_false (by omega)
  repeat' (first|fail|((first|((with_reducible (first|apply oA|apply oB));exact rfl;intro K hK)|(refine hK _ ?_;clear hK K)|((with_reducible (first|apply oG|apply oH));iterate 3 exact rfl)|((with_reducible apply oI);(iterate 2 exact rfl);intro K hK)|(with_reducible (first|apply wI|apply wJ|apply wK)));try simp only [go_sem,simprocAttr,cm])|fail|(with_reducible (first|apply oC|apply oJ|exact oK|apply wA|apply wB|apply wC hX hC|apply wD hX hC|apply wE hX hC af|apply wF hX hC af|apply wG|apply wH|apply And.intro))|((with_reducible refine oD ?_ ?_);first|fail|kernel_rfl)|((with_reducible (first|apply oE|apply oF));(iterate 3 exact rfl);all_goals (intro h;first|(exact absurd h (by decide))|((try simp only [go_sem,simprocAttr,cm] at h);(try with_reducible intro K hK);simp only [go_sem,simprocAttr,cm])))|((first|((with_reducible apply wL);exact rfl)|((with_reducible apply wM);exact rfl));all_goals (try ((with_reducible intro h);first|(exact absurd h (by decide))|(try simp only [go_sem,simprocAttr,cm] at h))))|omega|((first|fail);try simp only [go_sem,simprocAttr,cm])|(intro h))
 have cm:decide ((k:Int)<((cn+1:Nat):Int))=true:=decide_eq_true (by omega)
 repeat' (first|fail|((first|((with_reducible (first|apply oA|apply oB));exact rfl;intro K hK)|(refine hK _ ?_;clear hK K)|((with_reducible (first|apply oG|apply oH));iterate 3 exact rfl)|((with_reducible apply oI);(iterate 2 exact rfl);intro K hK)|(with_reducible (first|apply wI|apply wJ|apply wK)));try simp only [go_sem,simprocAttr,cm])|fail|(with_reducible (first|apply oC|apply oJ|exact oK|apply wA|apply wB|apply wC hX hC|apply wD hX hC|apply wE hX hC af|apply wF hX hC af|apply wG|apply wH|apply And.intro))|((with_reducible refine oD ?_ ?_);first|fail|kernel_rfl)|((with_reducible (first|apply oE|apply oF));(iterate 3 exact rfl);all_goals (intro h;first|(exact absurd h (by decide))|((try simp only [go_sem,simprocAttr,cm] at h);(try with_reducible intro K hK);simp only [go_sem,simprocAttr,cm])))|((first|((with_reducible apply wL);exact rfl)|((with_reducible apply wM);exact rfl));all_goals (try ((with_reducible intro h);first|(exact absurd h (by decide))|(try simp only [go_sem,simprocAttr,cm] at h))))|omega|((first|fail);try simp only [go_sem,simprocAttr,cm])|(intro h))
 refine an (fun i:Nat=>i≤g.es.length) (fun i=>⟨[(2, .ptr 2 0),(3, .ptr 3 0),(5, .ptr 5 0),(7,eN (cn+1:Nat)),(8,eN k),(9, .ref 71),(10, .ref 72),(67,eN (cn+1:Nat)),(68,eN k),(75,eN g.es.length),(76,eN i)], [(2, .box [eN g.n, .d (sE g.es)]),(5, .box [.d (sI LA), .d (sI RA), .d (sI lo), .d (sI hi)]),(71, .tip 3 1 ((SL k i).map rI)),(72, .tip 3 1 ((SR k i).map rI))]⟩) (fun i=>g.es.length - i) 0 (by omega) ?_ ?_
 ·refine Le.of ?_ ?_<;>simp [go_sem,simprocAttr,hi1,hi2]
 rintro i O2
 rcases Nat.lt_or_ge i g.es.length with hil|JO
 ·have eO:decide ((i:Int)<(g.es.length:Int))=true:=decide_eq_true (by omega)
  have l1:=JV i hil
  have r1:=Ms i hil
  have n1:=hne i hil
  obtain ⟨s1,s2⟩:=O1 k i hil
  obtain ⟨s3,s4⟩:=Eo k i hil
  have aj:decide (LA.getD i 0<0)=false:=decide_eq_false (by omega)
  have ak:decide (((cn+1:Nat):Int)≤LA.getD i 0)=false:=decide_eq_false (by omega)
  have aX:decide (RA.getD i 0<0)=false:=decide_eq_false (by omega)
  have hb4:decide (((cn+1:Nat):Int)≤RA.getD i 0)=false:=decide_eq_false (by omega)
  have iX:decide (LA.getD i 0=RA.getD i 0)=false:=decide_eq_false n1
  have q1:=Mt k i
  have q2:=Mu k i
  by_cases hA:RA.getD i 0=k
  ·have ki:decide (RA.getD i 0=(k:Int))=true:=decide_eq_true hA
   have s1:=s1 hA
   by_cases ER:LA.getD i 0=k
   ·exact absurd (ER.trans hA.symm) n1
   ·have jK:decide (LA.getD i 0=(k:Int))=false:=decide_eq_false ER
    have s4:=s4 ER
    generalize SL k i=A1 at s1 q1
    generalize SR k i=A2 at s4 q2
    repeat' (first|fail|((first|((with_reducible (first|apply oA|apply oB));exact rfl;intro K hK)|(refine hK _ ?_;clear hK K)|((with_reducible (first|apply oG|apply oH));iterate 3 exact rfl)|((with_reducible apply oI);(iterate 2 exact rfl);intro K hK)|(with_reducible (first|apply wI|apply wJ|apply wK)));try simp only [go_sem,simprocAttr,eO,aj,ak,aX,hb4,iX,ki,jK,c1,c2])|(show dG _ (.seq (.region 20 _ _) _) _ _;(refine jU hX 9 134 71 (by simp only [go_sem,simprocAttr,eO,aj,ak,aX,hb4,iX,ki,jK,c1,c2]) rfl (by first|exact .inl rfl|exact .inr rfl) (by decide) ?_;simp only [go_sem,simprocAttr,eO,aj,ak,aX,hb4,iX,ki,jK,c1,c2]))|(with_reducible (first|apply oC|apply oJ|exact oK|apply wA|apply wB|apply wC hX hC|apply wD hX hC|apply wE hX hC af|apply wF hX hC af|apply wG|apply wH|apply And.intro))|((with_reducible refine oD ?_ ?_);first|fail|kernel_rfl)|((with_reducible (first|apply oE|apply oF));(iterate 3 exact rfl);all_goals (intro h;first|(exact absurd h (by decide))|((try simp only [go_sem,simprocAttr,eO,aj,ak,aX,hb4,iX,ki,jK,c1,c2] at h);(try with_reducible intro K hK);simp only [go_sem,simprocAttr,eO,aj,ak,aX,hb4,iX,ki,jK,c1,c2])))|((first|((with_reducible apply wL);exact rfl)|((with_reducible apply wM);exact rfl));all_goals (try ((with_reducible intro h);first|(exact absurd h (by decide))|(try simp only [go_sem,simprocAttr,eO,aj,ak,aX,hb4,iX,ki,jK,c1,c2] at h))))|omega|((first|fail);try simp only [go_sem,simprocAttr,eO,aj,ak,aX,hb4,iX,ki,jK,c1,c2])|(intro h))
    refine ⟨i+1,by omega, ?_,by omega⟩
    rw [s1,s4]
    refine Le.of ?_ ?_<;>simp [go_sem,simprocAttr,eO,aj,ak,aX,hb4,iX,ki,jK,c1,c2,rI]
  ·have ki:decide (RA.getD i 0=(k:Int))=false:=decide_eq_false hA
   have s2:=s2 hA
   by_cases ER:LA.getD i 0=k
   ·have jK:decide (LA.getD i 0=(k:Int))=true:=decide_eq_true ER
    have s3:=s3 ER
    generalize SL k i=A1 at s2 q1
    generalize SR k i=A2 at s3 q2
    repeat' (first|fail|((first|((with_reducible (first|apply oA|apply oB));exact rfl;intro K hK)|(refine hK _ ?_;clear hK K)|((with_reducible (first|apply oG|apply oH));iterate 3 exact rfl)|((with_reducible apply oI);(iterate 2 exact rfl);intro K hK)|(with_reducible (first|apply wI|apply wJ|apply wK)));try simp only [go_sem,simprocAttr,eO,aj,ak,aX,hb4,iX,ki,jK,c1,c2])|(show dG _ (.region 22 _ _) _ _;(refine jU hX 10 145 72 (by simp only [go_sem,simprocAttr,eO,aj,ak,aX,hb4,iX,ki,jK,c1,c2]) rfl (by first|exact .inl rfl|exact .inr rfl) (by decide) ?_;simp only [go_sem,simprocAttr,eO,aj,ak,aX,hb4,iX,ki,jK,c1,c2]))|(with_reducible (first|apply oC|apply oJ|exact oK|apply wA|apply wB|apply wC hX hC|apply wD hX hC|apply wE hX hC af|apply wF hX hC af|apply wG|apply wH|apply And.intro))|((with_reducible refine oD ?_ ?_);first|fail|kernel_rfl)|((with_reducible (first|apply oE|apply oF));(iterate 3 exact rfl);all_goals (intro h;first|(exact absurd h (by decide))|((try simp only [go_sem,simprocAttr,eO,aj,ak,aX,hb4,iX,ki,jK,c1,c2] at h);(try with_reducible intro K hK);simp only [go_sem,simprocAttr,eO,aj,ak,aX,hb4,iX,ki,jK,c1,c2])))|((first|((with_reducible apply wL);exact rfl)|((with_reducible apply wM);exact rfl));all_goals (try ((with_reducible intro h);first|(exact absurd h (by decide))|(try simp only [go_sem,simprocAttr,eO,aj,ak,aX,hb4,iX,ki,jK,c1,c2] at h))))|omega|((first|fail);try simp only [go_sem,simprocAttr,eO,aj,ak,aX,hb4,iX,ki,jK,c1,c2])|(intro h))
    refine ⟨i+1,by omega, ?_,by omega⟩
    rw [s2,s3]
    refine Le.of ?_ ?_<;>simp [go_sem,simprocAttr,eO,aj,ak,aX,hb4,iX,ki,jK,c1,c2,rI]
   ·have jK:decide (LA.getD i 0=(k:Int))=false:=decide_eq_false ER
    have s4:=s4 ER
    generalize SL k i=A1 at s2 q1
    generalize SR k i=A2 at s4 q2
    repeat' (first|fail|((first|((with_reducible (first|apply oA|apply oB));exact rfl;intro K hK)|(refine hK _ ?_;clear hK K)|((with_reducible (first|apply oG|apply oH));iterate 3 exact rfl)|((with_reducible apply oI);(iterate 2 exact rfl);intro K hK)|(with_reducible (first|apply wI|apply wJ|apply wK)));try simp only [go_sem,simprocAttr,eO,aj,ak,aX,hb4,iX,ki,jK,c1,c2])|fail|(with_reducible (first|apply oC|apply oJ|exact oK|apply wA|apply wB|apply wC hX hC|apply wD hX hC|apply wE hX hC af|apply wF hX hC af|apply wG|apply wH|apply And.intro))|((with_reducible refine oD ?_ ?_);first|fail|kernel_rfl)|((with_reducible (first|apply oE|apply oF));(iterate 3 exact rfl);all_goals (intro h;first|(exact absurd h (by decide))|((try simp only [go_sem,simprocAttr,eO,aj,ak,aX,hb4,iX,ki,jK,c1,c2] at h);(try with_reducible intro K hK);simp only [go_sem,simprocAttr,eO,aj,ak,aX,hb4,iX,ki,jK,c1,c2])))|((first|((with_reducible apply wL);exact rfl)|((with_reducible apply wM);exact rfl));all_goals (try ((with_reducible intro h);first|(exact absurd h (by decide))|(try simp only [go_sem,simprocAttr,eO,aj,ak,aX,hb4,iX,ki,jK,c1,c2] at h))))|omega|((first|fail);try simp only [go_sem,simprocAttr,eO,aj,ak,aX,hb4,iX,ki,jK,c1,c2])|(intro h))
    refine ⟨i+1,by omega, ?_,by omega⟩
    rw [s2,s4]
    refine Le.of ?_ ?_<;>simp [go_sem,simprocAttr,eO,aj,ak,aX,hb4,iX,ki,jK,c1,c2]
 have eO:decide ((i:Int)<(g.es.length:Int))=false:=decide_eq_false (by omega)
 obtain rfl:i=g.es.length:=by omega
 have JW:=JN k
 have Jw:=hwr k
 rw [← OZ k, ← O0 k] at JW Jw
 have hc0:((cn+1:Nat):Int) - 1=cn:=by omega
 have F7:1≤cn:=by have:=JV 0 h0;omega
 by_cases sN:k=0
 ·subst sN
  have Mv:SL ((0:Nat):Int) g.es.length= []:=EB
  have Jy:=Jw (by omega)
  clear JW Jw
  have qn:decide (((0:Nat):Int)<(cn:Int))=true:=decide_eq_true (by omega)
  have xE:decide (((0:Nat):Int)=(cn:Int))=false:=decide_eq_false (by omega)
  rw [Mv]
  generalize SR ((0:Nat):Int) g.es.length=A2 at Jy
  repeat' (first|fail|((first|((with_reducible (first|apply oA|apply oB));exact rfl;intro K hK)|(refine hK _ ?_;clear hK K)|((with_reducible (first|apply oG|apply oH));iterate 3 exact rfl)|((with_reducible apply oI);(iterate 2 exact rfl);intro K hK)|(with_reducible (first|apply wI|apply wJ|apply wK)));try simp only [go_sem,simprocAttr,eO,hlo,hhi,hc0,qn,xE,List.map_nil])|fail|(with_reducible (first|apply oC|apply oJ|exact oK|apply wA|apply wB|apply wC hX hC|apply wD hX hC|apply wE hX hC af|apply wF hX hC af|apply wG|apply wH|apply And.intro))|((with_reducible refine oD ?_ ?_);first|fail|kernel_rfl)|((with_reducible (first|apply oE|apply oF));(iterate 3 exact rfl);all_goals (intro h;first|(exact absurd h (by decide))|((try simp only [go_sem,simprocAttr,eO,hlo,hhi,hc0,qn,xE,List.map_nil] at h);(try with_reducible intro K hK);simp only [go_sem,simprocAttr,eO,hlo,hhi,hc0,qn,xE,List.map_nil])))|((first|((with_reducible apply wL);exact rfl)|((with_reducible apply wM);exact rfl));all_goals (try ((with_reducible intro h);first|(exact absurd h (by decide))|(try simp only [go_sem,simprocAttr,eO,hlo,hhi,hc0,qn,xE,List.map_nil] at h))))|omega|((first|first|(refine bk hX hC hP (Jy) rfl rfl rfl ?_ ?_ rfl ?_;iterate 2 (focus (simp only [go_sem,simprocAttr,eO,hlo,hhi,hc0,qn,xE,List.map_nil];done))));try simp only [go_sem,simprocAttr,eO,hlo,hhi,hc0,qn,xE,List.map_nil])|(intro h))
  refine ⟨1,by omega, ?_,by omega⟩
  refine Le.of ?_ ?_<;>simp [go_sem,simprocAttr,eO,hlo,hhi,hc0,qn,xE,List.map_nil]
 have JX:=JW (by omega) (by omega)
 clear JW JN hwr
 have jK:decide ((0:Int)<(k:Int))=true:=decide_eq_true (by omega)
 have ki:decide ((k:Int)=0)=false:=decide_eq_false (by omega)
 by_cases hkc:k=cn
 ·subst hkc
  have qn:decide ((k:Int)<(k:Int))=false:=decide_eq_false (by omega)
  rw [AR]
  generalize SL (k:Int) g.es.length=A1 at JX
  repeat' (first|fail|((first|((with_reducible (first|apply oA|apply oB));exact rfl;intro K hK)|(refine hK _ ?_;clear hK K)|((with_reducible (first|apply oG|apply oH));iterate 3 exact rfl)|((with_reducible apply oI);(iterate 2 exact rfl);intro K hK)|(with_reducible (first|apply wI|apply wJ|apply wK)));try simp only [go_sem,simprocAttr,eO,hlo,hhi,hc0,ki,jK,qn,List.map_nil,decide_true])|fail|(with_reducible (first|apply oC|apply oJ|exact oK|apply wA|apply wB|apply wC hX hC|apply wD hX hC|apply wE hX hC af|apply wF hX hC af|apply wG|apply wH|apply And.intro))|((with_reducible refine oD ?_ ?_);first|fail|kernel_rfl)|((with_reducible (first|apply oE|apply oF));(iterate 3 exact rfl);all_goals (intro h;first|(exact absurd h (by decide))|((try simp only [go_sem,simprocAttr,eO,hlo,hhi,hc0,ki,jK,qn,List.map_nil,decide_true] at h);(try with_reducible intro K hK);simp only [go_sem,simprocAttr,eO,hlo,hhi,hc0,ki,jK,qn,List.map_nil,decide_true])))|((first|((with_reducible apply wL);exact rfl)|((with_reducible apply wM);exact rfl));all_goals (try ((with_reducible intro h);first|(exact absurd h (by decide))|(try simp only [go_sem,simprocAttr,eO,hlo,hhi,hc0,ki,jK,qn,List.map_nil,decide_true] at h))))|omega|((first|first|(refine bk hX hC hP (JX) rfl rfl rfl ?_ ?_ rfl ?_;iterate 2 (focus (simp only [go_sem,simprocAttr,eO,hlo,hhi,hc0,ki,jK,qn,List.map_nil,decide_true];done))));try simp only [go_sem,simprocAttr,eO,hlo,hhi,hc0,ki,jK,qn,List.map_nil,decide_true])|(intro h))
  refine ⟨k+1,by omega, ?_,by omega⟩
  refine Le.of ?_ ?_<;>simp [go_sem,simprocAttr,eO,hlo,hhi,hc0,ki,jK,qn,List.map_nil,decide_true]
 ·have Jy:=Jw (by omega)
  clear Jw
  have qn:decide ((k:Int)<(cn:Int))=true:=decide_eq_true (by omega)
  have xE:decide ((k:Int)=(cn:Int))=false:=decide_eq_false (by omega)
  generalize SL (k:Int) g.es.length=A1 at JX
  generalize SR (k:Int) g.es.length=A2 at Jy
  repeat' (first|fail|((first|((with_reducible (first|apply oA|apply oB));exact rfl;intro K hK)|(refine hK _ ?_;clear hK K)|((with_reducible (first|apply oG|apply oH));iterate 3 exact rfl)|((with_reducible apply oI);(iterate 2 exact rfl);intro K hK)|(with_reducible (first|apply wI|apply wJ|apply wK)));try simp only [go_sem,simprocAttr,eO,hlo,hhi,hc0,ki,jK,qn,xE])|fail|(with_reducible (first|apply oC|apply oJ|exact oK|apply wA|apply wB|apply wC hX hC|apply wD hX hC|apply wE hX hC af|apply wF hX hC af|apply wG|apply wH|apply And.intro))|((with_reducible refine oD ?_ ?_);first|fail|kernel_rfl)|((with_reducible (first|apply oE|apply oF));(iterate 3 exact rfl);all_goals (intro h;first|(exact absurd h (by decide))|((try simp only [go_sem,simprocAttr,eO,hlo,hhi,hc0,ki,jK,qn,xE] at h);(try with_reducible intro K hK);simp only [go_sem,simprocAttr,eO,hlo,hhi,hc0,ki,jK,qn,xE])))|((first|((with_reducible apply wL);exact rfl)|((with_reducible apply wM);exact rfl));all_goals (try ((with_reducible intro h);first|(exact absurd h (by decide))|(try simp only [go_sem,simprocAttr,eO,hlo,hhi,hc0,ki,jK,qn,xE] at h))))|omega|((first|first|(refine bk hX hC hP (JX) rfl rfl rfl ?_ ?_ rfl ?_;iterate 2 (focus (simp only [go_sem,simprocAttr,eO,hlo,hhi,hc0,ki,jK,qn,xE];done)))|(refine bk hX hC hP (Jy) rfl rfl rfl ?_ ?_ rfl ?_;iterate 2 (focus (simp only [go_sem,simprocAttr,eO,hlo,hhi,hc0,ki,jK,qn,xE];done))));try simp only [go_sem,simprocAttr,eO,hlo,hhi,hc0,ki,jK,qn,xE])|(intro h))
  refine ⟨k+1,by omega, ?_,by omega⟩
  refine Le.of ?_ ?_<;>simp [go_sem,simprocAttr,eO,hlo,hhi,hc0,ki,jK,qn,xE]
end Go.Ab
end
