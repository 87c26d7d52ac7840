/- A part of the proof. -/
import Derived.Test.YtjmaiddbinlooaaGreatL1P15
set_option linter.unusedSimpArgs false
set_option linter.unusedVariables false
section
namespace Go.Ab
open Go.Proofs
set_option maxRecDepth 10000
set_option linter.unusedSectionVars false
def arr (f:Int→Int) (m:Nat):List Int:=(List.range m).map fun i:Nat=>f (i:Int)
theorem c8 {f:Int→Int} {m:Nat} :(arr f m).length=m:=by simp [arr]
theorem oX {f:Int→Int} {m i:Nat} (h:i<m):(arr f m).getD i 0=f (i:Int):=by
 simp [arr,List.getD_eq_getElem?_getD,List.getElem?_range h]
theorem Dc {l m:List Int} (hl:l.length=m.length) (h:∀i,i<l.length→l.getD i 0=m.getD i 0):l=m:=by
 refine List.ext_getElem? fun i=> ?_
 by_cases hi:i<l.length
 ·have:=h i hi
  rw [List.getD_eq_getElem?_getD,List.getD_eq_getElem?_getD,List.getElem?_eq_getElem hi,List.getElem?_eq_getElem (by omega)] at this
  rw [List.getElem?_eq_getElem hi,List.getElem?_eq_getElem (by omega)]
  simpa using this
 ·rw [List.getElem?_eq_none (by omega),List.getElem?_eq_none (by omega)]
theorem nU {u v:List Int} {e:Int} :(u++e::v).getD u.length 0=e:=by
 rw [List.getD_eq_getElem?_getD,List.getElem?_append_right (Nat.le_refl _)];simp
section
variable {g:Gr} {p:Pl} (h:cB g p)
include h
theorem iL {k:Nat} (hk:k<g.n.toNat) {e:Int} (he:e∈bK p (az p k)):(0≤e∧e<g.es.length)∧qf g e=az p k:=by
 have hx:=aN h.2.1 hk
 exact cC.1 ((bR h.2.1 hx.1 hx.2).mem_iff.1 he)
theorem Dd {k:Nat} (hk:k<g.n.toNat):(bK p (az p k)).Nodup:=by
 have hx:=aN h.2.1 hk
 exact (bR h.2.1 hx.1 hx.2).nodup_iff.2 cU
theorem zK {k:Nat} (hk:k<g.n.toNat) {e:Int} (he:0≤e∧e<g.es.length) (ht:qf g e=az p k):∃u v,bK p (az p k)=u++e::v:=by
 have hx:=aN h.2.1 hk
 exact List.append_of_mem ((bR h.2.1 hx.1 hx.2).mem_iff.2 (cC.2 ⟨he,ht⟩))
theorem ue {k:Nat} (hk:k<g.n.toNat) {f F F':Int→Int} {v:Nat→Int} (hin:∀u w e,bK p (az p k)=u++e::w→F' e=v u.length) (hout:∀e:Int,qf g e≠az p k→F' e=F e):
 jB (arr F g.es.length) (bK p (az p k)) v (bK p (az p k)).length=arr F' g.es.length:=by
 refine Dc (by rw [fW,c8,c8]) fun i hi=> ?_
 rw [fW,c8] at hi
 rw [oX hi]
 by_cases ht:qf g (i:Int)=az p k
 ·obtain ⟨u,w,De⟩:=zK h hk (e:=(i:Int)) (by omega) ht
  have e1:(bK p (az p k)).getD u.length 0=(i:Int):=by rw [De];exact nU
  have:=xA (A:=arr F g.es.length) (o:=bK p (az p k)) (f:=v) (i:=u.length) (by rw [e1,c8];simpa using hi) (j:=(bK p (az p k)).length) (by rw [De];simp) fun q hq e2=>by
   rw [e1,Int.toNat_natCast] at e2
   have h2:=iL h hk (bq (d:=0) hq)
   have h3:(bK p (az p k)).getD q 0=(i:Int):=by omega
   have bX:=Dd h hk
   have:(bK p (az p k))[q]'hq=(bK p (az p k))[u.length]'(by rw [De];simp):=by
    rw [List.getD_eq_getElem?_getD,List.getElem?_eq_getElem hq] at h3
    rw [List.getD_eq_getElem?_getD,List.getElem?_eq_getElem (by rw [De];simp)] at e1
    simp only [Option.getD_some] at h3 e1
    rw [h3,e1]
   exact (List.getElem_inj bX).1 this
  rw [e1,Int.toNat_natCast] at this
  rw [this,hin u w (i:Int) De]
 ·rw [uc fun q hq e2=> ?_,oX hi,hout _ ht]
  have h2:=iL h hk (bq (d:=0) hq)
  exact ht (by rw [← h2.2];congr 1;omega)
theorem Jy {k:Nat} (hk:k<g.n.toNat):l8 (arr (LK g p k) g.es.length) (bK p (az p k)) (if k=0 then 0 else LK g p k (ez g p (az p k))) (cK p k) (bK p (az p k)).length=arr (LK g p (k+1)) g.es.length:=by
 refine ue (f:=fun _=>0) h hk (fun u w e De=> ?_) fun e he=>by rw [LK,if_neg he]
 obtain ⟨a,b⟩:=mK h hk De
 rw [LK,if_pos a,b]
theorem Jz {r:Int} {k:Nat} (hk:k<g.n.toNat):l9 (arr (RK g p r k) g.es.length) (bK p (az p k)) (if k=0 then r else RK g p r k (l7 g p (az p k))) (cK p k) (bK p (az p k)).length=arr (RK g p r (k+1)) g.es.length:=by
 refine ue (f:=fun _=>0) h hk (fun u w e De=> ?_) fun e he=>by rw [RK,if_neg he]
 obtain ⟨a,b⟩:=mK h hk De
 rw [RK,if_pos a,b]
theorem xB (hI:kq g=true):∀ {k:Nat},k<g.n.toNat→∀t∈(fK g p k).row,0≤t.1
 |0,_,t,ht=>by cases ht
 |k+1,hk,t,ht=>by
  have hm:=aF h.1
  have ih:=xB hI (k:=k) (by omega)
  obtain ⟨hi,_,_⟩:=dH hm h.2.1 (k:=k) (by omega) fun j hj=>h.2.2 j (by omega)
  obtain ⟨A,X,C,hr,_,_,_,hs⟩:=iq hm hi.togG (h.2.2 k (by omega))
  have hO:bK p (az p k)≠ []:=fun h1=>by
   have:=(ew h hI (aN h.2.1 (show k<g.n.toNat by omega))).1 h1
   have:=dK h.2.1 (show k<g.n.toNat by omega) (by omega) this
   omega
  have ht:t∈(aB g (fK g p k) (az p k) (bK p (az p k))).2.row:=ht
  rw [hs] at ht
  simp only [List.mem_append] at ht
  rcases ht with (ht|ht)|ht
  ·exact ih t (by rw [hr];simp [ht])
  ·unfold aL at ht
   rw [if_neg hO] at ht
   obtain ⟨i,hi2,rfl⟩:=List.mem_map.1 ht
   exact (iL h (show k<g.n.toNat by omega) hi2).1.1
  ·exact ih t (by rw [hr];simp [ht])
theorem yC (hI:kq g=true) {k:Nat} (hk:k<g.n.toNat):iU (fc g p k)=fc g p k:=by
 have hm:=aF h.1
 obtain ⟨hi,_,_⟩:=dH hm h.2.1 (k:=k) (by omega) fun j hj=>h.2.2 j (by omega)
 obtain ⟨A,X,C,hr,_,_,_,hs⟩:=iq hm hi.togG (h.2.2 k hk)
 have e:fc g p k=X:=by unfold fc;rw [hs]
 rw [e]
 refine List.filter_eq_self.2 fun t ht=>decide_eq_true (xB h hI hk t ?_)
 rw [hr];simp [ht]
theorem Df (hI:kq g=true) {k:Nat} (hk:k<g.n.toNat):cG g p (az p k)=(fc g p k).map (·.1):=by
 unfold cG
 rw [nL h.2.1 (Nat.le_refl _) hk,yC h hI hk]
end
section
variable (g:Gr) (p:Pl)
def fA:Nat→List Int
 |0=>bK p (az p 0)
 |j+1=>if bK p (az p (j+1))= [] then fA j else (fA j).take (dw (fA j) (ez g p (az p (j+1)))).toNat++bK p (az p (j+1))++(fA j).drop ((dw (fA j) (ez g p (az p (j+1)))).toNat+(cG g p (az p (j+1))).length)
def k5:Nat→List Int
 |0=> [0]++fe 1 ((bK p (az p 0)).length - 1)++ [-1]
 |j+1=>(k5 j).take ((dw (fA g p j) (ez g p (az p (j+1)))).toNat+1)++fe (cK p (j+1)) ((bK p (az p (j+1))).length - 1)++(k5 j).drop ((dw (fA g p j) (ez g p (az p (j+1)))).toNat+(cG g p (az p (j+1))).length)
def sN (k:Nat):List Int:=((cG g p (az p k)).dropLast).map (RK g p (-1) k)
def xM:Nat→List Int
 |0=> [az p (g.n.toNat - 1)]
 |k+1=>k4 (xM k) (sN g p k) (az p k) (sN g p k).length++List.replicate ((bK p (az p k)).length - 1) 0
end
section
variable {g:Gr} {p:Pl}
theorem qi:∀ {k:Nat},(xM g p k).length=cK p k
 |0=>rfl
 |k+1=>by rw [xM,List.length_append,oW,List.length_replicate,qi,cK]
variable (h:cB g p)
include h
theorem Dg {A I C:List Int} (bX:(A++I++C).Nodup) (hI:I≠ []):dw (A++I++C) (I.headD 0)=(A.length:Int):=by
 obtain ⟨a,u,rfl⟩:=iB hI
 obtain ⟨k,h1,h2,h3⟩:=dr (l:=A++a::u++C) (x:=a) (by simp)
 have e:A++a::u++C=A++a::(u++C):=by simp
 have h4:(A++a::u++C).getD A.length 0=a:=by rw [e];exact nU
 show dw _ a=_
 rw [h1]
 have hA:A.length<(A++a::u++C).length:=by simp
 rw [List.getD_eq_getElem?_getD,List.getElem?_eq_getElem h2] at h3
 rw [List.getD_eq_getElem?_getD,List.getElem?_eq_getElem hA] at h4
 simp only [Option.getD_some] at h3 h4
 have:=(List.getElem_inj bX (h₀:=h2) (h₁:=hA)).1 (h3.trans h4.symm)
 omega
theorem Dh {k:Nat} (hk:k≤g.n.toNat):(WK g p k).Nodup:=by
 have hm:=aF h.1
 obtain ⟨hi,_,_⟩:=dH hm h.2.1 (k:=k) (by omega) fun j hj=>h.2.2 j (by omega)
 exact C9 hi
theorem Di {r:Int} {k:Nat} (hk:k<g.n.toNat) (hO:bK p (az p k)≠ []) {j:Nat} (h1:k+1≤j) (h2:j≤g.n.toNat):(bK p (az p k)).map (RK g p r j)=fe (cK p k) ((bK p (az p k)).length - 1)++ [if k=0 then r else RK g p r k (l7 g p (az p k))]:=by
 obtain ⟨v,b,hv⟩:=cM hO
 have e1:((bK p (az p k)).length - 1)=v.length:=by rw [hv];simp
 rw [e1]
 conv=>lhs;rw [hv]
 rw [List.map_append,List.map_cons,List.map_nil,sG h hk hv h1 h2]
 congr 1
 refine List.ext_getElem? fun i=> ?_
 by_cases hi:i<v.length
 ·rw [List.getElem?_map,List.getElem?_eq_getElem hi,fe,List.getElem?_map,List.getElem?_range hi,Option.map_some,Option.map_some]
  have hs:v=v.take i++v[i]::v.drop (i+1):=by simp
  obtain ⟨c,w,Mk⟩:∃c w,v.drop (i+1)++ [b]=c::w:=by
   cases hd:v.drop (i+1) with
   |nil=>exact ⟨b, [],rfl⟩
   |cons c w=>exact ⟨c,w++ [b],rfl⟩
  have h3:bK p (az p k)=v.take i++v[i]::c::w:=by
   rw [hv]
   conv=>lhs;rw [hs]
   rw [List.append_assoc,List.cons_append,Mk]
  rw [iK h hk h3 h1 h2,List.length_take,Nat.min_eq_left (by omega)]
  congr 1
 ·rw [List.getElem?_eq_none (by simpa using hi),List.getElem?_eq_none (by rw [jC];omega)]
theorem vr (hI:kq g=true):∀ {j:Nat},j+1<g.n.toNat→fA g p j=WK g p (j+1)∧k5 g p j=0::(WK g p (j+1)).map (RK g p (-1) (j+1))∧WK g p (j+1)≠ []
 |0,hj=>by
  have hO:bK p (az p 0)≠ []:=fun h1=>by
   have:=(ew h hI (aN h.2.1 (show 0<g.n.toNat by omega))).1 h1
   have:=dK h.2.1 (show 0<g.n.toNat by omega) (by omega) this
   omega
  refine ⟨(sH h (by omega)).symm, ?_,by rw [sH h (by omega)];exact hO⟩
  rw [sH h (by omega),Di h (by omega) hO (Nat.le_refl _) (by omega),if_pos rfl]
  rfl
 |j+1,hj=>by
  obtain ⟨i1,i2,i3⟩:=vr hI (j:=j) (by omega)
  obtain ⟨A,C,e1,hne,e2⟩:=lH h (k:=j+1) (by omega) (by omega)
  have hO:bK p (az p (j+1))≠ []:=fun h1=>by
   have:=(ew h hI (aN h.2.1 (show j+1<g.n.toNat by omega))).1 h1
   have:=dK h.2.1 (show j+1<g.n.toNat by omega) (by omega) this
   omega
  have bX:=Dh h (k:=j+1) (by omega)
  have Gw:dw (WK g p (j+1)) (ez g p (az p (j+1)))=(A.length:Int):=by
   rw [e1] at bX ⊢
   exact Dg h bX hne
  have zJ:∀a∈WK g p (j+1),RK g p (-1) (j+1+1) a=RK g p (-1) (j+1) a:=fun a ha=>by
   obtain ⟨i,hi,e⟩:=qh h (by omega) ha
   rw [gy h (by omega) e (j:=j+1+1) (by omega) (by omega),gy h (by omega) e (j:=j+1) (by omega) (by omega)]
  refine ⟨?_, ?_,by rw [e2];simp [hO]⟩
  ·rw [fA,if_neg hO,i1,Gw,Int.toNat_natCast,e2]
   congr 1
   ·congr 1
    rw [e1,List.append_assoc,List.take_left]
   ·rw [e1, ← List.length_append,List.drop_left]
  ·rw [k5,i1,i2,Gw,Int.toNat_natCast,List.take_succ_cons,e2]
   have e3:(WK g p (j+1)).map (RK g p (-1) (j+1))=A.map (RK g p (-1) (j+1))++((cG g p (az p (j+1))).map (RK g p (-1) (j+1))++C.map (RK g p (-1) (j+1))):=by rw [e1];simp
   have hA:A.map (RK g p (-1) (j+1+1))=A.map (RK g p (-1) (j+1)):=List.map_congr_left fun a ha=>zJ a (by rw [e1];simp [ha])
   have hC:C.map (RK g p (-1) (j+1+1))=C.map (RK g p (-1) (j+1)):=List.map_congr_left fun a ha=>zJ a (by rw [e1];simp [ha])
   rw [List.map_append,List.map_append,hA,hC,Di h (by omega) hO (Nat.le_refl _) (by omega),if_neg (by omega)]
   rw [e3,List.take_append_of_le_length (by simp),List.take_of_length_le (by simp)]
   obtain ⟨u,a,hu⟩:=cM hne
   have hl:(cG g p (az p (j+1))).length=u.length+1:=by rw [hu];simp
   rw [hl,show A.length+(u.length+1)=(A.length+u.length)+1 by omega,List.drop_succ_cons]
   have e4:(A.map (RK g p (-1) (j+1))++((cG g p (az p (j+1))).map (RK g p (-1) (j+1))++C.map (RK g p (-1) (j+1)))).drop (A.length+u.length)=RK g p (-1) (j+1) (l7 g p (az p (j+1)))::C.map (RK g p (-1) (j+1)):=by
    rw [kY h hu,hu]
    have:A.map (RK g p (-1) (j+1))++((u++ [a]).map (RK g p (-1) (j+1))++C.map (RK g p (-1) (j+1)))=(A++u).map (RK g p (-1) (j+1))++(RK g p (-1) (j+1) a::C.map (RK g p (-1) (j+1))):=by simp
    rw [this,show A.length+u.length=((A++u).map (RK g p (-1) (j+1))).length by simp,List.drop_left]
   rw [e4]
   simp
theorem fB {A B:List Int} (h:B≠ []):(A++B).dropLast=A++B.dropLast:=by
 obtain ⟨u,a,rfl⟩:=cM h
 rw [← List.append_assoc,List.dropLast_concat,List.dropLast_concat]
theorem zL (hI:kq g=true):∀ {k:Nat},1≤k→k<g.n.toNat→∀a∈(WK g p k).dropLast,1≤RK g p (-1) k a∧RK g p (-1) k a<cK p k
 |0,h1,_,_,_=>by omega
 |k+1,_,hk,a,ha=>by
  have hO:bK p (az p k)≠ []:=fun h1=>by
   have:=(ew h hI (aN h.2.1 (show k<g.n.toNat by omega))).1 h1
   have:=dK h.2.1 (show k<g.n.toNat by omega) (by omega) this
   omega
  have hc:cK p (k+1)=cK p k+((bK p (az p k)).length - 1):=rfl
  have G3:0<cK p k:=oU
  have hnew:∀b∈(bK p (az p k)).dropLast,1≤RK g p (-1) (k+1) b∧RK g p (-1) (k+1) b<cK p (k+1):=fun b hb=>by
   obtain ⟨v,c,hv⟩:=cM hO
   rw [hv,List.dropLast_concat] at hb
   obtain ⟨u,w,De⟩:=List.append_of_mem hb
   obtain ⟨c',w',Mk⟩:∃c' w',w++ [c]=c'::w':=by
    cases w with
    |nil=>exact ⟨c, [],rfl⟩
    |cons d w=>exact ⟨d,w++ [c],rfl⟩
   have h3:bK p (az p k)=u++b::c'::w':=by rw [hv,De, ← Mk];simp
   rw [iK h (show k<g.n.toNat by omega) h3 (Nat.le_refl _) (by omega)]
   have:(bK p (az p k)).length=u.length+(w'.length+2):=by rw [h3];simp
   omega
  by_cases h0:k=0
  ·subst h0
   rw [sH h (by omega)] at ha
   exact hnew a ha
  ·obtain ⟨A,C,e1,hne,e2⟩:=lH h h0 (show k<g.n.toNat by omega)
   have ih:=zL hI (k:=k) (by omega) (by omega)
   have zJ:∀a∈WK g p k,RK g p (-1) (k+1) a=RK g p (-1) k a:=fun a ha=>by
    obtain ⟨i,hi,e⟩:=qh h (by omega) ha
    rw [gy h (by omega) e (j:=k+1) (by omega) (by omega),gy h (by omega) e (j:=k) (by omega) (by omega)]
   have old:∀b∈(WK g p k).dropLast,1≤RK g p (-1) (k+1) b∧RK g p (-1) (k+1) b<cK p (k+1):=fun b hb=>by
    rw [zJ b ((List.dropLast_sublist _).subset hb)]
    have:=ih b hb
    omega
   rw [e1] at old zJ
   rw [e2] at ha
   by_cases hC:C= []
   ·subst hC
    rw [List.append_nil] at ha old
    rw [fB h hO] at ha
    rw [fB h hne] at old
    rcases List.mem_append.1 ha with ha|ha
    ·exact old a (by simp [ha])
    ·exact hnew a ha
   ·rw [fB h hC] at ha old
    rcases List.mem_append.1 ha with ha|ha
    ·rcases List.mem_append.1 ha with ha|ha
     ·exact old a (by simp [ha])
     ·obtain ⟨v,b,hv⟩:=cM hO
      rw [hv,List.mem_append,List.mem_singleton] at ha
      rcases ha with ha|rfl
      ·exact hnew a (by rw [hv,List.dropLast_concat];exact ha)
      ·obtain ⟨u,c,hu⟩:=cM hne
       rw [sG h (show k<g.n.toNat by omega) hv (Nat.le_refl _) (by omega),if_neg h0,kY h hu, ← zJ c (by rw [hu];simp)]
       exact old c (by rw [hu];simp)
    ·exact old a (by simp [ha])
theorem ED (hI:kq g=true) {k:Nat} (hk:k<g.n.toNat):∀f∈sN g p k,0≤f∧f<(xM g p k).length:=by
 intro f hf
 rw [qi]
 obtain ⟨a,ha,rfl⟩:=List.mem_map.1 hf
 have OW:cG g p (az p k)≠ []:=fun h0=>by rw [h0] at ha;simp at ha
 have vX:=zG h hk OW
 obtain ⟨A,C,e1,hne,_⟩:=lH h vX hk
 have:=zL h hI (k:=k) (by omega) hk a (by
  rw [e1]
  by_cases hC:C= []
  ·subst hC;rw [List.append_nil,fB h hne];simp [ha]
  ·rw [fB h hC];simp [(List.dropLast_sublist _).subset ha])
 omega
theorem Dj (hI:kq g=true) {j:Nat} (hj:j+1<g.n.toNat):∃a:Nat,dw (fA g p j) (ez g p (az p (j+1)))=a∧0<(cG g p (az p (j+1))).length∧a+(cG g p (az p (j+1))).length≤(fA g p j).length∧
 (k5 g p j).length=(fA g p j).length+1∧(k5 g p j).getD a 0=LK g p (j+1) (ez g p (az p (j+1)))∧(k5 g p j).getD (a+(cG g p (az p (j+1))).length) 0=RK g p (-1) (j+1) (l7 g p (az p (j+1)))∧
 ((k5 g p j).take (a+(cG g p (az p (j+1))).length)).drop (a+1)=sN g p (j+1):=by
 obtain ⟨i1,i2,i3⟩:=vr h hI hj
 obtain ⟨A,C,e1,hne,e2⟩:=lH h (k:=j+1) (by omega) hj
 have bX:=Dh h (k:=j+1) (by omega)
 have Gw:dw (WK g p (j+1)) (ez g p (az p (j+1)))=(A.length:Int):=by
  rw [e1] at bX ⊢
  exact Dg h bX hne
 have hlk:=(yA (r:= -1) h hI (k:=j+1) (by omega) hj i3).1
 obtain ⟨u,c,hu⟩:=cM hne
 obtain ⟨c0,u0,DL⟩:=iB hne
 have hl:(cG g p (az p (j+1))).length=u.length+1:=by rw [hu];simp
 rw [i1,i2]
 refine ⟨A.length,Gw,by omega,by rw [e1];simp,by simp, ?_, ?_, ?_⟩
 ·rw [e1,bS,bS] at hlk
  have h1:=hlk.1.2
  rw [DL] at h1
  rw [oV h DL,h1.1,e1]
  rcases List.eq_nil_or_concat A with hA|⟨A',t,hA⟩
  ·subst hA;rfl
  ·rw [List.concat_eq_append] at hA
   subst hA
   rw [cH]
   have:(0::(A'++ [t]++cG g p (az p (j+1))++C).map (RK g p (-1) (j+1)))=(0::A'.map (RK g p (-1) (j+1)))++RK g p (-1) (j+1) t::((cG g p (az p (j+1))++C).map (RK g p (-1) (j+1))):=by simp
   rw [this]
   have h2:(A'++ [t]).length=(0::A'.map (RK g p (-1) (j+1))).length:=by simp
   rw [h2];exact nU
 ·rw [kY h hu,e1,hl]
  have:(0::(A++cG g p (az p (j+1))++C).map (RK g p (-1) (j+1)))=(0::(A++u).map (RK g p (-1) (j+1)))++RK g p (-1) (j+1) c::(C.map (RK g p (-1) (j+1))):=by rw [hu];simp
  rw [this]
  have h2:A.length+(u.length+1)=(0::(A++u).map (RK g p (-1) (j+1))).length:=by simp;omega
  rw [h2];exact nU
 ·rw [e1,hl]
  have:(0::(A++cG g p (az p (j+1))++C).map (RK g p (-1) (j+1)))=(0::A.map (RK g p (-1) (j+1)))++(u.map (RK g p (-1) (j+1))++(RK g p (-1) (j+1) c::(C.map (RK g p (-1) (j+1))))):=by rw [hu];simp
  rw [this,List.take_append,List.drop_append]
  have h2:(0::A.map (RK g p (-1) (j+1))).length=A.length+1:=by simp
  rw [h2,List.take_of_length_le (by rw [h2];omega),List.drop_of_length_le (by rw [h2];omega),h2]
  rw [show A.length+(u.length+1) - (A.length+1)=u.length by omega,Nat.sub_self,List.drop_zero,List.nil_append]
  rw [List.take_append_of_le_length (by simp),List.take_of_length_le (by simp)]
  unfold sN
  rw [hu,List.dropLast_concat]
end
end Go.Ab
end
section
namespace Go.Ab
open Go.Proofs
attribute [local congr] ACall.congr
set_option maxRecDepth 10000
set_option maxHeartbeats 8000000
def swapT (l:List It) (k:Nat):List It:=(List.range l.length).map fun p=>if p<k∨l.length - 1<p+k then l.getD (l.length - 1 - p) (0,0,0) else l.getD p (0,0,0)
def Nh (rs:List Int) (l:List It):Int:=match l.find? (fun t=>decide (t.2.2∈rs)) with
 |some t=>t.2.2
 |none=>rs.headD (-1)
end Go.Ab
end
section
namespace Go.Ab
open Go.Proofs
attribute [local congr] ACall.congr
set_option maxRecDepth 10000
set_option maxHeartbeats 8000000
def P5 (b:Bool) (g:Gr) (p:Pl):List Int × List Int × Int:=
 if (bN b g p).2.1=0∧kq g=true then (CT g p false g.n.toNat,CT g p true g.n.toNat,0) else ([], [],1)
end Go.Ab
end
section
namespace Go.Ab
open Go.Proofs
attribute [local congr] ACall.congr
set_option maxRecDepth 10000
set_option maxHeartbeats 8000000
theorem sO {b:Bool} {g:Gr} {p:Pl} (hr:b=true↔(cq g).1=0∧bE g p) (h:cB g p):bN b g p=((ec g p g.n.toNat,kT g p),(0,0)):=by
 obtain rfl:b=true:=hr.2 ⟨h.1,h.2.1⟩
 unfold bN
 rw [if_neg (by simp),eR.2 h.2.2]
 rfl
theorem OX (g:Gr) (p:Pl):∃b:Bool,(b=true↔(cq g).1=0∧bE g p):=by
 by_cases h:(cq g).1=0∧bE g p
 ·exact ⟨true,by simp [h]⟩
 ·exact ⟨false,by simp [h]⟩
end Go.Ab
end
section
namespace Go.Ab
open Go.Proofs
attribute [local congr] ACall.congr
set_option maxRecDepth 60000
set_option maxHeartbeats 8000000
structure Fc where
 L:List Int
 R:List Int
 lo:List Int
 hi:List Int
def lK (g:Gr) (p:Pl) (f:Int):Int:=if f= -1 then (cK p g.n.toNat:Int) else f
def EE (g:Gr) (p:Pl):Fc:=⟨arr (LK g p g.n.toNat) g.es.length,(arr (RK g p (-1) g.n.toNat) g.es.length).map (lK g p),iu p g.n.toNat++ [az p 0],xM g p g.n.toNat++ [az p (g.n.toNat - 1)]⟩
def qj:Fc:=⟨[], [], [], []⟩
def DI (b:Bool) (g:Gr) (p:Pl):Fc × Int:=if ((bN b g p).2.1=0∧kq g=true)∧0<g.es.length then (EE g p,0) else (qj,1)
def fL (f:Fc):AV:= .agg [.d (sI f.L), .d (sI f.R), .d (sI f.lo), .d (sI f.hi)]
def k6 (l:List Int) (f:Int→Int) (j:Nat):List Int:=(l.take j).map f++l.drop j
theorem Dk {l:List Int} {f:Int→Int} {j:Nat} :(k6 l f j).length=l.length:=by
 simp only [k6,List.length_append,List.length_map,List.length_take,List.length_drop];omega
theorem uf {l:List Int} {f:Int→Int} {j:Nat} (h:j<l.length):k6 l f (j+1)=(k6 l f j).set j (f (l.getD j 0)):=by
 have h1:((l.take j).map f).length=j:=by simp;omega
 have e:l.getD j 0=l[j]:=by rw [List.getD_eq_getElem?_getD,List.getElem?_eq_getElem h];rfl
 unfold k6
 have e2:l.take (j+1)=l.take j++ [l[j]]:=by rw [List.take_add_one,List.getElem?_eq_getElem h];rfl
 rw [List.drop_eq_getElem_cons h,List.set_append,h1,if_neg (by omega),Nat.sub_self,List.set_cons_zero,e2,e,List.map_append,List.append_assoc]
 rfl
theorem zM {l:List Int} {f:Int→Int} {j:Nat} (h:j<l.length):(k6 l f j).getD j 0=l.getD j 0:=by
 have h1:((l.take j).map f).length=j:=by simp;omega
 unfold k6
 rw [List.getD_eq_getElem?_getD,List.getElem?_append_right (by omega),h1,Nat.sub_self,List.drop_eq_getElem_cons h,List.getD_eq_getElem?_getD,List.getElem?_eq_getElem h];rfl
theorem Dl {l:List Int} {f:Int→Int} :k6 l f l.length=l.map f:=by simp [k6]
theorem A4 {l:List Int} {f:Int→Int} {j:Nat} (h:j<l.length) (hf:f (l.getD j 0)=l.getD j 0):k6 l f (j+1)=k6 l f j:=by
 rw [uf h,hf]
 refine List.ext_getElem? fun i=> ?_
 rw [List.getElem?_set]
 split
 ·rename_i e;subst e
  split
  ·have:=zM (l:=l) (f:=f) h
   rename_i hl
   rw [List.getD_eq_getElem?_getD,List.getElem?_eq_getElem hl] at this
   rw [List.getElem?_eq_getElem hl]
   simpa using this.symm
  ·rename_i hl;rw [List.getElem?_eq_none (by omega)]
 ·rfl
theorem A5 {g:Gr} {p:Pl} (h:cB g p):0<(bI (·.2) g).length∧(bI (·.2) g).getD 0 0=az p 0:=by
 have hn:=aV (aF h.1)
 have h0:=aN h.2.1 (k:=0) (by omega)
 have hm:az p 0∈bI (·.2) g:=lD.2 ⟨h0,fV h⟩
 have hl:=List.length_pos_of_mem hm
 refine ⟨hl, ?_⟩
 have:=lD.1 (bq (l:=bI (·.2) g) (m:=0) (d:=0) hl)
 exact nJ h.1 this.1 h0 this.2 (fV h)
theorem A6 {g:Gr} {p:Pl} (h:cB g p) (hI:kq g=true):0<(bI (·.1) g).length∧(bI (·.1) g).getD 0 0=az p (g.n.toNat - 1):=by
 have hn:=aV (aF h.1)
 have h0:=aN h.2.1 (k:=g.n.toNat - 1) (by omega)
 have hm:az p (g.n.toNat - 1)∈bI (·.1) g:=lE.2 ⟨h0,(nN h.2.1 h0.1 h0.2).2 (oT h).1⟩
 have hl:=List.length_pos_of_mem hm
 refine ⟨hl, ?_⟩
 have:=lE.1 (bq (l:=bI (·.1) g) (m:=0) (d:=0) hl)
 exact (ew h hI this.1).1 ((nN h.2.1 this.1.1 this.1.2).1 this.2)
theorem E4 {g:Gr} {p:Pl} (h:cB g p):∀ {k:Nat},k≤g.n.toNat→cK p k≤1+k*g.es.length
 |0,_=>by simp [cK]
 |k+1,hk=>by
  have:=E4 h (k:=k) (by omega)
  have hx:=aN h.2.1 (show k<g.n.toNat by omega)
  have:=jZ h.2.1 hx.1 hx.2
  rw [cK,Nat.add_mul];omega
theorem pL {g:Gr} {p:Pl} (h:cB g p) {k:Nat} (hk:k≤g.n.toNat):cK p k≤100000∧(∀x:Int,(bK p x).length≤100000∨¬pK g x):=by
 have hn:=aV (aF h.1)
 have h1:=E4 h hk
 have h2:k*g.es.length≤64*128:=Nat.mul_le_mul (by omega) (by omega)
 refine ⟨by omega,fun x=> ?_⟩
 by_cases hx:pK g x
 ·have:=jZ h.2.1 hx.1 hx.2;exact .inl (by omega)
 ·exact .inr hx
theorem A7 (g:Gr) (p:Pl) (hp:pI p) (hrun:cB g p) (hI:kq g=true) (hm0:0<g.es.length) (b:Bool) (hr:b=true↔(cq g).1=0∧bE g p):
 Spec Tryz.prog 17 (Args [eG g,ePl p]) [] (.tup [fL (EE g p),eN 0]) []:=by
 have hm:=aF hrun.1
 have hn:=aV hm
 have hle:=b9 hrun.2.1
 have hO:=lZ g (by omega) p hp b hr
 have F8:=sx g (by omega)
 have OY:=fZ g hm
 have OZ:=dX g hm
 have O0:=rN g hm
 obtain ⟨hs1,uG⟩:=A5 hrun
 obtain ⟨P6,hs4⟩:=A6 hrun hI
 rw [sO hr hrun] at hO
 simp only at hO
 rw [hI] at F8
 have hb0:decide ((g.es.length:Int)=0)=false:=decide_eq_false (by omega)
 have hn2:1<g.n.toNat:=by
  refine Decidable.byContradiction fun hc=> ?_
  have ht:=bJ hm (i:=0) hm0
  have hh:=bW hm (i:=0) hm0
  obtain ⟨j,hj,_⟩:=sF hrun (e:=0) (by omega) (k:=0) (by omega) (by
   obtain ⟨k,hk,e⟩:=ga hrun.2.1 hh.1 hh.2
   obtain rfl:k=0:=by omega
   exact e.symm)
  omega
 obtain ⟨s0,hs0⟩:∃s:Nat,az p 0=s:=by have:=aN hrun.2.1 (k:=0) (by omega);exact ⟨(az p 0).toNat,by omega⟩
 have Ml:s0<p.outs.length:=by have:=aN hrun.2.1 (k:=0) (by omega);have:=hrun.2.1.1;omega
 have qt:=jW Ml
 have Mm:p.outs.getD s0 []=bK p (az p 0):=by unfold bK;rw [hs0,Int.toNat_natCast]
 rw [Mm] at qt
 have O2:=jZ hrun.2.1 (aN hrun.2.1 (k:=0) (by omega)).1 (aN hrun.2.1 (k:=0) (by omega)).2
 have Db:=ud (az p 0) 0 (-1) (bK p (az p 0)) (.sl 1 []) (sI [0, -1]) (arr (LK g p 0) g.es.length) (arr (RK g p (-1) 0) g.es.length) [az p 0] [az p (g.n.toNat - 1)] (by omega) (fun i hi=>by rw [c8];exact (iL hrun (by omega) hi).1) (by rw [c8,c8]) (by simp) (by simp)
 have Ni:=Jy hrun (k:=0) (by omega)
 have Nj:=Jz (r:= -1) hrun (k:=0) (by omega)
 rw [if_pos rfl] at Ni Nj
 have JA:cG g p (az p 0)= []:=by
  have:=jA hrun (aN hrun.2.1 (k:=0) (by omega))
  rw [fV hrun] at this
  exact List.eq_nil_of_length_eq_zero this
 have hi1:xM g p 1= [az p (g.n.toNat - 1)]++List.replicate ((bK p (az p 0)).length - 1) 0:=by
  have:sN g p 0= []:=by unfold sN;rw [JA];rfl
  show k4 (xM g p 0) (sN g p 0) (az p 0) (sN g p 0).length++_=_
  rw [this];rfl
 have Mn:iu p 1= [az p 0]++List.replicate ((bK p (az p 0)).length - 1) (az p 0):=rfl
 have hc1:([az p 0]:List Int).length=cK p 0:=rfl
 rw [hc1,Ni,Nj, ← hi1, ← Mn] at Db
 have Ex:∀f:Int→Int,(∀e,f e=0)→List.replicate g.es.length [D.sc (.int .i64 0)]=(arr f g.es.length).map rI:=fun f hf=>by
  refine List.ext_getElem? fun i=> ?_
  simp only [arr,List.getElem?_replicate,List.getElem?_map]
  by_cases hi:i<g.es.length
  ·rw [if_pos hi,List.getElem?_range hi];simp [hf,rI]
  ·rw [if_neg hi,List.getElem?_eq_none (by simpa using hi)];rfl
 have fM:=Ex (LK g p 0) fun _=>rfl
 have Mo:=kK (bK p (az p 0)) (by omega)
 have Mp:=iV [0, -1] (fe (cK p 0) ((bK p (az p 0)).length - 1)) 1 1 (by simp) (by simp) (by rw [jC];omega)
 have FD:List.take 1 [(0:Int), -1]++fe (cK p 0) ((bK p (az p 0)).length - 1)++List.drop 1 [(0:Int), -1]=k5 g p 0:=rfl
 rw [FD] at Mp
 have O3:RK g p (-1) 0=LK g p 0:=by funext e;rfl
 rw [O3] at Db
 have Ep:fA g p 0=bK p (az p 0):=rfl
 have Mo:Spec Tryz.prog 53 (Args [.d (sI (bK p (s0:Int)))]) [] (.d (sI (fA g p 0))) []:=by
  rw [Ep, ← hs0];exact Mo
 generalize Nk:arr (LK g p 0) g.es.length=A0 at Db fM
 have qE:=jC (c:=cK p 0) (k:=(bK p (az p 0)).length - 1)
 generalize fe (cK p 0) ((bK p (az p 0)).length - 1)=gs at Db Mp qE
 unfold Gy Gz at Db
 have xC:List.drop 1 (List.map rI p.ord)=(p.ord.drop 1).map rI:=by rw [List.map_drop]
 have hdl:(p.ord.drop 1).length=g.n.toNat - 1:=by rw [List.length_drop];omega
 have w9:List.take p.ord.length (List.map rI p.ord)=List.map rI p.ord:=List.take_of_length_le (by simp)
 generalize Kt:g.n.toNat - 1=N1 at hdl
 (refine Spec.intro (C:=T.cfg [67] []) (rs:= [.c 4 32, .t 5]) (T.au _ _) Tryz.func17 rfl rfl Tryz.ntmps17 Tryz.results17 (by simp [AObj.isNest]) (by simp [AObj.isNest]) (by kernel_rfl) ?_;intro X hX hP hC aI aJ vals hA;refine ⟨_,by simp,hA, ?_⟩;have af:X.P.follows .mixedOrders=true:=(by rw [hP];exact T.mixed);clear aI aJ)
 repeat' (first|fail|((first|((with_reducible (first|apply oA|apply oB));exact rfl;intro K hK)|(refine hK _ ?_;clear hK K)|((with_reducible (first|apply oG|apply oH));iterate 3 exact rfl)|((with_reducible apply oI);(iterate 2 exact rfl);intro K hK)|(with_reducible (first|apply wI|apply wJ|apply wK)));try simp only [go_sem,simprocAttr,hb0,uG,hs4,fM,hs0,qt,xC,hdl,rI])|(show dD _ (.seq (.region 8 _ _) _) _ _;(refine nt 54 0 1 rfl rfl rfl ?_;simp only [LA.app,ASt.put,ASt.kill,putM,rml,List.set_cons_zero,List.set_cons_succ,go_sem,simprocAttr,hb0,uG,hs4,fM,hs0,qt,xC,hdl,rI]);(refine dm hX 52 rfl ?_;simp only [go_sem,simprocAttr,hb0,uG,hs4,fM,hs0,qt,xC,hdl,rI]))|(with_reducible (first|apply oC|apply oJ|exact oK|apply wA|apply wB|apply wC hX hC|apply wD hX hC|apply wE hX hC af|apply wF hX hC af|apply wG|apply wH|apply And.intro))|((with_reducible refine oD ?_ ?_);first|fail|kernel_rfl)|((with_reducible (first|apply oE|apply oF));(iterate 3 exact rfl);all_goals (intro h;first|(exact absurd h (by decide))|((try simp only [go_sem,simprocAttr,hb0,uG,hs4,fM,hs0,qt,xC,hdl,rI] at h);(try with_reducible intro K hK);simp only [go_sem,simprocAttr,hb0,uG,hs4,fM,hs0,qt,xC,hdl,rI])))|((first|((with_reducible apply wL);exact rfl)|((with_reducible apply wM);exact rfl));all_goals (try ((with_reducible intro h);first|(exact absurd h (by decide))|(try simp only [go_sem,simprocAttr,hb0,uG,hs4,fM,hs0,qt,xC,hdl,rI] at h))))|omega|((first|first|refine aa hX hC hP (hO) rfl rfl rfl (by simp only [go_sem,simprocAttr,hb0,uG,hs4,fM,hs0,qt,xC,hdl,rI]) rfl ?_|refine aa hX hC hP (F8) rfl rfl rfl (by simp only [go_sem,simprocAttr,hb0,uG,hs4,fM,hs0,qt,xC,hdl,rI]) rfl ?_|refine aa hX hC hP (OY) rfl rfl rfl (by simp only [go_sem,simprocAttr,hb0,uG,hs4,fM,hs0,qt,xC,hdl,rI]) rfl ?_|refine aa hX hC hP (OZ) rfl rfl rfl (by simp only [go_sem,simprocAttr,hb0,uG,hs4,fM,hs0,qt,xC,hdl,rI]) rfl ?_|refine aa hX hC hP (O0) rfl rfl rfl (by simp only [go_sem,simprocAttr,hb0,uG,hs4,fM,hs0,qt,xC,hdl,rI]) rfl ?_|(refine aA hX hC hP [(10000,54),(10001,59),(10002,63),(10003,65),(10004,67),(10005,300),(10006,301)] (Db) rfl rfl rfl ?_ ?_ ?_ ?_ ?_ ?_ ?_ ?_ ?_ ?_ ?_ ?_ ?_ ?_;(focus (simp only [go_sem,simprocAttr,hb0,uG,hs4,fM,hs0,qt,xC,hdl,rI];done));(iterate 12 (focus (simp [go_sem,simprocAttr,hb0,uG,hs4,fM,hs0,qt,xC,hdl,rI];done)));simp only [go_sem,simprocAttr,hb0,uG,hs4,fM,hs0,qt,xC,hdl,rI,List.map_cons,List.map_nil])|refine aa hX hC hP (Mo) rfl rfl rfl (by simp only [go_sem,simprocAttr,hb0,uG,hs4,fM,hs0,qt,xC,hdl,rI]) rfl ?_|(refine bG hX hC hP (Mp) rfl rfl rfl ?_ ?_ rfl ?_;iterate 2 (focus (simp only [go_sem,simprocAttr,hb0,uG,hs4,fM,hs0,qt,xC,hdl,rI];done))));try simp only [go_sem,simprocAttr,hb0,uG,hs4,fM,hs0,qt,xC,hdl,rI])|(intro h))
 refine an (fun j:Nat=>j≤N1) (fun j=>⟨[(3, .ptr 3 0),(4, .ptr 4 0),(6, .d (.sl 1 (vT (ec g p g.n.toNat)))),(10,eN s0),(11,eN (az p N1)),(12, .ptr 54 0),(106, .d (sI (p.ord.drop 1))),(107,eN N1),(108,eN j)], [(54, .box [.d (sI (fA g p j)), .d (sI (k5 g p j)), .ref 59, .ref 63, .ref 300, .ref 301]),(59, .own 3 1 ((arr (LK g p (j+1)) g.es.length).map rI)),(63, .own 3 1 ((arr (RK g p (-1) (j+1)) g.es.length).map rI)),(300, .tip 3 1 ((iu p (j+1)).map rI)),(301, .own 3 1 ((xM g p (j+1)).map rI)),(3, .box [.d (sI p.ord), .d (.sl 1 (vI p.outs))]),(4, .box [.nil 3, .nil 3, .nil 3, .nil 3])]⟩) (fun j=>N1 - j) 0 (by omega) ?_ ?_
 ·refine Le.of ?_ ?_<;>simp [go_sem,simprocAttr,Kt,w9]
  omega
 rintro j hj
 rcases Nat.lt_or_ge j N1 with hjl|JW
 ·have hb:decide ((j:Int)<(N1:Int))=true:=decide_eq_true (by omega)
  have hjn:j+1<g.n.toNat:=by omega
  obtain ⟨a,p1,p2,p3,p4,p5,p6,p7⟩:=Dj hrun hI hjn
  have DG:=aN hrun.2.1 hjn
  have hx:(p.ord.drop 1).getD j 0=az p (j+1):=by
   rw [List.getD_eq_getElem?_getD,List.getElem?_drop,Nat.add_comm 1 j]
   show _=p.ord.getD (j+1) 0
   rw [List.getD_eq_getElem?_getD]
  have iW:=fun i hi=>(iL hrun hjn (e:=i) hi).1
  have qI:=jZ hrun.2.1 DG.1 DG.2
  have JB:=nL hrun.2.1 (Nat.le_refl _) hjn
  have hel:=kS (g:=g) (p:=p) (k:=g.n.toNat)
  have Nl:=Df hrun hI hjn
  have hL:=Jy hrun (k:=j+1) hjn
  have hR:=Jz (r:= -1) hrun (k:=j+1) hjn
  rw [if_neg (by omega)] at hL hR
  have uO:iu p (j+1+1)=iu p (j+1)++List.replicate ((bK p (az p (j+1))).length - 1) (az p (j+1)):=rfl
  have hhi:xM g p (j+1+1)=k4 (xM g p (j+1)) (sN g p (j+1)) (az p (j+1)) (sN g p (j+1)).length++List.replicate ((bK p (az p (j+1))).length - 1) 0:=rfl
  have Mq:=ED hrun hI hjn
  have kg:=gr (p:=p) (k:=j+1)
  have sM:=qi (g:=g) (p:=p) (k:=j+1)
  have Nm:=(pL hrun (k:=j+1) (by omega)).1
  have Mr:fA g p (j+1)=if bK p (az p (j+1))= [] then fA g p j else (fA g p j).take (dw (fA g p j) (ez g p (az p (j+1)))).toNat++bK p (az p (j+1))++(fA g p j).drop ((dw (fA g p j) (ez g p (az p (j+1)))).toNat+(cG g p (az p (j+1))).length):=rfl
  have Ms:k5 g p (j+1)=(k5 g p j).take ((dw (fA g p j) (ez g p (az p (j+1)))).toNat+1)++fe (cK p (j+1)) ((bK p (az p (j+1))).length - 1)++(k5 g p j).drop ((dw (fA g p j) (ez g p (az p (j+1)))).toNat+(cG g p (az p (j+1))).length):=rfl
  rw [p1,Int.toNat_natCast] at Mr Ms
  obtain ⟨r1,r2,r3⟩:=vr hrun hI hjn
  have P7:(fA g p j).length≤10000:=by
   rw [r1]
   have:=eS (m:=(List.range g.es.length).map Int.ofNat) (Dh hrun (k:=j+1) (by omega)) fun e he=>by
    have hi:=dH hm hrun.2.1 (k:=j+1) (by omega) fun i hi=>hrun.2.2 i (by omega)
    obtain ⟨t,ht,rfl⟩:=List.mem_map.1 he
    obtain ⟨⟨h1,h2⟩,_⟩:=nS hm hi.1.togG ht
    exact List.mem_map.2 ⟨t.1.toNat,List.mem_range.2 (by omega),by simp;omega⟩
   simp at this
   omega
  have hfr:ez g p (az p (j+1))=((fc g p (j+1)).getD 0 (0,0,0)).1:=by
   unfold ez
   rw [Nl]
   cases fc g p (j+1)<;>rfl
  rw [Nl,List.length_map] at p2 p3 p6 p7 Mr Ms
  have hIx:=aQ (fA g p j) (ez g p (az p (j+1))) (by omega)
  rw [p1] at hIx
  rw [hfr] at hIx p5
  have ki:=vq (az p (j+1)) (bK p (az p (j+1))) (fA g p j) (k5 g p j) (arr (LK g p (j+1)) g.es.length) (arr (RK g p (-1) (j+1)) g.es.length) (iu p (j+1)) (xM g p (j+1)) a (a+(fc g p (j+1)).length) (by omega) (by omega) (by omega) (by omega) (by omega) (by rw [p7];exact Mq) (by omega) (fun i hi=>by rw [c8];exact iW i hi) (by rw [c8,c8]) (by omega) (by omega)
  rw [p7,p5,p6,kg, ← hhi, ← uO, ← Mr, ← Ms] at ki
  rw [← hfr] at ki
  rw [hL,hR] at ki
  obtain ⟨x,Mt⟩:∃x:Nat,az p (j+1)=x:=⟨(az p (j+1)).toNat,by omega⟩
  have fY:x<p.outs.length:=by have:=hrun.2.1.1;omega
  have hv:=jW fY
  have hla:p.outs.getD x []=bK p (az p (j+1)):=by unfold bK;rw [Mt,Int.toNat_natCast]
  rw [hla] at hv
  have yD:=fun d=>nG (ls:=ec g p g.n.toNat) (k:=x) (by omega) d
  have hex:(ec g p g.n.toNat).getD x []=fc g p (j+1):=by rw [← JB,Mt,Int.toNat_natCast]
  rw [hex] at yD
  have hvl:(vT (ec g p g.n.toNat)).length=g.n.toNat:=by rw [vT_length,hel]
  have EY:x<g.n.toNat:=by omega
  obtain ⟨bb,lX⟩:∃bb:Nat,bb=a+(fc g p (j+1)).length:=⟨_,rfl⟩
  have oY:(a:Int)+((fc g p (j+1)).length:Int)=(bb:Int):=by omega
  rw [← lX] at ki
  have iO:bb≤10000:=by omega
  generalize bK p (az p (j+1))=o at ki hv
  rw [Mt] at ki hx
  generalize fc g p (j+1)=gn at hIx yD oY p2
  clear lX
  generalize FE:fA g p (j+1)=E2 at ki
  generalize fA g p j=E1 at ki hIx
  generalize hq1:k5 g p (j+1)=G2 at ki
  generalize k5 g p j=G1 at ki
  generalize Ef:arr (LK g p (j+1+1)) g.es.length=A2 at ki
  generalize O4:arr (RK g p (-1) (j+1+1)) g.es.length=B2 at ki
  generalize arr (LK g p (j+1)) g.es.length=A1 at ki
  generalize arr (RK g p (-1) (j+1)) g.es.length=B1 at ki
  generalize O5:iu p (j+1+1)=L2 at ki
  generalize O6:xM g p (j+1+1)=H2 at ki
  generalize iu p (j+1)=L1 at ki
  generalize xM g p (j+1)=H1 at ki
  generalize vT (ec g p g.n.toNat)=VE at yD hvl
  unfold Gy Gz at ki
  repeat' (first|fail|((first|((with_reducible (first|apply oA|apply oB));exact rfl;intro K hK)|(refine hK _ ?_;clear hK K)|((with_reducible (first|apply oG|apply oH));iterate 3 exact rfl)|((with_reducible apply oI);(iterate 2 exact rfl);intro K hK)|(with_reducible (first|apply wI|apply wJ|apply wK)));try simp only [go_sem,simprocAttr,hb,hx,hv,yD,hvl,oY])|(show dD _ (.region 15 _ _) _ _;(refine iE hX 54 4 302 300 rfl rfl rfl (by first|exact .inl rfl|exact .inr rfl) (by decide) (by decide) ?_;simp only [LA.app,ASt.put,ASt.kill,subT,rmk,putM,rml,kl,AV.sub,AV.subs,AObj.sub,List.set_cons_zero,List.set_cons_succ,go_sem,simprocAttr,hb,hx,hv,yD,hvl,oY]);(refine iE hX 54 5 303 301 rfl rfl rfl (by first|exact .inl rfl|exact .inr rfl) (by decide) (by decide) ?_;simp only [LA.app,ASt.put,ASt.kill,subT,rmk,putM,rml,kl,AV.sub,AV.subs,AObj.sub,List.set_cons_zero,List.set_cons_succ,go_sem,simprocAttr,hb,hx,hv,yD,hvl,oY]))|(with_reducible (first|apply oC|apply oJ|exact oK|apply wA|apply wB|apply wC hX hC|apply wD hX hC|apply wE hX hC af|apply wF hX hC af|apply wG|apply wH|apply And.intro))|((with_reducible refine oD ?_ ?_);first|fail|kernel_rfl)|((with_reducible (first|apply oE|apply oF));(iterate 3 exact rfl);all_goals (intro h;first|(exact absurd h (by decide))|((try simp only [go_sem,simprocAttr,hb,hx,hv,yD,hvl,oY] at h);(try with_reducible intro K hK);simp only [go_sem,simprocAttr,hb,hx,hv,yD,hvl,oY])))|((first|((with_reducible apply wL);exact rfl)|((with_reducible apply wM);exact rfl));all_goals (try ((with_reducible intro h);first|(exact absurd h (by decide))|(try simp only [go_sem,simprocAttr,hb,hx,hv,yD,hvl,oY] at h))))|omega|((first|first|refine aa hX hC hP (hIx) rfl rfl rfl (by simp only [go_sem,simprocAttr,hb,hx,hv,yD,hvl,oY]) rfl ?_|(refine aA hX hC hP [(10000,54),(10001,59),(10002,63),(10003,300),(10004,301),(10005,302),(10006,303)] (ki) rfl rfl rfl ?_ ?_ ?_ ?_ ?_ ?_ ?_ ?_ ?_ ?_ ?_ ?_ ?_ ?_;(focus (simp only [go_sem,simprocAttr,hb,hx,hv,yD,hvl,oY];done));(iterate 12 (focus (simp [go_sem,simprocAttr,hb,hx,hv,yD,hvl,oY];done)));simp only [go_sem,simprocAttr,hb,hx,hv,yD,hvl,oY,List.map_cons,List.map_nil]));try simp only [go_sem,simprocAttr,hb,hx,hv,yD,hvl,oY])|(intro h))
  refine ⟨j+1,by omega, ?_,by omega⟩
  rw [FE,hq1,Ef,O4,O5,O6]
  refine Le.of ?_ ?_<;>simp [go_sem,simprocAttr,hb,hx,hv,yD,hvl,oY]
 have hb:decide ((j:Int)<(N1:Int))=false:=decide_eq_false (by omega)
 obtain rfl:j=N1:=by omega
 have O7:j+1=g.n.toNat:=by omega
 rw [O7]
 have kg:=gr (p:=p) (k:=g.n.toNat)
 have sM:=qi (g:=g) (p:=p) (k:=g.n.toNat)
 have Nm:=(pL hrun (k:=g.n.toNat) (by omega)).1
 have O8:EE g p=⟨arr (LK g p g.n.toNat) g.es.length,(arr (RK g p (-1) g.n.toNat) g.es.length).map (lK g p),iu p g.n.toNat++ [(s0:Int)],xM g p g.n.toNat++ [az p j]⟩:=by unfold EE;rw [hs0,Kt]
 have sW:(arr (RK g p (-1) g.n.toNat) g.es.length).length=g.es.length:=c8
 rw [O8]
 have hrf:∀f,lK g p f=if f= -1 then (cK p g.n.toNat:Int) else f:=fun f=>rfl
 generalize arr (RK g p (-1) g.n.toNat) g.es.length=RA at sW
 generalize arr (LK g p g.n.toNat) g.es.length=LA
 generalize iu p g.n.toNat=LO at kg
 generalize xM g p g.n.toNat=HI at sM
 generalize fA g p j=E1
 generalize k5 g p j=G1
 generalize cK p g.n.toNat=cc at kg sM Nm hrf
 repeat' (first|fail|((first|((with_reducible (first|apply oA|apply oB));exact rfl;intro K hK)|(refine hK _ ?_;clear hK K)|((with_reducible (first|apply oG|apply oH));iterate 3 exact rfl)|((with_reducible apply oI);(iterate 2 exact rfl);intro K hK)|(with_reducible (first|apply wI|apply wJ|apply wK)));try simp only [go_sem,simprocAttr,hb,kg])|fail|(with_reducible (first|apply oC|apply oJ|exact oK|apply wA|apply wB|apply wC hX hC|apply wD hX hC|apply wE hX hC af|apply wF hX hC af|apply wG|apply wH|apply And.intro))|((with_reducible refine oD ?_ ?_);first|fail|kernel_rfl)|((with_reducible (first|apply oE|apply oF));(iterate 3 exact rfl);all_goals (intro h;first|(exact absurd h (by decide))|((try simp only [go_sem,simprocAttr,hb,kg] at h);(try with_reducible intro K hK);simp only [go_sem,simprocAttr,hb,kg])))|((first|((with_reducible apply wL);exact rfl)|((with_reducible apply wM);exact rfl));all_goals (try ((with_reducible intro h);first|(exact absurd h (by decide))|(try simp only [go_sem,simprocAttr,hb,kg] at h))))|omega|((first|fail);try simp only [go_sem,simprocAttr,hb,kg])|(intro h))
 refine an (fun i:Nat=>i≤RA.length) (fun i=>⟨[(4, .ptr 4 0),(12, .ptr 54 0),(17,eN cc),(175, .ref 63),(176,eN RA.length),(177,eN i)], [(54, .box [.d (sI E1), .d (sI G1), .ref 59, .ref 63, .ref 156, .ref 164]),(59, .own 3 1 (LA.map rI)),(63, .own 3 1 ((k6 RA (lK g p) i).map rI)),(156, .tip 3 1 ((LO++ [(s0:Int)]).map rI)),(164, .own 3 1 ((HI++ [az p j]).map rI)),(4, .box [.nil 3, .nil 3, .nil 3, .nil 3])]⟩) (fun i=>RA.length - i) 0 (by omega) ?_ ?_
 ·refine Le.of ?_ ?_<;>simp [go_sem,simprocAttr,k6,rI]
 rintro i hi
 rcases Nat.lt_or_ge i RA.length with hil|JX
 ·have mN:decide ((i:Int)<(RA.length:Int))=true:=decide_eq_true (by omega)
  have hml:=Dk (l:=RA) (f:=lK g p) (j:=i)
  have hma:=zM (f:=lK g p) hil
  by_cases Al:RA.getD i 0= -1
  ·have ak:decide ((k6 RA (lK g p) i).getD i 0= -1)=true:=decide_eq_true (by rw [hma,Al])
   have dn:=uf (f:=lK g p) hil
   rw [hrf,if_pos Al] at dn
   generalize k6 RA (lK g p) i=M at hml ak dn
   repeat' (first|fail|((first|((with_reducible (first|apply oA|apply oB));exact rfl;intro K hK)|(refine hK _ ?_;clear hK K)|((with_reducible (first|apply oG|apply oH));iterate 3 exact rfl)|((with_reducible apply oI);(iterate 2 exact rfl);intro K hK)|(with_reducible (first|apply wI|apply wJ|apply wK)));try simp only [go_sem,simprocAttr,mN,ak,hml])|fail|(with_reducible (first|apply oC|apply oJ|exact oK|apply wA|apply wB|apply wC hX hC|apply wD hX hC|apply wE hX hC af|apply wF hX hC af|apply wG|apply wH|apply And.intro))|((with_reducible refine oD ?_ ?_);first|fail|kernel_rfl)|((with_reducible (first|apply oE|apply oF));(iterate 3 exact rfl);all_goals (intro h;first|(exact absurd h (by decide))|((try simp only [go_sem,simprocAttr,mN,ak,hml] at h);(try with_reducible intro K hK);simp only [go_sem,simprocAttr,mN,ak,hml])))|((first|((with_reducible apply wL);exact rfl)|((with_reducible apply wM);exact rfl));all_goals (try ((with_reducible intro h);first|(exact absurd h (by decide))|(try simp only [go_sem,simprocAttr,mN,ak,hml] at h))))|omega|((first|fail);try simp only [go_sem,simprocAttr,mN,ak,hml])|(intro h))
   refine ⟨i+1,by omega, ?_,by omega⟩
   rw [dn]
   refine Le.of ?_ ?_<;>simp [go_sem,simprocAttr,mN,ak,hml,rI]
  ·have ak:decide ((k6 RA (lK g p) i).getD i 0= -1)=false:=decide_eq_false (by rw [hma];exact Al)
   have dn:=A4 (f:=lK g p) hil (by rw [hrf,if_neg Al])
   generalize k6 RA (lK g p) i=M at hml ak dn
   repeat' (first|fail|((first|((with_reducible (first|apply oA|apply oB));exact rfl;intro K hK)|(refine hK _ ?_;clear hK K)|((with_reducible (first|apply oG|apply oH));iterate 3 exact rfl)|((with_reducible apply oI);(iterate 2 exact rfl);intro K hK)|(with_reducible (first|apply wI|apply wJ|apply wK)));try simp only [go_sem,simprocAttr,mN,ak,hml])|fail|(with_reducible (first|apply oC|apply oJ|exact oK|apply wA|apply wB|apply wC hX hC|apply wD hX hC|apply wE hX hC af|apply wF hX hC af|apply wG|apply wH|apply And.intro))|((with_reducible refine oD ?_ ?_);first|fail|kernel_rfl)|((with_reducible (first|apply oE|apply oF));(iterate 3 exact rfl);all_goals (intro h;first|(exact absurd h (by decide))|((try simp only [go_sem,simprocAttr,mN,ak,hml] at h);(try with_reducible intro K hK);simp only [go_sem,simprocAttr,mN,ak,hml])))|((first|((with_reducible apply wL);exact rfl)|((with_reducible apply wM);exact rfl));all_goals (try ((with_reducible intro h);first|(exact absurd h (by decide))|(try simp only [go_sem,simprocAttr,mN,ak,hml] at h))))|omega|((first|fail);try simp only [go_sem,simprocAttr,mN,ak,hml])|(intro h))
   refine ⟨i+1,by omega, ?_,by omega⟩
   rw [dn]
   refine Le.of ?_ ?_<;>simp [go_sem,simprocAttr,mN,ak,hml,rI]
 have mN:decide ((i:Int)<(RA.length:Int))=false:=decide_eq_false (by omega)
 obtain rfl:i=RA.length:=by omega
 rw [Dl]
 repeat' (first|fail|((first|((with_reducible (first|apply oA|apply oB));exact rfl;intro K hK)|(refine hK _ ?_;clear hK K)|((with_reducible (first|apply oG|apply oH));iterate 3 exact rfl)|((with_reducible apply oI);(iterate 2 exact rfl);intro K hK)|(with_reducible (first|apply wI|apply wJ|apply wK)));try simp only [go_sem,simprocAttr,mN,fL])|fail|(with_reducible (first|apply oC|apply oJ|exact oK|apply wA|apply wB|apply wC hX hC|apply wD hX hC|apply wE hX hC af|apply wF hX hC af|apply wG|apply wH|apply And.intro))|((with_reducible refine oD ?_ ?_);first|fail|kernel_rfl)|((with_reducible (first|apply oE|apply oF));(iterate 3 exact rfl);all_goals (intro h;first|(exact absurd h (by decide))|((try simp only [go_sem,simprocAttr,mN,fL] at h);(try with_reducible intro K hK);simp only [go_sem,simprocAttr,mN,fL])))|((first|((with_reducible apply wL);exact rfl)|((with_reducible apply wM);exact rfl));all_goals (try ((with_reducible intro h);first|(exact absurd h (by decide))|(try simp only [go_sem,simprocAttr,mN,fL] at h))))|omega|((first|fail);try simp only [go_sem,simprocAttr,mN,fL])|(intro h))
end Go.Ab
end
section
namespace Go.Ab
open Go.Proofs
set_option maxRecDepth 10000
set_option linter.unusedSectionVars false
section
variable (g:Gr) (p:Pl)
def cN:Nat:=cK p g.n.toNat
def Lf (e:Int):Int:=LK g p g.n.toNat e
def Rf (e:Int):Int:=RK g p (cN g p) g.n.toNat e
def EF:List Int:=iu p g.n.toNat++ [az p 0]
def GA:List Int:=xM g p g.n.toNat++ [az p (g.n.toNat - 1)]
def O9 (f:Int):Int:=(EF g p).getD f.toNat 0
def P8 (f:Int):Int:=(GA g p).getD f.toNat 0
end
section
variable {g:Gr} {p:Pl}
theorem zN:(EF g p).length=cN g p+1:=by simp [EF,gr,cN]
variable (h:cB g p) (hI:kq g=true)
include h hI
theorem JC {a:Int} (ha:(cx g p).JM a):∃k u b v,k<g.n.toNat∧qf g a=az p k∧bK p (az p k)=u++a::b::v:=by
 obtain ⟨x,u,b,v,e⟩:=ha
 by_cases hx:pK g x
 ·obtain ⟨k,hk,rfl⟩:=ga h.2.1 hx.1 hx.2
  rw [iJ hx] at e
  exact ⟨k,u,b,v,hk,(mK h hk e).1,e⟩
 ·rw [nR hx] at e;cases u<;>cases e
theorem zO {a:Int} (ha:(cx g p).JM a):∃f:Nat,1≤f∧f<cN g p∧∀r,RK g p r g.n.toNat a=f:=by
 obtain ⟨k,u,b,v,hk,_,e⟩:=JC h hI ha
 have hl:(bK p (az p k)).length=u.length+(v.length+2):=by rw [e];simp
 have DD:cK p (k+1)=cK p k+((bK p (az p k)).length - 1):=rfl
 obtain ⟨d,hd⟩:=Nat.exists_eq_add_of_le (show k+1≤g.n.toNat by omega)
 have hmo:=qg (p:=p) (k:=k+1) (d:=d)
 rw [← hd] at hmo
 have hp:0<cK p k:=oU
 have GX:cN g p=cK p g.n.toNat:=rfl
 exact ⟨cK p k+u.length,by omega,by omega,fun r=>by rw [iK h hk e (by omega) (Nat.le_refl _)];omega⟩
theorem k7:(cx g p).gA (Lf g p) (Rf g p) 0 (cN g p) (O9 g p):=by
 have F:=mL h hI (r:=cN g p) (.inr (Int.le_refl _))
 exact {F with
  new:=fun {x u a b v} e=>by
   obtain ⟨h1,h2,h3⟩:=F.new e
   obtain ⟨f,_,h5,h6⟩:=zO h hI (a:=a) ⟨x,u,b,v,e⟩
   have h7:Rf g p a=f:=h6 _
   have h8:RK g p (cN g p) g.n.toNat a=f:=h6 _
   refine ⟨?_,h2,h3⟩
   rw [h8] at h1
   show (iu p g.n.toNat++ [az p 0]).getD (Rf g p a).toNat 0=x
   rw [h7, ← h1,Int.toNat_natCast,kR (by rw [gr];exact h5)]}
theorem JD {e:Int} (he:0≤e∧e<g.es.length):lK g p (RK g p (-1) g.n.toNat e)=Rf g p e:=by
 have F:=mL h hI (r:= -1) (.inl (by omega))
 have F':=mL h hI (r:=cN g p) (.inr (Int.le_refl _))
 rcases Bv (zC h hI) F F' (d:=_+1) (Nat.lt_succ_self _) (e:=e) he with ⟨h1,h2⟩|⟨a,h1,_,h2,h3⟩
 ·rw [h1];unfold lK Rf;rw [if_pos rfl,h2];rfl
 ·obtain ⟨f,h4,_,h5⟩:=zO h hI h1
  unfold lK Rf
  rw [h2,h3,h5,h5,if_neg (by omega)]
theorem F9:EE g p=⟨arr (Lf g p) g.es.length,arr (Rf g p) g.es.length,EF g p,GA g p⟩:=by
 unfold EE
 have:(arr (RK g p (-1) g.n.toNat) g.es.length).map (lK g p)=arr (Rf g p) g.es.length:=by
  unfold arr
  rw [List.map_map]
  refine List.map_congr_left fun i hi=> ?_
  have:=List.mem_range.1 hi
  exact JD h hI (e:=(i:Int)) (by omega)
 rw [this];rfl
theorem zP {e:Int} (he:0≤e∧e<g.es.length):1≤Rf g p e∧Rf g p e≤cN g p:=by
 have hp:0<cK p g.n.toNat:=oU
 rcases Bv (zC h hI) (k7 h hI) (k7 h hI) (d:=_+1) (Nat.lt_succ_self _) (e:=e) he with ⟨h1,_⟩|⟨a,h1,_,h2,_⟩
 ·rw [h1];have:cN g p=cK p g.n.toNat:=rfl;omega
 ·obtain ⟨f,h3,h4,h5⟩:=zO h hI h1
  have h5:Rf g p a=f:=h5 _
  omega
theorem zQ {e:Int} (he:0≤e∧e<g.es.length):0≤Lf g p e∧Lf g p e<cN g p:=by
 have hp:0<cK p g.n.toNat:=oU
 rcases EM (zC h hI) (k7 h hI) (k7 h hI) (d:=_+1) (Nat.lt_succ_self _) (e:=e) he with ⟨h1,_⟩|⟨a,h1,h2,_⟩
 ·rw [h1];have:cN g p=cK p g.n.toNat:=rfl;omega
 ·obtain ⟨f,h3,h4,h5⟩:=zO h hI h1
  have h5:Rf g p a=f:=h5 _
  omega
theorem JE:(cN g p:Int)=g.es.length - g.n+2:=by
 have hm:=aF h.1
 have hn:=aV hm
 have tU:bK p (az p (g.n.toNat - 1))= []:=(ew h hI (aN h.2.1 (by omega))).2 rfl
 have key:∀k,k<g.n.toNat→(cK p k:Int)=1+((List.range k).flatMap fun j=>bK p (az p j)).length - k:=by
  intro k
  induction k with
  |zero=>intro _;simp [cK]
  |succ k ih=>
   intro hk
   have hO:bK p (az p k)≠ []:=fun h1=>by
    have:=(ew h hI (aN h.2.1 (show k<g.n.toNat by omega))).1 h1
    have:=dK h.2.1 (show k<g.n.toNat by omega) (by omega) this
    omega
   have:=List.length_pos_iff.2 hO
   have ih:=ih (by omega)
   have e1:((List.range (k+1)).flatMap fun j=>bK p (az p j))=((List.range k).flatMap fun j=>bK p (az p j))++bK p (az p k):=by rw [List.range_succ,List.flatMap_append];simp
   rw [e1,List.length_append,cK]
   omega
 have hall:((List.range (g.n.toNat - 1)).flatMap fun j=>bK p (az p j)).length=g.es.length:=by
  have bX:∀k,k≤g.n.toNat→((List.range k).flatMap fun j=>bK p (az p j)).Nodup:=by
   intro k
   induction k with
   |zero=>intro _;simp
   |succ k ih=>
    intro hk
    rw [List.range_succ,List.flatMap_append,List.nodup_append]
    refine ⟨ih (by omega),by simpa using Dd h (by omega),fun a ha b hb e=> ?_⟩
    subst e
    obtain ⟨j,hj,hja⟩:=List.mem_flatMap.1 ha
    have hj:=List.mem_range.1 hj
    have hb:a∈bK p (az p k):=by simpa using hb
    have t1:=(iL h (by omega) hja).2
    have t2:=(iL h (by omega) hb).2
    have:=dK h.2.1 (show j<g.n.toNat by omega) (by omega) (t1.symm.trans t2)
    omega
  have JF:∀e:Int,0≤e→e<g.es.length→e∈((List.range (g.n.toNat - 1)).flatMap fun j=>bK p (az p j)):=fun e h1 h2=>by
   have ht:=bJ hm (i:=e.toNat) (by omega)
   obtain ⟨k,hk,e1⟩:=ga h.2.1 ht.1 ht.2
   have e1:az p k=qf g e:=e1
   obtain ⟨u,v,e2⟩:=zK h hk ⟨h1,h2⟩ e1.symm
   refine List.mem_flatMap.2 ⟨k,List.mem_range.2 ?_,by rw [e2];simp⟩
   refine Decidable.byContradiction fun hc=> ?_
   obtain rfl:k=g.n.toNat - 1:=by omega
   rw [tU] at e2;cases u<;>cases e2
  have h1:=oc JF
  have h2:=eS (m:=(List.range g.es.length).map Int.ofNat) (bX (g.n.toNat - 1) (by omega)) fun e he=>by
   obtain ⟨j,hj,hja⟩:=List.mem_flatMap.1 he
   have hj:=List.mem_range.1 hj
   have:=(iL h (by omega) hja).1
   exact List.mem_map.2 ⟨e.toNat,List.mem_range.2 (by omega),by simp;omega⟩
  rw [List.length_map,List.length_range] at h2
  omega
 have h1:=key (g.n.toNat - 1) (by omega)
 rw [hall] at h1
 have h2:cN g p=cK p (g.n.toNat - 1):=by
  show cK p g.n.toNat=_
  rw [show g.n.toNat=(g.n.toNat - 1)+1 by omega,cK,show g.n.toNat - 1+1 - 1=g.n.toNat - 1 by omega,tU];rfl
 omega
theorem Ga (h0:0<g.es.length):2≤g.n:=by
 have hm:=aF h.1
 have ht:=bJ hm (i:=0) h0
 have hh:=bW hm (i:=0) h0
 obtain ⟨k,hk,e⟩:=ga h.2.1 hh.1 hh.2
 obtain ⟨j,hj,_⟩:=sF h (e:=0) (by omega) hk e.symm
 omega
end
end Go.Ab
end
section
namespace Go.Ab
open Go.Proofs
set_option maxRecDepth 10000
def A8 (q:Nat→Bool):Nat→Nat
 |0=>0
 |n+1=>A8 q n ||| (if q n then 2 ^ n else 0)
theorem j3 {q:Nat→Bool} {y:Nat} :∀ {n:Nat},(A8 q n).testBit y=(decide (y<n)&&q y)
 |0=>by simp [A8]
 |n+1=>by
  rw [A8,Nat.testBit_or,j3]
  by_cases h:y=n
  ·subst h
   cases hq:q y<;>simp [Nat.testBit_two_pow_self]
  ·have h2:(if q n then 2 ^ n else 0).testBit y=false:=by
    split
    ·rw [Nat.testBit_two_pow];exact decide_eq_false fun e=>h e.symm
    ·simp
   rw [h2,Bool.or_false]
   congr 1
   rw [decide_eq_decide];omega
theorem EG {q:Nat→Bool} {n:Nat} :A8 q n<2 ^ n:=by
 refine Nat.lt_pow_two_of_testBit _ fun i hi=> ?_
 rw [j3,decide_eq_false (by omega)];rfl
inductive vt (g:Gr) (both:Bool) (c:Nat→Bool) (x:Nat):Nat→Prop
 |refl:vt g both c x x
 |fwd {i:Nat} :i<g.es.length→c i=true→vt g both c x (tl g i).toNat→vt g both c x (hd g i).toNat
 |JG {i:Nat} :i<g.es.length→c i=true→both=true→vt g both c x (hd g i).toNat→vt g both c x (tl g i).toNat
theorem vt.trans {g:Gr} {both:Bool} {c:Nat→Bool} {x y z:Nat} (h1:vt g both c x y) (h2:vt g both c y z):vt g both c x z:=by
 induction h2 with
 |refl=>exact h1
 |fwd a b _ ih=>exact .fwd a b ih
 |JG a b d _ ih=>exact .JG a b d ih
open Classical in
noncomputable def JH (g:Gr) (both:Bool) (c:Nat→Bool) (x:Nat):Nat:=A8 (fun y=>decide (vt g both c x y)) g.n.toNat
noncomputable def DJ (g:Gr) (both:Bool) (c:Nat→Bool):List Nat:=(List.range g.n.toNat).map (JH g both c)
theorem qk {g:Gr} {both:Bool} {c:Nat→Bool} :(DJ g both c).length=g.n.toNat:=by simp [DJ]
theorem yE {g:Gr} {both:Bool} {c:Nat→Bool} {x:Nat} (h:x<g.n.toNat):(DJ g both c).getD x 0=JH g both c x:=by
 simp [DJ,List.getD_eq_getElem?_getD,List.getElem?_range h]
open Classical in
theorem zR {g:Gr} {both:Bool} {c:Nat→Bool} {x y:Nat} :(JH g both c x).testBit y=true↔y<g.n.toNat∧vt g both c x y:=by
 unfold JH
 rw [j3]
 simp
def bL (g:Gr) (both:Bool) (c:Nat→Bool) (a:List Nat):Nat→List Nat × Bool
 |0=>(a,false)
 |k+1=>
  let s:=bL g both c a k
  if c k=true then
   let t:=s.1.getD (tl g k).toNat 0 ||| s.1.getD (hd g k).toNat 0
   let h:=if both=true then t else s.1.getD (hd g k).toNat 0
   ((s.1.set (tl g k).toNat t).set (hd g k).toNat h,s.2||(decide (t≠s.1.getD (tl g k).toNat 0)||decide (h≠s.1.getD (hd g k).toNat 0)))
  else s
theorem oZ {g:Gr} {both:Bool} {c:Nat→Bool} {a:List Nat} :∀ {k:Nat},(bL g both c a k).1.length=a.length
 |0=>rfl
 |k+1=>by
  simp only [bL]
  split
  ·simp [oZ]
  ·exact oZ
theorem lI {l:List Nat} {i j:Nat} {a:Nat} (hi:i<l.length):(l.set i a).getD j 0=if j=i then a else l.getD j 0:=by
 rw [List.getD_eq_getElem?_getD,List.getElem?_set]
 by_cases h:i=j
 ·subst h;rw [if_pos rfl,if_pos hi,if_pos rfl];rfl
 ·rw [if_neg h,if_neg (Ne.symm h), ← List.getD_eq_getElem?_getD]
structure Bo (g:Gr) (both:Bool) (c:Nat→Bool) (a:List Nat):Prop where
 len:a.length=g.n.toNat
 own:∀x,x<g.n.toNat→(a.getD x 0).testBit x=true
 snd:∀x y,x<g.n.toNat→(a.getD x 0).testBit y=true→y<g.n.toNat∧vt g both c x y
theorem Bo.lt {g:Gr} {both:Bool} {c:Nat→Bool} {a:List Nat} (h:Bo g both c a) (hn:g.n.toNat≤64) (x:Nat):a.getD x 0<18446744073709551616:=by
 by_cases hx:x<g.n.toNat
 ·have:a.getD x 0<2 ^ 64:=Nat.lt_pow_two_of_testBit _ fun i hi=>by
   cases hb:(a.getD x 0).testBit i with
   |false=>rfl
   |true=>have:=(h.snd x i hx hb).1;omega
  simpa using this
 ·rw [List.getD_eq_getElem?_getD,List.getElem?_eq_none (by rw [h.len];omega)];simp
theorem grow_step {g:Gr} (hm:aM g=true) {both:Bool} {c:Nat→Bool} {a:List Nat} (h:Bo g both c a) {i:Nat} (hi:i<g.es.length) (hc:c i=true):
 Bo g both c ((a.set (tl g i).toNat (a.getD (tl g i).toNat 0 ||| a.getD (hd g i).toNat 0)).set (hd g i).toNat (if both=true then a.getD (tl g i).toNat 0 ||| a.getD (hd g i).toNat 0 else a.getD (hd g i).toNat 0))∧
 ∀x y,(a.getD x 0).testBit y=true→(((a.set (tl g i).toNat (a.getD (tl g i).toNat 0 ||| a.getD (hd g i).toNat 0)).set (hd g i).toNat (if both=true then a.getD (tl g i).toNat 0 ||| a.getD (hd g i).toNat 0 else a.getD (hd g i).toNat 0)).getD x 0).testBit y=true:=by
 obtain ⟨ht,hh⟩:=dJ hm hi
 have ht:0≤tl g i∧tl g i<g.n:=ht
 have hh:0≤hd g i∧hd g i<g.n:=hh
 have hl:=h.len
 have qB:∀x,((a.set (tl g i).toNat (a.getD (tl g i).toNat 0 ||| a.getD (hd g i).toNat 0)).set (hd g i).toNat (if both=true then a.getD (tl g i).toNat 0 ||| a.getD (hd g i).toNat 0 else a.getD (hd g i).toNat 0)).getD x 0=
  if x=(hd g i).toNat then (if both=true then a.getD (tl g i).toNat 0 ||| a.getD (hd g i).toNat 0 else a.getD (hd g i).toNat 0) else if x=(tl g i).toNat then a.getD (tl g i).toNat 0 ||| a.getD (hd g i).toNat 0 else a.getD x 0:=fun x=>by
  rw [lI (by rw [List.length_set];omega),lI (by omega)]
 have mono:∀x y,(a.getD x 0).testBit y=true→(((a.set (tl g i).toNat (a.getD (tl g i).toNat 0 ||| a.getD (hd g i).toNat 0)).set (hd g i).toNat (if both=true then a.getD (tl g i).toNat 0 ||| a.getD (hd g i).toNat 0 else a.getD (hd g i).toNat 0)).getD x 0).testBit y=true:=fun x y hb=>by
  rw [qB]
  split
  ·rename_i e;subst e
   split
   ·rw [Nat.testBit_or,hb,Bool.or_true]
   ·exact hb
  ·split
   ·rename_i e;subst e
    rw [Nat.testBit_or,hb,Bool.true_or]
   ·exact hb
 refine ⟨⟨by simp [hl],fun x hx=>mono x x (h.own x hx),fun x y hx hb=> ?_⟩,mono⟩
 have e1:vt g both c (tl g i).toNat (hd g i).toNat:= .fwd hi hc .refl
 rw [qB] at hb
 split at hb
 ·rename_i e;subst e
  split at hb
  ·rename_i Pa
   rw [Nat.testBit_or,Bool.or_eq_true] at hb
   rcases hb with hb|hb
   ·obtain ⟨g1,g2⟩:=h.snd _ _ (by omega) hb
    exact ⟨g1,(vt.JG hi hc Pa .refl).trans g2⟩
   ·exact h.snd _ _ hx hb
  ·exact h.snd _ _ hx hb
 ·split at hb
  ·rename_i e;subst e
   rw [Nat.testBit_or,Bool.or_eq_true] at hb
   rcases hb with hb|hb
   ·exact h.snd _ _ hx hb
   ·obtain ⟨g1,g2⟩:=h.snd _ _ (by omega) hb
    exact ⟨g1,e1.trans g2⟩
  ·exact h.snd _ _ hx hb
theorem gV {g:Gr} (hm:aM g=true) {both:Bool} {c:Nat→Bool} {a:List Nat} (h:Bo g both c a):∀ {k:Nat},k≤g.es.length→Bo g both c (bL g both c a k).1∧∀x y,(a.getD x 0).testBit y=true→((bL g both c a k).1.getD x 0).testBit y=true
 |0,_=>⟨h,fun x y hb=>hb⟩
 |k+1,hk=>by
  obtain ⟨i1,i2⟩:=gV hm h (k:=k) (by omega)
  simp only [bL]
  by_cases hc:c k=true
  ·rw [if_pos hc]
   obtain ⟨j1,j2⟩:=grow_step hm i1 (i:=k) (by omega) hc
   exact ⟨j1,fun x y hb=>j2 x y (i2 x y hb)⟩
  ·rw [if_neg hc];exact ⟨i1,i2⟩
def sP (a:List Nat):Nat:=a.foldr (· + ·) 0
theorem zS:∀ {a b:List Nat},a.length=b.length→(∀x,a.getD x 0≤b.getD x 0)→a≠b→sP a<sP b
 | [], [],_,_,hne=>absurd rfl hne
 |x::a,y::b,hl,h,hne=>by
  have h0:=h 0
  have hr:∀i,a.getD i 0≤b.getD i 0:=fun i=>by simpa using h (i+1)
  simp only [List.getD_cons_zero] at h0
  show x+sP a<y+sP b
  by_cases hab:a=b
  ·subst hab
   have:x≠y:=fun e=>hne (by rw [e])
   omega
  ·have:=zS (a:=a) (b:=b) (by simpa using hl) hr hab
   omega
theorem xD {m:Nat} :∀ {a:List Nat},(∀x,a.getD x 0<m)→sP a≤a.length*m
 | [],_=>by simp [sP]
 |x::a,h=>by
  have h0:=h 0
  have:=xD (a:=a) fun i=>by simpa using h (i+1)
  simp only [List.getD_cons_zero] at h0
  show x+sP a≤(a.length+1)*m
  rw [Nat.add_mul];omega
theorem mM {a b:Nat} (h:∀y,a.testBit y=true→b.testBit y=true):a≤b:=by
 have:a ||| b=b:=Nat.eq_of_testBit_eq fun y=>by
  rw [Nat.testBit_or]
  cases ha:a.testBit y with
  |false=>simp
  |true=>rw [h y ha];rfl
 rw [← this];exact Nat.left_le_or
theorem iw {g:Gr} {both:Bool} {c:Nat→Bool} {a:List Nat} :∀ {k:Nat},(bL g both c a k).2=false→(bL g both c a k).1=a∧∀i,i<k→c i=true→(a.getD (tl g i).toNat 0 ||| a.getD (hd g i).toNat 0=a.getD (tl g i).toNat 0)∧(both=true→a.getD (tl g i).toNat 0=a.getD (hd g i).toNat 0)
 |0,_=>⟨rfl,fun i hi=>by omega⟩
 |k+1,h=>by
  simp only [bL] at h ⊢
  by_cases hc:c k=true
  ·rw [if_pos hc] at h ⊢
   simp only [Bool.or_eq_false_iff,decide_eq_false_iff_not,Decidable.not_not] at h
   obtain ⟨h1,h2,h3⟩:=h
   obtain ⟨i1,i2⟩:=iw h1
   rw [i1] at h2 h3
   simp only [i1]
   have b7:∀ {l:List Nat} {i v:Nat},v=l.getD i 0→l.set i v=l:=fun {l i v} e=>by
    refine List.ext_getElem? fun j=> ?_
    rw [List.getElem?_set]
    split
    ·rename_i hj;subst hj
     split
     ·rename_i hl;rw [e,List.getD_eq_getElem?_getD,List.getElem?_eq_getElem hl];rfl
     ·rename_i hl;rw [List.getElem?_eq_none (by omega)]
    ·rfl
   refine ⟨by rw [b7 h2,b7 h3],fun i hi J2=> ?_⟩
   by_cases hik:i=k
   ·subst hik
    refine ⟨h2,fun hb=> ?_⟩
    rw [if_pos hb] at h3
    rw [← h2,h3]
   ·exact i2 i (by omega) J2
  ·rw [if_neg hc] at h ⊢
   obtain ⟨i1,i2⟩:=iw h
   refine ⟨i1,fun i hi J2=> ?_⟩
   by_cases hik:i=k
   ·subst hik;exact absurd J2 hc
   ·exact i2 i (by omega) J2
theorem yF {g:Gr} (hm:aM g=true) {both:Bool} {c:Nat→Bool} {a:List Nat} (h:Bo g both c a) (hne:(bL g both c a g.es.length).2=true):sP a<sP (bL g both c a g.es.length).1:=by
 obtain ⟨_,i2⟩:=gV hm h (Nat.le_refl g.es.length)
 refine zS oZ.symm (fun x=>mM (i2 x)) fun e=> ?_
 have key:∀k,k≤g.es.length→(bL g both c a k).2=false:=by
  intro k
  induction k with
  |zero=>intro _;rfl
  |succ k ih=>
   intro hk
   have ih:=ih (by omega)
   have Nn:=(iw ih).1
   simp only [bL]
   by_cases hc:c k=true
   ·rw [if_pos hc]
    simp only [Bool.or_eq_false_iff,decide_eq_false_iff_not,Decidable.not_not,ih,Nn,true_and]
    obtain ⟨j1,j2⟩:=gV hm h (k:=k) (by omega)
    have later:∀d,k+1+d≤g.es.length→∀x y,((bL g both c a (k+1)).1.getD x 0).testBit y=true→((bL g both c a (k+1+d)).1.getD x 0).testBit y=true:=by
     intro d
     induction d with
     |zero=>intro _ x y hb;exact hb
     |succ d Pb=>
      intro hd x y hb
      have hb:=Pb (by omega) x y hb
      show ((bL g both c a (k+1+d+1)).1.getD x 0).testBit y=true
      simp only [bL] at hb ⊢
      split
      ·rename_i DD
       exact (grow_step hm (gV hm h (k:=k+1+d) (by omega)).1 (i:=k+1+d) (by omega) DD).2 x y hb
      ·exact hb
    have pO:=later (g.es.length - (k+1)) (by omega)
    rw [show k+1+(g.es.length - (k+1))=g.es.length by omega, ← e] at pO
    have xI:(bL g both c a (k+1)).1=(a.set (tl g k).toNat (a.getD (tl g k).toNat 0 ||| a.getD (hd g k).toNat 0)).set (hd g k).toNat (if both=true then a.getD (tl g k).toNat 0 ||| a.getD (hd g k).toNat 0 else a.getD (hd g k).toNat 0):=by
     simp only [bL];rw [if_pos hc,Nn]
    obtain ⟨ht,hh⟩:=dJ hm (k:=k) (by omega)
    have ht:0≤tl g k∧tl g k<g.n:=ht
    have hh:0≤hd g k∧hd g k<g.n:=hh
    have hl:=h.len
    have qB:∀x,(bL g both c a (k+1)).1.getD x 0=if x=(hd g k).toNat then (if both=true then a.getD (tl g k).toNat 0 ||| a.getD (hd g k).toNat 0 else a.getD (hd g k).toNat 0) else if x=(tl g k).toNat then a.getD (tl g k).toNat 0 ||| a.getD (hd g k).toNat 0 else a.getD x 0:=fun x=>by
     rw [xI,lI (by rw [List.length_set];omega),lI (by omega)]
    have g1:(if both=true then a.getD (tl g k).toNat 0 ||| a.getD (hd g k).toNat 0 else a.getD (hd g k).toNat 0)=a.getD (hd g k).toNat 0:=by
     have:=mM (pO (hd g k).toNat)
     rw [qB,if_pos rfl] at this
     split at this
     ·rename_i hb
      rw [if_pos hb]
      exact Nat.le_antisymm this Nat.right_le_or
     ·rename_i hb;rw [if_neg hb]
    refine ⟨?_,g1⟩
    by_cases heq:(tl g k).toNat=(hd g k).toNat
    ·rw [heq,Nat.or_self]
    ·have:=mM (pO (tl g k).toNat)
     rw [qB,if_neg heq,if_pos rfl] at this
     exact Nat.le_antisymm this Nat.left_le_or
   ·rw [if_neg hc];exact ih
 rw [key _ (Nat.le_refl _)] at hne
 cases hne
theorem A9 {g:Gr} (hm:aM g=true) {both:Bool} {c:Nat→Bool} {a:List Nat} (h:Bo g both c a) (hne:(bL g both c a g.es.length).2=false):a=DJ g both c:=by
 obtain ⟨_,dL⟩:=iw hne
 have comp:∀x y,x<g.n.toNat→vt g both c x y→∀w,w<g.n.toNat→vt g both c w x→True:=fun _ _ _ _ _ _ _=>trivial
 have key:∀ {x y:Nat},vt g both c x y→∀z,(a.getD y 0).testBit z=true→(a.getD x 0).testBit z=true:=by
  intro x y hR
  induction hR with
  |refl=>exact fun z hz=>hz
  | @fwd i hi hc _ ih=>
    intro z hz
    refine ih z ?_
    rw [← (dL i hi hc).1,Nat.testBit_or,hz,Bool.or_true]
  | @JG i hi hc hb _ ih=>
    intro z hz
    refine ih z ?_
    rw [← (dL i hi hc).2 hb];exact hz
 refine List.ext_getElem? fun x=> ?_
 by_cases hx:x<g.n.toNat
 ·have e:a.getD x 0=(DJ g both c).getD x 0:=by
   rw [yE hx]
   refine Nat.eq_of_testBit_eq fun y=> ?_
   rw [Bool.eq_iff_iff,zR]
   refine ⟨h.snd x y hx,fun ⟨h1,h2⟩=>key h2 y (h.own y h1)⟩
  rw [List.getD_eq_getElem?_getD,List.getD_eq_getElem?_getD,List.getElem?_eq_getElem (by rw [h.len];exact hx),List.getElem?_eq_getElem (by rw [qk];exact hx)] at e
  rw [List.getElem?_eq_getElem (by rw [h.len];exact hx),List.getElem?_eq_getElem (by rw [qk];exact hx)]
  simpa using e
 ·rw [List.getElem?_eq_none (by rw [h.len];omega),List.getElem?_eq_none (by rw [qk];omega)]
end Go.Ab
end
section
namespace Go.Ab
open Go.Proofs
attribute [local congr] ACall.congr
set_option maxRecDepth 20000
set_option maxHeartbeats 8000000
def rU (n:Nat):List D:= [.sc (.int .u64 (n:Int))]
def eU (n:Nat):AV:= .d (.sc (.int .u64 (n:Int)))
def sU (l:List Nat):D:= .sl 1 (l.map rU)
theorem getD_rU (ps:List Nat) (i:Nat):(ps.map rU).getD i [.sc (.int .u64 0)]= [.sc (.int .u64 ((ps.getD i 0:Nat):Int))]:=by
 rw [List.getD_eq_getElem?_getD,List.getElem?_map,List.getD_eq_getElem?_getD]
 cases ps[i]? <;>rfl
theorem fC (l:List Nat) (k:Nat) (v:Nat):(l.map rU).set k [.sc (.int .u64 (v:Int))]=(l.set k v).map rU:=by
 rw [List.map_set];rfl
attribute [go_sem] eU sU getD_rU InU
theorem EH {s x:Nat} :decide ((((s >>> x &&& 1:Nat)):Int)=1)=s.testBit x:=by
 rw [Bool.eq_iff_iff,decide_eq_true_eq,Nat.testBit,Nat.and_comm]
 have:1 &&& s >>> x=0∨1 &&& s >>> x=1:=by
  rw [Nat.and_comm,Nat.and_one_is_mod];omega
 rcases this with h|h<;>rw [h]<;>simp
theorem lJ (s:Nat) (hs:s<18446744073709551616) (x:Int):Spec Tryz.prog 34 (Args [eU s,eN x]) [] (eB (decide (0≤x)&&decide (x<64)&&s.testBit x.toNat)) []:=by
 by_cases h0:0≤x
 rotate_left
 ·have hb0:decide (0≤x)=false:=decide_eq_false h0
  (refine Spec.intro (C:=T.cfg [] []) (rs:= [.t 4]) (T.au _ _) Tryz.func34 rfl rfl Tryz.ntmps34 Tryz.results34 (by simp [AObj.isNest]) (by simp [AObj.isNest]) (by kernel_rfl) ?_;intro X hX hP hC aI aJ vals hA;refine ⟨_,by simp,hA, ?_⟩;have af:X.P.follows .mixedOrders=true:=(by rw [hP];exact T.mixed);clear aI aJ)
  repeat' (first|fail|((first|((with_reducible (first|apply oA|apply oB));exact rfl;intro K hK)|(refine hK _ ?_;clear hK K)|((with_reducible (first|apply oG|apply oH));iterate 3 exact rfl)|((with_reducible apply oI);(iterate 2 exact rfl);intro K hK)|(with_reducible (first|apply wI|apply wJ|apply wK)));try simp only [go_sem,simprocAttr,hb0])|fail|(with_reducible (first|apply oC|apply oJ|exact oK|apply wA|apply wB|apply wC hX hC|apply wD hX hC|apply wE hX hC af|apply wF hX hC af|apply wG|apply wH|apply And.intro))|((with_reducible refine oD ?_ ?_);first|fail|kernel_rfl)|((with_reducible (first|apply oE|apply oF));(iterate 3 exact rfl);all_goals (intro h;first|(exact absurd h (by decide))|((try simp only [go_sem,simprocAttr,hb0] at h);(try with_reducible intro K hK);simp only [go_sem,simprocAttr,hb0])))|((first|((with_reducible apply wL);exact rfl)|((with_reducible apply wM);exact rfl));all_goals (try ((with_reducible intro h);first|(exact absurd h (by decide))|(try simp only [go_sem,simprocAttr,hb0] at h))))|omega|((first|fail);try simp only [go_sem,simprocAttr,hb0])|(intro h))
 have hb0:decide (0≤x)=true:=decide_eq_true h0
 by_cases h1:x<64
 rotate_left
 ·have ak:decide (x<64)=false:=decide_eq_false h1
  (refine Spec.intro (C:=T.cfg [] []) (rs:= [.t 4]) (T.au _ _) Tryz.func34 rfl rfl Tryz.ntmps34 Tryz.results34 (by simp [AObj.isNest]) (by simp [AObj.isNest]) (by kernel_rfl) ?_;intro X hX hP hC aI aJ vals hA;refine ⟨_,by simp,hA, ?_⟩;have af:X.P.follows .mixedOrders=true:=(by rw [hP];exact T.mixed);clear aI aJ)
  repeat' (first|fail|((first|((with_reducible (first|apply oA|apply oB));exact rfl;intro K hK)|(refine hK _ ?_;clear hK K)|((with_reducible (first|apply oG|apply oH));iterate 3 exact rfl)|((with_reducible apply oI);(iterate 2 exact rfl);intro K hK)|(with_reducible (first|apply wI|apply wJ|apply wK)));try simp only [go_sem,simprocAttr,hb0,ak])|fail|(with_reducible (first|apply oC|apply oJ|exact oK|apply wA|apply wB|apply wC hX hC|apply wD hX hC|apply wE hX hC af|apply wF hX hC af|apply wG|apply wH|apply And.intro))|((with_reducible refine oD ?_ ?_);first|fail|kernel_rfl)|((with_reducible (first|apply oE|apply oF));(iterate 3 exact rfl);all_goals (intro h;first|(exact absurd h (by decide))|((try simp only [go_sem,simprocAttr,hb0,ak] at h);(try with_reducible intro K hK);simp only [go_sem,simprocAttr,hb0,ak])))|((first|((with_reducible apply wL);exact rfl)|((with_reducible apply wM);exact rfl));all_goals (try ((with_reducible intro h);first|(exact absurd h (by decide))|(try simp only [go_sem,simprocAttr,hb0,ak] at h))))|omega|((first|fail);try simp only [go_sem,simprocAttr,hb0,ak])|(intro h))
 have ak:decide (x<64)=true:=decide_eq_true h1
 obtain ⟨i,rfl⟩:∃i:Nat,x=i:=⟨x.toNat,by omega⟩
 have hlt:s >>> i<18446744073709551616:=Nat.lt_of_le_of_lt (Nat.shiftRight_le s i) hs
 have ha:=EH (s:=s) (x:=i)
 generalize hq:s >>> i=q at hlt ha
 (refine Spec.intro (C:=T.cfg [] []) (rs:= [.t 4]) (T.au _ _) Tryz.func34 rfl rfl Tryz.ntmps34 Tryz.results34 (by simp [AObj.isNest]) (by simp [AObj.isNest]) (by kernel_rfl) ?_;intro X hX hP hC aI aJ vals hA;refine ⟨_,by simp,hA, ?_⟩;have af:X.P.follows .mixedOrders=true:=(by rw [hP];exact T.mixed);clear aI aJ)
 repeat' (first|fail|((first|((with_reducible (first|apply oA|apply oB));exact rfl;intro K hK)|(refine hK _ ?_;clear hK K)|((with_reducible (first|apply oG|apply oH));iterate 3 exact rfl)|((with_reducible apply oI);(iterate 2 exact rfl);intro K hK)|(with_reducible (first|apply wI|apply wJ|apply wK)));try simp only [go_sem,simprocAttr,hb0,ak,hq,ha])|fail|(with_reducible (first|apply oC|apply oJ|exact oK|apply wA|apply wB|apply wC hX hC|apply wD hX hC|apply wE hX hC af|apply wF hX hC af|apply wG|apply wH|apply And.intro))|((with_reducible refine oD ?_ ?_);first|fail|kernel_rfl)|((with_reducible (first|apply oE|apply oF));(iterate 3 exact rfl);all_goals (intro h;first|(exact absurd h (by decide))|((try simp only [go_sem,simprocAttr,hb0,ak,hq,ha] at h);(try with_reducible intro K hK);simp only [go_sem,simprocAttr,hb0,ak,hq,ha])))|((first|((with_reducible apply wL);exact rfl)|((with_reducible apply wM);exact rfl));all_goals (try ((with_reducible intro h);first|(exact absurd h (by decide))|(try simp only [go_sem,simprocAttr,hb0,ak,hq,ha] at h))))|omega|((first|fail);try simp only [go_sem,simprocAttr,hb0,ak,hq,ha])|(intro h))
theorem Dm (x:Nat) (hx:x<64):Spec Tryz.prog 96 (Args [.d (.sl 1 [[.sc (.int .i64 (x:Int))]])]) [] (eU (2 ^ x)) []:=by
 have hsh:1 <<< x % 18446744073709551616=2 ^ x:=by
  rw [Nat.shiftLeft_eq,Nat.one_mul,Nat.mod_eq_of_lt]
  exact Nat.lt_of_lt_of_le (Nat.pow_lt_pow_right (by decide) hx) (by decide)
 have hlt:2 ^ x<18446744073709551616:=Nat.lt_of_lt_of_le (Nat.pow_lt_pow_right (by decide) hx) (by decide)
 have ak:decide (0≤(x:Int))=true:=decide_eq_true (by omega)
 have aq:decide ((x:Int)<64)=true:=decide_eq_true (by omega)
 (refine Spec.intro (C:=T.cfg [] []) (rs:= [.t 2]) (T.au _ _) Tryz.func96 rfl rfl Tryz.ntmps96 Tryz.results96 (by simp [AObj.isNest]) (by simp [AObj.isNest]) (by kernel_rfl) ?_;intro X hX hP hC aI aJ vals hA;refine ⟨_,by simp,hA, ?_⟩;have af:X.P.follows .mixedOrders=true:=(by rw [hP];exact T.mixed);clear aI aJ)
 repeat' (first|fail|((first|((with_reducible (first|apply oA|apply oB));exact rfl;intro K hK)|(refine hK _ ?_;clear hK K)|((with_reducible (first|apply oG|apply oH));iterate 3 exact rfl)|((with_reducible apply oI);(iterate 2 exact rfl);intro K hK)|(with_reducible (first|apply wI|apply wJ|apply wK)));try simp only [go_sem,simprocAttr])|fail|(with_reducible (first|apply oC|apply oJ|exact oK|apply wA|apply wB|apply wC hX hC|apply wD hX hC|apply wE hX hC af|apply wF hX hC af|apply wG|apply wH|apply And.intro))|((with_reducible refine oD ?_ ?_);first|fail|kernel_rfl)|((with_reducible (first|apply oE|apply oF));(iterate 3 exact rfl);all_goals (intro h;first|(exact absurd h (by decide))|((try simp only [go_sem,simprocAttr] at h);(try with_reducible intro K hK);simp only [go_sem,simprocAttr])))|((first|((with_reducible apply wL);exact rfl)|((with_reducible apply wM);exact rfl));all_goals (try ((with_reducible intro h);first|(exact absurd h (by decide))|(try simp only [go_sem,simprocAttr] at h))))|omega|((first|fail);try simp only [go_sem,simprocAttr])|(intro h))
 refine an (fun k:Nat=>k≤1) (fun k=>⟨[(2,eU (if k=0 then 0 else 2 ^ x)),(5, .d (.sl 1 [[.sc (.int .i64 (x:Int))]])),(6,eN 1),(7,eN k)], []⟩) (fun k=>1 - k) 0 (by omega) ?_ ?_
 ·refine Le.of ?_ ?_<;>simp [go_sem,simprocAttr]
 rintro k hk
 match k,hk with
 |0,_=>
  repeat' (first|fail|((first|((with_reducible (first|apply oA|apply oB));exact rfl;intro K hK)|(refine hK _ ?_;clear hK K)|((with_reducible (first|apply oG|apply oH));iterate 3 exact rfl)|((with_reducible apply oI);(iterate 2 exact rfl);intro K hK)|(with_reducible (first|apply wI|apply wJ|apply wK)));try simp only [go_sem,simprocAttr,hsh,ak,aq,Nat.zero_or])|fail|(with_reducible (first|apply oC|apply oJ|exact oK|apply wA|apply wB|apply wC hX hC|apply wD hX hC|apply wE hX hC af|apply wF hX hC af|apply wG|apply wH|apply And.intro))|((with_reducible refine oD ?_ ?_);first|fail|kernel_rfl)|((with_reducible (first|apply oE|apply oF));(iterate 3 exact rfl);all_goals (intro h;first|(exact absurd h (by decide))|((try simp only [go_sem,simprocAttr,hsh,ak,aq,Nat.zero_or] at h);(try with_reducible intro K hK);simp only [go_sem,simprocAttr,hsh,ak,aq,Nat.zero_or])))|((first|((with_reducible apply wL);exact rfl)|((with_reducible apply wM);exact rfl));all_goals (try ((with_reducible intro h);first|(exact absurd h (by decide))|(try simp only [go_sem,simprocAttr,hsh,ak,aq,Nat.zero_or] at h))))|omega|((first|fail);try simp only [go_sem,simprocAttr,hsh,ak,aq,Nat.zero_or])|(intro h))
  all_goals (refine ⟨1,by omega, ?_,by omega⟩)
  all_goals (refine Le.of ?_ ?_<;>simp [go_sem,simprocAttr,hsh,ak,aq,Nat.zero_or])
 |1,_=>
  repeat' (first|fail|((first|((with_reducible (first|apply oA|apply oB));exact rfl;intro K hK)|(refine hK _ ?_;clear hK K)|((with_reducible (first|apply oG|apply oH));iterate 3 exact rfl)|((with_reducible apply oI);(iterate 2 exact rfl);intro K hK)|(with_reducible (first|apply wI|apply wJ|apply wK)));try simp only [go_sem,simprocAttr])|fail|(with_reducible (first|apply oC|apply oJ|exact oK|apply wA|apply wB|apply wC hX hC|apply wD hX hC|apply wE hX hC af|apply wF hX hC af|apply wG|apply wH|apply And.intro))|((with_reducible refine oD ?_ ?_);first|fail|kernel_rfl)|((with_reducible (first|apply oE|apply oF));(iterate 3 exact rfl);all_goals (intro h;first|(exact absurd h (by decide))|((try simp only [go_sem,simprocAttr] at h);(try with_reducible intro K hK);simp only [go_sem,simprocAttr])))|((first|((with_reducible apply wL);exact rfl)|((with_reducible apply wM);exact rfl));all_goals (try ((with_reducible intro h);first|(exact absurd h (by decide))|(try simp only [go_sem,simprocAttr] at h))))|omega|((first|fail);try simp only [go_sem,simprocAttr])|(intro h))
end Go.Ab
end
section
namespace Go.Ab
open Go.Proofs
attribute [local congr] ACall.congr
set_option maxRecDepth 20000
set_option maxHeartbeats 8000000
def o3 (k:Nat):List Nat:=(List.range k).map fun x=>2 ^ x
theorem Ba {k:Nat} :o3 (k+1)=o3 k++ [2 ^ k]:=by simp [o3,List.range_succ]
theorem sQ {k:Nat} :(o3 k).length=k:=by simp [o3]
def iM (g:Gr):List Nat:=if aM g=true then o3 g.n.toNat else []
theorem yG (g:Gr) (hl:g.es.length≤9223372036854775807):Spec Tryz.prog 66 (Args [eG g]) [] (.ref 10000) [(10000, .own 60 1 ((iM g).map rU))]:=by
 have hM:=fu g hl
 cases hm:aM g with
 |false=>
  rw [hm] at hM
  have he:iM g= []:=by unfold iM;rw [hm];rfl
  rw [he]
  (refine Spec.ef (C:=T.cfg [200,17] []) (rs:= [.t 2]) [(10000,200)] (T.au _ _) Tryz.func66 rfl rfl Tryz.ntmps66 Tryz.results66 (by simp [AObj.isNest]) (by simp [AObj.isNest]) (by first|(simp [look];done)|(simp [asN];done)|(intro l hl;simp only [asN];repeat (rw [if_neg (fun e=>by subst e;simp [look] at hl)]))) (by first|(simp [look];done)|(simp [asN];done)|(intro l hl;simp only [asN];repeat (rw [if_neg (fun e=>by subst e;simp [look] at hl)]))) (by kernel_rfl) ?_;intro X hX hP hC aI aJ vals hA;refine ⟨_,by simp,hA, ?_⟩;have af:X.P.follows .mixedOrders=true:=(by rw [hP];exact T.mixed);clear aI aJ)
  repeat' (first|(show dD _ .ret _ _;(try simp only [go_sem,simprocAttr]);refine gL hX 2 200 (.own 60 1 []) ?_ ?_ (by decide) ⟨60,1,by decide, .inl rfl⟩ ?_;(iterate 2 (focus (simp only [go_sem,simprocAttr];done)));simp only [go_sem,simprocAttr])|((first|((with_reducible (first|apply oA|apply oB));exact rfl;intro K hK)|(refine hK _ ?_;clear hK K)|((with_reducible (first|apply oG|apply oH));iterate 3 exact rfl)|((with_reducible apply oI);(iterate 2 exact rfl);intro K hK)|(with_reducible (first|apply wI|apply wJ|apply wK)));try simp only [go_sem,simprocAttr])|fail|(with_reducible (first|apply oC|apply oJ|exact oK|apply wA|apply wB|apply wC hX hC|apply wD hX hC|apply wE hX hC af|apply wF hX hC af|apply wG|apply wH|apply And.intro))|((with_reducible refine oD ?_ ?_);first|fail|kernel_rfl)|((with_reducible (first|apply oE|apply oF));(iterate 3 exact rfl);all_goals (intro h;first|(exact absurd h (by decide))|((try simp only [go_sem,simprocAttr] at h);(try with_reducible intro K hK);simp only [go_sem,simprocAttr])))|((first|((with_reducible apply wL);exact rfl)|((with_reducible apply wM);exact rfl));all_goals (try ((with_reducible intro h);first|(exact absurd h (by decide))|(try simp only [go_sem,simprocAttr] at h))))|omega|((first|first|refine aa hX hC hP (hM) rfl rfl rfl (by simp only [go_sem,simprocAttr]) rfl ?_);try simp only [go_sem,simprocAttr])|(intro h))
 |true=>
  rw [hm] at hM
  have hn:=aV hm
  have he:iM g=o3 g.n.toNat:=by unfold iM;rw [if_pos hm]
  rw [he]
  (refine Spec.ef (C:=T.cfg [200,17] []) (rs:= [.t 2]) [(10000,200)] (T.au _ _) Tryz.func66 rfl rfl Tryz.ntmps66 Tryz.results66 (by simp [AObj.isNest]) (by simp [AObj.isNest]) (by first|(simp [look];done)|(simp [asN];done)|(intro l hl;simp only [asN];repeat (rw [if_neg (fun e=>by subst e;simp [look] at hl)]))) (by first|(simp [look];done)|(simp [asN];done)|(intro l hl;simp only [asN];repeat (rw [if_neg (fun e=>by subst e;simp [look] at hl)]))) (by kernel_rfl) ?_;intro X hX hP hC aI aJ vals hA;refine ⟨_,by simp,hA, ?_⟩;have af:X.P.follows .mixedOrders=true:=(by rw [hP];exact T.mixed);clear aI aJ)
  repeat' (first|fail|((first|((with_reducible (first|apply oA|apply oB));exact rfl;intro K hK)|(refine hK _ ?_;clear hK K)|((with_reducible (first|apply oG|apply oH));iterate 3 exact rfl)|((with_reducible apply oI);(iterate 2 exact rfl);intro K hK)|(with_reducible (first|apply wI|apply wJ|apply wK)));try simp only [go_sem,simprocAttr])|(show dD _ (.seq (.region 3 _ _) _) _ _;(refine gL hX 2 200 (.own 60 1 []) ?_ ?_ (by decide) ⟨60,1,by decide, .inl rfl⟩ ?_;(iterate 2 (focus (simp only [go_sem,simprocAttr];done)));simp only [go_sem,simprocAttr]))|(with_reducible (first|apply oC|apply oJ|exact oK|apply wA|apply wB|apply wC hX hC|apply wD hX hC|apply wE hX hC af|apply wF hX hC af|apply wG|apply wH|apply And.intro))|((with_reducible refine oD ?_ ?_);first|fail|kernel_rfl)|((with_reducible (first|apply oE|apply oF));(iterate 3 exact rfl);all_goals (intro h;first|(exact absurd h (by decide))|((try simp only [go_sem,simprocAttr] at h);(try with_reducible intro K hK);simp only [go_sem,simprocAttr])))|((first|((with_reducible apply wL);exact rfl)|((with_reducible apply wM);exact rfl));all_goals (try ((with_reducible intro h);first|(exact absurd h (by decide))|(try simp only [go_sem,simprocAttr] at h))))|omega|((first|first|refine aa hX hC hP (hM) rfl rfl rfl (by simp only [go_sem,simprocAttr]) rfl ?_);try simp only [go_sem,simprocAttr])|(intro h))
  refine an (fun k:Nat=>k≤g.n.toNat) (fun k=>⟨[(2, .ref 200),(8,eN g.n),(9,eN k)], [(200, .own 60 1 ((o3 k).map rU))]⟩) (fun k=>g.n.toNat - k) 0 (by omega) ?_ ?_
  ·refine Le.of ?_ ?_<;>simp [go_sem,simprocAttr,o3]
  rintro k hk
  rcases Nat.lt_or_ge k g.n.toNat with hlt|hge
  ·have hb:decide ((k:Int)<g.n)=true:=decide_eq_true (by omega)
   have qI:=sQ (k:=k)
   have dn:=Ba (k:=k)
   have Pc:=Dm k (by omega)
   generalize o3 k=O1 at qI dn
   repeat' (first|fail|((first|((with_reducible (first|apply oA|apply oB));exact rfl;intro K hK)|(refine hK _ ?_;clear hK K)|((with_reducible (first|apply oG|apply oH));iterate 3 exact rfl)|((with_reducible apply oI);(iterate 2 exact rfl);intro K hK)|(with_reducible (first|apply wI|apply wJ|apply wK)));try simp only [go_sem,simprocAttr,hb,qI])|(show dD _ (.region 7 _ _) _ _;(refine kI hX 2 17 200 (by simp only [go_sem,simprocAttr,hb,qI]) rfl (by first|exact .inl rfl|exact .inr rfl) (by decide) ?_;simp only [go_sem,simprocAttr,hb,qI]))|(with_reducible (first|apply oC|apply oJ|exact oK|apply wA|apply wB|apply wC hX hC|apply wD hX hC|apply wE hX hC af|apply wF hX hC af|apply wG|apply wH|apply And.intro))|((with_reducible refine oD ?_ ?_);first|fail|kernel_rfl)|((with_reducible (first|apply oE|apply oF));(iterate 3 exact rfl);all_goals (intro h;first|(exact absurd h (by decide))|((try simp only [go_sem,simprocAttr,hb,qI] at h);(try with_reducible intro K hK);simp only [go_sem,simprocAttr,hb,qI])))|((first|((with_reducible apply wL);exact rfl)|((with_reducible apply wM);exact rfl));all_goals (try ((with_reducible intro h);first|(exact absurd h (by decide))|(try simp only [go_sem,simprocAttr,hb,qI] at h))))|omega|((first|first|(refine bG hX hC hP (Pc) rfl rfl rfl ?_ ?_ rfl ?_;iterate 2 (focus (simp only [go_sem,simprocAttr,hb,qI];done))));try simp only [go_sem,simprocAttr,hb,qI])|(intro h))
   refine ⟨k+1,by omega, ?_,by omega⟩
   rw [dn]
   refine Le.of ?_ ?_<;>simp [go_sem,simprocAttr,hb,qI,rU]
  ·have hb:decide ((k:Int)<g.n)=false:=decide_eq_false (by omega)
   obtain rfl:k=g.n.toNat:=by omega
   repeat' (first|fail|((first|((with_reducible (first|apply oA|apply oB));exact rfl;intro K hK)|(refine hK _ ?_;clear hK K)|((with_reducible (first|apply oG|apply oH));iterate 3 exact rfl)|((with_reducible apply oI);(iterate 2 exact rfl);intro K hK)|(with_reducible (first|apply wI|apply wJ|apply wK)));try simp only [go_sem,simprocAttr,hb])|fail|(with_reducible (first|apply oC|apply oJ|exact oK|apply wA|apply wB|apply wC hX hC|apply wD hX hC|apply wE hX hC af|apply wF hX hC af|apply wG|apply wH|apply And.intro))|((with_reducible refine oD ?_ ?_);first|fail|kernel_rfl)|((with_reducible (first|apply oE|apply oF));(iterate 3 exact rfl);all_goals (intro h;first|(exact absurd h (by decide))|((try simp only [go_sem,simprocAttr,hb] at h);(try with_reducible intro K hK);simp only [go_sem,simprocAttr,hb])))|((first|((with_reducible apply wL);exact rfl)|((with_reducible apply wM);exact rfl));all_goals (try ((with_reducible intro h);first|(exact absurd h (by decide))|(try simp only [go_sem,simprocAttr,hb] at h))))|omega|((first|fail);try simp only [go_sem,simprocAttr,hb])|(intro h))
theorem No {a b:Nat} :(!decide ((a:Int)=(b:Int)))=decide (a≠b):=by
 by_cases h:a=b
 ·simp [h]
 ·simp [h];omega
theorem EI {g:Gr} (hn:g.n.toNat≤64) (both:Bool) (c:Nat→Bool):∃M:Nat,∀b:List Nat,Bo g both c b→sP b≤M:=
 ⟨_,fun b hb=>by have:=xD (a:=b) fun x=>hb.lt hn x;rw [hb.len] at this;exact this⟩
theorem yH (g:Gr) (hm:aM g=true) (both:Bool) (c:Nat→Bool) (F:Nat) (hF:∀i,i<g.es.length→Spec Tryz.prog F (Args [eN i]) [] (eB (c i)) []) (a0:List Nat) (h0:Bo g both c a0):
 Spec Tryz.prog 67 (Args [eG g, .ref 10000,eB both, .fn F [] []]) [(10000, .own 60 1 (a0.map rU))] (.tup []) [(10000, .own 60 1 ((DJ g both c).map rU))]:=by
 have hn:=aV hm
 obtain ⟨M,hM⟩:=EI (g:=g) (by omega) both c
 (refine Spec.intro (C:=T.cfg [] []) (rs:= []) (T.au _ _) Tryz.func67 rfl rfl Tryz.ntmps67 Tryz.results67 (by simp [AObj.isNest]) (by simp [AObj.isNest]) (by kernel_rfl) ?_;intro X hX hP hC aI aJ vals hA;refine ⟨_,by simp,hA, ?_⟩;have af:X.P.follows .mixedOrders=true:=(by rw [hP];exact T.mixed);clear aI aJ)
 repeat' (first|fail|((first|((with_reducible (first|apply oA|apply oB));exact rfl;intro K hK)|(refine hK _ ?_;clear hK K)|((with_reducible (first|apply oG|apply oH));iterate 3 exact rfl)|((with_reducible apply oI);(iterate 2 exact rfl);intro K hK)|(with_reducible (first|apply wI|apply wJ|apply wK)));try simp only [go_sem,simprocAttr])|fail|(with_reducible (first|apply oC|apply oJ|exact oK|apply wA|apply wB|apply wC hX hC|apply wD hX hC|apply wE hX hC af|apply wF hX hC af|apply wG|apply wH|apply And.intro))|((with_reducible refine oD ?_ ?_);first|fail|kernel_rfl)|((with_reducible (first|apply oE|apply oF));(iterate 3 exact rfl);all_goals (intro h;first|(exact absurd h (by decide))|((try simp only [go_sem,simprocAttr] at h);(try with_reducible intro K hK);simp only [go_sem,simprocAttr])))|((first|((with_reducible apply wL);exact rfl)|((with_reducible apply wM);exact rfl));all_goals (try ((with_reducible intro h);first|(exact absurd h (by decide))|(try simp only [go_sem,simprocAttr] at h))))|omega|((first|fail);try simp only [go_sem,simprocAttr])|(intro h))
 refine an (fun s:List Nat × Bool=>Bo g both c s.1∧(s.2=false→s.1=DJ g both c)) (fun s=>⟨[(1, .ref 10000),(2,eB both),(3, .fn F [] []),(4, .ptr 4 0),(8,eB s.2)], [(10000, .own 60 1 (s.1.map rU)),(4, .box [eN g.n, .d (sE g.es)])]⟩) (fun s=>2*(M - sP s.1)+(if s.2=true then 1 else 0)) (a0,true) ⟨h0,by simp⟩ ?_ ?_
 ·refine Le.of ?_ ?_<;>simp [go_sem,simprocAttr]
 rintro ⟨a,more⟩ ⟨hG,pO⟩
 simp only at hG pO ⊢
 cases more with
 |false=>
  have:=pO rfl
  subst this
  repeat' (first|fail|((first|((with_reducible (first|apply oA|apply oB));exact rfl;intro K hK)|(refine hK _ ?_;clear hK K)|((with_reducible (first|apply oG|apply oH));iterate 3 exact rfl)|((with_reducible apply oI);(iterate 2 exact rfl);intro K hK)|(with_reducible (first|apply wI|apply wJ|apply wK)));try simp only [go_sem,simprocAttr])|fail|(with_reducible (first|apply oC|apply oJ|exact oK|apply wA|apply wB|apply wC hX hC|apply wD hX hC|apply wE hX hC af|apply wF hX hC af|apply wG|apply wH|apply And.intro))|((with_reducible refine oD ?_ ?_);first|fail|kernel_rfl)|((with_reducible (first|apply oE|apply oF));(iterate 3 exact rfl);all_goals (intro h;first|(exact absurd h (by decide))|((try simp only [go_sem,simprocAttr] at h);(try with_reducible intro K hK);simp only [go_sem,simprocAttr])))|((first|((with_reducible apply wL);exact rfl)|((with_reducible apply wM);exact rfl));all_goals (try ((with_reducible intro h);first|(exact absurd h (by decide))|(try simp only [go_sem,simprocAttr] at h))))|omega|((first|fail);try simp only [go_sem,simprocAttr])|(intro h))
 |true=>
 repeat' (first|fail|((first|((with_reducible (first|apply oA|apply oB));exact rfl;intro K hK)|(refine hK _ ?_;clear hK K)|((with_reducible (first|apply oG|apply oH));iterate 3 exact rfl)|((with_reducible apply oI);(iterate 2 exact rfl);intro K hK)|(with_reducible (first|apply wI|apply wJ|apply wK)));try simp only [go_sem,simprocAttr])|fail|(with_reducible (first|apply oC|apply oJ|exact oK|apply wA|apply wB|apply wC hX hC|apply wD hX hC|apply wE hX hC af|apply wF hX hC af|apply wG|apply wH|apply And.intro))|((with_reducible refine oD ?_ ?_);first|fail|kernel_rfl)|((with_reducible (first|apply oE|apply oF));(iterate 3 exact rfl);all_goals (intro h;first|(exact absurd h (by decide))|((try simp only [go_sem,simprocAttr] at h);(try with_reducible intro K hK);simp only [go_sem,simprocAttr])))|((first|((with_reducible apply wL);exact rfl)|((with_reducible apply wM);exact rfl));all_goals (try ((with_reducible intro h);first|(exact absurd h (by decide))|(try simp only [go_sem,simprocAttr] at h))))|omega|((first|fail);try simp only [go_sem,simprocAttr])|(intro h))
 refine an (fun k:Nat=>k≤g.es.length) (fun k=>⟨[(1, .ref 10000),(2,eB both),(3, .fn F [] []),(4, .ptr 4 0),(8,eB (bL g both c a k).2),(15, .d (sE g.es)),(16,eN g.es.length),(17,eN k)], [(10000, .own 60 1 ((bL g both c a k).1.map rU)),(4, .box [eN g.n, .d (sE g.es)])]⟩) (fun k=>g.es.length - k) 0 (by omega) ?_ ?_
 ·refine Le.of ?_ ?_<;>simp [go_sem,simprocAttr,bL]
 rintro k hk
 rcases Nat.lt_or_ge k g.es.length with hlt|hge
 rotate_left
 ·have hb:decide ((k:Int)<(g.es.length:Int))=false:=decide_eq_false (by omega)
  obtain rfl:k=g.es.length:=by omega
  obtain ⟨i1,_⟩:=gV hm hG (Nat.le_refl g.es.length)
  have JI:=yF hm hG
  have E5:=iw (g:=g) (both:=both) (c:=c) (a:=a) (k:=g.es.length)
  have hdone:=A9 hm hG
  have BR:=hM _ i1
  generalize bL g both c a g.es.length=R at*
  repeat' (first|fail|((first|((with_reducible (first|apply oA|apply oB));exact rfl;intro K hK)|(refine hK _ ?_;clear hK K)|((with_reducible (first|apply oG|apply oH));iterate 3 exact rfl)|((with_reducible apply oI);(iterate 2 exact rfl);intro K hK)|(with_reducible (first|apply wI|apply wJ|apply wK)));try simp only [go_sem,simprocAttr,hb])|fail|(with_reducible (first|apply oC|apply oJ|exact oK|apply wA|apply wB|apply wC hX hC|apply wD hX hC|apply wE hX hC af|apply wF hX hC af|apply wG|apply wH|apply And.intro))|((with_reducible refine oD ?_ ?_);first|fail|kernel_rfl)|((with_reducible (first|apply oE|apply oF));(iterate 3 exact rfl);all_goals (intro h;first|(exact absurd h (by decide))|((try simp only [go_sem,simprocAttr,hb] at h);(try with_reducible intro K hK);simp only [go_sem,simprocAttr,hb])))|((first|((with_reducible apply wL);exact rfl)|((with_reducible apply wM);exact rfl));all_goals (try ((with_reducible intro h);first|(exact absurd h (by decide))|(try simp only [go_sem,simprocAttr,hb] at h))))|omega|((first|fail);try simp only [go_sem,simprocAttr,hb])|(intro h))
  refine ⟨(R.1,R.2),⟨i1,fun hf=> ?_⟩, ?_, ?_⟩
  ·rw [(E5 hf).1];exact hdone hf
  ·refine Le.of ?_ ?_<;>simp [go_sem,simprocAttr,hb]
  ·cases Np:R.2 with
   |true=>have:=JI Np;simp;omega
   |false=>rw [(E5 Np).1];simp
 have hb:decide ((k:Int)<(g.es.length:Int))=true:=decide_eq_true (by omega)
 obtain ⟨J3,_⟩:=gV hm hG (k:=k) (by omega)
 obtain ⟨ht,hh⟩:=dJ hm hlt
 have GB:=hF k hlt
 have xN:=J3.len
 have yI:=J3.lt (by omega)
 obtain ⟨x,hx⟩:∃x:Nat,(g.es.getD k (0,0)).1=x:=⟨(g.es.getD k (0,0)).1.toNat,by omega⟩
 obtain ⟨y,hy⟩:∃y:Nat,(g.es.getD k (0,0)).2=y:=⟨(g.es.getD k (0,0)).2.toNat,by omega⟩
 have Bi:(tl g k).toNat=x:=by show ((g.es.getD k (0,0)).1).toNat=x;rw [hx];rfl
 have Ma:(hd g k).toNat=y:=by show ((g.es.getD k (0,0)).2).toNat=y;rw [hy];rfl
 have dn:bL g both c a (k+1)=if c k=true then ((((bL g both c a k).1.set x ((bL g both c a k).1.getD x 0 ||| (bL g both c a k).1.getD y 0)).set y (if both=true then (bL g both c a k).1.getD x 0 ||| (bL g both c a k).1.getD y 0 else (bL g both c a k).1.getD y 0)),(bL g both c a k).2||(decide ((bL g both c a k).1.getD x 0 ||| (bL g both c a k).1.getD y 0≠(bL g both c a k).1.getD x 0)||decide ((if both=true then (bL g both c a k).1.getD x 0 ||| (bL g both c a k).1.getD y 0 else (bL g both c a k).1.getD y 0)≠(bL g both c a k).1.getD y 0))) else bL g both c a k:=by
  simp only [bL,Bi,Ma]
 generalize bL g both c a k=R at J3 xN yI dn
 obtain ⟨A,m1⟩:=R
 simp only at J3 xN yI dn ⊢
 have Pd:=yI x
 have Pe:=yI y
 cases hc:c k with
 |false=>
  rw [hc] at GB dn
  repeat' (first|fail|((first|((with_reducible (first|apply oA|apply oB));exact rfl;intro K hK)|(refine hK _ ?_;clear hK K)|((with_reducible (first|apply oG|apply oH));iterate 3 exact rfl)|((with_reducible apply oI);(iterate 2 exact rfl);intro K hK)|(with_reducible (first|apply wI|apply wJ|apply wK)));try simp only [go_sem,simprocAttr,hb,hx,hy])|fail|(with_reducible (first|apply oC|apply oJ|exact oK|apply wA|apply wB|apply wC hX hC|apply wD hX hC|apply wE hX hC af|apply wF hX hC af|apply wG|apply wH|apply And.intro))|((with_reducible refine oD ?_ ?_);first|fail|kernel_rfl)|((with_reducible (first|apply oE|apply oF));(iterate 3 exact rfl);all_goals (intro h;first|(exact absurd h (by decide))|((try simp only [go_sem,simprocAttr,hb,hx,hy] at h);(try with_reducible intro K hK);simp only [go_sem,simprocAttr,hb,hx,hy])))|((first|((with_reducible apply wL);exact rfl)|((with_reducible apply wM);exact rfl));all_goals (try ((with_reducible intro h);first|(exact absurd h (by decide))|(try simp only [go_sem,simprocAttr,hb,hx,hy] at h))))|omega|((first|first|refine aa hX hC hP (GB) rfl rfl rfl (by simp only [go_sem,simprocAttr,hb,hx,hy]) rfl ?_);try simp only [go_sem,simprocAttr,hb,hx,hy])|(intro h))
  refine ⟨k+1,by omega, ?_,by omega⟩
  rw [dn]
  refine Le.of ?_ ?_<;>simp [go_sem,simprocAttr,hb,hx,hy]
 |true=>
  rw [hc] at GB dn
  rw [if_pos rfl] at dn
  have n1:=No (a:=A.getD x 0 ||| A.getD y 0) (b:=A.getD x 0)
  have n2:=No (a:=if both=true then A.getD x 0 ||| A.getD y 0 else A.getD y 0) (b:=A.getD y 0)
  have Mu:A.getD x 0 ||| A.getD y 0<18446744073709551616:=Nat.or_lt_two_pow (n:=64) Pd Pe
  have Gh:(A.set x (A.getD x 0 ||| A.getD y 0)).length=A.length:=List.length_set ..
  generalize uJ:A.getD x 0 ||| A.getD y 0=t at n1 n2 dn Mu Gh
  generalize Nq:decide (t≠A.getD x 0)=d1 at n1 dn
  cases both with
  |true=>
   rw [if_pos rfl] at n2 dn
   generalize Mv:decide (t≠A.getD y 0)=d2 at n2 dn
   clear Nq Mv
   cases m1<;>cases d1<;>cases d2<;>simp only [Bool.or_false,Bool.or_true,Bool.false_or,Bool.true_or] at dn
   all_goals (repeat' (first|fail|((first|((with_reducible (first|apply oA|apply oB));exact rfl;intro K hK)|(refine hK _ ?_;clear hK K)|((with_reducible (first|apply oG|apply oH));iterate 3 exact rfl)|((with_reducible apply oI);(iterate 2 exact rfl);intro K hK)|(with_reducible (first|apply wI|apply wJ|apply wK)));try simp only [go_sem,simprocAttr,hb,hx,hy,uJ,n1,n2,xN,fC,List.length_set])|fail|(with_reducible (first|apply oC|apply oJ|exact oK|apply wA|apply wB|apply wC hX hC|apply wD hX hC|apply wE hX hC af|apply wF hX hC af|apply wG|apply wH|apply And.intro))|((with_reducible refine oD ?_ ?_);first|fail|kernel_rfl)|((with_reducible (first|apply oE|apply oF));(iterate 3 exact rfl);all_goals (intro h;first|(exact absurd h (by decide))|((try simp only [go_sem,simprocAttr,hb,hx,hy,uJ,n1,n2,xN,fC,List.length_set] at h);(try with_reducible intro K hK);simp only [go_sem,simprocAttr,hb,hx,hy,uJ,n1,n2,xN,fC,List.length_set])))|((first|((with_reducible apply wL);exact rfl)|((with_reducible apply wM);exact rfl));all_goals (try ((with_reducible intro h);first|(exact absurd h (by decide))|(try simp only [go_sem,simprocAttr,hb,hx,hy,uJ,n1,n2,xN,fC,List.length_set] at h))))|omega|((first|first|refine aa hX hC hP (GB) rfl rfl rfl (by simp only [go_sem,simprocAttr,hb,hx,hy,uJ,n1,n2,xN,fC,List.length_set]) rfl ?_);try simp only [go_sem,simprocAttr,hb,hx,hy,uJ,n1,n2,xN,fC,List.length_set])|(intro h)))
   all_goals (refine ⟨k+1,by omega, ?_,by omega⟩)
   all_goals (rw [dn])
   all_goals (refine Le.of ?_ ?_<;>simp [go_sem,simprocAttr,hb,hx,hy,uJ,n1,n2,xN,fC,List.length_set])
  |false=>
   rw [if_neg (by simp)] at n2 dn
   have Mv:decide (A.getD y 0≠A.getD y 0)=false:=decide_eq_false fun h=>h rfl
   rw [Mv] at n2 dn
   clear Nq
   cases m1<;>cases d1<;>simp only [Bool.or_false,Bool.or_true,Bool.false_or,Bool.true_or] at dn
   all_goals (repeat' (first|fail|((first|((with_reducible (first|apply oA|apply oB));exact rfl;intro K hK)|(refine hK _ ?_;clear hK K)|((with_reducible (first|apply oG|apply oH));iterate 3 exact rfl)|((with_reducible apply oI);(iterate 2 exact rfl);intro K hK)|(with_reducible (first|apply wI|apply wJ|apply wK)));try simp only [go_sem,simprocAttr,hb,hx,hy,uJ,n1,n2,xN,fC,List.length_set])|fail|(with_reducible (first|apply oC|apply oJ|exact oK|apply wA|apply wB|apply wC hX hC|apply wD hX hC|apply wE hX hC af|apply wF hX hC af|apply wG|apply wH|apply And.intro))|((with_reducible refine oD ?_ ?_);first|fail|kernel_rfl)|((with_reducible (first|apply oE|apply oF));(iterate 3 exact rfl);all_goals (intro h;first|(exact absurd h (by decide))|((try simp only [go_sem,simprocAttr,hb,hx,hy,uJ,n1,n2,xN,fC,List.length_set] at h);(try with_reducible intro K hK);simp only [go_sem,simprocAttr,hb,hx,hy,uJ,n1,n2,xN,fC,List.length_set])))|((first|((with_reducible apply wL);exact rfl)|((with_reducible apply wM);exact rfl));all_goals (try ((with_reducible intro h);first|(exact absurd h (by decide))|(try simp only [go_sem,simprocAttr,hb,hx,hy,uJ,n1,n2,xN,fC,List.length_set] at h))))|omega|((first|first|refine aa hX hC hP (GB) rfl rfl rfl (by simp only [go_sem,simprocAttr,hb,hx,hy,uJ,n1,n2,xN,fC,List.length_set]) rfl ?_);try simp only [go_sem,simprocAttr,hb,hx,hy,uJ,n1,n2,xN,fC,List.length_set])|(intro h)))
   all_goals (refine ⟨k+1,by omega, ?_,by omega⟩)
   all_goals (rw [dn])
   all_goals (refine Le.of ?_ ?_<;>simp [go_sem,simprocAttr,hb,hx,hy,uJ,n1,n2,xN,fC,List.length_set])
theorem zf {l:List Nat} :∀r∈l.map rU,∀x∈r,∃v,x=D.sc v:=by
 intro r hr x hx
 obtain ⟨y,_,rfl⟩:=List.mem_map.1 hr
 simp only [rU,List.mem_singleton] at hx
 exact ⟨_,hx⟩
theorem yJ (i:Nat):Spec Tryz.prog 68 (Args [eN i]) [] (eB true) []:=by
 (refine Spec.intro (C:=T.cfg [] []) (rs:= [.t 2]) (T.au _ _) Tryz.func68 rfl rfl Tryz.ntmps68 Tryz.results68 (by simp [AObj.isNest]) (by simp [AObj.isNest]) (by kernel_rfl) ?_;intro X hX hP hC aI aJ vals hA;refine ⟨_,by simp,hA, ?_⟩;have af:X.P.follows .mixedOrders=true:=(by rw [hP];exact T.mixed);clear aI aJ)
 repeat' (first|fail|((first|((with_reducible (first|apply oA|apply oB));exact rfl;intro K hK)|(refine hK _ ?_;clear hK K)|((with_reducible (first|apply oG|apply oH));iterate 3 exact rfl)|((with_reducible apply oI);(iterate 2 exact rfl);intro K hK)|(with_reducible (first|apply wI|apply wJ|apply wK)));try simp only [go_sem,simprocAttr])|fail|(with_reducible (first|apply oC|apply oJ|exact oK|apply wA|apply wB|apply wC hX hC|apply wD hX hC|apply wE hX hC af|apply wF hX hC af|apply wG|apply wH|apply And.intro))|((with_reducible refine oD ?_ ?_);first|fail|kernel_rfl)|((with_reducible (first|apply oE|apply oF));(iterate 3 exact rfl);all_goals (intro h;first|(exact absurd h (by decide))|((try simp only [go_sem,simprocAttr] at h);(try with_reducible intro K hK);simp only [go_sem,simprocAttr])))|((first|((with_reducible apply wL);exact rfl)|((with_reducible apply wM);exact rfl));all_goals (try ((with_reducible intro h);first|(exact absurd h (by decide))|(try simp only [go_sem,simprocAttr] at h))))|omega|((first|first|refine aa hX hC hP (GB) rfl rfl rfl (by simp only [go_sem,simprocAttr]) rfl ?_);try simp only [go_sem,simprocAttr])|(intro h))
theorem Bb {g:Gr} (hm:aM g=true) {both:Bool} {c:Nat→Bool} :Bo g both c (iM g):=by
 have he:iM g=o3 g.n.toNat:=by unfold iM;rw [if_pos hm]
 have Bm:∀x,x<g.n.toNat→(o3 g.n.toNat).getD x 0=2 ^ x:=fun x hx=>by simp [o3,List.getD_eq_getElem?_getD,List.getElem?_range hx]
 rw [he]
 refine ⟨sQ,fun x hx=>by rw [Bm x hx,Nat.testBit_two_pow_self],fun x y hx hb=> ?_⟩
 rw [Bm x hx,Nat.testBit_two_pow] at hb
 have:x=y:=of_decide_eq_true hb
 subst this
 exact ⟨hx, .refl⟩
noncomputable def s8 (g:Gr):List Nat:=if aM g=true then DJ g false (fun _=>true) else []
theorem ug (g:Gr) (hl:g.es.length≤9223372036854775807):Spec Tryz.prog 33 (Args [eG g]) [] (.d (sU (s8 g))) []:=by
 have hE:=yG g hl
 cases hm:aM g with
 |false=>
  have he:iM g= []:=by unfold iM;rw [hm];rfl
  have hf:s8 g= []:=by unfold s8;rw [hm];rfl
  rw [he] at hE
  rw [hf]
  (refine Spec.intro (C:=T.cfg [] []) (rs:= [.t 2]) (T.au _ _) Tryz.func33 rfl rfl Tryz.ntmps33 Tryz.results33 (by simp [AObj.isNest]) (by simp [AObj.isNest]) (by kernel_rfl) ?_;intro X hX hP hC aI aJ vals hA;refine ⟨_,by simp,hA, ?_⟩;have af:X.P.follows .mixedOrders=true:=(by rw [hP];exact T.mixed);clear aI aJ)
  repeat' (first|fail|((first|((with_reducible (first|apply oA|apply oB));exact rfl;intro K hK)|(refine hK _ ?_;clear hK K)|((with_reducible (first|apply oG|apply oH));iterate 3 exact rfl)|((with_reducible apply oI);(iterate 2 exact rfl);intro K hK)|(with_reducible (first|apply wI|apply wJ|apply wK)));try simp only [go_sem,simprocAttr])|fail|(with_reducible (first|apply oC|apply oJ|exact oK|apply wA|apply wB|apply wC hX hC|apply wD hX hC|apply wE hX hC af|apply wF hX hC af|apply wG|apply wH|apply And.intro))|((with_reducible refine oD ?_ ?_);first|fail|kernel_rfl)|((with_reducible (first|apply oE|apply oF));(iterate 3 exact rfl);all_goals (intro h;first|(exact absurd h (by decide))|((try simp only [go_sem,simprocAttr] at h);(try with_reducible intro K hK);simp only [go_sem,simprocAttr])))|((first|((with_reducible apply wL);exact rfl)|((with_reducible apply wM);exact rfl));all_goals (try ((with_reducible intro h);first|(exact absurd h (by decide))|(try simp only [go_sem,simprocAttr] at h))))|omega|((first|first|(refine nT hX hC hP 5 (hE) rfl rfl rfl ?_ ?_ (by first|exact ⟨_,_,_,rfl,y9⟩|exact ⟨_,_,_,rfl,za⟩|exact ⟨_,_,_,rfl,zf⟩) rfl (by decide) ?_;(iterate 2 (focus (simp only [go_sem,simprocAttr];done)));simp only [go_sem,simprocAttr]));try simp only [go_sem,simprocAttr])|(intro h))
 |true=>
  have hn:=aV hm
  have he:(iM g).length=g.n.toNat:=by unfold iM;rw [if_pos hm];exact sQ
  have hf:s8 g=DJ g false (fun _=>true):=by unfold s8;rw [if_pos hm]
  have hG:=yH g hm false (fun _=>true) 68 (fun i _=>yJ i) (iM g) (Bb hm)
  have hb:decide ((g.n.toNat:Int)=0)=false:=decide_eq_false (by omega)
  rw [hf]
  generalize iM g=U at hE he hG
  (refine Spec.intro (C:=T.cfg [] []) (rs:= [.t 2]) (T.au _ _) Tryz.func33 rfl rfl Tryz.ntmps33 Tryz.results33 (by simp [AObj.isNest]) (by simp [AObj.isNest]) (by kernel_rfl) ?_;intro X hX hP hC aI aJ vals hA;refine ⟨_,by simp,hA, ?_⟩;have af:X.P.follows .mixedOrders=true:=(by rw [hP];exact T.mixed);clear aI aJ)
  repeat' (first|fail|((first|((with_reducible (first|apply oA|apply oB));exact rfl;intro K hK)|(refine hK _ ?_;clear hK K)|((with_reducible (first|apply oG|apply oH));iterate 3 exact rfl)|((with_reducible apply oI);(iterate 2 exact rfl);intro K hK)|(with_reducible (first|apply wI|apply wJ|apply wK)));try simp only [go_sem,simprocAttr,he,hb])|fail|(with_reducible (first|apply oC|apply oJ|exact oK|apply wA|apply wB|apply wC hX hC|apply wD hX hC|apply wE hX hC af|apply wF hX hC af|apply wG|apply wH|apply And.intro))|((with_reducible refine oD ?_ ?_);first|fail|kernel_rfl)|((with_reducible (first|apply oE|apply oF));(iterate 3 exact rfl);all_goals (intro h;first|(exact absurd h (by decide))|((try simp only [go_sem,simprocAttr,he,hb] at h);(try with_reducible intro K hK);simp only [go_sem,simprocAttr,he,hb])))|((first|((with_reducible apply wL);exact rfl)|((with_reducible apply wM);exact rfl));all_goals (try ((with_reducible intro h);first|(exact absurd h (by decide))|(try simp only [go_sem,simprocAttr,he,hb] at h))))|omega|((first|first|(refine nT hX hC hP 5 (hE) rfl rfl rfl ?_ ?_ (by first|exact ⟨_,_,_,rfl,y9⟩|exact ⟨_,_,_,rfl,za⟩|exact ⟨_,_,_,rfl,zf⟩) rfl (by decide) ?_;(iterate 2 (focus (simp only [go_sem,simprocAttr,he,hb];done)));simp only [go_sem,simprocAttr,he,hb])|(refine aA hX hC hP [(10000,5)] (hG) rfl rfl rfl ?_ ?_ ?_ ?_ ?_ ?_ ?_ ?_ ?_ ?_ ?_ ?_ ?_ ?_;(focus (simp only [go_sem,simprocAttr,he,hb];done));(iterate 12 (focus (simp [go_sem,simprocAttr,he,hb];done)));simp only [go_sem,simprocAttr,he,hb,List.map_cons,List.map_nil]));try simp only [go_sem,simprocAttr,he,hb])|(intro h))
end Go.Ab
end
section
namespace Go.Ab
open Go.Proofs
set_option maxRecDepth 10000
set_option linter.unusedSectionVars false
theorem Gb {G:Gr} {P:PS} {A B:Int→Int} (hm:aM G=true) (hl:G.es.length=P.m) (ht:∀i:Nat,i<P.m→tl G i=A i) (hh:∀i:Nat,i<P.m→hd G i=B i) {x:Nat} {y:Int} :
 P.Lp A B x y↔0≤y∧vt G false (fun _=>true) x y.toNat:=by
 constructor
 ·intro hp
  induction hp with
  |refl=>exact ⟨by omega,by simp only [Int.toNat_natCast];exact .refl⟩
  | @step e _ he ih=>
    have h1:=he.1;have h2:=he.2
    have hi:e.toNat<G.es.length:=by omega
    have e1:=ht e.toNat (by omega)
    have e2:=hh e.toNat (by omega)
    rw [show ((e.toNat:Nat):Int)=e by omega] at e1 e2
    have:=bW hm hi
    rw [← e2]
    refine ⟨this.1, .fwd hi rfl ?_⟩
    rw [e1];exact ih.2
 ·rintro ⟨h0,hr⟩
  have key:∀z,vt G false (fun _=>true) x z→P.Lp A B x (z:Int):=by
   intro z hz
   induction hz with
   |refl=>exact .refl
   | @fwd i hi _ _ ih=>
     have h1:=bJ hm hi
     have h2:=bW hm hi
     rw [show (((tl G i).toNat:Nat):Int)=tl G i by omega,ht i (by omega)] at ih
     rw [show (((hd G i).toNat:Nat):Int)=hd G i by omega,hh i (by omega)]
     exact .step (e:=(i:Int)) ih ⟨by omega,by omega⟩
   |JG _ _ h _ _=>cases h
  have:=key _ hr
  rwa [show ((y.toNat:Nat):Int)=y by omega] at this
theorem Gc {P:PS} {x y:Int} :P.lP x y↔P.Lp P.tl P.hd x y:=by
 constructor<;>intro hp
 ·induction hp with
  |refl=>exact .refl
  |step _ he ih=>exact .step ih he
 ·induction hp with
  |refl=>exact .refl
  |step _ he ih=>exact .step ih he
def kj (s:Nat) (x:Int):Bool:=decide (0≤x)&&decide (x<64)&&s.testBit x.toNat
theorem ql {G:Gr} {P:PS} {A B:Int→Int} (hm:aM G=true) (hl:G.es.length=P.m) (ht:∀i:Nat,i<P.m→tl G i=A i) (hh:∀i:Nat,i<P.m→hd G i=B i) {x y:Int} (hx:0≤x∧x<G.n) (hy:0≤y∧y<G.n):
 kj ((s8 G).getD x.toNat 0) y=true↔P.Lp A B x y:=by
 have hn:=aV hm
 have h1:=Gb hm hl ht hh (x:=x.toNat) (y:=y)
 rw [show ((x.toNat:Nat):Int)=x by omega] at h1
 rw [h1]
 unfold kj s8
 rw [if_pos hm,yE (by omega)]
 simp only [Bool.and_eq_true,decide_eq_true_eq,zR]
 constructor
 ·exact fun h=>⟨hy.1,h.2.2⟩
 ·exact fun h=>⟨⟨hy.1,by omega⟩,by omega,h.2⟩
theorem vu {G:Gr} (hm:aM G=true):(s8 G).length=G.n.toNat:=by
 unfold s8;rw [if_pos hm];exact qk
theorem Dn {G:Gr} (hm:aM G=true) {x:Nat} :(s8 G).getD x 0<18446744073709551616:=by
 have hn:=aV hm
 by_cases hx:x<G.n.toNat
 ·unfold s8
  rw [if_pos hm,yE hx]
  have:JH G false (fun _=>true) x<2 ^ G.n.toNat:=EG
  exact Nat.lt_of_lt_of_le this (Nat.pow_le_pow_right (by decide) (show G.n.toNat≤64 by omega))
 ·rw [List.getD_eq_getElem?_getD,List.getElem?_eq_none (by rw [vu hm];omega)];decide
section
variable {P:PS} (h:P.Ok) {L R:Int→Int} {f0 f1:Int} {low:Int→Int} (F:P.gA L R f0 f1 low)
def Pf (P:PS) (R:Int→Int) (f:Int):Nat→Nat
 |0=>0
 |j+1=>if R (P.sh j)=f then j+1 else Pf P R f j
include h F
end
section
variable (g:Gr) (p:Pl)
def uh:Gr:=⟨(cN g p:Int)+1,(List.range g.es.length).map fun i:Nat=>(Lf g p i,Rf g p i)⟩
end
section
variable {g:Gr} {p:Pl}
theorem qm:(uh g p).es.length=g.es.length:=by simp [uh]
theorem Dp {i:Nat} (hi:i<g.es.length):tl (uh g p) i=Lf g p i:=by
 show ((uh g p).es.getD i (0,0)).1=_
 simp [uh,List.getD_eq_getElem?_getD,List.getElem?_range hi]
theorem Dq {i:Nat} (hi:i<g.es.length):hd (uh g p) i=Rf g p i:=by
 show ((uh g p).es.getD i (0,0)).2=_
 simp [uh,List.getD_eq_getElem?_getD,List.getElem?_range hi]
variable (h:cB g p) (hI:kq g=true)
include h hI
theorem zT (h0:0<g.es.length) (hl:g.es.length≤60):aM (uh g p)=true:=by
 have he:=JE h hI
 have hn:=Ga h hI h0
 unfold aM
 have hn:(uh g p).n=(cN g p:Int)+1:=rfl
 rw [qm,hn]
 simp only [Bool.and_eq_true,decide_eq_true_eq,Bool.not_eq_true',List.any_eq_false]
 refine ⟨⟨⟨by omega,by omega⟩,by omega⟩,fun e hm=> ?_⟩
 obtain ⟨i,hi,rfl⟩:=List.mem_map.1 hm
 have hi:=List.mem_range.1 hi
 have h1:=zQ h hI (e:=(i:Int)) (by omega)
 have h2:=zP h hI (e:=(i:Int)) (by omega)
 simp only [nu,s4,hn,Bool.or_eq_true,decide_eq_true_eq]
 omega
end
end Go.Ab
end
section
namespace Go.Ab
open Go.Proofs
attribute [local congr] ACall.congr
set_option maxRecDepth 10000
set_option maxHeartbeats 16000000
theorem Bc (g:Gr) (hl:g.es.length≤9223372036854775807) (p:Pl) (hp:pI p) (b:Bool) (hr:b=true↔(cq g).1=0∧bE g p):Spec Tryz.prog 47 (Args [eG g,ePl p]) [] (eB (decide ((bN b g p).2.1=0))) []:=by
 have hO:=xu g hl p hp b hr
 generalize bN b g p=R at hO
 (refine Spec.intro (C:=T.cfg [] []) (rs:= [.t 4]) (T.au _ _) Tryz.func47 rfl rfl Tryz.ntmps47 Tryz.results47 (by simp [AObj.isNest]) (by simp [AObj.isNest]) (by kernel_rfl) ?_;intro X hX hP hC aI aJ vals hA;refine ⟨_,by simp,hA, ?_⟩;have af:X.P.follows .mixedOrders=true:=(by rw [hP];exact T.mixed);clear aI aJ)
 repeat' (first|fail|((first|((with_reducible (first|apply oA|apply oB));exact rfl;intro K hK)|(refine hK _ ?_;clear hK K)|((with_reducible (first|apply oG|apply oH));iterate 3 exact rfl)|((with_reducible apply oI);(iterate 2 exact rfl);intro K hK)|(with_reducible (first|apply wI|apply wJ|apply wK)));try simp only [go_sem,simprocAttr])|fail|(with_reducible (first|apply oC|apply oJ|exact oK|apply wA|apply wB|apply wC hX hC|apply wD hX hC|apply wE hX hC af|apply wF hX hC af|apply wG|apply wH|apply And.intro))|((with_reducible refine oD ?_ ?_);first|fail|kernel_rfl)|((with_reducible (first|apply oE|apply oF));(iterate 3 exact rfl);all_goals (intro h;first|(exact absurd h (by decide))|((try simp only [go_sem,simprocAttr] at h);(try with_reducible intro K hK);simp only [go_sem,simprocAttr])))|((first|((with_reducible apply wL);exact rfl)|((with_reducible apply wM);exact rfl));all_goals (try ((with_reducible intro h);first|(exact absurd h (by decide))|(try simp only [go_sem,simprocAttr] at h))))|omega|((first|first|refine aa hX hC hP (hO) rfl rfl rfl (by simp only [go_sem,simprocAttr]) rfl ?_);try simp only [go_sem,simprocAttr])|(intro h))
end Go.Ab
end
section
namespace Go.Ab
open Go.Proofs
attribute [local congr] ACall.congr
set_option maxRecDepth 20000
set_option maxHeartbeats 8000000
theorem pM (g:Gr) (hl:g.es.length≤1000) (p:Pl) (hp:pI p) (b:Bool) (hr:b=true↔(cq g).1=0∧bE g p):
 Spec Tryz.prog 17 (Args [eG g,ePl p]) [] (.tup [fL (DI b g p).1,eN (DI b g p).2]) []:=by
 have hO:=lZ g hl p hp b hr
 have F8:=sx g hl
 by_cases h0:(bN b g p).2.1=0
 rotate_left
 ·have hK:DI b g p=(qj,1):=if_neg fun h=>h0 h.1.1
  have hb0:decide ((bN b g p).2.1=0)=false:=decide_eq_false h0
  rw [hK]
  (refine Spec.intro (C:=T.cfg [] []) (rs:= [.c 4 32, .t 5]) (T.au _ _) Tryz.func17 rfl rfl Tryz.ntmps17 Tryz.results17 (by simp [AObj.isNest]) (by simp [AObj.isNest]) (by kernel_rfl) ?_;intro X hX hP hC aI aJ vals hA;refine ⟨_,by simp,hA, ?_⟩;have af:X.P.follows .mixedOrders=true:=(by rw [hP];exact T.mixed);clear aI aJ)
  repeat' (first|fail|((first|((with_reducible (first|apply oA|apply oB));exact rfl;intro K hK)|(refine hK _ ?_;clear hK K)|((with_reducible (first|apply oG|apply oH));iterate 3 exact rfl)|((with_reducible apply oI);(iterate 2 exact rfl);intro K hK)|(with_reducible (first|apply wI|apply wJ|apply wK)));try simp only [go_sem,simprocAttr,hb0,fL,qj,List.map_nil])|fail|(with_reducible (first|apply oC|apply oJ|exact oK|apply wA|apply wB|apply wC hX hC|apply wD hX hC|apply wE hX hC af|apply wF hX hC af|apply wG|apply wH|apply And.intro))|((with_reducible refine oD ?_ ?_);first|fail|kernel_rfl)|((with_reducible (first|apply oE|apply oF));(iterate 3 exact rfl);all_goals (intro h;first|(exact absurd h (by decide))|((try simp only [go_sem,simprocAttr,hb0,fL,qj,List.map_nil] at h);(try with_reducible intro K hK);simp only [go_sem,simprocAttr,hb0,fL,qj,List.map_nil])))|((first|((with_reducible apply wL);exact rfl)|((with_reducible apply wM);exact rfl));all_goals (try ((with_reducible intro h);first|(exact absurd h (by decide))|(try simp only [go_sem,simprocAttr,hb0,fL,qj,List.map_nil] at h))))|omega|((first|first|refine aa hX hC hP (hO) rfl rfl rfl (by simp only [go_sem,simprocAttr,hb0,fL,qj,List.map_nil]) rfl ?_);try simp only [go_sem,simprocAttr,hb0,fL,qj,List.map_nil])|(intro h))
 obtain ⟨hrun,hR⟩:=tT hr h0
 cases hI:kq g with
 |false=>
  have hK:DI b g p=(qj,1):=if_neg fun h=>by rw [hI] at h;cases h.1.2
  rw [hR] at hO
  simp only at hO
  rw [hI] at F8
  rw [hK]
  (refine Spec.intro (C:=T.cfg [] []) (rs:= [.c 4 32, .t 5]) (T.au _ _) Tryz.func17 rfl rfl Tryz.ntmps17 Tryz.results17 (by simp [AObj.isNest]) (by simp [AObj.isNest]) (by kernel_rfl) ?_;intro X hX hP hC aI aJ vals hA;refine ⟨_,by simp,hA, ?_⟩;have af:X.P.follows .mixedOrders=true:=(by rw [hP];exact T.mixed);clear aI aJ)
  repeat' (first|fail|((first|((with_reducible (first|apply oA|apply oB));exact rfl;intro K hK)|(refine hK _ ?_;clear hK K)|((with_reducible (first|apply oG|apply oH));iterate 3 exact rfl)|((with_reducible apply oI);(iterate 2 exact rfl);intro K hK)|(with_reducible (first|apply wI|apply wJ|apply wK)));try simp only [go_sem,simprocAttr,fL,qj,List.map_nil])|fail|(with_reducible (first|apply oC|apply oJ|exact oK|apply wA|apply wB|apply wC hX hC|apply wD hX hC|apply wE hX hC af|apply wF hX hC af|apply wG|apply wH|apply And.intro))|((with_reducible refine oD ?_ ?_);first|fail|kernel_rfl)|((with_reducible (first|apply oE|apply oF));(iterate 3 exact rfl);all_goals (intro h;first|(exact absurd h (by decide))|((try simp only [go_sem,simprocAttr,fL,qj,List.map_nil] at h);(try with_reducible intro K hK);simp only [go_sem,simprocAttr,fL,qj,List.map_nil])))|((first|((with_reducible apply wL);exact rfl)|((with_reducible apply wM);exact rfl));all_goals (try ((with_reducible intro h);first|(exact absurd h (by decide))|(try simp only [go_sem,simprocAttr,fL,qj,List.map_nil] at h))))|omega|((first|first|refine aa hX hC hP (hO) rfl rfl rfl (by simp only [go_sem,simprocAttr,fL,qj,List.map_nil]) rfl ?_|refine aa hX hC hP (F8) rfl rfl rfl (by simp only [go_sem,simprocAttr,fL,qj,List.map_nil]) rfl ?_);try simp only [go_sem,simprocAttr,fL,qj,List.map_nil])|(intro h))
 |true=>
  by_cases hm:0<g.es.length
  ·have hK:DI b g p=(EE g p,0):=if_pos ⟨⟨h0,hI⟩,hm⟩
   rw [hK]
   exact A7 g p hp hrun hI hm b hr
  ·have hK:DI b g p=(qj,1):=if_neg fun h=>hm h.2
   have ak:decide ((g.es.length:Int)=0)=true:=decide_eq_true (by omega)
   rw [hR] at hO
   simp only at hO
   rw [hI] at F8
   rw [hK]
   (refine Spec.intro (C:=T.cfg [] []) (rs:= [.c 4 32, .t 5]) (T.au _ _) Tryz.func17 rfl rfl Tryz.ntmps17 Tryz.results17 (by simp [AObj.isNest]) (by simp [AObj.isNest]) (by kernel_rfl) ?_;intro X hX hP hC aI aJ vals hA;refine ⟨_,by simp,hA, ?_⟩;have af:X.P.follows .mixedOrders=true:=(by rw [hP];exact T.mixed);clear aI aJ)
   repeat' (first|fail|((first|((with_reducible (first|apply oA|apply oB));exact rfl;intro K hK)|(refine hK _ ?_;clear hK K)|((with_reducible (first|apply oG|apply oH));iterate 3 exact rfl)|((with_reducible apply oI);(iterate 2 exact rfl);intro K hK)|(with_reducible (first|apply wI|apply wJ|apply wK)));try simp only [go_sem,simprocAttr,ak,fL,qj,List.map_nil])|fail|(with_reducible (first|apply oC|apply oJ|exact oK|apply wA|apply wB|apply wC hX hC|apply wD hX hC|apply wE hX hC af|apply wF hX hC af|apply wG|apply wH|apply And.intro))|((with_reducible refine oD ?_ ?_);first|fail|kernel_rfl)|((with_reducible (first|apply oE|apply oF));(iterate 3 exact rfl);all_goals (intro h;first|(exact absurd h (by decide))|((try simp only [go_sem,simprocAttr,ak,fL,qj,List.map_nil] at h);(try with_reducible intro K hK);simp only [go_sem,simprocAttr,ak,fL,qj,List.map_nil])))|((first|((with_reducible apply wL);exact rfl)|((with_reducible apply wM);exact rfl));all_goals (try ((with_reducible intro h);first|(exact absurd h (by decide))|(try simp only [go_sem,simprocAttr,ak,fL,qj,List.map_nil] at h))))|omega|((first|first|refine aa hX hC hP (hO) rfl rfl rfl (by simp only [go_sem,simprocAttr,ak,fL,qj,List.map_nil]) rfl ?_|refine aa hX hC hP (F8) rfl rfl rfl (by simp only [go_sem,simprocAttr,ak,fL,qj,List.map_nil]) rfl ?_);try simp only [go_sem,simprocAttr,ak,fL,qj,List.map_nil])|(intro h))
end Go.Ab
end
section
namespace Go.Ab
open Go.Proofs
attribute [local congr] ACall.congr
set_option maxRecDepth 20000
set_option maxHeartbeats 8000000
def Dr (f:Fc) (k:Nat):List Edge:=(List.range k).map fun i:Nat=>(f.L.getD i 0,f.R.getD i 0)
theorem EJ {f:Fc} {k:Nat} :(Dr f k).length=k:=by simp [Dr]
theorem Ds {f:Fc} {k:Nat} :(Dr f (k+1)).map rE=(Dr f k).map rE++ [rE (f.L.getD k 0,f.R.getD k 0)]:=by simp [Dr,List.range_succ]
theorem xE (f:Fc) (h1:f.L.length≤100000) (h2:f.R.length=f.L.length):Spec Tryz.prog 23 (Args [fL f]) [] (eG ⟨f.lo.length,Dr f f.L.length⟩) []:=by
 have hmin:min (f.L.length:Int) (f.R.length:Int)=f.L.length:=by rw [h2];simp
 (refine Spec.intro (C:=T.cfg [] []) (rs:= [.c 2 24]) (T.au _ _) Tryz.func23 rfl rfl Tryz.ntmps23 Tryz.results23 (by simp [AObj.isNest]) (by simp [AObj.isNest]) (by kernel_rfl) ?_;intro X hX hP hC aI aJ vals hA;refine ⟨_,by simp,hA, ?_⟩;have af:X.P.follows .mixedOrders=true:=(by rw [hP];exact T.mixed);clear aI aJ)
 repeat' (first|fail|((first|((with_reducible (first|apply oA|apply oB));exact rfl;intro K hK)|(refine hK _ ?_;clear hK K)|((with_reducible (first|apply oG|apply oH));iterate 3 exact rfl)|((with_reducible apply oI);(iterate 2 exact rfl);intro K hK)|(with_reducible (first|apply wI|apply wJ|apply wK)));try simp only [go_sem,simprocAttr,fL,hmin])|(show dD _ (.seq (.region 2 _ _) _) _ _;(refine wR hX 3 1 200 (.tip 58 2 []) rfl rfl rfl (by simp only [go_sem,simprocAttr,fL,hmin]) (by decide) (by simp [go_sem,simprocAttr,fL,hmin]) ⟨58,2,by decide, .inr rfl⟩ ?_;simp only [LA.app,ASt.put,ASt.kill,subT,rmk,putM,rml,kl,AV.sub,AV.subs,AObj.sub,List.set_cons_zero,List.set_cons_succ,go_sem,simprocAttr,fL,hmin]))|(with_reducible (first|apply oC|apply oJ|exact oK|apply wA|apply wB|apply wC hX hC|apply wD hX hC|apply wE hX hC af|apply wF hX hC af|apply wG|apply wH|apply And.intro))|((with_reducible refine oD ?_ ?_);first|fail|kernel_rfl)|((with_reducible (first|apply oE|apply oF));(iterate 3 exact rfl);all_goals (intro h;first|(exact absurd h (by decide))|((try simp only [go_sem,simprocAttr,fL,hmin] at h);(try with_reducible intro K hK);simp only [go_sem,simprocAttr,fL,hmin])))|((first|((with_reducible apply wL);exact rfl)|((with_reducible apply wM);exact rfl));all_goals (try ((with_reducible intro h);first|(exact absurd h (by decide))|(try simp only [go_sem,simprocAttr,fL,hmin] at h))))|omega|((first|fail);try simp only [go_sem,simprocAttr,fL,hmin])|(intro h))
 refine an (fun k:Nat=>k≤f.L.length) (fun k=>⟨[(1, .ptr 1 0),(2, .ptr 2 0),(3, .ptr 3 0),(15,eN f.L.length),(16,eN k)], [(1, .box [.d (sI f.L), .d (sI f.R), .d (sI f.lo), .d (sI f.hi)]),(2, .box [eN 0, .nil 58]),(3, .box [eN f.lo.length, .ref 200]),(200, .tip 58 2 ((Dr f k).map rE))]⟩) (fun k=>f.L.length - k) 0 (by omega) ?_ ?_
 ·refine Le.of ?_ ?_<;>simp [go_sem,simprocAttr,fL,hmin,Dr]
 rintro k hk
 rcases Nat.lt_or_ge k f.L.length with hlt|hge
 ·have hb:decide ((k:Int)<(f.L.length:Int))=true:=decide_eq_true (by omega)
  have dn:=Ds (f:=f) (k:=k)
  have Bl:=EJ (f:=f) (k:=k)
  generalize Dr f k=G at dn Bl
  repeat' (first|fail|((first|((with_reducible (first|apply oA|apply oB));exact rfl;intro K hK)|(refine hK _ ?_;clear hK K)|((with_reducible (first|apply oG|apply oH));iterate 3 exact rfl)|((with_reducible apply oI);(iterate 2 exact rfl);intro K hK)|(with_reducible (first|apply wI|apply wJ|apply wK)));try simp only [go_sem,simprocAttr,hb,Bl])|(show dD _ (.region 6 _ _) _ _;(refine iE hX 3 1 33 200 rfl rfl rfl (by first|exact .inl rfl|exact .inr rfl) (by decide) (by decide) ?_;simp only [LA.app,ASt.put,ASt.kill,subT,rmk,putM,rml,kl,AV.sub,AV.subs,AObj.sub,List.set_cons_zero,List.set_cons_succ,go_sem,simprocAttr,hb,Bl]))|(with_reducible (first|apply oC|apply oJ|exact oK|apply wA|apply wB|apply wC hX hC|apply wD hX hC|apply wE hX hC af|apply wF hX hC af|apply wG|apply wH|apply And.intro))|((with_reducible refine oD ?_ ?_);first|fail|kernel_rfl)|((with_reducible (first|apply oE|apply oF));(iterate 3 exact rfl);all_goals (intro h;first|(exact absurd h (by decide))|((try simp only [go_sem,simprocAttr,hb,Bl] at h);(try with_reducible intro K hK);simp only [go_sem,simprocAttr,hb,Bl])))|((first|((with_reducible apply wL);exact rfl)|((with_reducible apply wM);exact rfl));all_goals (try ((with_reducible intro h);first|(exact absurd h (by decide))|(try simp only [go_sem,simprocAttr,hb,Bl] at h))))|omega|((first|fail);try simp only [go_sem,simprocAttr,hb,Bl])|(intro h))
  refine ⟨k+1,by omega, ?_,by omega⟩
  rw [dn]
  refine Le.of ?_ ?_<;>simp [go_sem,simprocAttr,hb,Bl,rE]
 ·have hb:decide ((k:Int)<(f.L.length:Int))=false:=decide_eq_false (by omega)
  obtain rfl:k=f.L.length:=by omega
  repeat' (first|fail|((first|((with_reducible (first|apply oA|apply oB));exact rfl;intro K hK)|(refine hK _ ?_;clear hK K)|((with_reducible (first|apply oG|apply oH));iterate 3 exact rfl)|((with_reducible apply oI);(iterate 2 exact rfl);intro K hK)|(with_reducible (first|apply wI|apply wJ|apply wK)));try simp only [go_sem,simprocAttr,hb])|fail|(with_reducible (first|apply oC|apply oJ|exact oK|apply wA|apply wB|apply wC hX hC|apply wD hX hC|apply wE hX hC af|apply wF hX hC af|apply wG|apply wH|apply And.intro))|((with_reducible refine oD ?_ ?_);first|fail|kernel_rfl)|((with_reducible (first|apply oE|apply oF));(iterate 3 exact rfl);all_goals (intro h;first|(exact absurd h (by decide))|((try simp only [go_sem,simprocAttr,hb] at h);(try with_reducible intro K hK);simp only [go_sem,simprocAttr,hb])))|((first|((with_reducible apply wL);exact rfl)|((with_reducible apply wM);exact rfl));all_goals (try ((with_reducible intro h);first|(exact absurd h (by decide))|(try simp only [go_sem,simprocAttr,hb] at h))))|omega|((first|fail);try simp only [go_sem,simprocAttr,hb])|(intro h))
def xF (b:Bool) (g:Gr) (p:Pl):Bool:= !pS g p&&kq g&&decide ((bN b g p).2.1=0)&&decide (0<(g.es.length:Int))&&decide ((g.es.length:Int)≤60)
theorem vv (g:Gr) (hl:g.es.length≤9223372036854775807) (p:Pl) (hp:zv p) (b:Bool) (hr:b=true↔(cq g).1=0∧bE g p):Spec Tryz.prog 16 (Args [eG g,ePl p]) [] (eB (xF b g p)) []:=by
 have hG:=vm g p hl hp
 cases hB:pS g p with
 |true=>
  rw [hB] at hG
  have ha:xF b g p=false:=by unfold xF;rw [hB];rfl
  rw [ha]
  (refine Spec.intro (C:=T.cfg [] []) (rs:= [.t 4]) (T.au _ _) Tryz.func16 rfl rfl Tryz.ntmps16 Tryz.results16 (by simp [AObj.isNest]) (by simp [AObj.isNest]) (by kernel_rfl) ?_;intro X hX hP hC aI aJ vals hA;refine ⟨_,by simp,hA, ?_⟩;have af:X.P.follows .mixedOrders=true:=(by rw [hP];exact T.mixed);clear aI aJ)
  repeat' (first|fail|((first|((with_reducible (first|apply oA|apply oB));exact rfl;intro K hK)|(refine hK _ ?_;clear hK K)|((with_reducible (first|apply oG|apply oH));iterate 3 exact rfl)|((with_reducible apply oI);(iterate 2 exact rfl);intro K hK)|(with_reducible (first|apply wI|apply wJ|apply wK)));try simp only [go_sem,simprocAttr])|fail|(with_reducible (first|apply oC|apply oJ|exact oK|apply wA|apply wB|apply wC hX hC|apply wD hX hC|apply wE hX hC af|apply wF hX hC af|apply wG|apply wH|apply And.intro))|((with_reducible refine oD ?_ ?_);first|fail|kernel_rfl)|((with_reducible (first|apply oE|apply oF));(iterate 3 exact rfl);all_goals (intro h;first|(exact absurd h (by decide))|((try simp only [go_sem,simprocAttr] at h);(try with_reducible intro K hK);simp only [go_sem,simprocAttr])))|((first|((with_reducible apply wL);exact rfl)|((with_reducible apply wM);exact rfl));all_goals (try ((with_reducible intro h);first|(exact absurd h (by decide))|(try simp only [go_sem,simprocAttr] at h))))|omega|((first|first|refine aa hX hC hP (hG) rfl rfl rfl (by simp only [go_sem,simprocAttr]) rfl ?_);try simp only [go_sem,simprocAttr])|(intro h))
 |false=>
  rw [hB] at hG
  have hI:=yz g (by have:=(zu hB).1;omega)
  have AZ:=Bc g hl p (xw hB) b hr
  have ha:xF b g p=(kq g&&decide ((bN b g p).2.1=0)&&decide (0<(g.es.length:Int))&&decide ((g.es.length:Int)≤60)):=by unfold xF;rw [hB];rfl
  rw [ha]
  cases hi:kq g with
  |false=>
   rw [hi] at hI
   (refine Spec.intro (C:=T.cfg [] []) (rs:= [.t 4]) (T.au _ _) Tryz.func16 rfl rfl Tryz.ntmps16 Tryz.results16 (by simp [AObj.isNest]) (by simp [AObj.isNest]) (by kernel_rfl) ?_;intro X hX hP hC aI aJ vals hA;refine ⟨_,by simp,hA, ?_⟩;have af:X.P.follows .mixedOrders=true:=(by rw [hP];exact T.mixed);clear aI aJ)
   repeat' (first|fail|((first|((with_reducible (first|apply oA|apply oB));exact rfl;intro K hK)|(refine hK _ ?_;clear hK K)|((with_reducible (first|apply oG|apply oH));iterate 3 exact rfl)|((with_reducible apply oI);(iterate 2 exact rfl);intro K hK)|(with_reducible (first|apply wI|apply wJ|apply wK)));try simp only [go_sem,simprocAttr,Bool.false_and])|fail|(with_reducible (first|apply oC|apply oJ|exact oK|apply wA|apply wB|apply wC hX hC|apply wD hX hC|apply wE hX hC af|apply wF hX hC af|apply wG|apply wH|apply And.intro))|((with_reducible refine oD ?_ ?_);first|fail|kernel_rfl)|((with_reducible (first|apply oE|apply oF));(iterate 3 exact rfl);all_goals (intro h;first|(exact absurd h (by decide))|((try simp only [go_sem,simprocAttr,Bool.false_and] at h);(try with_reducible intro K hK);simp only [go_sem,simprocAttr,Bool.false_and])))|((first|((with_reducible apply wL);exact rfl)|((with_reducible apply wM);exact rfl));all_goals (try ((with_reducible intro h);first|(exact absurd h (by decide))|(try simp only [go_sem,simprocAttr,Bool.false_and] at h))))|omega|((first|first|refine aa hX hC hP (hG) rfl rfl rfl (by simp only [go_sem,simprocAttr,Bool.false_and]) rfl ?_|refine aa hX hC hP (hI) rfl rfl rfl (by simp only [go_sem,simprocAttr,Bool.false_and]) rfl ?_);try simp only [go_sem,simprocAttr,Bool.false_and])|(intro h))
  |true=>
   rw [hi] at hI
   cases hd:decide ((bN b g p).2.1=0) with
   |false=>
    rw [hd] at AZ
    (refine Spec.intro (C:=T.cfg [] []) (rs:= [.t 4]) (T.au _ _) Tryz.func16 rfl rfl Tryz.ntmps16 Tryz.results16 (by simp [AObj.isNest]) (by simp [AObj.isNest]) (by kernel_rfl) ?_;intro X hX hP hC aI aJ vals hA;refine ⟨_,by simp,hA, ?_⟩;have af:X.P.follows .mixedOrders=true:=(by rw [hP];exact T.mixed);clear aI aJ)
    repeat' (first|fail|((first|((with_reducible (first|apply oA|apply oB));exact rfl;intro K hK)|(refine hK _ ?_;clear hK K)|((with_reducible (first|apply oG|apply oH));iterate 3 exact rfl)|((with_reducible apply oI);(iterate 2 exact rfl);intro K hK)|(with_reducible (first|apply wI|apply wJ|apply wK)));try simp only [go_sem,simprocAttr,Bool.false_and,Bool.true_and])|fail|(with_reducible (first|apply oC|apply oJ|exact oK|apply wA|apply wB|apply wC hX hC|apply wD hX hC|apply wE hX hC af|apply wF hX hC af|apply wG|apply wH|apply And.intro))|((with_reducible refine oD ?_ ?_);first|fail|kernel_rfl)|((with_reducible (first|apply oE|apply oF));(iterate 3 exact rfl);all_goals (intro h;first|(exact absurd h (by decide))|((try simp only [go_sem,simprocAttr,Bool.false_and,Bool.true_and] at h);(try with_reducible intro K hK);simp only [go_sem,simprocAttr,Bool.false_and,Bool.true_and])))|((first|((with_reducible apply wL);exact rfl)|((with_reducible apply wM);exact rfl));all_goals (try ((with_reducible intro h);first|(exact absurd h (by decide))|(try simp only [go_sem,simprocAttr,Bool.false_and,Bool.true_and] at h))))|omega|((first|first|refine aa hX hC hP (hG) rfl rfl rfl (by simp only [go_sem,simprocAttr,Bool.false_and,Bool.true_and]) rfl ?_|refine aa hX hC hP (hI) rfl rfl rfl (by simp only [go_sem,simprocAttr,Bool.false_and,Bool.true_and]) rfl ?_|refine aa hX hC hP (AZ) rfl rfl rfl (by simp only [go_sem,simprocAttr,Bool.false_and,Bool.true_and]) rfl ?_);try simp only [go_sem,simprocAttr,Bool.false_and,Bool.true_and])|(intro h))
   |true=>
    rw [hd] at AZ
    (refine Spec.intro (C:=T.cfg [] []) (rs:= [.t 4]) (T.au _ _) Tryz.func16 rfl rfl Tryz.ntmps16 Tryz.results16 (by simp [AObj.isNest]) (by simp [AObj.isNest]) (by kernel_rfl) ?_;intro X hX hP hC aI aJ vals hA;refine ⟨_,by simp,hA, ?_⟩;have af:X.P.follows .mixedOrders=true:=(by rw [hP];exact T.mixed);clear aI aJ)
    repeat' (first|fail|((first|((with_reducible (first|apply oA|apply oB));exact rfl;intro K hK)|(refine hK _ ?_;clear hK K)|((with_reducible (first|apply oG|apply oH));iterate 3 exact rfl)|((with_reducible apply oI);(iterate 2 exact rfl);intro K hK)|(with_reducible (first|apply wI|apply wJ|apply wK)));try simp only [go_sem,simprocAttr,Bool.false_and,Bool.true_and])|fail|(with_reducible (first|apply oC|apply oJ|exact oK|apply wA|apply wB|apply wC hX hC|apply wD hX hC|apply wE hX hC af|apply wF hX hC af|apply wG|apply wH|apply And.intro))|((with_reducible refine oD ?_ ?_);first|fail|kernel_rfl)|((with_reducible (first|apply oE|apply oF));(iterate 3 exact rfl);all_goals (intro h;first|(exact absurd h (by decide))|((try simp only [go_sem,simprocAttr,Bool.false_and,Bool.true_and] at h);(try with_reducible intro K hK);simp only [go_sem,simprocAttr,Bool.false_and,Bool.true_and])))|((first|((with_reducible apply wL);exact rfl)|((with_reducible apply wM);exact rfl));all_goals (try ((with_reducible intro h);first|(exact absurd h (by decide))|(try simp only [go_sem,simprocAttr,Bool.false_and,Bool.true_and] at h))))|omega|((first|first|refine aa hX hC hP (hG) rfl rfl rfl (by simp only [go_sem,simprocAttr,Bool.false_and,Bool.true_and]) rfl ?_|refine aa hX hC hP (hI) rfl rfl rfl (by simp only [go_sem,simprocAttr,Bool.false_and,Bool.true_and]) rfl ?_|refine aa hX hC hP (AZ) rfl rfl rfl (by simp only [go_sem,simprocAttr,Bool.false_and,Bool.true_and]) rfl ?_);try simp only [go_sem,simprocAttr,Bool.false_and,Bool.true_and])|(intro h))
    all_goals (simp [*];omega)
theorem Gd {b:Bool} {g:Gr} {p:Pl} (hr:b=true↔(cq g).1=0∧bE g p) (h:xF b g p=true):pS g p=false∧kq g=true∧cB g p∧0<g.es.length∧g.es.length≤60:=by
 simp only [xF,Bool.and_eq_true,Bool.not_eq_true',decide_eq_true_eq] at h
 exact ⟨h.1.1.1.1,h.1.1.1.2,(tT hr h.1.1.2).1,by omega,by omega⟩
theorem Ge {b:Bool} {g:Gr} {p:Pl} (hr:b=true↔(cq g).1=0∧bE g p) (hrun:cB g p) (hI:kq g=true) (h0:0<g.es.length):DI b g p=(⟨arr (Lf g p) g.es.length,arr (Rf g p) g.es.length,EF g p,GA g p⟩,0):=by
 have:DI b g p=(EE g p,0):=if_pos ⟨⟨by rw [sO hr hrun],hI⟩,h0⟩
 rw [this,F9 hrun hI]
theorem EK {g:Gr} {p:Pl} :(⟨((EF g p).length:Nat),Dr ⟨arr (Lf g p) g.es.length,arr (Rf g p) g.es.length,EF g p,GA g p⟩ (arr (Lf g p) g.es.length).length⟩:Gr)=uh g p:=by
 unfold uh Dr
 rw [zN,c8]
 congr 1
 refine List.map_congr_left fun i hi=> ?_
 have hi:=List.mem_range.1 hi
 rw [oX hi,oX hi]
def E6:Gr:=⟨4, [(0,1),(1,3),(0,2),(2,3)]⟩
def Gf:Pl:=⟨[0,1,2,3], [[0,2], [1], [3], []]⟩
theorem Mw:(true=true)↔(cq E6).1=0∧bE E6 Gf:=⟨fun _=>⟨by decide,⟨rfl,by decide,by decide⟩⟩,fun _=>rfl⟩
theorem Mx:DI true E6 Gf=(⟨[0,0,1,1], [1,1,2,2], [0,0,0], [3,3,3]⟩,0):=by
 have:DI true E6 Gf=(EE E6 Gf,0):=if_pos ⟨⟨rfl,by decide⟩,by decide⟩
 rw [this]
 rfl
theorem mc:Spec Tryz.prog 15 (Args []) [] (eB true) []:=by
 have F1:=pM E6 (by decide) Gf ⟨by decide,by decide,by decide⟩ true Mw
 rw [Mx] at F1
 simp only at F1
 have e1:E6.es.map rE= [[.sc (.int .i64 0), .sc (.int .i64 1)], [.sc (.int .i64 1), .sc (.int .i64 3)], [.sc (.int .i64 0), .sc (.int .i64 2)], [.sc (.int .i64 2), .sc (.int .i64 3)]]:=rfl
 have e2:Gf.ord.map rI= [[.sc (.int .i64 0)], [.sc (.int .i64 1)], [.sc (.int .i64 2)], [.sc (.int .i64 3)]]:=rfl
 have e3:vI Gf.outs= [[.sl 1 [[.sc (.int .i64 0)], [.sc (.int .i64 2)]]], [.sl 1 [[.sc (.int .i64 1)]]], [.sl 1 [[.sc (.int .i64 3)]]], [.sl 1 []]]:=rfl
 have e4:E6.n=4:=rfl
 (refine Spec.intro (C:=T.cfg [] []) (rs:= [.t 0]) (T.au _ _) Tryz.func15 rfl rfl Tryz.ntmps15 Tryz.results15 (by simp [AObj.isNest]) (by simp [AObj.isNest]) (by kernel_rfl) ?_;intro X hX hP hC aI aJ vals hA;refine ⟨_,by simp,hA, ?_⟩;have af:X.P.follows .mixedOrders=true:=(by rw [hP];exact T.mixed);clear aI aJ)
 repeat' (first|fail|((first|((with_reducible (first|apply oA|apply oB));exact rfl;intro K hK)|(refine hK _ ?_;clear hK K)|((with_reducible (first|apply oG|apply oH));iterate 3 exact rfl)|((with_reducible apply oI);(iterate 2 exact rfl);intro K hK)|(with_reducible (first|apply wI|apply wJ|apply wK)));try simp only [go_sem,simprocAttr,fL,e1,e2,e3,e4,List.map_cons,List.map_nil,rI,decide_true])|fail|(with_reducible (first|apply oC|apply oJ|exact oK|apply wA|apply wB|apply wC hX hC|apply wD hX hC|apply wE hX hC af|apply wF hX hC af|apply wG|apply wH|apply And.intro))|((with_reducible refine oD ?_ ?_);first|fail|kernel_rfl)|((with_reducible (first|apply oE|apply oF));(iterate 3 exact rfl);all_goals (intro h;first|(exact absurd h (by decide))|((try simp only [go_sem,simprocAttr,fL,e1,e2,e3,e4,List.map_cons,List.map_nil,rI,decide_true] at h);(try with_reducible intro K hK);simp only [go_sem,simprocAttr,fL,e1,e2,e3,e4,List.map_cons,List.map_nil,rI,decide_true])))|((first|((with_reducible apply wL);exact rfl)|((with_reducible apply wM);exact rfl));all_goals (try ((with_reducible intro h);first|(exact absurd h (by decide))|(try simp only [go_sem,simprocAttr,fL,e1,e2,e3,e4,List.map_cons,List.map_nil,rI,decide_true] at h))))|omega|((first|first|(refine bG hX hC hP (F1) rfl rfl rfl ?_ ?_ rfl ?_;iterate 2 (focus (simp only [go_sem,simprocAttr,fL,e1,e2,e3,e4,List.map_cons,List.map_nil,rI,decide_true];done)))|(refine bG hX hC hP (lV [0,0,1,1] [0,0,1,1] (by decide)) rfl rfl rfl ?_ ?_ rfl ?_;iterate 2 (focus (simp only [go_sem,simprocAttr,fL,e1,e2,e3,e4,List.map_cons,List.map_nil,rI,decide_true];done)))|(refine bG hX hC hP (lV [1,1,2,2] [1,1,2,2] (by decide)) rfl rfl rfl ?_ ?_ rfl ?_;iterate 2 (focus (simp only [go_sem,simprocAttr,fL,e1,e2,e3,e4,List.map_cons,List.map_nil,rI,decide_true];done))));try simp only [go_sem,simprocAttr,fL,e1,e2,e3,e4,List.map_cons,List.map_nil,rI,decide_true])|(intro h))
end Go.Ab
end
section
namespace Go.Ab
open Go.Proofs
attribute [local congr] ACall.congr
set_option maxRecDepth 20000
set_option maxHeartbeats 16000000
def vA (a b c d:Bool) (j:Nat):Nat:=(([a,b,c,d].take j).filter id).length
theorem qn {a b c d:Bool} {j:Nat} :vA a b c d j≤4:=by
 refine Nat.le_trans (List.length_filter_le ..) ?_
 rw [List.length_take]
 exact Nat.min_le_right ..
theorem Dt {g:Gr} {p:Pl} (h:cB g p) (hI:kq g=true) (h0:0<g.es.length) (hl:g.es.length≤60) {i k:Nat} (hi:i<g.es.length) (hk:k<g.es.length) (hne:i≠k):
 vA (kj ((s8 g).getD (hd g i).toNat 0) (tl g k)) (kj ((s8 g).getD (hd g k).toNat 0) (tl g i)) (kj ((s8 (uh g p)).getD (Rf g p i).toNat 0) (Lf g p k)) (kj ((s8 (uh g p)).getD (Rf g p k).toNat 0) (Lf g p i)) 4=1:=by
 have hok:=zC h hI
 have F:=k7 h hI
 have hm:=aF h.1
 have hm2:=zT h hI h0 hl
 have hn:(uh g p).n=(cN g p:Int)+1:=rfl
 have ei:(cx g p).E (i:Int):=⟨by omega,by show (i:Int)<(g.es.length:Int);omega⟩
 have ek:(cx g p).E (k:Int):=⟨by omega,by show (k:Int)<(g.es.length:Int);omega⟩
 have ri:=zP h hI (e:=(i:Int)) (by omega)
 have rk:=zP h hI (e:=(k:Int)) (by omega)
 have li:=zQ h hI (e:=(i:Int)) (by omega)
 have lk:=zQ h hI (e:=(k:Int)) (by omega)
 have e1:=ql (P:=cx g p) (A:=(cx g p).tl) (B:=(cx g p).hd) hm rfl (fun _ _=>rfl) (fun _ _=>rfl) (bW hm hi) (bJ hm hk)
 have e2:=ql (P:=cx g p) (A:=(cx g p).tl) (B:=(cx g p).hd) hm rfl (fun _ _=>rfl) (fun _ _=>rfl) (bW hm hk) (bJ hm hi)
 have e3:=ql (P:=cx g p) (A:=Lf g p) (B:=Rf g p) hm2 qm (fun j hj=>Dp hj) (fun j hj=>Dq hj) (x:=Rf g p i) (y:=Lf g p k) (by omega) (by omega)
 have e4:=ql (P:=cx g p) (A:=Lf g p) (B:=Rf g p) hm2 qm (fun j hj=>Dp hj) (fun j hj=>Dq hj) (x:=Rf g p k) (y:=Lf g p i) (by omega) (by omega)
 rw [← Gc] at e1 e2
 have i1:(cx g p).hd (i:Int)=hd g i:=rfl
 have i2:(cx g p).tl (i:Int)=tl g i:=rfl
 have k1:(cx g p).hd (k:Int)=hd g k:=rfl
 have k2:(cx g p).tl (k:Int)=tl g k:=rfl
 have Pg:¬((cx g p).lP (hd g i) (tl g k)∧(cx g p).lP (hd g k) (tl g i)):=fun ⟨a,b⟩=>vH hok F ei ek a b
 have Ph:¬((cx g p).Lp (Lf g p) (Rf g p) (Rf g p i) (Lf g p k)∧(cx g p).Lp (Lf g p) (Rf g p) (Rf g p k) (Lf g p i)):=fun ⟨a,b⟩=>qu hok F ei ek a b
 have Pj:¬((cx g p).lP (hd g i) (tl g k)∧(cx g p).Lp (Lf g p) (Rf g p) (Rf g p i) (Lf g p k)):=fun ⟨a,b⟩=>o4 hok F ei ek a b
 have Pk:¬((cx g p).lP (hd g i) (tl g k)∧(cx g p).Lp (Lf g p) (Rf g p) (Rf g p k) (Lf g p i)):=fun ⟨a,b⟩=>jE hok F ei ek a b
 have Pm:¬((cx g p).lP (hd g k) (tl g i)∧(cx g p).Lp (Lf g p) (Rf g p) (Rf g p i) (Lf g p k)):=fun ⟨a,b⟩=>jE hok F ek ei a b
 have Pn:¬((cx g p).lP (hd g k) (tl g i)∧(cx g p).Lp (Lf g p) (Rf g p) (Rf g p k) (Lf g p i)):=fun ⟨a,b⟩=>o4 hok F ek ei a b
 have cs:(cx g p).lP (hd g i) (tl g k)∨(cx g p).lP (hd g k) (tl g i)∨(cx g p).Lp (Lf g p) (Rf g p) (Rf g p i) (Lf g p k)∨(cx g p).Lp (Lf g p) (Rf g p) (Rf g p k) (Lf g p i):=zZ hok F ei ek (by omega)
 rw [← e1, ← e2] at Pg
 rw [← e3, ← e4] at Ph
 rw [← e1, ← e3] at Pj
 rw [← e1, ← e4] at Pk
 rw [← e2, ← e3] at Pm
 rw [← e2, ← e4] at Pn
 rw [← e1, ← e2, ← e3, ← e4] at cs
 generalize kj ((s8 g).getD (hd g i).toNat 0) (tl g k)=a1 at*
 generalize kj ((s8 g).getD (hd g k).toNat 0) (tl g i)=a2 at*
 generalize kj ((s8 (uh g p)).getD (Rf g p i).toNat 0) (Lf g p k)=a3 at*
 generalize kj ((s8 (uh g p)).getD (Rf g p k).toNat 0) (Lf g p i)=a4 at*
 clear e1 e2 e3 e4
 cases a1<;>cases a2<;>cases a3<;>cases a4<;>simp_all [vA]
theorem s9 (g:Gr) (p:Pl) (hl:g.es.length≤9223372036854775807) (hp:zv p):Spec Tryz.prog 8 (Args [eG g,ePl p]) [] (eB true) []:=by
 obtain ⟨b,hr⟩:=OX g p
 have J4:=vv g hl p hp b hr
 (refine Spec.intro (C:=T.cfg [] []) (rs:= [.t 4]) (T.au _ _) Tryz.func8 rfl rfl Tryz.ntmps8 Tryz.results8 (by simp [AObj.isNest]) (by simp [AObj.isNest]) (by kernel_rfl) ?_;intro X hX hP hC aI aJ vals hA;refine ⟨_,by simp,hA, ?_⟩;have af:X.P.follows .mixedOrders=true:=(by rw [hP];exact T.mixed);clear aI aJ)
 cases ha:xF b g p with
 |false=>
  rw [ha] at J4
  repeat' (first|fail|((first|((with_reducible (first|apply oA|apply oB));exact rfl;intro K hK)|(refine hK _ ?_;clear hK K)|((with_reducible (first|apply oG|apply oH));iterate 3 exact rfl)|((with_reducible apply oI);(iterate 2 exact rfl);intro K hK)|(with_reducible (first|apply wI|apply wJ|apply wK)));try simp only [go_sem,simprocAttr])|fail|(with_reducible (first|apply oC|apply oJ|exact oK|apply wA|apply wB|apply wC hX hC|apply wD hX hC|apply wE hX hC af|apply wF hX hC af|apply wG|apply wH|apply And.intro))|((with_reducible refine oD ?_ ?_);first|fail|kernel_rfl)|((with_reducible (first|apply oE|apply oF));(iterate 3 exact rfl);all_goals (intro h;first|(exact absurd h (by decide))|((try simp only [go_sem,simprocAttr] at h);(try with_reducible intro K hK);simp only [go_sem,simprocAttr])))|((first|((with_reducible apply wL);exact rfl)|((with_reducible apply wM);exact rfl));all_goals (try ((with_reducible intro h);first|(exact absurd h (by decide))|(try simp only [go_sem,simprocAttr] at h))))|omega|((first|first|refine aa hX hC hP (mc) rfl rfl rfl (by simp only [go_sem,simprocAttr]) rfl ?_|refine aa hX hC hP (J4) rfl rfl rfl (by simp only [go_sem,simprocAttr]) rfl ?_);try simp only [go_sem,simprocAttr])|(intro h))
 |true=>
 rw [ha] at J4
 obtain ⟨hB,hI,hrun,h0,Nr⟩:=Gd hr ha
 have hm:=aF hrun.1
 have hn:=aV hm
 have hm2:=zT hrun hI h0 Nr
 have hD:=pM g (by omega) p (xw hB) b hr
 rw [Ge hr hrun hI h0] at hD
 simp only at hD
 have Ns:=xE ⟨arr (Lf g p) g.es.length,arr (Rf g p) g.es.length,EF g p,GA g p⟩ (by simp only [c8];omega) (by simp only [c8])
 simp only [EK] at Ns
 have Po:=ug g hl
 have Pp:=ug (uh g p) (by rw [qm];omega)
 have hone:=fun i k=>Dt (i:=i) (k:=k) hrun hI h0 Nr
 have uj:=vu hm
 have ta:=vu hm2
 have yI:=fun x=>Dn (x:=x) hm
 have JJ:=fun x=>Dn (x:=x) hm2
 have My:=fun (i:Nat) (hi:i<g.es.length)=>zQ hrun hI (e:=(i:Int)) (by omega)
 have Mz:=fun (i:Nat) (hi:i<g.es.length)=>zP hrun hI (e:=(i:Int)) (by omega)
 have MA:=fun (i:Nat) (hi:i<g.es.length)=>oX (f:=Lf g p) hi
 have DN:=fun (i:Nat) (hi:i<g.es.length)=>oX (f:=Rf g p) hi
 have uk:(arr (Lf g p) g.es.length).length=g.es.length:=c8
 have sW:(arr (Rf g p) g.es.length).length=g.es.length:=c8
 have hlo:=zN (g:=g) (p:=p)
 have Nt:(uh g p).n.toNat=cN g p+1:=by show ((cN g p:Int)+1).toNat=_;omega
 rw [Nt] at ta
 clear Nt
 generalize arr (Lf g p) g.es.length=LA at*
 generalize arr (Rf g p) g.es.length=RA at*
 generalize EF g p=lo at*
 generalize GA g p=hi at*
 generalize s8 g=U at*
 generalize s8 (uh g p)=V at*
 generalize cN g p=cn at*
 have Du:decide (((g.n.toNat:Nat):Int)=g.n)=true:=decide_eq_true (by omega)
 repeat' (first|fail|((first|((with_reducible (first|apply oA|apply oB));exact rfl;intro K hK)|(refine hK _ ?_;clear hK K)|((with_reducible (first|apply oG|apply oH));iterate 3 exact rfl)|((with_reducible apply oI);(iterate 2 exact rfl);intro K hK)|(with_reducible (first|apply wI|apply wJ|apply wK)));try simp only [go_sem,simprocAttr,fL,uk,sW,uj,ta,hlo,Du,decide_true,decide_false])|fail|(with_reducible (first|apply oC|apply oJ|exact oK|apply wA|apply wB|apply wC hX hC|apply wD hX hC|apply wE hX hC af|apply wF hX hC af|apply wG|apply wH|apply And.intro))|((with_reducible refine oD ?_ ?_);first|fail|kernel_rfl)|((with_reducible (first|apply oE|apply oF));(iterate 3 exact rfl);all_goals (intro h;first|(exact absurd h (by decide))|((try simp only [go_sem,simprocAttr,fL,uk,sW,uj,ta,hlo,Du,decide_true,decide_false] at h);(try with_reducible intro K hK);simp only [go_sem,simprocAttr,fL,uk,sW,uj,ta,hlo,Du,decide_true,decide_false])))|((first|((with_reducible apply wL);exact rfl)|((with_reducible apply wM);exact rfl));all_goals (try ((with_reducible intro h);first|(exact absurd h (by decide))|(try simp only [go_sem,simprocAttr,fL,uk,sW,uj,ta,hlo,Du,decide_true,decide_false] at h))))|omega|((first|first|refine aa hX hC hP (mc) rfl rfl rfl (by simp only [go_sem,simprocAttr,fL,uk,sW,uj,ta,hlo,Du,decide_true,decide_false]) rfl ?_|refine aa hX hC hP (J4) rfl rfl rfl (by simp only [go_sem,simprocAttr,fL,uk,sW,uj,ta,hlo,Du,decide_true,decide_false]) rfl ?_|refine aa hX hC hP (hD) rfl rfl rfl (by simp only [go_sem,simprocAttr,fL,uk,sW,uj,ta,hlo,Du,decide_true,decide_false]) rfl ?_|refine aa hX hC hP (Ns) rfl rfl rfl (by simp only [go_sem,simprocAttr,fL,uk,sW,uj,ta,hlo,Du,decide_true,decide_false]) rfl ?_|refine aa hX hC hP (Po) rfl rfl rfl (by simp only [go_sem,simprocAttr,fL,uk,sW,uj,ta,hlo,Du,decide_true,decide_false]) rfl ?_|refine aa hX hC hP (Pp) rfl rfl rfl (by simp only [go_sem,simprocAttr,fL,uk,sW,uj,ta,hlo,Du,decide_true,decide_false]) rfl ?_);try simp only [go_sem,simprocAttr,fL,uk,sW,uj,ta,hlo,Du,decide_true,decide_false])|(intro h))
 refine an (fun i:Nat=>i≤g.es.length) (fun i=>⟨[(2, .ptr 2 0),(3, .ptr 3 0),(5, .ptr 5 0),(7, .d (sU U)),(8, .d (sU V)),(67, .d (sE g.es)),(68,eN g.es.length),(69,eN i)], [(2, .box [eN g.n, .d (sE g.es)]),(3, .box [.d (sI p.ord), .d (.sl 1 (vI p.outs))]),(5, .box [.d (sI LA), .d (sI RA), .d (sI lo), .d (sI hi)])]⟩) (fun i=>g.es.length - i) 0 (by omega) ?_ ?_
 ·refine Le.of ?_ ?_<;>simp [go_sem,simprocAttr]
 rintro i hi1
 rcases Nat.lt_or_ge i g.es.length with hil|JX
 rotate_left
 ·have mN:decide ((i:Int)<(g.es.length:Int))=false:=decide_eq_false (by omega)
  repeat' (first|fail|((first|((with_reducible (first|apply oA|apply oB));exact rfl;intro K hK)|(refine hK _ ?_;clear hK K)|((with_reducible (first|apply oG|apply oH));iterate 3 exact rfl)|((with_reducible apply oI);(iterate 2 exact rfl);intro K hK)|(with_reducible (first|apply wI|apply wJ|apply wK)));try simp only [go_sem,simprocAttr,mN])|fail|(with_reducible (first|apply oC|apply oJ|exact oK|apply wA|apply wB|apply wC hX hC|apply wD hX hC|apply wE hX hC af|apply wF hX hC af|apply wG|apply wH|apply And.intro))|((with_reducible refine oD ?_ ?_);first|fail|kernel_rfl)|((with_reducible (first|apply oE|apply oF));(iterate 3 exact rfl);all_goals (intro h;first|(exact absurd h (by decide))|((try simp only [go_sem,simprocAttr,mN] at h);(try with_reducible intro K hK);simp only [go_sem,simprocAttr,mN])))|((first|((with_reducible apply wL);exact rfl)|((with_reducible apply wM);exact rfl));all_goals (try ((with_reducible intro h);first|(exact absurd h (by decide))|(try simp only [go_sem,simprocAttr,mN] at h))))|omega|((first|fail);try simp only [go_sem,simprocAttr,mN])|(intro h))
 have mN:decide ((i:Int)<(g.es.length:Int))=true:=decide_eq_true (by omega)
 repeat' (first|fail|((first|((with_reducible (first|apply oA|apply oB));exact rfl;intro K hK)|(refine hK _ ?_;clear hK K)|((with_reducible (first|apply oG|apply oH));iterate 3 exact rfl)|((with_reducible apply oI);(iterate 2 exact rfl);intro K hK)|(with_reducible (first|apply wI|apply wJ|apply wK)));try simp only [go_sem,simprocAttr,mN])|fail|(with_reducible (first|apply oC|apply oJ|exact oK|apply wA|apply wB|apply wC hX hC|apply wD hX hC|apply wE hX hC af|apply wF hX hC af|apply wG|apply wH|apply And.intro))|((with_reducible refine oD ?_ ?_);first|fail|kernel_rfl)|((with_reducible (first|apply oE|apply oF));(iterate 3 exact rfl);all_goals (intro h;first|(exact absurd h (by decide))|((try simp only [go_sem,simprocAttr,mN] at h);(try with_reducible intro K hK);simp only [go_sem,simprocAttr,mN])))|((first|((with_reducible apply wL);exact rfl)|((with_reducible apply wM);exact rfl));all_goals (try ((with_reducible intro h);first|(exact absurd h (by decide))|(try simp only [go_sem,simprocAttr,mN] at h))))|omega|((first|fail);try simp only [go_sem,simprocAttr,mN])|(intro h))
 refine an (fun k:Nat=>k≤g.es.length) (fun k=>⟨[(2, .ptr 2 0),(3, .ptr 3 0),(5, .ptr 5 0),(7, .d (sU U)),(8, .d (sU V)),(9,eN i),(10, .ptr 10 0),(67, .d (sE g.es)),(68,eN g.es.length),(69,eN i),(75, .d (sE g.es)),(76,eN g.es.length),(77,eN k)], [(2, .box [eN g.n, .d (sE g.es)]),(3, .box [.d (sI p.ord), .d (.sl 1 (vI p.outs))]),(5, .box [.d (sI LA), .d (sI RA), .d (sI lo), .d (sI hi)]),(10, .box [eN (g.es.getD i (0,0)).1,eN (g.es.getD i (0,0)).2])]⟩) (fun k=>g.es.length - k) 0 (by omega) ?_ ?_
 ·refine Le.of ?_ ?_<;>simp [go_sem,simprocAttr]
 rintro k xI
 rcases Nat.lt_or_ge k g.es.length with cj|Fo
 rotate_left
 ·have cD:decide ((k:Int)<(g.es.length:Int))=false:=decide_eq_false (by omega)
  repeat' (first|fail|((first|((with_reducible (first|apply oA|apply oB));exact rfl;intro K hK)|(refine hK _ ?_;clear hK K)|((with_reducible (first|apply oG|apply oH));iterate 3 exact rfl)|((with_reducible apply oI);(iterate 2 exact rfl);intro K hK)|(with_reducible (first|apply wI|apply wJ|apply wK)));try simp only [go_sem,simprocAttr,cD])|fail|(with_reducible (first|apply oC|apply oJ|exact oK|apply wA|apply wB|apply wC hX hC|apply wD hX hC|apply wE hX hC af|apply wF hX hC af|apply wG|apply wH|apply And.intro))|((with_reducible refine oD ?_ ?_);first|fail|kernel_rfl)|((with_reducible (first|apply oE|apply oF));(iterate 3 exact rfl);all_goals (intro h;first|(exact absurd h (by decide))|((try simp only [go_sem,simprocAttr,cD] at h);(try with_reducible intro K hK);simp only [go_sem,simprocAttr,cD])))|((first|((with_reducible apply wL);exact rfl)|((with_reducible apply wM);exact rfl));all_goals (try ((with_reducible intro h);first|(exact absurd h (by decide))|(try simp only [go_sem,simprocAttr,cD] at h))))|omega|((first|fail);try simp only [go_sem,simprocAttr,cD])|(intro h))
  refine ⟨i+1,by omega, ?_,by omega⟩
  refine Le.of ?_ ?_<;>simp [go_sem,simprocAttr,cD]
 have cD:decide ((k:Int)<(g.es.length:Int))=true:=decide_eq_true (by omega)
 by_cases hik:i=k
 ·subst hik
  repeat' (first|fail|((first|((with_reducible (first|apply oA|apply oB));exact rfl;intro K hK)|(refine hK _ ?_;clear hK K)|((with_reducible (first|apply oG|apply oH));iterate 3 exact rfl)|((with_reducible apply oI);(iterate 2 exact rfl);intro K hK)|(with_reducible (first|apply wI|apply wJ|apply wK)));try simp only [go_sem,simprocAttr,cD,decide_true])|fail|(with_reducible (first|apply oC|apply oJ|exact oK|apply wA|apply wB|apply wC hX hC|apply wD hX hC|apply wE hX hC af|apply wF hX hC af|apply wG|apply wH|apply And.intro))|((with_reducible refine oD ?_ ?_);first|fail|kernel_rfl)|((with_reducible (first|apply oE|apply oF));(iterate 3 exact rfl);all_goals (intro h;first|(exact absurd h (by decide))|((try simp only [go_sem,simprocAttr,cD,decide_true] at h);(try with_reducible intro K hK);simp only [go_sem,simprocAttr,cD,decide_true])))|((first|((with_reducible apply wL);exact rfl)|((with_reducible apply wM);exact rfl));all_goals (try ((with_reducible intro h);first|(exact absurd h (by decide))|(try simp only [go_sem,simprocAttr,cD,decide_true] at h))))|omega|((first|fail);try simp only [go_sem,simprocAttr,cD,decide_true])|(intro h))
  refine ⟨i+1,by omega, ?_,by omega⟩
  refine Le.of ?_ ?_<;>simp [go_sem,simprocAttr,cD,decide_true]
 have yl:decide ((i:Int)=(k:Int))=false:=decide_eq_false (by omega)
 have hone:=hone i k hil cj hik
 have r1:=Mz i hil
 have r2:=Mz k cj
 have l1:=My i hil
 have l2:=My k cj
 have a1:=DN i hil
 have a2:=DN k cj
 have a3:=MA i hil
 have a4:=MA k cj
 obtain ⟨t1,t2⟩:=dJ hm hil
 obtain ⟨t3,t4⟩:=dJ hm cj
 have e1:hd g i=(g.es.getD i (0,0)).2:=rfl
 have e2:tl g i=(g.es.getD i (0,0)).1:=rfl
 have e3:hd g k=(g.es.getD k (0,0)).2:=rfl
 have e4:tl g k=(g.es.getD k (0,0)).1:=rfl
 rw [e1,e2,e3,e4, ← a1, ← a2, ← a3, ← a4] at hone
 rw [← a1] at r1
 rw [← a2] at r2
 rw [← a3] at l1
 rw [← a4] at l2
 generalize g.es.getD i (0,0)=A at*
 generalize hge:g.es.getD k (0,0)=B at*
 clear e1 e2 e3 e4 a1 a2 a3 a4 MA DN My Mz
 obtain ⟨J5,Nu⟩:=A
 obtain ⟨MB,Nv⟩:=B
 simp only at t1 t2 t3 t4 hone
 obtain ⟨ri,mq⟩:∃n:Nat,RA.getD i 0=n:=⟨(RA.getD i 0).toNat,by omega⟩
 obtain ⟨rk,wo⟩:∃n:Nat,RA.getD k 0=n:=⟨(RA.getD k 0).toNat,by omega⟩
 obtain ⟨ah,rfl⟩:∃n:Nat,Nu=n:=⟨Nu.toNat,by omega⟩
 obtain ⟨bh,rfl⟩:∃n:Nat,Nv=n:=⟨Nv.toNat,by omega⟩
 rw [mq] at r1
 rw [wo] at r2
 simp only [mq,wo,Int.toNat_natCast] at hone
 have H1:Spec Tryz.prog 34 (Args [eU (U.getD ah 0),eN MB]) [] (eB (kj (U.getD ah 0) MB)) []:=lJ _ (yI _) _
 have H2:Spec Tryz.prog 34 (Args [eU (U.getD bh 0),eN J5]) [] (eB (kj (U.getD bh 0) J5)) []:=lJ _ (yI _) _
 have H3:Spec Tryz.prog 34 (Args [eU (V.getD ri 0),eN (LA.getD k 0)]) [] (eB (kj (V.getD ri 0) (LA.getD k 0))) []:=lJ _ (JJ _) _
 have H4:Spec Tryz.prog 34 (Args [eU (V.getD rk 0),eN (LA.getD i 0)]) [] (eB (kj (V.getD rk 0) (LA.getD i 0))) []:=lJ _ (JJ _) _
 generalize kj (U.getD ah 0) MB=d1 at*
 generalize kj (U.getD bh 0) J5=d2 at*
 generalize kj (V.getD ri 0) (LA.getD k 0)=d3 at*
 generalize kj (V.getD rk 0) (LA.getD i 0)=d4 at*
 have g1:decide ((ri:Int)<0)=false:=decide_eq_false (by omega)
 have g2:decide ((cn+1:Nat)≤(ri:Int))=false:=decide_eq_false (by omega)
 have g3:decide ((rk:Int)<0)=false:=decide_eq_false (by omega)
 have g4:decide ((cn+1:Nat)≤(rk:Int))=false:=decide_eq_false (by omega)
 repeat' (first|fail|((first|((with_reducible (first|apply oA|apply oB));exact rfl;intro K hK)|(refine hK _ ?_;clear hK K)|((with_reducible (first|apply oG|apply oH));iterate 3 exact rfl)|((with_reducible apply oI);(iterate 2 exact rfl);intro K hK)|(with_reducible (first|apply wI|apply wJ|apply wK)));try simp only [go_sem,simprocAttr,hge,cD,yl,mq,wo,g1,g2,g3,g4,uk,sW,uj,ta])|fail|(with_reducible (first|apply oC|apply oJ|exact oK|apply wA|apply wB|apply wC hX hC|apply wD hX hC|apply wE hX hC af|apply wF hX hC af|apply wG|apply wH|apply And.intro))|((with_reducible refine oD ?_ ?_);first|fail|kernel_rfl)|((with_reducible (first|apply oE|apply oF));(iterate 3 exact rfl);all_goals (intro h;first|(exact absurd h (by decide))|((try simp only [go_sem,simprocAttr,hge,cD,yl,mq,wo,g1,g2,g3,g4,uk,sW,uj,ta] at h);(try with_reducible intro K hK);simp only [go_sem,simprocAttr,hge,cD,yl,mq,wo,g1,g2,g3,g4,uk,sW,uj,ta])))|((first|((with_reducible apply wL);exact rfl)|((with_reducible apply wM);exact rfl));all_goals (try ((with_reducible intro h);first|(exact absurd h (by decide))|(try simp only [go_sem,simprocAttr,hge,cD,yl,mq,wo,g1,g2,g3,g4,uk,sW,uj,ta] at h))))|omega|((first|first|refine aa hX hC hP (H1) rfl rfl rfl (by simp only [go_sem,simprocAttr,hge,cD,yl,mq,wo,g1,g2,g3,g4,uk,sW,uj,ta]) rfl ?_|refine aa hX hC hP (H2) rfl rfl rfl (by simp only [go_sem,simprocAttr,hge,cD,yl,mq,wo,g1,g2,g3,g4,uk,sW,uj,ta]) rfl ?_|refine aa hX hC hP (H3) rfl rfl rfl (by simp only [go_sem,simprocAttr,hge,cD,yl,mq,wo,g1,g2,g3,g4,uk,sW,uj,ta]) rfl ?_|refine aa hX hC hP (H4) rfl rfl rfl (by simp only [go_sem,simprocAttr,hge,cD,yl,mq,wo,g1,g2,g3,g4,uk,sW,uj,ta]) rfl ?_);try simp only [go_sem,simprocAttr,hge,cD,yl,mq,wo,g1,g2,g3,g4,uk,sW,uj,ta])|(intro h))
 refine an (fun j:Nat=>j≤4) (fun j=>⟨[(2, .ptr 2 0),(3, .ptr 3 0),(5, .ptr 5 0),(7, .d (sU U)),(8, .d (sU V)),(9,eN i),(10, .ptr 10 0),(67, .d (sE g.es)),(68,eN g.es.length),(69,eN i),(75, .d (sE g.es)),(76,eN g.es.length),(77,eN k),(13,eN (vA d1 d2 d3 d4 j)),(163, .agg [eB d1,eB d2,eB d3,eB d4]),(164,eN j)], [(2, .box [eN g.n, .d (sE g.es)]),(3, .box [.d (sI p.ord), .d (.sl 1 (vI p.outs))]),(5, .box [.d (sI LA), .d (sI RA), .d (sI lo), .d (sI hi)]),(10, .box [eN J5,eN (ah:Int)])]⟩) (fun j=>4 - j) 0 (by omega) ?_ ?_
 ·refine Le.of ?_ ?_<;>simp [go_sem,simprocAttr,vA]
 rintro j hj
 match j,hj with
 |0,_=>
  have hcb:=qn (a:=d1) (b:=d2) (c:=d3) (d:=d4) (j:=0)
  repeat' (first|fail|((first|((with_reducible (first|apply oA|apply oB));exact rfl;intro K hK)|(refine hK _ ?_;clear hK K)|((with_reducible (first|apply oG|apply oH));iterate 3 exact rfl)|((with_reducible apply oI);(iterate 2 exact rfl);intro K hK)|(with_reducible (first|apply wI|apply wJ|apply wK)));try simp only [go_sem,simprocAttr])|fail|(with_reducible (first|apply oC|apply oJ|exact oK|apply wA|apply wB|apply wC hX hC|apply wD hX hC|apply wE hX hC af|apply wF hX hC af|apply wG|apply wH|apply And.intro))|((with_reducible refine oD ?_ ?_);first|fail|kernel_rfl)|((with_reducible (first|apply oE|apply oF));(iterate 3 exact rfl);all_goals (intro h;first|(exact absurd h (by decide))|((try simp only [go_sem,simprocAttr] at h);(try with_reducible intro K hK);simp only [go_sem,simprocAttr])))|((first|((with_reducible apply wL);exact rfl)|((with_reducible apply wM);exact rfl));all_goals (try ((with_reducible intro h);first|(exact absurd h (by decide))|(try simp only [go_sem,simprocAttr] at h))))|omega|((first|fail);try simp only [go_sem,simprocAttr])|(intro h))
  all_goals (refine ⟨1,by omega, ?_,by omega⟩)
  all_goals (refine Le.of ?_ ?_<;>simp [go_sem,simprocAttr,vA, *])
 |1,_=>
  have hcb:=qn (a:=d1) (b:=d2) (c:=d3) (d:=d4) (j:=1)
  repeat' (first|fail|((first|((with_reducible (first|apply oA|apply oB));exact rfl;intro K hK)|(refine hK _ ?_;clear hK K)|((with_reducible (first|apply oG|apply oH));iterate 3 exact rfl)|((with_reducible apply oI);(iterate 2 exact rfl);intro K hK)|(with_reducible (first|apply wI|apply wJ|apply wK)));try simp only [go_sem,simprocAttr])|fail|(with_reducible (first|apply oC|apply oJ|exact oK|apply wA|apply wB|apply wC hX hC|apply wD hX hC|apply wE hX hC af|apply wF hX hC af|apply wG|apply wH|apply And.intro))|((with_reducible refine oD ?_ ?_);first|fail|kernel_rfl)|((with_reducible (first|apply oE|apply oF));(iterate 3 exact rfl);all_goals (intro h;first|(exact absurd h (by decide))|((try simp only [go_sem,simprocAttr] at h);(try with_reducible intro K hK);simp only [go_sem,simprocAttr])))|((first|((with_reducible apply wL);exact rfl)|((with_reducible apply wM);exact rfl));all_goals (try ((with_reducible intro h);first|(exact absurd h (by decide))|(try simp only [go_sem,simprocAttr] at h))))|omega|((first|fail);try simp only [go_sem,simprocAttr])|(intro h))
  all_goals (refine ⟨2,by omega, ?_,by omega⟩)
  all_goals (refine Le.of ?_ ?_<;>cases d1<;>simp [go_sem,simprocAttr,vA, *])
 |2,_=>
  have hcb:=qn (a:=d1) (b:=d2) (c:=d3) (d:=d4) (j:=2)
  repeat' (first|fail|((first|((with_reducible (first|apply oA|apply oB));exact rfl;intro K hK)|(refine hK _ ?_;clear hK K)|((with_reducible (first|apply oG|apply oH));iterate 3 exact rfl)|((with_reducible apply oI);(iterate 2 exact rfl);intro K hK)|(with_reducible (first|apply wI|apply wJ|apply wK)));try simp only [go_sem,simprocAttr])|fail|(with_reducible (first|apply oC|apply oJ|exact oK|apply wA|apply wB|apply wC hX hC|apply wD hX hC|apply wE hX hC af|apply wF hX hC af|apply wG|apply wH|apply And.intro))|((with_reducible refine oD ?_ ?_);first|fail|kernel_rfl)|((with_reducible (first|apply oE|apply oF));(iterate 3 exact rfl);all_goals (intro h;first|(exact absurd h (by decide))|((try simp only [go_sem,simprocAttr] at h);(try with_reducible intro K hK);simp only [go_sem,simprocAttr])))|((first|((with_reducible apply wL);exact rfl)|((with_reducible apply wM);exact rfl));all_goals (try ((with_reducible intro h);first|(exact absurd h (by decide))|(try simp only [go_sem,simprocAttr] at h))))|omega|((first|fail);try simp only [go_sem,simprocAttr])|(intro h))
  all_goals (refine ⟨3,by omega, ?_,by omega⟩)
  all_goals (refine Le.of ?_ ?_<;>cases d1<;>cases d2<;>simp [go_sem,simprocAttr,vA, *])
 |3,_=>
  have hcb:=qn (a:=d1) (b:=d2) (c:=d3) (d:=d4) (j:=3)
  repeat' (first|fail|((first|((with_reducible (first|apply oA|apply oB));exact rfl;intro K hK)|(refine hK _ ?_;clear hK K)|((with_reducible (first|apply oG|apply oH));iterate 3 exact rfl)|((with_reducible apply oI);(iterate 2 exact rfl);intro K hK)|(with_reducible (first|apply wI|apply wJ|apply wK)));try simp only [go_sem,simprocAttr])|fail|(with_reducible (first|apply oC|apply oJ|exact oK|apply wA|apply wB|apply wC hX hC|apply wD hX hC|apply wE hX hC af|apply wF hX hC af|apply wG|apply wH|apply And.intro))|((with_reducible refine oD ?_ ?_);first|fail|kernel_rfl)|((with_reducible (first|apply oE|apply oF));(iterate 3 exact rfl);all_goals (intro h;first|(exact absurd h (by decide))|((try simp only [go_sem,simprocAttr] at h);(try with_reducible intro K hK);simp only [go_sem,simprocAttr])))|((first|((with_reducible apply wL);exact rfl)|((with_reducible apply wM);exact rfl));all_goals (try ((with_reducible intro h);first|(exact absurd h (by decide))|(try simp only [go_sem,simprocAttr] at h))))|omega|((first|fail);try simp only [go_sem,simprocAttr])|(intro h))
  all_goals (refine ⟨4,by omega, ?_,by omega⟩)
  all_goals (refine Le.of ?_ ?_<;>cases d1<;>cases d2<;>cases d3<;>simp [go_sem,simprocAttr,vA, *])
 |4,_=>
  rw [hone]
  repeat' (first|fail|((first|((with_reducible (first|apply oA|apply oB));exact rfl;intro K hK)|(refine hK _ ?_;clear hK K)|((with_reducible (first|apply oG|apply oH));iterate 3 exact rfl)|((with_reducible apply oI);(iterate 2 exact rfl);intro K hK)|(with_reducible (first|apply wI|apply wJ|apply wK)));try simp only [go_sem,simprocAttr])|fail|(with_reducible (first|apply oC|apply oJ|exact oK|apply wA|apply wB|apply wC hX hC|apply wD hX hC|apply wE hX hC af|apply wF hX hC af|apply wG|apply wH|apply And.intro))|((with_reducible refine oD ?_ ?_);first|fail|kernel_rfl)|((with_reducible (first|apply oE|apply oF));(iterate 3 exact rfl);all_goals (intro h;first|(exact absurd h (by decide))|((try simp only [go_sem,simprocAttr] at h);(try with_reducible intro K hK);simp only [go_sem,simprocAttr])))|((first|((with_reducible apply wL);exact rfl)|((with_reducible apply wM);exact rfl));all_goals (try ((with_reducible intro h);first|(exact absurd h (by decide))|(try simp only [go_sem,simprocAttr] at h))))|omega|((first|fail);try simp only [go_sem,simprocAttr])|(intro h))
  refine ⟨k+1,by omega, ?_,by omega⟩
  refine Le.of ?_ ?_<;>simp [go_sem,simprocAttr]
end Go.Ab
end
