/- A part of the proof. -/
import Derived.Test.YtjmaiddbinlooaaGreatL4P15
set_option linter.unusedSimpArgs false
set_option linter.unusedVariables false
section
namespace Go.Ab
open Go.Proofs
set_option maxRecDepth 10000
set_option linter.unusedSectionVars false
def arr (f:Int→Int) (m:Nat):List Int:=(List.range m).map fun i:Nat=>f (i:Int)
theorem dx {f:Int→Int} {m:Nat} :(arr f m).length=m:=by simp [arr]
theorem oc {f:Int→Int} {m i:Nat} (h:i<m):(arr f m).getD i 0=f (i:Int):=by
 simp [arr,List.getD_eq_getElem?_getD,List.getElem?_range h]
theorem Cg {l m:List Int} (hl:l.length=m.length) (h:∀i,i<l.length→l.getD i 0=m.getD i 0):l=m:=by
 refine List.ext_getElem? fun i=> ?_
 by_cases hi:i<l.length
 ·have:=h i hi
  rw [List.getD_eq_getElem?_getD,List.getD_eq_getElem?_getD,List.getElem?_eq_getElem hi,List.getElem?_eq_getElem (by omega)] at this
  rw [List.getElem?_eq_getElem hi,List.getElem?_eq_getElem (by omega)]
  simpa using this
 ·rw [List.getElem?_eq_none (by omega),List.getElem?_eq_none (by omega)]
theorem nr {u v:List Int} {e:Int} :(u++e::v).getD u.length 0=e:=by
 rw [List.getD_eq_getElem?_getD,List.getElem?_append_right (Nat.le_refl _)];simp
section
variable {g:Gr} {p:Pl} (h:bR g p)
include h
theorem iE {k:Nat} (hk:k<g.n.toNat) {e:Int} (he:e∈bD p (au p k)):(0≤e∧e<g.es.length)∧pn g e=au p k:=by
 have hx:=aK h.2.1 hk
 exact cx.1 ((bN h.2.1 hx.1 hx.2).mem_iff.1 he)
theorem Ch {k:Nat} (hk:k<g.n.toNat):(bD p (au p k)).Nodup:=by
 have hx:=aK h.2.1 hk
 exact (bN h.2.1 hx.1 hx.2).nodup_iff.2 cM
theorem yE {k:Nat} (hk:k<g.n.toNat) {e:Int} (he:0≤e∧e<g.es.length) (ht:pn g e=au p k):∃u v,bD p (au p k)=u++e::v:=by
 have hx:=aK h.2.1 hk
 exact List.append_of_mem ((bN h.2.1 hx.1 hx.2).mem_iff.2 (cx.2 ⟨he,ht⟩))
theorem s7 {k:Nat} (hk:k<g.n.toNat) {f F F':Int→Int} {v:Nat→Int} (hin:∀u w e,bD p (au p k)=u++e::w→F' e=v u.length) (hout:∀e:Int,pn g e≠au p k→F' e=F e):
 jw (arr F g.es.length) (bD p (au p k)) v (bD p (au p k)).length=arr F' g.es.length:=by
 refine Cg (by rw [fP,dx,dx]) fun i hi=> ?_
 rw [fP,dx] at hi
 rw [oc hi]
 by_cases ht:pn g (i:Int)=au p k
 ·obtain ⟨u,w,Ci⟩:=yE h hk (e:=(i:Int)) (by omega) ht
  have e1:(bD p (au p k)).getD u.length 0=(i:Int):=by rw [Ci];exact nr
  have:=we (A:=arr F g.es.length) (o:=bD p (au p k)) (f:=v) (i:=u.length) (by rw [e1,dx];simpa using hi) (j:=(bD p (au p k)).length) (by rw [Ci];simp) fun q hq e2=>by
   rw [e1,Int.toNat_natCast] at e2
   have h2:=iE h hk (bf (d:=0) hq)
   have h3:(bD p (au p k)).getD q 0=(i:Int):=by omega
   have cl:=Ch h hk
   have:(bD p (au p k))[q]'hq=(bD p (au p k))[u.length]'(by rw [Ci];simp):=by
    rw [List.getD_eq_getElem?_getD,List.getElem?_eq_getElem hq] at h3
    rw [List.getD_eq_getElem?_getD,List.getElem?_eq_getElem (by rw [Ci];simp)] at e1
    simp only [Option.getD_some] at h3 e1
    rw [h3,e1]
   exact (List.getElem_inj cl).1 this
  rw [e1,Int.toNat_natCast] at this
  rw [this,hin u w (i:Int) Ci]
 ·rw [s5 fun q hq e2=> ?_,oc hi,hout _ ht]
  have h2:=iE h hk (bf (d:=0) hq)
  exact ht (by rw [← h2.2];congr 1;omega)
theorem Ik {k:Nat} (hk:k<g.n.toNat):lJ (arr (LK g p k) g.es.length) (bD p (au p k)) (if k=0 then 0 else LK g p k (dZ g p (au p k))) (cK p k) (bD p (au p k)).length=arr (LK g p (k+1)) g.es.length:=by
 refine s7 (f:=fun _=>0) h hk (fun u w e Ci=> ?_) fun e he=>by rw [LK,if_neg he]
 obtain ⟨a,b⟩:=mq h hk Ci
 rw [LK,if_pos a,b]
theorem Il {r:Int} {k:Nat} (hk:k<g.n.toNat):lK (arr (RK g p r k) g.es.length) (bD p (au p k)) (if k=0 then r else RK g p r k (lI g p (au p k))) (cK p k) (bD p (au p k)).length=arr (RK g p r (k+1)) g.es.length:=by
 refine s7 (f:=fun _=>0) h hk (fun u w e Ci=> ?_) fun e he=>by rw [RK,if_neg he]
 obtain ⟨a,b⟩:=mq h hk Ci
 rw [RK,if_pos a,b]
theorem wg (hI:jZ g=true):∀ {k:Nat},k<g.n.toNat→∀t∈(fK g p k).row,0≤t.1
 |0,_,t,ht=>by cases ht
 |k+1,hk,t,ht=>by
  have hm:=aD h.1
  have ih:=wg hI (k:=k) (by omega)
  obtain ⟨hi,_,_⟩:=cO hm h.2.1 (k:=k) (by omega) fun j hj=>h.2.2 j (by omega)
  obtain ⟨A,X,C,hr,_,_,_,hs⟩:=gV hm hi.toeW (h.2.2 k (by omega))
  have hO:bD p (au p k)≠ []:=fun h1=>by
   have:=(dY h hI (aK h.2.1 (show k<g.n.toNat by omega))).1 h1
   have:=dA h.2.1 (show k<g.n.toNat by omega) (by omega) this
   omega
  have ht:t∈(az g (fK g p k) (au p k) (bD p (au p k))).2.row:=ht
  rw [hs] at ht
  simp only [List.mem_append] at ht
  rcases ht with (ht|ht)|ht
  ·exact ih t (by rw [hr];simp [ht])
  ·unfold aH at ht
   rw [if_neg hO] at ht
   obtain ⟨i,hi2,rfl⟩:=List.mem_map.1 ht
   exact (iE h (show k<g.n.toNat by omega) hi2).1.1
  ·exact ih t (by rw [hr];simp [ht])
theorem xE (hI:jZ g=true) {k:Nat} (hk:k<g.n.toNat):hM (dz g p k)=dz g p k:=by
 have hm:=aD h.1
 obtain ⟨hi,_,_⟩:=cO hm h.2.1 (k:=k) (by omega) fun j hj=>h.2.2 j (by omega)
 obtain ⟨A,X,C,hr,_,_,_,hs⟩:=gV hm hi.toeW (h.2.2 k hk)
 have e:dz g p k=X:=by unfold dz;rw [hs]
 rw [e]
 refine List.filter_eq_self.2 fun t ht=>decide_eq_true (wg h hI hk t ?_)
 rw [hr];simp [ht]
theorem Cj (hI:jZ g=true) {k:Nat} (hk:k<g.n.toNat):cA g p (au p k)=(dz g p k).map (·.1):=by
 unfold cA
 rw [nc h.2.1 (Nat.le_refl _) hk,xE h hI hk]
end
section
variable (g:Gr) (p:Pl)
def fm:Nat→List Int
 |0=>bD p (au p 0)
 |j+1=>if bD p (au p (j+1))= [] then fm j else (fm j).take (dg (fm j) (dZ g p (au p (j+1)))).toNat++bD p (au p (j+1))++(fm j).drop ((dg (fm j) (dZ g p (au p (j+1)))).toNat+(cA g p (au p (j+1))).length)
def kO:Nat→List Int
 |0=> [0]++eX 1 ((bD p (au p 0)).length - 1)++ [-1]
 |j+1=>(kO j).take ((dg (fm g p j) (dZ g p (au p (j+1)))).toNat+1)++eX (cK p (j+1)) ((bD p (au p (j+1))).length - 1)++(kO j).drop ((dg (fm g p j) (dZ g p (au p (j+1)))).toNat+(cA g p (au p (j+1))).length)
def ry (k:Nat):List Int:=((cA g p (au p k)).dropLast).map (RK g p (-1) k)
def wz:Nat→List Int
 |0=> [au p (g.n.toNat - 1)]
 |k+1=>kN (wz k) (ry g p k) (au p k) (ry g p k).length++List.replicate ((bD p (au p k)).length - 1) 0
end
section
variable {g:Gr} {p:Pl}
theorem pG:∀ {k:Nat},(wz g p k).length=cK p k
 |0=>rfl
 |k+1=>by rw [wz,List.length_append,oa,List.length_replicate,pG,cK]
variable (h:bR g p)
include h
theorem Ck {A I C:List Int} (cl:(A++I++C).Nodup) (hI:I≠ []):dg (A++I++C) (I.headD 0)=(A.length:Int):=by
 obtain ⟨a,u,rfl⟩:=ig hI
 obtain ⟨k,h1,h2,h3⟩:=dc (l:=A++a::u++C) (x:=a) (by simp)
 have e:A++a::u++C=A++a::(u++C):=by simp
 have h4:(A++a::u++C).getD A.length 0=a:=by rw [e];exact nr
 show dg _ a=_
 rw [h1]
 have hA:A.length<(A++a::u++C).length:=by simp
 rw [List.getD_eq_getElem?_getD,List.getElem?_eq_getElem h2] at h3
 rw [List.getD_eq_getElem?_getD,List.getElem?_eq_getElem hA] at h4
 simp only [Option.getD_some] at h3 h4
 have:=(List.getElem_inj cl (h₀:=h2) (h₁:=hA)).1 (h3.trans h4.symm)
 omega
theorem Cl {k:Nat} (hk:k≤g.n.toNat):(WK g p k).Nodup:=by
 have hm:=aD h.1
 obtain ⟨hi,_,_⟩:=cO hm h.2.1 (k:=k) (by omega) fun j hj=>h.2.2 j (by omega)
 exact Cc hi
theorem Cm {r:Int} {k:Nat} (hk:k<g.n.toNat) (hO:bD p (au p k)≠ []) {j:Nat} (h1:k+1≤j) (h2:j≤g.n.toNat):(bD p (au p k)).map (RK g p r j)=eX (cK p k) ((bD p (au p k)).length - 1)++ [if k=0 then r else RK g p r k (lI g p (au p k))]:=by
 obtain ⟨v,b,hv⟩:=dK hO
 have e1:((bD p (au p k)).length - 1)=v.length:=by rw [hv];simp
 rw [e1]
 conv=>lhs;rw [hv]
 rw [List.map_append,List.map_cons,List.map_nil,q7 h hk hv h1 h2]
 congr 1
 refine List.ext_getElem? fun i=> ?_
 by_cases hi:i<v.length
 ·rw [List.getElem?_map,List.getElem?_eq_getElem hi,eX,List.getElem?_map,List.getElem?_range hi,Option.map_some,Option.map_some]
  have hs:v=v.take i++v[i]::v.drop (i+1):=by simp
  obtain ⟨c,w,KT⟩:∃c w,v.drop (i+1)++ [b]=c::w:=by
   cases hd:v.drop (i+1) with
   |nil=>exact ⟨b, [],rfl⟩
   |cons c w=>exact ⟨c,w++ [b],rfl⟩
  have h3:bD p (au p k)=v.take i++v[i]::c::w:=by
   rw [hv]
   conv=>lhs;rw [hs]
   rw [List.append_assoc,List.cons_append,KT]
  rw [iD h hk h3 h1 h2,List.length_take,Nat.min_eq_left (by omega)]
  congr 1
 ·rw [List.getElem?_eq_none (by simpa using hi),List.getElem?_eq_none (by rw [jx];omega)]
theorem uD (hI:jZ g=true):∀ {j:Nat},j+1<g.n.toNat→fm g p j=WK g p (j+1)∧kO g p j=0::(WK g p (j+1)).map (RK g p (-1) (j+1))∧WK g p (j+1)≠ []
 |0,hj=>by
  have hO:bD p (au p 0)≠ []:=fun h1=>by
   have:=(dY h hI (aK h.2.1 (show 0<g.n.toNat by omega))).1 h1
   have:=dA h.2.1 (show 0<g.n.toNat by omega) (by omega) this
   omega
  refine ⟨(q8 h (by omega)).symm, ?_,by rw [q8 h (by omega)];exact hO⟩
  rw [q8 h (by omega),Cm h (by omega) hO (Nat.le_refl _) (by omega),if_pos rfl]
  rfl
 |j+1,hj=>by
  obtain ⟨i1,i2,i3⟩:=uD hI (j:=j) (by omega)
  obtain ⟨A,C,e1,hne,e2⟩:=k9 h (k:=j+1) (by omega) (by omega)
  have hO:bD p (au p (j+1))≠ []:=fun h1=>by
   have:=(dY h hI (aK h.2.1 (show j+1<g.n.toNat by omega))).1 h1
   have:=dA h.2.1 (show j+1<g.n.toNat by omega) (by omega) this
   omega
  have cl:=Cl h (k:=j+1) (by omega)
  have Fj:dg (WK g p (j+1)) (dZ g p (au p (j+1)))=(A.length:Int):=by
   rw [e1] at cl ⊢
   exact Ck h cl hne
  have yD:∀a∈WK g p (j+1),RK g p (-1) (j+1+1) a=RK g p (-1) (j+1) a:=fun a ha=>by
   obtain ⟨i,hi,e⟩:=pF h (by omega) ha
   rw [gl h (by omega) e (j:=j+1+1) (by omega) (by omega),gl h (by omega) e (j:=j+1) (by omega) (by omega)]
  refine ⟨?_, ?_,by rw [e2];simp [hO]⟩
  ·rw [fm,if_neg hO,i1,Fj,Int.toNat_natCast,e2]
   congr 1
   ·congr 1
    rw [e1,List.append_assoc,List.take_left]
   ·rw [e1, ← List.length_append,List.drop_left]
  ·rw [kO,i1,i2,Fj,Int.toNat_natCast,List.take_succ_cons,e2]
   have e3:(WK g p (j+1)).map (RK g p (-1) (j+1))=A.map (RK g p (-1) (j+1))++((cA g p (au p (j+1))).map (RK g p (-1) (j+1))++C.map (RK g p (-1) (j+1))):=by rw [e1];simp
   have hA:A.map (RK g p (-1) (j+1+1))=A.map (RK g p (-1) (j+1)):=List.map_congr_left fun a ha=>yD a (by rw [e1];simp [ha])
   have hC:C.map (RK g p (-1) (j+1+1))=C.map (RK g p (-1) (j+1)):=List.map_congr_left fun a ha=>yD a (by rw [e1];simp [ha])
   rw [List.map_append,List.map_append,hA,hC,Cm h (by omega) hO (Nat.le_refl _) (by omega),if_neg (by omega)]
   rw [e3,List.take_append_of_le_length (by simp),List.take_of_length_le (by simp)]
   obtain ⟨u,a,hu⟩:=dK hne
   have hl:(cA g p (au p (j+1))).length=u.length+1:=by rw [hu];simp
   rw [hl,show A.length+(u.length+1)=(A.length+u.length)+1 by omega,List.drop_succ_cons]
   have e4:(A.map (RK g p (-1) (j+1))++((cA g p (au p (j+1))).map (RK g p (-1) (j+1))++C.map (RK g p (-1) (j+1)))).drop (A.length+u.length)=RK g p (-1) (j+1) (lI g p (au p (j+1)))::C.map (RK g p (-1) (j+1)):=by
    rw [kL h hu,hu]
    have:A.map (RK g p (-1) (j+1))++((u++ [a]).map (RK g p (-1) (j+1))++C.map (RK g p (-1) (j+1)))=(A++u).map (RK g p (-1) (j+1))++(RK g p (-1) (j+1) a::C.map (RK g p (-1) (j+1))):=by simp
    rw [this,show A.length+u.length=((A++u).map (RK g p (-1) (j+1))).length by simp,List.drop_left]
   rw [e4]
   simp
theorem fq {A B:List Int} (h:B≠ []):(A++B).dropLast=A++B.dropLast:=by
 obtain ⟨u,a,rfl⟩:=dK h
 rw [← List.append_assoc,List.dropLast_concat,List.dropLast_concat]
theorem yF (hI:jZ g=true):∀ {k:Nat},1≤k→k<g.n.toNat→∀a∈(WK g p k).dropLast,1≤RK g p (-1) k a∧RK g p (-1) k a<cK p k
 |0,h1,_,_,_=>by omega
 |k+1,_,hk,a,ha=>by
  have hO:bD p (au p k)≠ []:=fun h1=>by
   have:=(dY h hI (aK h.2.1 (show k<g.n.toNat by omega))).1 h1
   have:=dA h.2.1 (show k<g.n.toNat by omega) (by omega) this
   omega
  have hc:cK p (k+1)=cK p k+((bD p (au p k)).length - 1):=rfl
  have FM:0<cK p k:=uz
  have hnew:∀b∈(bD p (au p k)).dropLast,1≤RK g p (-1) (k+1) b∧RK g p (-1) (k+1) b<cK p (k+1):=fun b hb=>by
   obtain ⟨v,c,hv⟩:=dK hO
   rw [hv,List.dropLast_concat] at hb
   obtain ⟨u,w,Ci⟩:=List.append_of_mem hb
   obtain ⟨c',w',KT⟩:∃c' w',w++ [c]=c'::w':=by
    cases w with
    |nil=>exact ⟨c, [],rfl⟩
    |cons d w=>exact ⟨d,w++ [c],rfl⟩
   have h3:bD p (au p k)=u++b::c'::w':=by rw [hv,Ci, ← KT];simp
   rw [iD h (show k<g.n.toNat by omega) h3 (Nat.le_refl _) (by omega)]
   have:(bD p (au p k)).length=u.length+(w'.length+2):=by rw [h3];simp
   omega
  by_cases h0:k=0
  ·subst h0
   rw [q8 h (by omega)] at ha
   exact hnew a ha
  ·obtain ⟨A,C,e1,hne,e2⟩:=k9 h h0 (show k<g.n.toNat by omega)
   have ih:=yF hI (k:=k) (by omega) (by omega)
   have yD:∀a∈WK g p k,RK g p (-1) (k+1) a=RK g p (-1) k a:=fun a ha=>by
    obtain ⟨i,hi,e⟩:=pF h (by omega) ha
    rw [gl h (by omega) e (j:=k+1) (by omega) (by omega),gl h (by omega) e (j:=k) (by omega) (by omega)]
   have old:∀b∈(WK g p k).dropLast,1≤RK g p (-1) (k+1) b∧RK g p (-1) (k+1) b<cK p (k+1):=fun b hb=>by
    rw [yD b ((List.dropLast_sublist _).subset hb)]
    have:=ih b hb
    omega
   rw [e1] at old yD
   rw [e2] at ha
   by_cases hC:C= []
   ·subst hC
    rw [List.append_nil] at ha old
    rw [fq h hO] at ha
    rw [fq h hne] at old
    rcases List.mem_append.1 ha with ha|ha
    ·exact old a (by simp [ha])
    ·exact hnew a ha
   ·rw [fq h hC] at ha old
    rcases List.mem_append.1 ha with ha|ha
    ·rcases List.mem_append.1 ha with ha|ha
     ·exact old a (by simp [ha])
     ·obtain ⟨v,b,hv⟩:=dK hO
      rw [hv,List.mem_append,List.mem_singleton] at ha
      rcases ha with ha|rfl
      ·exact hnew a (by rw [hv,List.dropLast_concat];exact ha)
      ·obtain ⟨u,c,hu⟩:=dK hne
       rw [q7 h (show k<g.n.toNat by omega) hv (Nat.le_refl _) (by omega),if_neg h0,kL h hu, ← yD c (by rw [hu];simp)]
       exact old c (by rw [hu];simp)
    ·exact old a (by simp [ha])
theorem Dz (hI:jZ g=true) {k:Nat} (hk:k<g.n.toNat):∀f∈ry g p k,0≤f∧f<(wz g p k).length:=by
 intro f hf
 rw [pG]
 obtain ⟨a,ha,rfl⟩:=List.mem_map.1 hf
 have Nq:cA g p (au p k)≠ []:=fun h0=>by rw [h0] at ha;simp at ha
 have uY:=yA h hk Nq
 obtain ⟨A,C,e1,hne,_⟩:=k9 h uY hk
 have:=yF h hI (k:=k) (by omega) hk a (by
  rw [e1]
  by_cases hC:C= []
  ·subst hC;rw [List.append_nil,fq h hne];simp [ha]
  ·rw [fq h hC];simp [(List.dropLast_sublist _).subset ha])
 omega
theorem Cn (hI:jZ g=true) {j:Nat} (hj:j+1<g.n.toNat):∃a:Nat,dg (fm g p j) (dZ g p (au p (j+1)))=a∧0<(cA g p (au p (j+1))).length∧a+(cA g p (au p (j+1))).length≤(fm g p j).length∧
 (kO g p j).length=(fm g p j).length+1∧(kO g p j).getD a 0=LK g p (j+1) (dZ g p (au p (j+1)))∧(kO g p j).getD (a+(cA g p (au p (j+1))).length) 0=RK g p (-1) (j+1) (lI g p (au p (j+1)))∧
 ((kO g p j).take (a+(cA g p (au p (j+1))).length)).drop (a+1)=ry g p (j+1):=by
 obtain ⟨i1,i2,i3⟩:=uD h hI hj
 obtain ⟨A,C,e1,hne,e2⟩:=k9 h (k:=j+1) (by omega) hj
 have cl:=Cl h (k:=j+1) (by omega)
 have Fj:dg (WK g p (j+1)) (dZ g p (au p (j+1)))=(A.length:Int):=by
  rw [e1] at cl ⊢
  exact Ck h cl hne
 have hlk:=(xC (r:= -1) h hI (k:=j+1) (by omega) hj i3).1
 obtain ⟨u,c,hu⟩:=dK hne
 obtain ⟨c0,u0,CI⟩:=ig hne
 have hl:(cA g p (au p (j+1))).length=u.length+1:=by rw [hu];simp
 rw [i1,i2]
 refine ⟨A.length,Fj,by omega,by rw [e1];simp,by simp, ?_, ?_, ?_⟩
 ·rw [e1,cB,cB] at hlk
  have h1:=hlk.1.2
  rw [CI] at h1
  rw [n0 h CI,h1.1,e1]
  rcases List.eq_nil_or_concat A with hA|⟨A',t,hA⟩
  ·subst hA;rfl
  ·rw [List.concat_eq_append] at hA
   subst hA
   rw [iQ]
   have:(0::(A'++ [t]++cA g p (au p (j+1))++C).map (RK g p (-1) (j+1)))=(0::A'.map (RK g p (-1) (j+1)))++RK g p (-1) (j+1) t::((cA g p (au p (j+1))++C).map (RK g p (-1) (j+1))):=by simp
   rw [this]
   have h2:(A'++ [t]).length=(0::A'.map (RK g p (-1) (j+1))).length:=by simp
   rw [h2];exact nr
 ·rw [kL h hu,e1,hl]
  have:(0::(A++cA g p (au p (j+1))++C).map (RK g p (-1) (j+1)))=(0::(A++u).map (RK g p (-1) (j+1)))++RK g p (-1) (j+1) c::(C.map (RK g p (-1) (j+1))):=by rw [hu];simp
  rw [this]
  have h2:A.length+(u.length+1)=(0::(A++u).map (RK g p (-1) (j+1))).length:=by simp;omega
  rw [h2];exact nr
 ·rw [e1,hl]
  have:(0::(A++cA g p (au p (j+1))++C).map (RK g p (-1) (j+1)))=(0::A.map (RK g p (-1) (j+1)))++(u.map (RK g p (-1) (j+1))++(RK g p (-1) (j+1) c::(C.map (RK g p (-1) (j+1))))):=by rw [hu];simp
  rw [this,List.take_append,List.drop_append]
  have h2:(0::A.map (RK g p (-1) (j+1))).length=A.length+1:=by simp
  rw [h2,List.take_of_length_le (by rw [h2];omega),List.drop_of_length_le (by rw [h2];omega),h2]
  rw [show A.length+(u.length+1) - (A.length+1)=u.length by omega,Nat.sub_self,List.drop_zero,List.nil_append]
  rw [List.take_append_of_le_length (by simp),List.take_of_length_le (by simp)]
  unfold ry
  rw [hu,List.dropLast_concat]
end
end Go.Ab
end
section
namespace Go.Ab
open Go.Proofs
attribute [local congr] ACall.congr
set_option maxRecDepth 10000
set_option maxHeartbeats 8000000
def swapT (l:List It) (k:Nat):List It:=(List.range l.length).map fun p=>if p<k∨l.length - 1<p+k then l.getD (l.length - 1 - p) (0,0,0) else l.getD p (0,0,0)
def LS (rs:List Int) (l:List It):Int:=match l.find? (fun t=>decide (t.2.2∈rs)) with
 |some t=>t.2.2
 |none=>rs.headD (-1)
end Go.Ab
end
section
namespace Go.Ab
open Go.Proofs
attribute [local congr] ACall.congr
set_option maxRecDepth 10000
set_option maxHeartbeats 8000000
def Og (b:Bool) (g:Gr) (p:Pl):List Int × List Int × Int:=
 if (bK b g p).2.1=0∧jZ g=true then (BR g p false g.n.toNat,BR g p true g.n.toNat,0) else ([], [],1)
end Go.Ab
end
section
namespace Go.Ab
open Go.Proofs
attribute [local congr] ACall.congr
set_option maxRecDepth 10000
set_option maxHeartbeats 8000000
theorem rz {b:Bool} {g:Gr} {p:Pl} (hr:b=true↔(b8 g).1=0∧bu g p) (h:bR g p):bK b g p=((dR g p g.n.toNat,kF g p),(0,0)):=by
 obtain rfl:b=true:=hr.2 ⟨h.1,h.2.1⟩
 unfold bK
 rw [if_neg (by simp),eD.2 h.2.2]
 rfl
theorem LU (g:Gr) (p:Pl):∃b:Bool,(b=true↔(b8 g).1=0∧bu g p):=by
 by_cases h:(b8 g).1=0∧bu g p
 ·exact ⟨true,by simp [h]⟩
 ·exact ⟨false,by simp [h]⟩
end Go.Ab
end
section
namespace Go.Ab
open Go.Proofs
attribute [local congr] ACall.congr
set_option maxRecDepth 60000
set_option maxHeartbeats 8000000
structure Fc where
 L:List Int
 R:List Int
 lo:List Int
 hi:List Int
def lf (g:Gr) (p:Pl) (f:Int):Int:=if f= -1 then (cK p g.n.toNat:Int) else f
def DA (g:Gr) (p:Pl):Fc:=⟨arr (LK g p g.n.toNat) g.es.length,(arr (RK g p (-1) g.n.toNat) g.es.length).map (lf g p),gY p g.n.toNat++ [au p 0],wz g p g.n.toNat++ [au p (g.n.toNat - 1)]⟩
def pH:Fc:=⟨[], [], [], []⟩
def CE (b:Bool) (g:Gr) (p:Pl):Fc × Int:=if ((bK b g p).2.1=0∧jZ g=true)∧0<g.es.length then (DA g p,0) else (pH,1)
def ic (f:Fc):AV:= .agg [.d (sI f.L), .d (sI f.R), .d (sI f.lo), .d (sI f.hi)]
def kP (l:List Int) (f:Int→Int) (j:Nat):List Int:=(l.take j).map f++l.drop j
theorem Co {l:List Int} {f:Int→Int} {j:Nat} :(kP l f j).length=l.length:=by
 simp only [kP,List.length_append,List.length_map,List.length_take,List.length_drop];omega
theorem s8 {l:List Int} {f:Int→Int} {j:Nat} (h:j<l.length):kP l f (j+1)=(kP l f j).set j (f (l.getD j 0)):=by
 have h1:((l.take j).map f).length=j:=by simp;omega
 have e:l.getD j 0=l[j]:=by rw [List.getD_eq_getElem?_getD,List.getElem?_eq_getElem h];rfl
 unfold kP
 have e2:l.take (j+1)=l.take j++ [l[j]]:=by rw [List.take_add_one,List.getElem?_eq_getElem h];rfl
 rw [List.drop_eq_getElem_cons h,List.set_append,h1,if_neg (by omega),Nat.sub_self,List.set_cons_zero,e2,e,List.map_append,List.append_assoc]
 rfl
theorem yG {l:List Int} {f:Int→Int} {j:Nat} (h:j<l.length):(kP l f j).getD j 0=l.getD j 0:=by
 have h1:((l.take j).map f).length=j:=by simp;omega
 unfold kP
 rw [List.getD_eq_getElem?_getD,List.getElem?_append_right (by omega),h1,Nat.sub_self,List.drop_eq_getElem_cons h,List.getD_eq_getElem?_getD,List.getElem?_eq_getElem h];rfl
theorem Cp {l:List Int} {f:Int→Int} :kP l f l.length=l.map f:=by simp [kP]
theorem zT {l:List Int} {f:Int→Int} {j:Nat} (h:j<l.length) (hf:f (l.getD j 0)=l.getD j 0):kP l f (j+1)=kP l f j:=by
 rw [s8 h,hf]
 refine List.ext_getElem? fun i=> ?_
 rw [List.getElem?_set]
 split
 ·rename_i e;subst e
  split
  ·have:=yG (l:=l) (f:=f) h
   rename_i hl
   rw [List.getD_eq_getElem?_getD,List.getElem?_eq_getElem hl] at this
   rw [List.getElem?_eq_getElem hl]
   simpa using this.symm
  ·rename_i hl;rw [List.getElem?_eq_none (by omega)]
 ·rfl
theorem zU {g:Gr} {p:Pl} (h:bR g p):0<(bG (·.2) g).length∧(bG (·.2) g).getD 0 0=au p 0:=by
 have hn:=aY (aD h.1)
 have h0:=aK h.2.1 (k:=0) (by omega)
 have hm:au p 0∈bG (·.2) g:=k4.2 ⟨h0,fO h⟩
 have hl:=List.length_pos_of_mem hm
 refine ⟨hl, ?_⟩
 have:=k4.1 (bf (l:=bG (·.2) g) (m:=0) (d:=0) hl)
 exact k5 h.1 this.1 h0 this.2 (fO h)
theorem zV {g:Gr} {p:Pl} (h:bR g p) (hI:jZ g=true):0<(bG (·.1) g).length∧(bG (·.1) g).getD 0 0=au p (g.n.toNat - 1):=by
 have hn:=aY (aD h.1)
 have h0:=aK h.2.1 (k:=g.n.toNat - 1) (by omega)
 have hm:au p (g.n.toNat - 1)∈bG (·.1) g:=k6.2 ⟨h0,(ni h.2.1 h0.1 h0.2).2 (nZ h).1⟩
 have hl:=List.length_pos_of_mem hm
 refine ⟨hl, ?_⟩
 have:=k6.1 (bf (l:=bG (·.1) g) (m:=0) (d:=0) hl)
 exact (dY h hI this.1).1 ((ni h.2.1 this.1.1 this.1.2).1 this.2)
theorem DR {g:Gr} {p:Pl} (h:bR g p):∀ {k:Nat},k≤g.n.toNat→cK p k≤1+k*g.es.length
 |0,_=>by simp [cK]
 |k+1,hk=>by
  have:=DR h (k:=k) (by omega)
  have hx:=aK h.2.1 (show k<g.n.toNat by omega)
  have:=jS h.2.1 hx.1 hx.2
  rw [cK,Nat.add_mul];omega
theorem oO {g:Gr} {p:Pl} (h:bR g p) {k:Nat} (hk:k≤g.n.toNat):cK p k≤100000∧(∀x:Int,(bD p x).length≤100000∨¬nv g x):=by
 have hn:=aY (aD h.1)
 have h1:=DR h hk
 have h2:k*g.es.length≤64*128:=Nat.mul_le_mul (by omega) (by omega)
 refine ⟨by omega,fun x=> ?_⟩
 by_cases hx:nv g x
 ·have:=jS h.2.1 hx.1 hx.2;exact .inl (by omega)
 ·exact .inr hx
theorem zW (g:Gr) (p:Pl) (hp:nj p) (hrun:bR g p) (hI:jZ g=true) (hm0:0<g.es.length) (b:Bool) (hr:b=true↔(b8 g).1=0∧bu g p):
 Spec Tryz.prog 17 (Args [eG g,ePl p]) [] (.tup [ic (DA g p),eN 0]) []:=by
 have hm:=aD hrun.1
 have hn:=aY hm
 have hle:=bZ hrun.2.1
 have hO:=lH g (by omega) p hp b hr
 have EU:=qX g (by omega)
 have Nr:=fR g hm
 have Ns:=dO g hm
 have Nt:=qB g hm
 obtain ⟨hs1,tD⟩:=zU hrun
 obtain ⟨Oh,hs4⟩:=zV hrun hI
 rw [rz hr hrun] at hO
 simp only at hO
 rw [hI] at EU
 have hb0:decide ((g.es.length:Int)=0)=false:=decide_eq_false (by omega)
 have hn2:1<g.n.toNat:=by
  refine Decidable.byContradiction fun hc=> ?_
  have ht:=bX hm (i:=0) hm0
  have hh:=de hm (i:=0) hm0
  obtain ⟨j,hj,_⟩:=uw hrun (e:=0) (by omega) (k:=0) (by omega) (by
   obtain ⟨k,hk,e⟩:=fS hrun.2.1 hh.1 hh.2
   obtain rfl:k=0:=by omega
   exact e.symm)
  omega
 obtain ⟨s0,hs0⟩:∃s:Nat,au p 0=s:=by have:=aK hrun.2.1 (k:=0) (by omega);exact ⟨(au p 0).toNat,by omega⟩
 have KU:s0<p.outs.length:=by have:=aK hrun.2.1 (k:=0) (by omega);have:=hrun.2.1.1;omega
 have pM:=iz KU
 have KW:p.outs.getD s0 []=bD p (au p 0):=by unfold bD;rw [hs0,Int.toNat_natCast]
 rw [KW] at pM
 have Nu:=jS hrun.2.1 (aK hrun.2.1 (k:=0) (by omega)).1 (aK hrun.2.1 (k:=0) (by omega)).2
 have Cf:=s6 (au p 0) 0 (-1) (bD p (au p 0)) (.sl 1 []) (sI [0, -1]) (arr (LK g p 0) g.es.length) (arr (RK g p (-1) 0) g.es.length) [au p 0] [au p (g.n.toNat - 1)] (by omega) (fun i hi=>by rw [dx];exact (iE hrun (by omega) hi).1) (by rw [dx,dx]) (by simp) (by simp)
 have LV:=Ik hrun (k:=0) (by omega)
 have LW:=Il (r:= -1) hrun (k:=0) (by omega)
 rw [if_pos rfl] at LV LW
 have Im:cA g p (au p 0)= []:=by
  have:=jv hrun (aK hrun.2.1 (k:=0) (by omega))
  rw [fO hrun] at this
  exact List.eq_nil_of_length_eq_zero this
 have hi1:wz g p 1= [au p (g.n.toNat - 1)]++List.replicate ((bD p (au p 0)).length - 1) 0:=by
  have:ry g p 0= []:=by unfold ry;rw [Im];rfl
  show kN (wz g p 0) (ry g p 0) (au p 0) (ry g p 0).length++_=_
  rw [this];rfl
 have KX:gY p 1= [au p 0]++List.replicate ((bD p (au p 0)).length - 1) (au p 0):=rfl
 have hc1:([au p 0]:List Int).length=cK p 0:=rfl
 rw [hc1,LV,LW, ← hi1, ← KX] at Cf
 have Dt:∀f:Int→Int,(∀e,f e=0)→List.replicate g.es.length [D.sc (.int .i64 0)]=(arr f g.es.length).map rI:=fun f hf=>by
  refine List.ext_getElem? fun i=> ?_
  simp only [arr,List.getElem?_replicate,List.getElem?_map]
  by_cases hi:i<g.es.length
  ·rw [if_pos hi,List.getElem?_range hi];simp [hf,rI]
  ·rw [if_neg hi,List.getElem?_eq_none (by simpa using hi)];rfl
 have fD:=Dt (LK g p 0) fun _=>rfl
 have Io:=iw (bD p (au p 0)) (by omega)
 have KY:=iN [0, -1] (eX (cK p 0) ((bD p (au p 0)).length - 1)) 1 1 (by simp) (by simp) (by rw [jx];omega)
 have Ep:List.take 1 [(0:Int), -1]++eX (cK p 0) ((bD p (au p 0)).length - 1)++List.drop 1 [(0:Int), -1]=kO g p 0:=rfl
 rw [Ep] at KY
 have Nv:RK g p (-1) 0=LK g p 0:=by funext e;rfl
 rw [Nv] at Cf
 have Dj:fm g p 0=bD p (au p 0):=rfl
 have Io:Spec Tryz.prog 53 (Args [.d (sI (bD p (s0:Int)))]) [] (.d (sI (fm g p 0))) []:=by
  rw [Dj, ← hs0];exact Io
 generalize LX:arr (LK g p 0) g.es.length=A0 at Cf fD
 have pV:=jx (c:=cK p 0) (k:=(bD p (au p 0)).length - 1)
 generalize eX (cK p 0) ((bD p (au p 0)).length - 1)=gs at Cf KY pV
 unfold Fl Fm at Cf
 have wh:List.drop 1 (List.map rI p.ord)=(p.ord.drop 1).map rI:=by rw [List.map_drop]
 have hdl:(p.ord.drop 1).length=g.n.toNat - 1:=by rw [List.length_drop];omega
 have vH:List.take p.ord.length (List.map rI p.ord)=List.map rI p.ord:=List.take_of_length_le (by simp)
 generalize Ja:g.n.toNat - 1=N1 at hdl
 (refine Spec.intro (C:=T.cfg [67] []) (rs:= [.c 4 32, .t 5]) (T.aq _ _) Tryz.func17 rfl rfl Tryz.ntmps17 Tryz.results17 (by simp [AObj.isNest]) (by simp [AObj.isNest]) (by kernel_rfl) ?_;intro X hX hP hC aN aO vals hA;refine ⟨_,by simp,hA, ?_⟩;have af:X.P.follows .mixedOrders=true:=(by rw [hP];exact T.mixed);clear aN aO)
 repeat' (first|fail|((first|((with_reducible (first|apply oA|apply oB));exact rfl;intro K hK)|(refine hK _ ?_;clear hK K)|((with_reducible (first|apply oG|apply oH));iterate 3 exact rfl)|((with_reducible apply oI);(iterate 2 exact rfl);intro K hK)|(with_reducible (first|apply wI|apply wJ|apply wK)));try simp only [go_sem,simprocAttr,hb0,tD,hs4,fD,hs0,pM,wh,hdl,rI])|(show dr _ (.seq (.region 8 _ _) _) _ _;(refine mS 54 0 1 rfl rfl rfl ?_;simp only [LA.app,ASt.put,ASt.kill,putM,rml,List.set_cons_zero,List.set_cons_succ,go_sem,simprocAttr,hb0,tD,hs4,fD,hs0,pM,wh,hdl,rI]);(refine c9 hX 52 rfl ?_;simp only [go_sem,simprocAttr,hb0,tD,hs4,fD,hs0,pM,wh,hdl,rI]))|(with_reducible (first|apply oC|apply oJ|exact oK|apply wA|apply wB|apply wC hX hC|apply wD hX hC|apply wE hX hC af|apply wF hX hC af|apply wG|apply wH|apply And.intro))|((with_reducible refine oD ?_ ?_);first|fail|kernel_rfl)|((with_reducible (first|apply oE|apply oF));(iterate 3 exact rfl);all_goals (intro h;first|(exact absurd h (by decide))|((try simp only [go_sem,simprocAttr,hb0,tD,hs4,fD,hs0,pM,wh,hdl,rI] at h);(try with_reducible intro K hK);simp only [go_sem,simprocAttr,hb0,tD,hs4,fD,hs0,pM,wh,hdl,rI])))|((first|((with_reducible apply wL);exact rfl)|((with_reducible apply wM);exact rfl));all_goals (try ((with_reducible intro h);first|(exact absurd h (by decide))|(try simp only [go_sem,simprocAttr,hb0,tD,hs4,fD,hs0,pM,wh,hdl,rI] at h))))|omega|((first|first|refine aa hX hC hP (hO) rfl rfl rfl (by simp only [go_sem,simprocAttr,hb0,tD,hs4,fD,hs0,pM,wh,hdl,rI]) rfl ?_|refine aa hX hC hP (EU) rfl rfl rfl (by simp only [go_sem,simprocAttr,hb0,tD,hs4,fD,hs0,pM,wh,hdl,rI]) rfl ?_|refine aa hX hC hP (Nr) rfl rfl rfl (by simp only [go_sem,simprocAttr,hb0,tD,hs4,fD,hs0,pM,wh,hdl,rI]) rfl ?_|refine aa hX hC hP (Ns) rfl rfl rfl (by simp only [go_sem,simprocAttr,hb0,tD,hs4,fD,hs0,pM,wh,hdl,rI]) rfl ?_|refine aa hX hC hP (Nt) rfl rfl rfl (by simp only [go_sem,simprocAttr,hb0,tD,hs4,fD,hs0,pM,wh,hdl,rI]) rfl ?_|(refine aB hX hC hP [(10000,54),(10001,59),(10002,63),(10003,65),(10004,67),(10005,300),(10006,301)] (Cf) rfl rfl rfl ?_ ?_ ?_ ?_ ?_ ?_ ?_ ?_ ?_ ?_ ?_ ?_ ?_ ?_;(focus (simp only [go_sem,simprocAttr,hb0,tD,hs4,fD,hs0,pM,wh,hdl,rI];done));(iterate 12 (focus (simp [go_sem,simprocAttr,hb0,tD,hs4,fD,hs0,pM,wh,hdl,rI];done)));simp only [go_sem,simprocAttr,hb0,tD,hs4,fD,hs0,pM,wh,hdl,rI,List.map_cons,List.map_nil])|refine aa hX hC hP (Io) rfl rfl rfl (by simp only [go_sem,simprocAttr,hb0,tD,hs4,fD,hs0,pM,wh,hdl,rI]) rfl ?_|(refine bJ hX hC hP (KY) rfl rfl rfl ?_ ?_ rfl ?_;iterate 2 (focus (simp only [go_sem,simprocAttr,hb0,tD,hs4,fD,hs0,pM,wh,hdl,rI];done))));try simp only [go_sem,simprocAttr,hb0,tD,hs4,fD,hs0,pM,wh,hdl,rI])|(intro h))
 refine an (fun j:Nat=>j≤N1) (fun j=>⟨[(3, .ptr 3 0),(4, .ptr 4 0),(6, .d (.sl 1 (vT (dR g p g.n.toNat)))),(10,eN s0),(11,eN (au p N1)),(12, .ptr 54 0),(106, .d (sI (p.ord.drop 1))),(107,eN N1),(108,eN j)], [(54, .box [.d (sI (fm g p j)), .d (sI (kO g p j)), .ref 59, .ref 63, .ref 300, .ref 301]),(59, .own 3 1 ((arr (LK g p (j+1)) g.es.length).map rI)),(63, .own 3 1 ((arr (RK g p (-1) (j+1)) g.es.length).map rI)),(300, .tip 3 1 ((gY p (j+1)).map rI)),(301, .own 3 1 ((wz g p (j+1)).map rI)),(3, .box [.d (sI p.ord), .d (.sl 1 (vI p.outs))]),(4, .box [.nil 3, .nil 3, .nil 3, .nil 3])]⟩) (fun j=>N1 - j) 0 (by omega) ?_ ?_
 ·refine Le.of ?_ ?_<;>simp [go_sem,simprocAttr,Ja,vH]
  omega
 rintro j hj
 rcases Nat.lt_or_ge j N1 with hjl|IJ
 ·have hb:decide ((j:Int)<(N1:Int))=true:=decide_eq_true (by omega)
  have hjn:j+1<g.n.toNat:=by omega
  obtain ⟨a,p1,p2,p3,p4,p5,p6,p7⟩:=Cn hrun hI hjn
  have CC:=aK hrun.2.1 hjn
  have hx:(p.ord.drop 1).getD j 0=au p (j+1):=by
   rw [List.getD_eq_getElem?_getD,List.getElem?_drop,Nat.add_comm 1 j]
   show _=p.ord.getD (j+1) 0
   rw [List.getD_eq_getElem?_getD]
  have iO:=fun i hi=>(iE hrun hjn (e:=i) hi).1
  have Aa:=jS hrun.2.1 CC.1 CC.2
  have Ip:=nc hrun.2.1 (Nat.le_refl _) hjn
  have hel:=kE (g:=g) (p:=p) (k:=g.n.toNat)
  have LY:=Cj hrun hI hjn
  have hL:=Ik hrun (k:=j+1) hjn
  have hR:=Il (r:= -1) hrun (k:=j+1) hjn
  rw [if_neg (by omega)] at hL hR
  have tK:gY p (j+1+1)=gY p (j+1)++List.replicate ((bD p (au p (j+1))).length - 1) (au p (j+1)):=rfl
  have hhi:wz g p (j+1+1)=kN (wz g p (j+1)) (ry g p (j+1)) (au p (j+1)) (ry g p (j+1)).length++List.replicate ((bD p (au p (j+1))).length - 1) 0:=rfl
  have KZ:=Dz hrun hI hjn
  have jM:=ga (p:=p) (k:=j+1)
  have ru:=pG (g:=g) (p:=p) (k:=j+1)
  have LZ:=(oO hrun (k:=j+1) (by omega)).1
  have K0:fm g p (j+1)=if bD p (au p (j+1))= [] then fm g p j else (fm g p j).take (dg (fm g p j) (dZ g p (au p (j+1)))).toNat++bD p (au p (j+1))++(fm g p j).drop ((dg (fm g p j) (dZ g p (au p (j+1)))).toNat+(cA g p (au p (j+1))).length):=rfl
  have K1:kO g p (j+1)=(kO g p j).take ((dg (fm g p j) (dZ g p (au p (j+1)))).toNat+1)++eX (cK p (j+1)) ((bD p (au p (j+1))).length - 1)++(kO g p j).drop ((dg (fm g p j) (dZ g p (au p (j+1)))).toNat+(cA g p (au p (j+1))).length):=rfl
  rw [p1,Int.toNat_natCast] at K0 K1
  obtain ⟨r1,r2,r3⟩:=uD hrun hI hjn
  have Oi:(fm g p j).length≤10000:=by
   rw [r1]
   have:=eH (m:=(List.range g.es.length).map Int.ofNat) (Cl hrun (k:=j+1) (by omega)) fun e he=>by
    have hi:=cO hm hrun.2.1 (k:=j+1) (by omega) fun i hi=>hrun.2.2 i (by omega)
    obtain ⟨t,ht,rfl⟩:=List.mem_map.1 he
    obtain ⟨⟨h1,h2⟩,_⟩:=nq hm hi.1.toeW ht
    exact List.mem_map.2 ⟨t.1.toNat,List.mem_range.2 (by omega),by simp;omega⟩
   simp at this
   omega
  have hfr:dZ g p (au p (j+1))=((dz g p (j+1)).getD 0 (0,0,0)).1:=by
   unfold dZ
   rw [LY]
   cases dz g p (j+1)<;>rfl
  rw [LY,List.length_map] at p2 p3 p6 p7 K0 K1
  have hIx:=aP (fm g p j) (dZ g p (au p (j+1))) (by omega)
  rw [p1] at hIx
  rw [hfr] at hIx p5
  have j6:=uC (au p (j+1)) (bD p (au p (j+1))) (fm g p j) (kO g p j) (arr (LK g p (j+1)) g.es.length) (arr (RK g p (-1) (j+1)) g.es.length) (gY p (j+1)) (wz g p (j+1)) a (a+(dz g p (j+1)).length) (by omega) (by omega) (by omega) (by omega) (by omega) (by rw [p7];exact KZ) (by omega) (fun i hi=>by rw [dx];exact iO i hi) (by rw [dx,dx]) (by omega) (by omega)
  rw [p7,p5,p6,jM, ← hhi, ← tK, ← K0, ← K1] at j6
  rw [← hfr] at j6
  rw [hL,hR] at j6
  obtain ⟨x,K2⟩:∃x:Nat,au p (j+1)=x:=⟨(au p (j+1)).toNat,by omega⟩
  have fQ:x<p.outs.length:=by have:=hrun.2.1.1;omega
  have hv:=iz fQ
  have hla:p.outs.getD x []=bD p (au p (j+1)):=by unfold bD;rw [K2,Int.toNat_natCast]
  rw [hla] at hv
  have xF:=fun d=>mX (ls:=dR g p g.n.toNat) (k:=x) (by omega) d
  have hex:(dR g p g.n.toNat).getD x []=dz g p (j+1):=by rw [← Ip,K2,Int.toNat_natCast]
  rw [hex] at xF
  have hvl:(vT (dR g p g.n.toNat)).length=g.n.toNat:=by rw [vT_length,hel]
  have DM:x<g.n.toNat:=by omega
  obtain ⟨bb,lG⟩:∃bb:Nat,bb=a+(dz g p (j+1)).length:=⟨_,rfl⟩
  have od:(a:Int)+((dz g p (j+1)).length:Int)=(bb:Int):=by omega
  rw [← lG] at j6
  have iG:bb≤10000:=by omega
  generalize bD p (au p (j+1))=o at j6 hv
  rw [K2] at j6 hx
  generalize dz g p (j+1)=gn at hIx xF od p2
  clear lG
  generalize Er:fm g p (j+1)=E2 at j6
  generalize fm g p j=E1 at j6 hIx
  generalize hq1:kO g p (j+1)=G2 at j6
  generalize kO g p j=G1 at j6
  generalize C9:arr (LK g p (j+1+1)) g.es.length=A2 at j6
  generalize Nw:arr (RK g p (-1) (j+1+1)) g.es.length=B2 at j6
  generalize arr (LK g p (j+1)) g.es.length=A1 at j6
  generalize arr (RK g p (-1) (j+1)) g.es.length=B1 at j6
  generalize Nx:gY p (j+1+1)=L2 at j6
  generalize Ny:wz g p (j+1+1)=H2 at j6
  generalize gY p (j+1)=L1 at j6
  generalize wz g p (j+1)=H1 at j6
  generalize vT (dR g p g.n.toNat)=VE at xF hvl
  unfold Fl Fm at j6
  repeat' (first|fail|((first|((with_reducible (first|apply oA|apply oB));exact rfl;intro K hK)|(refine hK _ ?_;clear hK K)|((with_reducible (first|apply oG|apply oH));iterate 3 exact rfl)|((with_reducible apply oI);(iterate 2 exact rfl);intro K hK)|(with_reducible (first|apply wI|apply wJ|apply wK)));try simp only [go_sem,simprocAttr,hb,hx,hv,xF,hvl,od])|(show dr _ (.region 15 _ _) _ _;(refine iu hX 54 4 302 300 rfl rfl rfl (by first|exact .inl rfl|exact .inr rfl) (by decide) (by decide) ?_;simp only [LA.app,ASt.put,ASt.kill,subT,rmk,putM,rml,kl,AV.sub,AV.subs,AObj.sub,List.set_cons_zero,List.set_cons_succ,go_sem,simprocAttr,hb,hx,hv,xF,hvl,od]);(refine iu hX 54 5 303 301 rfl rfl rfl (by first|exact .inl rfl|exact .inr rfl) (by decide) (by decide) ?_;simp only [LA.app,ASt.put,ASt.kill,subT,rmk,putM,rml,kl,AV.sub,AV.subs,AObj.sub,List.set_cons_zero,List.set_cons_succ,go_sem,simprocAttr,hb,hx,hv,xF,hvl,od]))|(with_reducible (first|apply oC|apply oJ|exact oK|apply wA|apply wB|apply wC hX hC|apply wD hX hC|apply wE hX hC af|apply wF hX hC af|apply wG|apply wH|apply And.intro))|((with_reducible refine oD ?_ ?_);first|fail|kernel_rfl)|((with_reducible (first|apply oE|apply oF));(iterate 3 exact rfl);all_goals (intro h;first|(exact absurd h (by decide))|((try simp only [go_sem,simprocAttr,hb,hx,hv,xF,hvl,od] at h);(try with_reducible intro K hK);simp only [go_sem,simprocAttr,hb,hx,hv,xF,hvl,od])))|((first|((with_reducible apply wL);exact rfl)|((with_reducible apply wM);exact rfl));all_goals (try ((with_reducible intro h);first|(exact absurd h (by decide))|(try simp only [go_sem,simprocAttr,hb,hx,hv,xF,hvl,od] at h))))|omega|((first|first|refine aa hX hC hP (hIx) rfl rfl rfl (by simp only [go_sem,simprocAttr,hb,hx,hv,xF,hvl,od]) rfl ?_|(refine aB hX hC hP [(10000,54),(10001,59),(10002,63),(10003,300),(10004,301),(10005,302),(10006,303)] (j6) rfl rfl rfl ?_ ?_ ?_ ?_ ?_ ?_ ?_ ?_ ?_ ?_ ?_ ?_ ?_ ?_;(focus (simp only [go_sem,simprocAttr,hb,hx,hv,xF,hvl,od];done));(iterate 12 (focus (simp [go_sem,simprocAttr,hb,hx,hv,xF,hvl,od];done)));simp only [go_sem,simprocAttr,hb,hx,hv,xF,hvl,od,List.map_cons,List.map_nil]));try simp only [go_sem,simprocAttr,hb,hx,hv,xF,hvl,od])|(intro h))
  refine ⟨j+1,by omega, ?_,by omega⟩
  rw [Er,hq1,C9,Nw,Nx,Ny]
  refine Le.of ?_ ?_<;>simp [go_sem,simprocAttr,hb,hx,hv,xF,hvl,od]
 have hb:decide ((j:Int)<(N1:Int))=false:=decide_eq_false (by omega)
 obtain rfl:j=N1:=by omega
 have Nz:j+1=g.n.toNat:=by omega
 rw [Nz]
 have jM:=ga (p:=p) (k:=g.n.toNat)
 have ru:=pG (g:=g) (p:=p) (k:=g.n.toNat)
 have LZ:=(oO hrun (k:=g.n.toNat) (by omega)).1
 have NA:DA g p=⟨arr (LK g p g.n.toNat) g.es.length,(arr (RK g p (-1) g.n.toNat) g.es.length).map (lf g p),gY p g.n.toNat++ [(s0:Int)],wz g p g.n.toNat++ [au p j]⟩:=by unfold DA;rw [hs0,Ja]
 have NB:(arr (RK g p (-1) g.n.toNat) g.es.length).length=g.es.length:=dx
 rw [NA]
 have hrf:∀f,lf g p f=if f= -1 then (cK p g.n.toNat:Int) else f:=fun f=>rfl
 generalize arr (RK g p (-1) g.n.toNat) g.es.length=RA at NB
 generalize arr (LK g p g.n.toNat) g.es.length=LA
 generalize gY p g.n.toNat=LO at jM
 generalize wz g p g.n.toNat=HI at ru
 generalize fm g p j=E1
 generalize kO g p j=G1
 generalize cK p g.n.toNat=cc at jM ru LZ hrf
 repeat' (first|fail|((first|((with_reducible (first|apply oA|apply oB));exact rfl;intro K hK)|(refine hK _ ?_;clear hK K)|((with_reducible (first|apply oG|apply oH));iterate 3 exact rfl)|((with_reducible apply oI);(iterate 2 exact rfl);intro K hK)|(with_reducible (first|apply wI|apply wJ|apply wK)));try simp only [go_sem,simprocAttr,hb,jM])|fail|(with_reducible (first|apply oC|apply oJ|exact oK|apply wA|apply wB|apply wC hX hC|apply wD hX hC|apply wE hX hC af|apply wF hX hC af|apply wG|apply wH|apply And.intro))|((with_reducible refine oD ?_ ?_);first|fail|kernel_rfl)|((with_reducible (first|apply oE|apply oF));(iterate 3 exact rfl);all_goals (intro h;first|(exact absurd h (by decide))|((try simp only [go_sem,simprocAttr,hb,jM] at h);(try with_reducible intro K hK);simp only [go_sem,simprocAttr,hb,jM])))|((first|((with_reducible apply wL);exact rfl)|((with_reducible apply wM);exact rfl));all_goals (try ((with_reducible intro h);first|(exact absurd h (by decide))|(try simp only [go_sem,simprocAttr,hb,jM] at h))))|omega|((first|fail);try simp only [go_sem,simprocAttr,hb,jM])|(intro h))
 refine an (fun i:Nat=>i≤RA.length) (fun i=>⟨[(4, .ptr 4 0),(12, .ptr 54 0),(17,eN cc),(175, .ref 63),(176,eN RA.length),(177,eN i)], [(54, .box [.d (sI E1), .d (sI G1), .ref 59, .ref 63, .ref 156, .ref 164]),(59, .own 3 1 (LA.map rI)),(63, .own 3 1 ((kP RA (lf g p) i).map rI)),(156, .tip 3 1 ((LO++ [(s0:Int)]).map rI)),(164, .own 3 1 ((HI++ [au p j]).map rI)),(4, .box [.nil 3, .nil 3, .nil 3, .nil 3])]⟩) (fun i=>RA.length - i) 0 (by omega) ?_ ?_
 ·refine Le.of ?_ ?_<;>simp [go_sem,simprocAttr,kP,rI]
 rintro i hi
 rcases Nat.lt_or_ge i RA.length with hil|IK
 ·have mw:decide ((i:Int)<(RA.length:Int))=true:=decide_eq_true (by omega)
  have hml:=Co (l:=RA) (f:=lf g p) (j:=i)
  have hma:=yG (f:=lf g p) hil
  by_cases y5:RA.getD i 0= -1
  ·have aj:decide ((kP RA (lf g p) i).getD i 0= -1)=true:=decide_eq_true (by rw [hma,y5])
   have eu:=s8 (f:=lf g p) hil
   rw [hrf,if_pos y5] at eu
   generalize kP RA (lf g p) i=M at hml aj eu
   repeat' (first|fail|((first|((with_reducible (first|apply oA|apply oB));exact rfl;intro K hK)|(refine hK _ ?_;clear hK K)|((with_reducible (first|apply oG|apply oH));iterate 3 exact rfl)|((with_reducible apply oI);(iterate 2 exact rfl);intro K hK)|(with_reducible (first|apply wI|apply wJ|apply wK)));try simp only [go_sem,simprocAttr,mw,aj,hml])|fail|(with_reducible (first|apply oC|apply oJ|exact oK|apply wA|apply wB|apply wC hX hC|apply wD hX hC|apply wE hX hC af|apply wF hX hC af|apply wG|apply wH|apply And.intro))|((with_reducible refine oD ?_ ?_);first|fail|kernel_rfl)|((with_reducible (first|apply oE|apply oF));(iterate 3 exact rfl);all_goals (intro h;first|(exact absurd h (by decide))|((try simp only [go_sem,simprocAttr,mw,aj,hml] at h);(try with_reducible intro K hK);simp only [go_sem,simprocAttr,mw,aj,hml])))|((first|((with_reducible apply wL);exact rfl)|((with_reducible apply wM);exact rfl));all_goals (try ((with_reducible intro h);first|(exact absurd h (by decide))|(try simp only [go_sem,simprocAttr,mw,aj,hml] at h))))|omega|((first|fail);try simp only [go_sem,simprocAttr,mw,aj,hml])|(intro h))
   refine ⟨i+1,by omega, ?_,by omega⟩
   rw [eu]
   refine Le.of ?_ ?_<;>simp [go_sem,simprocAttr,mw,aj,hml,rI]
  ·have aj:decide ((kP RA (lf g p) i).getD i 0= -1)=false:=decide_eq_false (by rw [hma];exact y5)
   have eu:=zT (f:=lf g p) hil (by rw [hrf,if_neg y5])
   generalize kP RA (lf g p) i=M at hml aj eu
   repeat' (first|fail|((first|((with_reducible (first|apply oA|apply oB));exact rfl;intro K hK)|(refine hK _ ?_;clear hK K)|((with_reducible (first|apply oG|apply oH));iterate 3 exact rfl)|((with_reducible apply oI);(iterate 2 exact rfl);intro K hK)|(with_reducible (first|apply wI|apply wJ|apply wK)));try simp only [go_sem,simprocAttr,mw,aj,hml])|fail|(with_reducible (first|apply oC|apply oJ|exact oK|apply wA|apply wB|apply wC hX hC|apply wD hX hC|apply wE hX hC af|apply wF hX hC af|apply wG|apply wH|apply And.intro))|((with_reducible refine oD ?_ ?_);first|fail|kernel_rfl)|((with_reducible (first|apply oE|apply oF));(iterate 3 exact rfl);all_goals (intro h;first|(exact absurd h (by decide))|((try simp only [go_sem,simprocAttr,mw,aj,hml] at h);(try with_reducible intro K hK);simp only [go_sem,simprocAttr,mw,aj,hml])))|((first|((with_reducible apply wL);exact rfl)|((with_reducible apply wM);exact rfl));all_goals (try ((with_reducible intro h);first|(exact absurd h (by decide))|(try simp only [go_sem,simprocAttr,mw,aj,hml] at h))))|omega|((first|fail);try simp only [go_sem,simprocAttr,mw,aj,hml])|(intro h))
   refine ⟨i+1,by omega, ?_,by omega⟩
   rw [eu]
   refine Le.of ?_ ?_<;>simp [go_sem,simprocAttr,mw,aj,hml,rI]
 have mw:decide ((i:Int)<(RA.length:Int))=false:=decide_eq_false (by omega)
 obtain rfl:i=RA.length:=by omega
 rw [Cp]
 repeat' (first|fail|((first|((with_reducible (first|apply oA|apply oB));exact rfl;intro K hK)|(refine hK _ ?_;clear hK K)|((with_reducible (first|apply oG|apply oH));iterate 3 exact rfl)|((with_reducible apply oI);(iterate 2 exact rfl);intro K hK)|(with_reducible (first|apply wI|apply wJ|apply wK)));try simp only [go_sem,simprocAttr,mw,ic])|fail|(with_reducible (first|apply oC|apply oJ|exact oK|apply wA|apply wB|apply wC hX hC|apply wD hX hC|apply wE hX hC af|apply wF hX hC af|apply wG|apply wH|apply And.intro))|((with_reducible refine oD ?_ ?_);first|fail|kernel_rfl)|((with_reducible (first|apply oE|apply oF));(iterate 3 exact rfl);all_goals (intro h;first|(exact absurd h (by decide))|((try simp only [go_sem,simprocAttr,mw,ic] at h);(try with_reducible intro K hK);simp only [go_sem,simprocAttr,mw,ic])))|((first|((with_reducible apply wL);exact rfl)|((with_reducible apply wM);exact rfl));all_goals (try ((with_reducible intro h);first|(exact absurd h (by decide))|(try simp only [go_sem,simprocAttr,mw,ic] at h))))|omega|((first|fail);try simp only [go_sem,simprocAttr,mw,ic])|(intro h))
end Go.Ab
end
section
namespace Go.Ab
open Go.Proofs
set_option maxRecDepth 10000
set_option linter.unusedSectionVars false
section
variable (g:Gr) (p:Pl)
def cN:Nat:=cK p g.n.toNat
def Lf (e:Int):Int:=LK g p g.n.toNat e
def Rf (e:Int):Int:=RK g p (cN g p) g.n.toNat e
def EV:List Int:=gY p g.n.toNat++ [au p 0]
def Iq:List Int:=wz g p g.n.toNat++ [au p (g.n.toNat - 1)]
def K3 (f:Int):Int:=(EV g p).getD f.toNat 0
def Oj (f:Int):Int:=(Iq g p).getD f.toNat 0
end
section
variable {g:Gr} {p:Pl}
theorem yH:(EV g p).length=cN g p+1:=by simp [EV,ga,cN]
variable (h:bR g p) (hI:jZ g=true)
include h hI
theorem Ir {a:Int} (ha:(fy g p).DX a):∃k u b v,k<g.n.toNat∧pn g a=au p k∧bD p (au p k)=u++a::b::v:=by
 obtain ⟨x,u,b,v,e⟩:=ha
 by_cases hx:nv g x
 ·obtain ⟨k,hk,rfl⟩:=fS h.2.1 hx.1 hx.2
  rw [fT hx] at e
  exact ⟨k,u,b,v,hk,(mq h hk e).1,e⟩
 ·rw [ju hx] at e;cases u<;>cases e
theorem DS {a:Int} (ha:(fy g p).DX a):∃f:Nat,1≤f∧f<cN g p∧∀r,RK g p r g.n.toNat a=f:=by
 obtain ⟨k,u,b,v,hk,_,e⟩:=Ir h hI ha
 have hl:(bD p (au p k)).length=u.length+(v.length+2):=by rw [e];simp
 have DN:cK p (k+1)=cK p k+((bD p (au p k)).length - 1):=rfl
 obtain ⟨d,hd⟩:=Nat.exists_eq_add_of_le (show k+1≤g.n.toNat by omega)
 have hmo:=pE (p:=p) (k:=k+1) (d:=d)
 rw [← hd] at hmo
 have hp:0<cK p k:=uz
 have FI:cN g p=cK p g.n.toNat:=rfl
 exact ⟨cK p k+u.length,by omega,by omega,fun r=>by rw [iD h hk e (by omega) (Nat.le_refl _)];omega⟩
theorem wj:(fy g p).e8 (Lf g p) (Rf g p) 0 (cN g p) (K3 g p):=by
 have F:=mu h hI (r:=cN g p) (.inr (Int.le_refl _))
 exact {F with
  new:=fun {x u a b v} e=>by
   obtain ⟨h1,h2,h3⟩:=F.new e
   obtain ⟨f,_,h5,h6⟩:=DS h hI (a:=a) ⟨x,u,b,v,e⟩
   have h7:Rf g p a=f:=h6 _
   have h8:RK g p (cN g p) g.n.toNat a=f:=h6 _
   refine ⟨?_,h2,h3⟩
   rw [h8] at h1
   show (gY p g.n.toNat++ [au p 0]).getD (Rf g p a).toNat 0=x
   rw [h7, ← h1,Int.toNat_natCast,kD (by rw [ga];exact h5)]}
theorem Is {e:Int} (he:0≤e∧e<g.es.length):lf g p (RK g p (-1) g.n.toNat e)=Rf g p e:=by
 have F:=mu h hI (r:= -1) (.inl (by omega))
 have F':=mu h hI (r:=cN g p) (.inr (Int.le_refl _))
 rcases Al (Cd h hI) F F' (d:=_+1) (Nat.lt_succ_self _) (e:=e) he with ⟨h1,h2⟩|⟨a,h1,_,h2,h3⟩
 ·rw [h1];unfold lf Rf;rw [if_pos rfl,h2];rfl
 ·obtain ⟨f,h4,_,h5⟩:=DS h hI h1
  unfold lf Rf
  rw [h2,h3,h5,h5,if_neg (by omega)]
theorem EW:DA g p=⟨arr (Lf g p) g.es.length,arr (Rf g p) g.es.length,EV g p,Iq g p⟩:=by
 unfold DA
 have:(arr (RK g p (-1) g.n.toNat) g.es.length).map (lf g p)=arr (Rf g p) g.es.length:=by
  unfold arr
  rw [List.map_map]
  refine List.map_congr_left fun i hi=> ?_
  have:=List.mem_range.1 hi
  exact Is h hI (e:=(i:Int)) (by omega)
 rw [this];rfl
theorem DT:(cN g p:Int)=g.es.length - g.n+2:=by
 have hm:=aD h.1
 have hn:=aY hm
 have sS:bD p (au p (g.n.toNat - 1))= []:=(dY h hI (aK h.2.1 (by omega))).2 rfl
 have key:∀k,k<g.n.toNat→(cK p k:Int)=1+((List.range k).flatMap fun j=>bD p (au p j)).length - k:=by
  intro k
  induction k with
  |zero=>intro _;simp [cK]
  |succ k ih=>
   intro hk
   have hO:bD p (au p k)≠ []:=fun h1=>by
    have:=(dY h hI (aK h.2.1 (show k<g.n.toNat by omega))).1 h1
    have:=dA h.2.1 (show k<g.n.toNat by omega) (by omega) this
    omega
   have:=List.length_pos_iff.2 hO
   have ih:=ih (by omega)
   have e1:((List.range (k+1)).flatMap fun j=>bD p (au p j))=((List.range k).flatMap fun j=>bD p (au p j))++bD p (au p k):=by rw [List.range_succ,List.flatMap_append];simp
   rw [e1,List.length_append,cK]
   omega
 have hall:((List.range (g.n.toNat - 1)).flatMap fun j=>bD p (au p j)).length=g.es.length:=by
  have cl:∀k,k≤g.n.toNat→((List.range k).flatMap fun j=>bD p (au p j)).Nodup:=by
   intro k
   induction k with
   |zero=>intro _;simp
   |succ k ih=>
    intro hk
    rw [List.range_succ,List.flatMap_append,List.nodup_append]
    refine ⟨ih (by omega),by simpa using Ch h (by omega),fun a ha b hb e=> ?_⟩
    subst e
    obtain ⟨j,hj,hja⟩:=List.mem_flatMap.1 ha
    have hj:=List.mem_range.1 hj
    have hb:a∈bD p (au p k):=by simpa using hb
    have t1:=(iE h (by omega) hja).2
    have t2:=(iE h (by omega) hb).2
    have:=dA h.2.1 (show j<g.n.toNat by omega) (by omega) (t1.symm.trans t2)
    omega
  have Iu:∀e:Int,0≤e→e<g.es.length→e∈((List.range (g.n.toNat - 1)).flatMap fun j=>bD p (au p j)):=fun e h1 h2=>by
   have ht:=bX hm (i:=e.toNat) (by omega)
   obtain ⟨k,hk,e1⟩:=fS h.2.1 ht.1 ht.2
   have e1:au p k=pn g e:=e1
   obtain ⟨u,v,e2⟩:=yE h hk ⟨h1,h2⟩ e1.symm
   refine List.mem_flatMap.2 ⟨k,List.mem_range.2 ?_,by rw [e2];simp⟩
   refine Decidable.byContradiction fun hc=> ?_
   obtain rfl:k=g.n.toNat - 1:=by omega
   rw [sS] at e2;cases u<;>cases e2
  have h1:=rV Iu
  have h2:=eH (m:=(List.range g.es.length).map Int.ofNat) (cl (g.n.toNat - 1) (by omega)) fun e he=>by
   obtain ⟨j,hj,hja⟩:=List.mem_flatMap.1 he
   have hj:=List.mem_range.1 hj
   have:=(iE h (by omega) hja).1
   exact List.mem_map.2 ⟨e.toNat,List.mem_range.2 (by omega),by simp;omega⟩
  rw [List.length_map,List.length_range] at h2
  omega
 have h1:=key (g.n.toNat - 1) (by omega)
 rw [hall] at h1
 have h2:cN g p=cK p (g.n.toNat - 1):=by
  show cK p g.n.toNat=_
  rw [show g.n.toNat=(g.n.toNat - 1)+1 by omega,cK,show g.n.toNat - 1+1 - 1=g.n.toNat - 1 by omega,sS];rfl
 omega
end
end Go.Ab
end
section
namespace Go.Ab
open Go.Proofs
set_option maxRecDepth 10000
def Cq (q:Nat→Bool):Nat→Nat
 |0=>0
 |n+1=>Cq q n ||| (if q n then 2 ^ n else 0)
theorem nt {q:Nat→Bool} {y:Nat} :∀ {n:Nat},(Cq q n).testBit y=(decide (y<n)&&q y)
 |0=>by simp [Cq]
 |n+1=>by
  rw [Cq,Nat.testBit_or,nt]
  by_cases h:y=n
  ·subst h
   cases hq:q y<;>simp [Nat.testBit_two_pow_self]
  ·have h2:(if q n then 2 ^ n else 0).testBit y=false:=by
    split
    ·rw [Nat.testBit_two_pow];exact decide_eq_false fun e=>h e.symm
    ·simp
   rw [h2,Bool.or_false]
   congr 1
   rw [decide_eq_decide];omega
inductive Af (g:Gr) (both:Bool) (c:Nat→Bool) (x:Nat):Nat→Prop
 |refl:Af g both c x x
 |fwd {i:Nat} :i<g.es.length→c i=true→Af g both c x (tl g i).toNat→Af g both c x (hd g i).toNat
 |L0 {i:Nat} :i<g.es.length→c i=true→both=true→Af g both c x (hd g i).toNat→Af g both c x (tl g i).toNat
theorem Af.trans {g:Gr} {both:Bool} {c:Nat→Bool} {x y z:Nat} (h1:Af g both c x y) (h2:Af g both c y z):Af g both c x z:=by
 induction h2 with
 |refl=>exact h1
 |fwd a b _ ih=>exact .fwd a b ih
 |L0 a b d _ ih=>exact .L0 a b d ih
open Classical in
noncomputable def K4 (g:Gr) (both:Bool) (c:Nat→Bool) (x:Nat):Nat:=Cq (fun y=>decide (Af g both c x y)) g.n.toNat
noncomputable def NC (g:Gr) (both:Bool) (c:Nat→Bool):List Nat:=(List.range g.n.toNat).map (K4 g both c)
open Classical in
theorem IQ {g:Gr} {both:Bool} {c:Nat→Bool} {x y:Nat} :(K4 g both c x).testBit y=true↔y<g.n.toNat∧Af g both c x y:=by
 unfold K4
 rw [nt]
 simp
def Iv (g:Gr) (both:Bool) (c:Nat→Bool) (a:List Nat):Nat→List Nat × Bool
 |0=>(a,false)
 |k+1=>
  let s:=Iv g both c a k
  if c k=true then
   let t:=s.1.getD (tl g k).toNat 0 ||| s.1.getD (hd g k).toNat 0
   let h:=if both=true then t else s.1.getD (hd g k).toNat 0
   ((s.1.set (tl g k).toNat t).set (hd g k).toNat h,s.2||(decide (t≠s.1.getD (tl g k).toNat 0)||decide (h≠s.1.getD (hd g k).toNat 0)))
  else s
structure L3 (g:Gr) (both:Bool) (c:Nat→Bool) (a:List Nat):Prop where
 len:a.length=g.n.toNat
 own:∀x,x<g.n.toNat→(a.getD x 0).testBit x=true
 snd:∀x y,x<g.n.toNat→(a.getD x 0).testBit y=true→y<g.n.toNat∧Af g both c x y
theorem L3.lt {g:Gr} {both:Bool} {c:Nat→Bool} {a:List Nat} (h:L3 g both c a) (hn:g.n.toNat≤64) (x:Nat):a.getD x 0<18446744073709551616:=by
 by_cases hx:x<g.n.toNat
 ·have:a.getD x 0<2 ^ 64:=Nat.lt_pow_two_of_testBit _ fun i hi=>by
   cases hb:(a.getD x 0).testBit i with
   |false=>rfl
   |true=>have:=(h.snd x i hx hb).1;omega
  simpa using this
 ·rw [List.getD_eq_getElem?_getD,List.getElem?_eq_none (by rw [h.len];omega)];simp
def ND (a:List Nat):Nat:=a.foldr (· + ·) 0
end Go.Ab
end
section
namespace Go.Ab
open Go.Proofs
attribute [local congr] ACall.congr
set_option maxRecDepth 20000
set_option maxHeartbeats 8000000
def rU (n:Nat):List D:= [.sc (.int .u64 (n:Int))]
def eU (n:Nat):AV:= .d (.sc (.int .u64 (n:Int)))
def sU (l:List Nat):D:= .sl 1 (l.map rU)
theorem getD_rU (ps:List Nat) (i:Nat):(ps.map rU).getD i [.sc (.int .u64 0)]= [.sc (.int .u64 ((ps.getD i 0:Nat):Int))]:=by
 rw [List.getD_eq_getElem?_getD,List.getElem?_map,List.getD_eq_getElem?_getD]
 cases ps[i]? <;>rfl
attribute [go_sem] eU sU getD_rU InU
end Go.Ab
end
section
namespace Go.Ab
open Go.Proofs
attribute [local congr] ACall.congr
set_option maxRecDepth 20000
set_option maxHeartbeats 8000000
def K5 (k:Nat):List Nat:=(List.range k).map fun x=>2 ^ x
def L4 (g:Gr):List Nat:=if aU g=true then K5 g.n.toNat else []
theorem BK {l:List Nat} :∀r∈l.map rU,∀x∈r,∃v,x=D.sc v:=by
 intro r hr x hx
 obtain ⟨y,_,rfl⟩:=List.mem_map.1 hr
 simp only [rU,List.mem_singleton] at hx
 exact ⟨_,hx⟩
noncomputable def Ol (g:Gr):List Nat:=if aU g=true then NC g false (fun _=>true) else []
end Go.Ab
end
section
namespace Go.Ab
open Go.Proofs
set_option maxRecDepth 10000
set_option linter.unusedSectionVars false
def NF (s:Nat) (x:Int):Bool:=decide (0≤x)&&decide (x<64)&&s.testBit x.toNat
section
variable {P:PS} (h:P.Ok) {L R:Int→Int} {f0 f1:Int} {low:Int→Int} (F:P.e8 L R f0 f1 low)
def NG (P:PS) (R:Int→Int) (f:Int):Nat→Nat
 |0=>0
 |j+1=>if R (P.sh j)=f then j+1 else NG P R f j
include h F
end
section
variable (g:Gr) (p:Pl)
def Om:Gr:=⟨(cN g p:Int)+1,(List.range g.es.length).map fun i:Nat=>(Lf g p i,Rf g p i)⟩
end
section
variable {g:Gr} {p:Pl}
variable (h:bR g p) (hI:jZ g=true)
include h hI
end
end Go.Ab
end
section
namespace Go.Ab
open Go.Proofs
attribute [local congr] ACall.congr
set_option maxRecDepth 10000
set_option maxHeartbeats 16000000
theorem zX (g:Gr) (hl:g.es.length≤9223372036854775807) (p:Pl) (hp:nj p) (b:Bool) (hr:b=true↔(b8 g).1=0∧bu g p):Spec Tryz.prog 47 (Args [eG g,ePl p]) [] (eB (decide ((bK b g p).2.1=0))) []:=by
 have hO:=vY g hl p hp b hr
 generalize bK b g p=R at hO
 (refine Spec.intro (C:=T.cfg [] []) (rs:= [.t 4]) (T.aq _ _) Tryz.func47 rfl rfl Tryz.ntmps47 Tryz.results47 (by simp [AObj.isNest]) (by simp [AObj.isNest]) (by kernel_rfl) ?_;intro X hX hP hC aN aO vals hA;refine ⟨_,by simp,hA, ?_⟩;have af:X.P.follows .mixedOrders=true:=(by rw [hP];exact T.mixed);clear aN aO)
 repeat' (first|fail|((first|((with_reducible (first|apply oA|apply oB));exact rfl;intro K hK)|(refine hK _ ?_;clear hK K)|((with_reducible (first|apply oG|apply oH));iterate 3 exact rfl)|((with_reducible apply oI);(iterate 2 exact rfl);intro K hK)|(with_reducible (first|apply wI|apply wJ|apply wK)));try simp only [go_sem,simprocAttr])|fail|(with_reducible (first|apply oC|apply oJ|exact oK|apply wA|apply wB|apply wC hX hC|apply wD hX hC|apply wE hX hC af|apply wF hX hC af|apply wG|apply wH|apply And.intro))|((with_reducible refine oD ?_ ?_);first|fail|kernel_rfl)|((with_reducible (first|apply oE|apply oF));(iterate 3 exact rfl);all_goals (intro h;first|(exact absurd h (by decide))|((try simp only [go_sem,simprocAttr] at h);(try with_reducible intro K hK);simp only [go_sem,simprocAttr])))|((first|((with_reducible apply wL);exact rfl)|((with_reducible apply wM);exact rfl));all_goals (try ((with_reducible intro h);first|(exact absurd h (by decide))|(try simp only [go_sem,simprocAttr] at h))))|omega|((first|first|refine aa hX hC hP (hO) rfl rfl rfl (by simp only [go_sem,simprocAttr]) rfl ?_);try simp only [go_sem,simprocAttr])|(intro h))
end Go.Ab
end
section
namespace Go.Ab
open Go.Proofs
attribute [local congr] ACall.congr
set_option maxRecDepth 20000
set_option maxHeartbeats 8000000
theorem kQ (g:Gr) (hl:g.es.length≤1000) (p:Pl) (hp:nj p) (b:Bool) (hr:b=true↔(b8 g).1=0∧bu g p):
 Spec Tryz.prog 17 (Args [eG g,ePl p]) [] (.tup [ic (CE b g p).1,eN (CE b g p).2]) []:=by
 have hO:=lH g hl p hp b hr
 have EU:=qX g hl
 by_cases h0:(bK b g p).2.1=0
 rotate_left
 ·have hK:CE b g p=(pH,1):=if_neg fun h=>h0 h.1.1
  have hb0:decide ((bK b g p).2.1=0)=false:=decide_eq_false h0
  rw [hK]
  (refine Spec.intro (C:=T.cfg [] []) (rs:= [.c 4 32, .t 5]) (T.aq _ _) Tryz.func17 rfl rfl Tryz.ntmps17 Tryz.results17 (by simp [AObj.isNest]) (by simp [AObj.isNest]) (by kernel_rfl) ?_;intro X hX hP hC aN aO vals hA;refine ⟨_,by simp,hA, ?_⟩;have af:X.P.follows .mixedOrders=true:=(by rw [hP];exact T.mixed);clear aN aO)
  repeat' (first|fail|((first|((with_reducible (first|apply oA|apply oB));exact rfl;intro K hK)|(refine hK _ ?_;clear hK K)|((with_reducible (first|apply oG|apply oH));iterate 3 exact rfl)|((with_reducible apply oI);(iterate 2 exact rfl);intro K hK)|(with_reducible (first|apply wI|apply wJ|apply wK)));try simp only [go_sem,simprocAttr,hb0,ic,pH,List.map_nil])|fail|(with_reducible (first|apply oC|apply oJ|exact oK|apply wA|apply wB|apply wC hX hC|apply wD hX hC|apply wE hX hC af|apply wF hX hC af|apply wG|apply wH|apply And.intro))|((with_reducible refine oD ?_ ?_);first|fail|kernel_rfl)|((with_reducible (first|apply oE|apply oF));(iterate 3 exact rfl);all_goals (intro h;first|(exact absurd h (by decide))|((try simp only [go_sem,simprocAttr,hb0,ic,pH,List.map_nil] at h);(try with_reducible intro K hK);simp only [go_sem,simprocAttr,hb0,ic,pH,List.map_nil])))|((first|((with_reducible apply wL);exact rfl)|((with_reducible apply wM);exact rfl));all_goals (try ((with_reducible intro h);first|(exact absurd h (by decide))|(try simp only [go_sem,simprocAttr,hb0,ic,pH,List.map_nil] at h))))|omega|((first|first|refine aa hX hC hP (hO) rfl rfl rfl (by simp only [go_sem,simprocAttr,hb0,ic,pH,List.map_nil]) rfl ?_);try simp only [go_sem,simprocAttr,hb0,ic,pH,List.map_nil])|(intro h))
 obtain ⟨hrun,hR⟩:=sR hr h0
 cases hI:jZ g with
 |false=>
  have hK:CE b g p=(pH,1):=if_neg fun h=>by rw [hI] at h;cases h.1.2
  rw [hR] at hO
  simp only at hO
  rw [hI] at EU
  rw [hK]
  (refine Spec.intro (C:=T.cfg [] []) (rs:= [.c 4 32, .t 5]) (T.aq _ _) Tryz.func17 rfl rfl Tryz.ntmps17 Tryz.results17 (by simp [AObj.isNest]) (by simp [AObj.isNest]) (by kernel_rfl) ?_;intro X hX hP hC aN aO vals hA;refine ⟨_,by simp,hA, ?_⟩;have af:X.P.follows .mixedOrders=true:=(by rw [hP];exact T.mixed);clear aN aO)
  repeat' (first|fail|((first|((with_reducible (first|apply oA|apply oB));exact rfl;intro K hK)|(refine hK _ ?_;clear hK K)|((with_reducible (first|apply oG|apply oH));iterate 3 exact rfl)|((with_reducible apply oI);(iterate 2 exact rfl);intro K hK)|(with_reducible (first|apply wI|apply wJ|apply wK)));try simp only [go_sem,simprocAttr,ic,pH,List.map_nil])|fail|(with_reducible (first|apply oC|apply oJ|exact oK|apply wA|apply wB|apply wC hX hC|apply wD hX hC|apply wE hX hC af|apply wF hX hC af|apply wG|apply wH|apply And.intro))|((with_reducible refine oD ?_ ?_);first|fail|kernel_rfl)|((with_reducible (first|apply oE|apply oF));(iterate 3 exact rfl);all_goals (intro h;first|(exact absurd h (by decide))|((try simp only [go_sem,simprocAttr,ic,pH,List.map_nil] at h);(try with_reducible intro K hK);simp only [go_sem,simprocAttr,ic,pH,List.map_nil])))|((first|((with_reducible apply wL);exact rfl)|((with_reducible apply wM);exact rfl));all_goals (try ((with_reducible intro h);first|(exact absurd h (by decide))|(try simp only [go_sem,simprocAttr,ic,pH,List.map_nil] at h))))|omega|((first|first|refine aa hX hC hP (hO) rfl rfl rfl (by simp only [go_sem,simprocAttr,ic,pH,List.map_nil]) rfl ?_|refine aa hX hC hP (EU) rfl rfl rfl (by simp only [go_sem,simprocAttr,ic,pH,List.map_nil]) rfl ?_);try simp only [go_sem,simprocAttr,ic,pH,List.map_nil])|(intro h))
 |true=>
  by_cases hm:0<g.es.length
  ·have hK:CE b g p=(DA g p,0):=if_pos ⟨⟨h0,hI⟩,hm⟩
   rw [hK]
   exact zW g p hp hrun hI hm b hr
  ·have hK:CE b g p=(pH,1):=if_neg fun h=>hm h.2
   have aj:decide ((g.es.length:Int)=0)=true:=decide_eq_true (by omega)
   rw [hR] at hO
   simp only at hO
   rw [hI] at EU
   rw [hK]
   (refine Spec.intro (C:=T.cfg [] []) (rs:= [.c 4 32, .t 5]) (T.aq _ _) Tryz.func17 rfl rfl Tryz.ntmps17 Tryz.results17 (by simp [AObj.isNest]) (by simp [AObj.isNest]) (by kernel_rfl) ?_;intro X hX hP hC aN aO vals hA;refine ⟨_,by simp,hA, ?_⟩;have af:X.P.follows .mixedOrders=true:=(by rw [hP];exact T.mixed);clear aN aO)
   repeat' (first|fail|((first|((with_reducible (first|apply oA|apply oB));exact rfl;intro K hK)|(refine hK _ ?_;clear hK K)|((with_reducible (first|apply oG|apply oH));iterate 3 exact rfl)|((with_reducible apply oI);(iterate 2 exact rfl);intro K hK)|(with_reducible (first|apply wI|apply wJ|apply wK)));try simp only [go_sem,simprocAttr,aj,ic,pH,List.map_nil])|fail|(with_reducible (first|apply oC|apply oJ|exact oK|apply wA|apply wB|apply wC hX hC|apply wD hX hC|apply wE hX hC af|apply wF hX hC af|apply wG|apply wH|apply And.intro))|((with_reducible refine oD ?_ ?_);first|fail|kernel_rfl)|((with_reducible (first|apply oE|apply oF));(iterate 3 exact rfl);all_goals (intro h;first|(exact absurd h (by decide))|((try simp only [go_sem,simprocAttr,aj,ic,pH,List.map_nil] at h);(try with_reducible intro K hK);simp only [go_sem,simprocAttr,aj,ic,pH,List.map_nil])))|((first|((with_reducible apply wL);exact rfl)|((with_reducible apply wM);exact rfl));all_goals (try ((with_reducible intro h);first|(exact absurd h (by decide))|(try simp only [go_sem,simprocAttr,aj,ic,pH,List.map_nil] at h))))|omega|((first|first|refine aa hX hC hP (hO) rfl rfl rfl (by simp only [go_sem,simprocAttr,aj,ic,pH,List.map_nil]) rfl ?_|refine aa hX hC hP (EU) rfl rfl rfl (by simp only [go_sem,simprocAttr,aj,ic,pH,List.map_nil]) rfl ?_);try simp only [go_sem,simprocAttr,aj,ic,pH,List.map_nil])|(intro h))
end Go.Ab
end
section
namespace Go.Ab
open Go.Proofs
attribute [local congr] ACall.congr
set_option maxRecDepth 20000
set_option maxHeartbeats 8000000
def On (f:Fc) (k:Nat):List Edge:=(List.range k).map fun i:Nat=>(f.L.getD i 0,f.R.getD i 0)
def wk (b:Bool) (g:Gr) (p:Pl):Bool:= !oV g p&&jZ g&&decide ((bK b g p).2.1=0)&&decide (0<(g.es.length:Int))&&decide ((g.es.length:Int)≤60)
theorem uE (g:Gr) (hl:g.es.length≤9223372036854775807) (p:Pl) (hp:yo p) (b:Bool) (hr:b=true↔(b8 g).1=0∧bu g p):Spec Tryz.prog 16 (Args [eG g,ePl p]) [] (eB (wk b g p)) []:=by
 have hG:=ur g p hl hp
 cases hB:oV g p with
 |true=>
  rw [hB] at hG
  have ha:wk b g p=false:=by unfold wk;rw [hB];rfl
  rw [ha]
  (refine Spec.intro (C:=T.cfg [] []) (rs:= [.t 4]) (T.aq _ _) Tryz.func16 rfl rfl Tryz.ntmps16 Tryz.results16 (by simp [AObj.isNest]) (by simp [AObj.isNest]) (by kernel_rfl) ?_;intro X hX hP hC aN aO vals hA;refine ⟨_,by simp,hA, ?_⟩;have af:X.P.follows .mixedOrders=true:=(by rw [hP];exact T.mixed);clear aN aO)
  repeat' (first|fail|((first|((with_reducible (first|apply oA|apply oB));exact rfl;intro K hK)|(refine hK _ ?_;clear hK K)|((with_reducible (first|apply oG|apply oH));iterate 3 exact rfl)|((with_reducible apply oI);(iterate 2 exact rfl);intro K hK)|(with_reducible (first|apply wI|apply wJ|apply wK)));try simp only [go_sem,simprocAttr])|fail|(with_reducible (first|apply oC|apply oJ|exact oK|apply wA|apply wB|apply wC hX hC|apply wD hX hC|apply wE hX hC af|apply wF hX hC af|apply wG|apply wH|apply And.intro))|((with_reducible refine oD ?_ ?_);first|fail|kernel_rfl)|((with_reducible (first|apply oE|apply oF));(iterate 3 exact rfl);all_goals (intro h;first|(exact absurd h (by decide))|((try simp only [go_sem,simprocAttr] at h);(try with_reducible intro K hK);simp only [go_sem,simprocAttr])))|((first|((with_reducible apply wL);exact rfl)|((with_reducible apply wM);exact rfl));all_goals (try ((with_reducible intro h);first|(exact absurd h (by decide))|(try simp only [go_sem,simprocAttr] at h))))|omega|((first|first|refine aa hX hC hP (hG) rfl rfl rfl (by simp only [go_sem,simprocAttr]) rfl ?_);try simp only [go_sem,simprocAttr])|(intro h))
 |false=>
  rw [hB] at hG
  have hI:=xB g (by have:=(uq hB).1;omega)
  have zS:=zX g hl p (kH hB) b hr
  have ha:wk b g p=(jZ g&&decide ((bK b g p).2.1=0)&&decide (0<(g.es.length:Int))&&decide ((g.es.length:Int)≤60)):=by unfold wk;rw [hB];rfl
  rw [ha]
  cases hi:jZ g with
  |false=>
   rw [hi] at hI
   (refine Spec.intro (C:=T.cfg [] []) (rs:= [.t 4]) (T.aq _ _) Tryz.func16 rfl rfl Tryz.ntmps16 Tryz.results16 (by simp [AObj.isNest]) (by simp [AObj.isNest]) (by kernel_rfl) ?_;intro X hX hP hC aN aO vals hA;refine ⟨_,by simp,hA, ?_⟩;have af:X.P.follows .mixedOrders=true:=(by rw [hP];exact T.mixed);clear aN aO)
   repeat' (first|fail|((first|((with_reducible (first|apply oA|apply oB));exact rfl;intro K hK)|(refine hK _ ?_;clear hK K)|((with_reducible (first|apply oG|apply oH));iterate 3 exact rfl)|((with_reducible apply oI);(iterate 2 exact rfl);intro K hK)|(with_reducible (first|apply wI|apply wJ|apply wK)));try simp only [go_sem,simprocAttr,Bool.false_and])|fail|(with_reducible (first|apply oC|apply oJ|exact oK|apply wA|apply wB|apply wC hX hC|apply wD hX hC|apply wE hX hC af|apply wF hX hC af|apply wG|apply wH|apply And.intro))|((with_reducible refine oD ?_ ?_);first|fail|kernel_rfl)|((with_reducible (first|apply oE|apply oF));(iterate 3 exact rfl);all_goals (intro h;first|(exact absurd h (by decide))|((try simp only [go_sem,simprocAttr,Bool.false_and] at h);(try with_reducible intro K hK);simp only [go_sem,simprocAttr,Bool.false_and])))|((first|((with_reducible apply wL);exact rfl)|((with_reducible apply wM);exact rfl));all_goals (try ((with_reducible intro h);first|(exact absurd h (by decide))|(try simp only [go_sem,simprocAttr,Bool.false_and] at h))))|omega|((first|first|refine aa hX hC hP (hG) rfl rfl rfl (by simp only [go_sem,simprocAttr,Bool.false_and]) rfl ?_|refine aa hX hC hP (hI) rfl rfl rfl (by simp only [go_sem,simprocAttr,Bool.false_and]) rfl ?_);try simp only [go_sem,simprocAttr,Bool.false_and])|(intro h))
  |true=>
   rw [hi] at hI
   cases hd:decide ((bK b g p).2.1=0) with
   |false=>
    rw [hd] at zS
    (refine Spec.intro (C:=T.cfg [] []) (rs:= [.t 4]) (T.aq _ _) Tryz.func16 rfl rfl Tryz.ntmps16 Tryz.results16 (by simp [AObj.isNest]) (by simp [AObj.isNest]) (by kernel_rfl) ?_;intro X hX hP hC aN aO vals hA;refine ⟨_,by simp,hA, ?_⟩;have af:X.P.follows .mixedOrders=true:=(by rw [hP];exact T.mixed);clear aN aO)
    repeat' (first|fail|((first|((with_reducible (first|apply oA|apply oB));exact rfl;intro K hK)|(refine hK _ ?_;clear hK K)|((with_reducible (first|apply oG|apply oH));iterate 3 exact rfl)|((with_reducible apply oI);(iterate 2 exact rfl);intro K hK)|(with_reducible (first|apply wI|apply wJ|apply wK)));try simp only [go_sem,simprocAttr,Bool.false_and,Bool.true_and])|fail|(with_reducible (first|apply oC|apply oJ|exact oK|apply wA|apply wB|apply wC hX hC|apply wD hX hC|apply wE hX hC af|apply wF hX hC af|apply wG|apply wH|apply And.intro))|((with_reducible refine oD ?_ ?_);first|fail|kernel_rfl)|((with_reducible (first|apply oE|apply oF));(iterate 3 exact rfl);all_goals (intro h;first|(exact absurd h (by decide))|((try simp only [go_sem,simprocAttr,Bool.false_and,Bool.true_and] at h);(try with_reducible intro K hK);simp only [go_sem,simprocAttr,Bool.false_and,Bool.true_and])))|((first|((with_reducible apply wL);exact rfl)|((with_reducible apply wM);exact rfl));all_goals (try ((with_reducible intro h);first|(exact absurd h (by decide))|(try simp only [go_sem,simprocAttr,Bool.false_and,Bool.true_and] at h))))|omega|((first|first|refine aa hX hC hP (hG) rfl rfl rfl (by simp only [go_sem,simprocAttr,Bool.false_and,Bool.true_and]) rfl ?_|refine aa hX hC hP (hI) rfl rfl rfl (by simp only [go_sem,simprocAttr,Bool.false_and,Bool.true_and]) rfl ?_|refine aa hX hC hP (zS) rfl rfl rfl (by simp only [go_sem,simprocAttr,Bool.false_and,Bool.true_and]) rfl ?_);try simp only [go_sem,simprocAttr,Bool.false_and,Bool.true_and])|(intro h))
   |true=>
    rw [hd] at zS
    (refine Spec.intro (C:=T.cfg [] []) (rs:= [.t 4]) (T.aq _ _) Tryz.func16 rfl rfl Tryz.ntmps16 Tryz.results16 (by simp [AObj.isNest]) (by simp [AObj.isNest]) (by kernel_rfl) ?_;intro X hX hP hC aN aO vals hA;refine ⟨_,by simp,hA, ?_⟩;have af:X.P.follows .mixedOrders=true:=(by rw [hP];exact T.mixed);clear aN aO)
    repeat' (first|fail|((first|((with_reducible (first|apply oA|apply oB));exact rfl;intro K hK)|(refine hK _ ?_;clear hK K)|((with_reducible (first|apply oG|apply oH));iterate 3 exact rfl)|((with_reducible apply oI);(iterate 2 exact rfl);intro K hK)|(with_reducible (first|apply wI|apply wJ|apply wK)));try simp only [go_sem,simprocAttr,Bool.false_and,Bool.true_and])|fail|(with_reducible (first|apply oC|apply oJ|exact oK|apply wA|apply wB|apply wC hX hC|apply wD hX hC|apply wE hX hC af|apply wF hX hC af|apply wG|apply wH|apply And.intro))|((with_reducible refine oD ?_ ?_);first|fail|kernel_rfl)|((with_reducible (first|apply oE|apply oF));(iterate 3 exact rfl);all_goals (intro h;first|(exact absurd h (by decide))|((try simp only [go_sem,simprocAttr,Bool.false_and,Bool.true_and] at h);(try with_reducible intro K hK);simp only [go_sem,simprocAttr,Bool.false_and,Bool.true_and])))|((first|((with_reducible apply wL);exact rfl)|((with_reducible apply wM);exact rfl));all_goals (try ((with_reducible intro h);first|(exact absurd h (by decide))|(try simp only [go_sem,simprocAttr,Bool.false_and,Bool.true_and] at h))))|omega|((first|first|refine aa hX hC hP (hG) rfl rfl rfl (by simp only [go_sem,simprocAttr,Bool.false_and,Bool.true_and]) rfl ?_|refine aa hX hC hP (hI) rfl rfl rfl (by simp only [go_sem,simprocAttr,Bool.false_and,Bool.true_and]) rfl ?_|refine aa hX hC hP (zS) rfl rfl rfl (by simp only [go_sem,simprocAttr,Bool.false_and,Bool.true_and]) rfl ?_);try simp only [go_sem,simprocAttr,Bool.false_and,Bool.true_and])|(intro h))
    all_goals (simp [*];omega)
theorem EX {b:Bool} {g:Gr} {p:Pl} (hr:b=true↔(b8 g).1=0∧bu g p) (h:wk b g p=true):oV g p=false∧jZ g=true∧bR g p∧0<g.es.length∧g.es.length≤60:=by
 simp only [wk,Bool.and_eq_true,Bool.not_eq_true',decide_eq_true_eq] at h
 exact ⟨h.1.1.1.1,h.1.1.1.2,(sR hr h.1.1.2).1,by omega,by omega⟩
theorem Cr {b:Bool} {g:Gr} {p:Pl} (hr:b=true↔(b8 g).1=0∧bu g p) (hrun:bR g p) (hI:jZ g=true) (h0:0<g.es.length):CE b g p=(⟨arr (Lf g p) g.es.length,arr (Rf g p) g.es.length,EV g p,Iq g p⟩,0):=by
 have:CE b g p=(DA g p,0):=if_pos ⟨⟨by rw [rz hr hrun],hI⟩,h0⟩
 rw [this,EW hrun hI]
def DU:Gr:=⟨4, [(0,1),(1,3),(0,2),(2,3)]⟩
def EY:Pl:=⟨[0,1,2,3], [[0,2], [1], [3], []]⟩
theorem K6:(true=true)↔(b8 DU).1=0∧bu DU EY:=⟨fun _=>⟨by decide,⟨rfl,by decide,by decide⟩⟩,fun _=>rfl⟩
theorem K7:CE true DU EY=(⟨[0,0,1,1], [1,1,2,2], [0,0,0], [3,3,3]⟩,0):=by
 have:CE true DU EY=(DA DU EY,0):=if_pos ⟨⟨rfl,by decide⟩,by decide⟩
 rw [this]
 rfl
theorem lM:Spec Tryz.prog 15 (Args []) [] (eB true) []:=by
 have EM:=kQ DU (by decide) EY ⟨by decide,by decide,by decide⟩ true K6
 rw [K7] at EM
 simp only at EM
 have e1:DU.es.map rE= [[.sc (.int .i64 0), .sc (.int .i64 1)], [.sc (.int .i64 1), .sc (.int .i64 3)], [.sc (.int .i64 0), .sc (.int .i64 2)], [.sc (.int .i64 2), .sc (.int .i64 3)]]:=rfl
 have e2:EY.ord.map rI= [[.sc (.int .i64 0)], [.sc (.int .i64 1)], [.sc (.int .i64 2)], [.sc (.int .i64 3)]]:=rfl
 have e3:vI EY.outs= [[.sl 1 [[.sc (.int .i64 0)], [.sc (.int .i64 2)]]], [.sl 1 [[.sc (.int .i64 1)]]], [.sl 1 [[.sc (.int .i64 3)]]], [.sl 1 []]]:=rfl
 have e4:DU.n=4:=rfl
 (refine Spec.intro (C:=T.cfg [] []) (rs:= [.t 0]) (T.aq _ _) Tryz.func15 rfl rfl Tryz.ntmps15 Tryz.results15 (by simp [AObj.isNest]) (by simp [AObj.isNest]) (by kernel_rfl) ?_;intro X hX hP hC aN aO vals hA;refine ⟨_,by simp,hA, ?_⟩;have af:X.P.follows .mixedOrders=true:=(by rw [hP];exact T.mixed);clear aN aO)
 repeat' (first|fail|((first|((with_reducible (first|apply oA|apply oB));exact rfl;intro K hK)|(refine hK _ ?_;clear hK K)|((with_reducible (first|apply oG|apply oH));iterate 3 exact rfl)|((with_reducible apply oI);(iterate 2 exact rfl);intro K hK)|(with_reducible (first|apply wI|apply wJ|apply wK)));try simp only [go_sem,simprocAttr,ic,e1,e2,e3,e4,List.map_cons,List.map_nil,rI,decide_true])|fail|(with_reducible (first|apply oC|apply oJ|exact oK|apply wA|apply wB|apply wC hX hC|apply wD hX hC|apply wE hX hC af|apply wF hX hC af|apply wG|apply wH|apply And.intro))|((with_reducible refine oD ?_ ?_);first|fail|kernel_rfl)|((with_reducible (first|apply oE|apply oF));(iterate 3 exact rfl);all_goals (intro h;first|(exact absurd h (by decide))|((try simp only [go_sem,simprocAttr,ic,e1,e2,e3,e4,List.map_cons,List.map_nil,rI,decide_true] at h);(try with_reducible intro K hK);simp only [go_sem,simprocAttr,ic,e1,e2,e3,e4,List.map_cons,List.map_nil,rI,decide_true])))|((first|((with_reducible apply wL);exact rfl)|((with_reducible apply wM);exact rfl));all_goals (try ((with_reducible intro h);first|(exact absurd h (by decide))|(try simp only [go_sem,simprocAttr,ic,e1,e2,e3,e4,List.map_cons,List.map_nil,rI,decide_true] at h))))|omega|((first|first|(refine bJ hX hC hP (EM) rfl rfl rfl ?_ ?_ rfl ?_;iterate 2 (focus (simp only [go_sem,simprocAttr,ic,e1,e2,e3,e4,List.map_cons,List.map_nil,rI,decide_true];done)))|(refine bJ hX hC hP (lE [0,0,1,1] [0,0,1,1] (by decide)) rfl rfl rfl ?_ ?_ rfl ?_;iterate 2 (focus (simp only [go_sem,simprocAttr,ic,e1,e2,e3,e4,List.map_cons,List.map_nil,rI,decide_true];done)))|(refine bJ hX hC hP (lE [1,1,2,2] [1,1,2,2] (by decide)) rfl rfl rfl ?_ ?_ rfl ?_;iterate 2 (focus (simp only [go_sem,simprocAttr,ic,e1,e2,e3,e4,List.map_cons,List.map_nil,rI,decide_true];done))));try simp only [go_sem,simprocAttr,ic,e1,e2,e3,e4,List.map_cons,List.map_nil,rI,decide_true])|(intro h))
end Go.Ab
end
section
namespace Go.Ab
open Go.Proofs
attribute [local congr] ACall.congr
set_option maxRecDepth 10000
set_option maxHeartbeats 8000000
def j0 (l:List Int) (k:Nat):List Int:=(List.range l.length).map fun p=>if p<k∨l.length - 1<p+k then l.getD (l.length - 1 - p) 0 else l.getD p 0
theorem bP {l:List Int} {k:Nat} :(j0 l k).length=l.length:=by simp [j0]
theorem jy {l:List Int} {k p:Nat} (h:p<l.length):(j0 l k)[p]? =some (if p<k∨l.length - 1<p+k then l.getD (l.length - 1 - p) 0 else l.getD p 0):=by
 simp [j0,List.getElem?_range h]
theorem rC {l:List Int} {k p:Nat} (h:p<l.length) (d:Int):(j0 l k).getD p d=if p<k∨l.length - 1<p+k then l.getD (l.length - 1 - p) 0 else l.getD p 0:=by
 rw [List.getD_eq_getElem?_getD,jy h];rfl
theorem xG {l:List Int} :j0 l 0=l:=by
 refine List.ext_getElem? fun i=> ?_
 by_cases hi:i<l.length
 ·rw [jy hi,if_neg (by omega),List.getD_eq_getElem?_getD,List.getElem?_eq_getElem hi];rfl
 ·rw [List.getElem?_eq_none (by rw [bP];omega),List.getElem?_eq_none (by omega)]
theorem zY {l:List Int} {k:Nat} (h:l.length≤2*k+1):j0 l k=l.reverse:=by
 refine List.ext_getElem? fun i=> ?_
 by_cases hi:i<l.length
 ·rw [jy hi,List.getElem?_reverse hi]
  split
  ·rw [List.getD_eq_getElem?_getD,List.getElem?_eq_getElem (by omega)];rfl
  ·have:i=l.length - 1 - i:=by omega
   rw [← this,List.getD_eq_getElem?_getD,List.getElem?_eq_getElem hi];rfl
 ·rw [List.getElem?_eq_none (by rw [bP];omega),List.getElem?_eq_none (by rw [List.length_reverse];omega)]
theorem xH {l:List Int} {k:Nat} (h:k<l.length - 1 - k):((j0 l k).set k ((j0 l k).getD (l.length - 1 - k) 0)).set (l.length - 1 - k) ((j0 l k).getD k 0)=j0 l (k+1):=by
 refine List.ext_getElem? fun i=> ?_
 rw [List.getElem?_set,List.length_set,bP,List.getElem?_set,bP]
 by_cases hi:i<l.length
 ·rw [jy hi,jy hi,rC (by omega),rC (by omega)]
  by_cases h1:l.length - 1 - k=i
  ·rw [if_pos h1,if_pos (by omega),if_neg (by omega),if_pos (by omega)]
   congr 2;omega
  ·rw [if_neg h1]
   by_cases h2:k=i
   ·rw [if_pos h2,if_pos (by omega),if_neg (by omega),if_pos (by omega)]
    congr 2;omega
   ·rw [if_neg h2]
    congr 1
    by_cases h3:i<k∨l.length - 1<i+k
    ·rw [if_pos h3,if_pos (by omega)]
    ·rw [if_neg h3,if_neg (by omega)]
 ·rw [List.getElem?_eq_none (by rw [bP];omega),List.getElem?_eq_none (by rw [bP];omega),if_neg (by omega),if_neg (by omega)]
theorem rS (l:List Int) (hl:l.length≤1000000):Spec Tryz.prog 57 (Args [.ref 10000]) [(10000, .own 3 1 (l.map rI))] (.tup []) [(10000, .own 3 1 (l.reverse.map rI))]:=by
 (refine Spec.intro (C:=T.cfg [] []) (rs:= []) (T.aq _ _) Tryz.func57 rfl rfl Tryz.ntmps57 Tryz.results57 (by simp [AObj.isNest]) (by simp [AObj.isNest]) (by kernel_rfl) ?_;intro X hX hP hC aN aO vals hA;refine ⟨_,by simp,hA, ?_⟩;have af:X.P.follows .mixedOrders=true:=(by rw [hP];exact T.mixed);clear aN aO)
 repeat' (first|fail|((first|((with_reducible (first|apply oA|apply oB));exact rfl;intro K hK)|(refine hK _ ?_;clear hK K)|((with_reducible (first|apply oG|apply oH));iterate 3 exact rfl)|((with_reducible apply oI);(iterate 2 exact rfl);intro K hK)|(with_reducible (first|apply wI|apply wJ|apply wK)));try simp only [go_sem,simprocAttr])|fail|(with_reducible (first|apply oC|apply oJ|exact oK|apply wA|apply wB|apply wC hX hC|apply wD hX hC|apply wE hX hC af|apply wF hX hC af|apply wG|apply wH|apply And.intro))|((with_reducible refine oD ?_ ?_);first|fail|kernel_rfl)|((with_reducible (first|apply oE|apply oF));(iterate 3 exact rfl);all_goals (intro h;first|(exact absurd h (by decide))|((try simp only [go_sem,simprocAttr] at h);(try with_reducible intro K hK);simp only [go_sem,simprocAttr])))|((first|((with_reducible apply wL);exact rfl)|((with_reducible apply wM);exact rfl));all_goals (try ((with_reducible intro h);first|(exact absurd h (by decide))|(try simp only [go_sem,simprocAttr] at h))))|omega|((first|fail);try simp only [go_sem,simprocAttr])|(intro h))
 refine an (fun k:Nat=>2*k≤l.length+1) (fun k=>⟨[(0, .ref 10000),(2,eN k),(3,eN ((l.length:Int) - 1 - k))], [(10000, .own 3 1 ((j0 l k).map rI))]⟩) (fun k=>l.length+1 - k) 0 (by omega) ?_ ?_
 ·refine Le.of ?_ ?_<;>simp [go_sem,simprocAttr,xG]
 rintro k hk
 rcases Nat.lt_or_ge (2*k+1) l.length with hlt|hge
 ·have hb:decide ((k:Int)<(l.length:Int) - 1 - (k:Int))=true:=decide_eq_true (by omega)
  have ht:((l.length:Int) - 1 - (k:Int)).toNat=l.length - 1 - k:=by omega
  repeat' (first|fail|((first|((with_reducible (first|apply oA|apply oB));exact rfl;intro K hK)|(refine hK _ ?_;clear hK K)|((with_reducible (first|apply oG|apply oH));iterate 3 exact rfl)|((with_reducible apply oI);(iterate 2 exact rfl);intro K hK)|(with_reducible (first|apply wI|apply wJ|apply wK)));try simp only [go_sem,simprocAttr,hb,ht,bP,iJ,List.length_cons,List.length_nil,List.drop_succ_cons,List.drop_zero,List.drop_nil])|fail|(with_reducible (first|apply oC|apply oJ|exact oK|apply wA|apply wB|apply wC hX hC|apply wD hX hC|apply wE hX hC af|apply wF hX hC af|apply wG|apply wH|apply And.intro))|((with_reducible refine oD ?_ ?_);first|fail|kernel_rfl)|((with_reducible (first|apply oE|apply oF));(iterate 3 exact rfl);all_goals (intro h;first|(exact absurd h (by decide))|((try simp only [go_sem,simprocAttr,hb,ht,bP,iJ,List.length_cons,List.length_nil,List.drop_succ_cons,List.drop_zero,List.drop_nil] at h);(try with_reducible intro K hK);simp only [go_sem,simprocAttr,hb,ht,bP,iJ,List.length_cons,List.length_nil,List.drop_succ_cons,List.drop_zero,List.drop_nil])))|((first|((with_reducible apply wL);exact rfl)|((with_reducible apply wM);exact rfl));all_goals (try ((with_reducible intro h);first|(exact absurd h (by decide))|(try simp only [go_sem,simprocAttr,hb,ht,bP,iJ,List.length_cons,List.length_nil,List.drop_succ_cons,List.drop_zero,List.drop_nil] at h))))|omega|((first|fail);try simp only [go_sem,simprocAttr,hb,ht,bP,iJ,List.length_cons,List.length_nil,List.drop_succ_cons,List.drop_zero,List.drop_nil])|(intro h))
  refine ⟨k+1,by omega, ?_,by omega⟩
  refine Le.of ?_ ?_<;>simp [go_sem,simprocAttr]
  all_goals (first|omega|skip)
  all_goals (rw [← xH (by omega),List.map_set,List.map_set];simp only [List.getD_eq_getElem?_getD];try rfl)
 ·have hb:decide ((k:Int)<(l.length:Int) - 1 - (k:Int))=false:=decide_eq_false (by omega)
  repeat' (first|fail|((first|((with_reducible (first|apply oA|apply oB));exact rfl;intro K hK)|(refine hK _ ?_;clear hK K)|((with_reducible (first|apply oG|apply oH));iterate 3 exact rfl)|((with_reducible apply oI);(iterate 2 exact rfl);intro K hK)|(with_reducible (first|apply wI|apply wJ|apply wK)));try simp only [go_sem,simprocAttr,hb])|fail|(with_reducible (first|apply oC|apply oJ|exact oK|apply wA|apply wB|apply wC hX hC|apply wD hX hC|apply wE hX hC af|apply wF hX hC af|apply wG|apply wH|apply And.intro))|((with_reducible refine oD ?_ ?_);first|fail|kernel_rfl)|((with_reducible (first|apply oE|apply oF));(iterate 3 exact rfl);all_goals (intro h;first|(exact absurd h (by decide))|((try simp only [go_sem,simprocAttr,hb] at h);(try with_reducible intro K hK);simp only [go_sem,simprocAttr,hb])))|((first|((with_reducible apply wL);exact rfl)|((with_reducible apply wM);exact rfl));all_goals (try ((with_reducible intro h);first|(exact absurd h (by decide))|(try simp only [go_sem,simprocAttr,hb] at h))))|omega|((first|fail);try simp only [go_sem,simprocAttr,hb])|(intro h))
  simp only [go_sem,simprocAttr,hb,zY hge]
theorem uF (ps:List Int) (hl:ps.length≤1000000):
 Spec Tryz.prog 53 (Args [.d (sI ps)]) [] (.ref 10000) [(10000, .own 3 1 (ps.map rI))]:=by
 (refine Spec.er (C:=T.cfg [5,7] []) (rs:= [.t 2]) [(10000,7)] (T.aq _ _) Tryz.func53 rfl rfl Tryz.ntmps53 Tryz.results53 (by simp [AObj.isNest]) (by simp [AObj.isNest]) (by first|(simp [look];done)|(simp [asN];done)|(intro l hl;simp only [asN];repeat (rw [if_neg (fun e=>by subst e;simp [look] at hl)]))) (by first|(simp [look];done)|(simp [asN];done)|(intro l hl;simp only [asN];repeat (rw [if_neg (fun e=>by subst e;simp [look] at hl)]))) (by kernel_rfl) ?_;intro X hX hP hC aN aO vals hA;refine ⟨_,by simp,hA, ?_⟩;have af:X.P.follows .mixedOrders=true:=(by rw [hP];exact T.mixed);clear aN aO)
 repeat' (first|(show dr _ .ret _ _;(try simp only [go_sem,simprocAttr]);refine ir hX 2 7 (.own 3 1 []) ?_ ?_ (by decide) ⟨3,1,by decide, .inl rfl⟩ ?_;(iterate 2 (focus (simp only [go_sem,simprocAttr];done)));simp only [go_sem,simprocAttr])|((first|((with_reducible (first|apply oA|apply oB));exact rfl;intro K hK)|(refine hK _ ?_;clear hK K)|((with_reducible (first|apply oG|apply oH));iterate 3 exact rfl)|((with_reducible apply oI);(iterate 2 exact rfl);intro K hK)|(with_reducible (first|apply wI|apply wJ|apply wK)));try simp only [go_sem,simprocAttr])|fail|(with_reducible (first|apply oC|apply oJ|exact oK|apply wA|apply wB|apply wC hX hC|apply wD hX hC|apply wE hX hC af|apply wF hX hC af|apply wG|apply wH|apply And.intro))|((with_reducible refine oD ?_ ?_);first|fail|kernel_rfl)|((with_reducible (first|apply oE|apply oF));(iterate 3 exact rfl);all_goals (intro h;first|(exact absurd h (by decide))|((try simp only [go_sem,simprocAttr] at h);(try with_reducible intro K hK);simp only [go_sem,simprocAttr])))|((first|((with_reducible apply wL);exact rfl)|((with_reducible apply wM);exact rfl));all_goals (try ((with_reducible intro h);first|(exact absurd h (by decide))|(try simp only [go_sem,simprocAttr] at h))))|omega|((first|fail);try simp only [go_sem,simprocAttr])|(intro h))
 exact h.symm
theorem wm (p:Pl) (h1:p.ord.length≤1000) (h2:p.outs.length≤1000) (h3:∀l∈p.outs,l.length≤1000):Spec Tryz.prog 25 (Args [ePl p]) [] (ePl (bH p)) []:=by
 have NH:=iw p.ord (by omega)
 (refine Spec.intro (C:=T.cfg [] []) (rs:= [.c 2 28]) (T.aq _ _) Tryz.func25 rfl rfl Tryz.ntmps25 Tryz.results25 (by simp [AObj.isNest]) (by simp [AObj.isNest]) (by kernel_rfl) ?_;intro X hX hP hC aN aO vals hA;refine ⟨_,by simp,hA, ?_⟩;have af:X.P.follows .mixedOrders=true:=(by rw [hP];exact T.mixed);clear aN aO)
 repeat' (first|fail|((first|((with_reducible (first|apply oA|apply oB));exact rfl;intro K hK)|(refine hK _ ?_;clear hK K)|((with_reducible (first|apply oG|apply oH));iterate 3 exact rfl)|((with_reducible apply oI);(iterate 2 exact rfl);intro K hK)|(with_reducible (first|apply wI|apply wJ|apply wK)));try simp only [go_sem,simprocAttr])|(show dr _ (.seq (.region 2 _ _) _) _ _;(refine vp hX 3 1 200 (.tip 25 1 []) rfl rfl rfl (by simp only [go_sem,simprocAttr]) (by decide) (by simp [go_sem,simprocAttr]) ⟨25,1,by decide, .inr rfl⟩ ?_;simp only [LA.app,ASt.put,ASt.kill,subT,rmk,putM,rml,kl,AV.sub,AV.subs,AObj.sub,List.set_cons_zero,List.set_cons_succ,go_sem,simprocAttr]))|(with_reducible (first|apply oC|apply oJ|exact oK|apply wA|apply wB|apply wC hX hC|apply wD hX hC|apply wE hX hC af|apply wF hX hC af|apply wG|apply wH|apply And.intro))|((with_reducible refine oD ?_ ?_);first|fail|kernel_rfl)|((with_reducible (first|apply oE|apply oF));(iterate 3 exact rfl);all_goals (intro h;first|(exact absurd h (by decide))|((try simp only [go_sem,simprocAttr] at h);(try with_reducible intro K hK);simp only [go_sem,simprocAttr])))|((first|((with_reducible apply wL);exact rfl)|((with_reducible apply wM);exact rfl));all_goals (try ((with_reducible intro h);first|(exact absurd h (by decide))|(try simp only [go_sem,simprocAttr] at h))))|omega|((first|first|refine aa hX hC hP (NH) rfl rfl rfl (by simp only [go_sem,simprocAttr]) rfl ?_);try simp only [go_sem,simprocAttr])|(intro h))
 refine an (fun x:Nat=>x≤p.outs.length) (fun x=>⟨[(2, .ptr 2 0),(3, .ptr 3 0),(11, .d (.sl 1 (vI p.outs))),(12,eN p.outs.length),(13,eN x)], [(2, .box [.nil 3, .nil 25]),(3, .box [.d (sI p.ord), .ref 200]),(200, .tip 25 1 (vI ((p.outs.take x).map List.reverse)))]⟩) (fun x=>p.outs.length - x) 0 (by omega) ?_ ?_
 ·refine Le.of ?_ ?_<;>simp [go_sem,simprocAttr,vI]
 rintro x hx
 rcases Nat.lt_or_ge x p.outs.length with hxl|BW
 ·have hb:decide ((x:Int)<(p.outs.length:Int))=true:=decide_eq_true (by omega)
  have hv:=iz hxl
  have jM:=h3 _ (bf (d:= []) hxl)
  have eu:vI ((p.outs.take (x+1)).map List.reverse)=vI ((p.outs.take x).map List.reverse)++ [[sI (p.outs.getD x []).reverse]]:=by
   rw [mc (d:= []) hxl];simp [vI]
  have oR:((p.outs.take x).map List.reverse).length=x:=by rw [List.length_map,List.length_take];omega
  generalize p.outs.getD x []=l at hv jM eu
  have Io:=uF l (by omega)
  have NI:=rS l (by omega)
  repeat' (first|fail|((first|((with_reducible (first|apply oA|apply oB));exact rfl;intro K hK)|(refine hK _ ?_;clear hK K)|((with_reducible (first|apply oG|apply oH));iterate 3 exact rfl)|((with_reducible apply oI);(iterate 2 exact rfl);intro K hK)|(with_reducible (first|apply wI|apply wJ|apply wK)));try simp only [go_sem,simprocAttr,hb,hv,oR])|(show dr _ (.seq (.region 7 _ _) _) _ _;(refine cG hX 18 rfl (.inl rfl) ?_;simp only [go_sem,simprocAttr,hb,hv,oR]))|(show dr _ (.region 7 _ _) _ _;(refine cG hX 18 rfl (.inl rfl) ?_;simp only [go_sem,simprocAttr,hb,hv,oR]))|(show dr _ (.region 8 _ _) _ _;(refine iu hX 3 1 25 200 rfl rfl rfl (by first|exact .inl rfl|exact .inr rfl) (by decide) (by decide) ?_;simp only [LA.app,ASt.put,ASt.kill,subT,rmk,putM,rml,kl,AV.sub,AV.subs,AObj.sub,List.set_cons_zero,List.set_cons_succ,go_sem,simprocAttr,hb,hv,oR]))|(with_reducible (first|apply oC|apply oJ|exact oK|apply wA|apply wB|apply wC hX hC|apply wD hX hC|apply wE hX hC af|apply wF hX hC af|apply wG|apply wH|apply And.intro))|((with_reducible refine oD ?_ ?_);first|fail|kernel_rfl)|((with_reducible (first|apply oE|apply oF));(iterate 3 exact rfl);all_goals (intro h;first|(exact absurd h (by decide))|((try simp only [go_sem,simprocAttr,hb,hv,oR] at h);(try with_reducible intro K hK);simp only [go_sem,simprocAttr,hb,hv,oR])))|((first|((with_reducible apply wL);exact rfl)|((with_reducible apply wM);exact rfl));all_goals (try ((with_reducible intro h);first|(exact absurd h (by decide))|(try simp only [go_sem,simprocAttr,hb,hv,oR] at h))))|omega|((first|first|(refine uB hX hC hP 18 (Io) rfl rfl rfl ?_ ?_ (by first|exact ⟨_,_,_,rfl,BI⟩|exact ⟨_,_,_,rfl,BJ⟩|exact ⟨_,_,_,rfl,BK⟩) rfl (by decide) ?_;(iterate 2 (focus (simp only [go_sem,simprocAttr,hb,hv,oR];done)));simp only [go_sem,simprocAttr,hb,hv,oR])|(refine aB hX hC hP [(10000,18)] (NI) rfl rfl rfl ?_ ?_ ?_ ?_ ?_ ?_ ?_ ?_ ?_ ?_ ?_ ?_ ?_ ?_;(focus (simp only [go_sem,simprocAttr,hb,hv,oR];done));(iterate 12 (focus (simp [go_sem,simprocAttr,hb,hv,oR];done)));simp only [go_sem,simprocAttr,hb,hv,oR,List.map_cons,List.map_nil]));try simp only [go_sem,simprocAttr,hb,hv,oR])|(intro h))
  refine ⟨x+1,by omega, ?_,by omega⟩
  rw [eu]
  refine Le.of ?_ ?_<;>simp [go_sem,simprocAttr,hb,hv,oR]
 have hb:decide ((x:Int)<(p.outs.length:Int))=false:=decide_eq_false (by omega)
 obtain rfl:x=p.outs.length:=by omega
 rw [List.take_length]
 repeat' (first|fail|((first|((with_reducible (first|apply oA|apply oB));exact rfl;intro K hK)|(refine hK _ ?_;clear hK K)|((with_reducible (first|apply oG|apply oH));iterate 3 exact rfl)|((with_reducible apply oI);(iterate 2 exact rfl);intro K hK)|(with_reducible (first|apply wI|apply wJ|apply wK)));try simp only [go_sem,simprocAttr,hb,bH])|fail|(with_reducible (first|apply oC|apply oJ|exact oK|apply wA|apply wB|apply wC hX hC|apply wD hX hC|apply wE hX hC af|apply wF hX hC af|apply wG|apply wH|apply And.intro))|((with_reducible refine oD ?_ ?_);first|fail|kernel_rfl)|((with_reducible (first|apply oE|apply oF));(iterate 3 exact rfl);all_goals (intro h;first|(exact absurd h (by decide))|((try simp only [go_sem,simprocAttr,hb,bH] at h);(try with_reducible intro K hK);simp only [go_sem,simprocAttr,hb,bH])))|((first|((with_reducible apply wL);exact rfl)|((with_reducible apply wM);exact rfl));all_goals (try ((with_reducible intro h);first|(exact absurd h (by decide))|(try simp only [go_sem,simprocAttr,hb,bH] at h))))|omega|((first|fail);try simp only [go_sem,simprocAttr,hb,bH])|(intro h))
end Go.Ab
end
section
namespace Go.Ab
open Go.Proofs
attribute [local congr] ACall.congr
set_option maxRecDepth 20000
set_option maxHeartbeats 16000000
theorem DB {g:Gr} {p:Pl} (h:bR g p) (x:Int):(fy g (bH p)).ins x=((fy g p).ins x).reverse:=by
 by_cases hx:nv g x
 ·obtain ⟨k,hk,rfl⟩:=fS h.2.1 hx.1 hx.2
  rw [gX hx,gX hx,pq h hk]
  have h2:=pq (nh h) hk
  have e1:au (bH p) k=au p k:=rfl
  rw [e1] at h2
  rw [h2]
  have g1:ld g p (fK g p k) (au p k)=(hM (dz g p k)).map (·.1):=rfl
  have g2:ld g (bH p) (fK g (bH p) k) (au p k)=(hM (dz g (bH p) k)).map (·.1):=rfl
  rw [g1,g2,BS h hk]
  unfold hM
  rw [List.filter_reverse,List.map_reverse]
 ·rw [jT hx,jT hx];rfl
theorem Cs {g:Gr} {p:Pl} (x:Int):(fy g (bH p)).outs x=((fy g p).outs x).reverse:=by
 by_cases hx:nv g x
 ·rw [fT hx,fT hx,pe]
 ·rw [ju hx,ju hx];rfl
theorem oP {P Q:PS} {L R:Int→Int} {f0 f1:Int} {low:Int→Int} (h1:∀x,P.outs x=Q.outs x) (h2:∀x,P.ins x=Q.ins x) (h3:P.src=Q.src) (F:P.e8 L R f0 f1 low):Q.e8 L R f0 f1 low:=
 {ne:=F.ne
  e9:=fun {x u a b v} e=>F.e9 ((h1 x).trans e)
  nE:=fun {x u a b v} e=>F.nE ((h2 x).trans e)
  fst:=fun {x a u b v} e1 e2=>F.fst ((h2 x).trans e1) ((h1 x).trans e2)
  Ag:=fun {x a u b v} e1 e2=>F.Ag ((h2 x).trans e1) ((h1 x).trans e2)
  s0:=fun {b v} e=>F.s0 ((h1 _).trans (h3 ▸ e))
  s1:=fun {b v} e=>F.s1 ((h1 _).trans (h3 ▸ e))
  new:=fun {x u a b v} e=>F.new ((h1 x).trans e)
  new1:=fun {x u a b v u' a' b' v'} e1 e2 e3=>F.new1 ((h1 x).trans e1) ((h1 x).trans e2) e3}
theorem zZ {g:Gr} {p:Pl} (h:bR g p) (hI:jZ g=true):(fy g p).e8 (Rf g (bH p)) (Lf g (bH p)) (cN g (bH p)) 0 (K3 g (bH p)):=by
 have F:=wj (nh h) hI
 have ok:=Cd h hI
 have F1:(fy g p).uJ.e8 (Lf g (bH p)) (Rf g (bH p)) 0 (cN g (bH p)) (K3 g (bH p)):=oP Cs (DB h) rfl F
 exact oP (P:=(fy g p).uJ.uJ) (fun x=>List.reverse_reverse _) (fun x=>List.reverse_reverse _) rfl (F1.uJ ok.uJ)
theorem Ct {g:Gr} {p:Pl} (h:bR g p) (hI:jZ g=true) {i k:Nat} (hi:i<g.es.length) (hk:k<g.es.length):
 decide (Lf g p i=Lf g p k)=decide (Rf g (bH p) i=Rf g (bH p) k)∧decide (Lf g p i=Rf g p k)=decide (Rf g (bH p) i=Lf g (bH p) k):=by
 have ok:=Cd h hI
 have F:=wj h hI
 have F':=zZ h hI
 have ei:(fy g p).E (i:Int):=⟨by omega,by show (i:Int)<(g.es.length:Int);omega⟩
 have ek:(fy g p).E (k:Int):=⟨by omega,by show (k:Int)<(g.es.length:Int);omega⟩
 exact ⟨decide_eq_decide.2 ⟨Am ok F F' ei ek,Am ok F' F ei ek⟩,decide_eq_decide.2 ⟨xM ok F F' ei ek,xM ok F' F ei ek⟩⟩
theorem EZ {g:Gr} {p:Pl} (h:bR g p) (hI:jZ g=true):cN g (bH p)=cN g p:=by
 have h1:=DT h hI
 have h2:=DT (nh h) hI
 omega
theorem oW (g:Gr) (p:Pl) (hl:g.es.length≤9223372036854775807) (hp:yo p):Spec Tryz.prog 5 (Args [eG g,ePl p]) [] (eB true) []:=by
 obtain ⟨b,hr⟩:=LU g p
 have IS:=uE g hl p hp b hr
 (refine Spec.intro (C:=T.cfg [] []) (rs:= [.t 4]) (T.aq _ _) Tryz.func5 rfl rfl Tryz.ntmps5 Tryz.results5 (by simp [AObj.isNest]) (by simp [AObj.isNest]) (by kernel_rfl) ?_;intro X hX hP hC aN aO vals hA;refine ⟨_,by simp,hA, ?_⟩;have af:X.P.follows .mixedOrders=true:=(by rw [hP];exact T.mixed);clear aN aO)
 cases ha:wk b g p with
 |false=>
  rw [ha] at IS
  repeat' (first|fail|((first|((with_reducible (first|apply oA|apply oB));exact rfl;intro K hK)|(refine hK _ ?_;clear hK K)|((with_reducible (first|apply oG|apply oH));iterate 3 exact rfl)|((with_reducible apply oI);(iterate 2 exact rfl);intro K hK)|(with_reducible (first|apply wI|apply wJ|apply wK)));try simp only [go_sem,simprocAttr])|fail|(with_reducible (first|apply oC|apply oJ|exact oK|apply wA|apply wB|apply wC hX hC|apply wD hX hC|apply wE hX hC af|apply wF hX hC af|apply wG|apply wH|apply And.intro))|((with_reducible refine oD ?_ ?_);first|fail|kernel_rfl)|((with_reducible (first|apply oE|apply oF));(iterate 3 exact rfl);all_goals (intro h;first|(exact absurd h (by decide))|((try simp only [go_sem,simprocAttr] at h);(try with_reducible intro K hK);simp only [go_sem,simprocAttr])))|((first|((with_reducible apply wL);exact rfl)|((with_reducible apply wM);exact rfl));all_goals (try ((with_reducible intro h);first|(exact absurd h (by decide))|(try simp only [go_sem,simprocAttr] at h))))|omega|((first|first|refine aa hX hC hP (lM) rfl rfl rfl (by simp only [go_sem,simprocAttr]) rfl ?_|refine aa hX hC hP (IS) rfl rfl rfl (by simp only [go_sem,simprocAttr]) rfl ?_);try simp only [go_sem,simprocAttr])|(intro h))
 |true=>
 rw [ha] at IS
 obtain ⟨hB,hI,hrun,h0,Oo⟩:=EX hr ha
 obtain ⟨b1,b2,b3,b4⟩:=uq hB
 have hm:=aD hrun.1
 have hD:=kQ g (by omega) p (kH hB) b hr
 rw [Cr hr hrun hI h0] at hD
 simp only at hD
 have NJ:=wm p (by omega) (by omega) (fun l hl=>by have:=b4 l hl;omega)
 obtain ⟨b',hr'⟩:=LU g (bH p)
 have hml:nj (bH p):=⟨(kH hB).1,by simpa [bH] using (kH hB).2,fun l hl=>by
  obtain ⟨l',h1,rfl⟩:=List.mem_map.1 hl
  simpa using (kH hB).3 l' h1⟩
 have K8:=kQ g (by omega) (bH p) hml b' hr'
 rw [Cr hr' (nh hrun) hI h0] at K8
 simp only at K8
 have hsame:=fun i k=>Ct (i:=i) (k:=k) hrun hI
 have a1:=fun (i:Nat) (hi:i<g.es.length)=>oc (f:=Lf g p) hi
 have a2:=fun (i:Nat) (hi:i<g.es.length)=>oc (f:=Rf g p) hi
 have a3:=fun (i:Nat) (hi:i<g.es.length)=>oc (f:=Lf g (bH p)) hi
 have a4:=fun (i:Nat) (hi:i<g.es.length)=>oc (f:=Rf g (bH p)) hi
 have c1:(arr (Lf g p) g.es.length).length=g.es.length:=dx
 have c2:(arr (Rf g p) g.es.length).length=g.es.length:=dx
 have c3:(arr (Lf g (bH p)) g.es.length).length=g.es.length:=dx
 have c4:(arr (Rf g (bH p)) g.es.length).length=g.es.length:=dx
 have hlo:=yH (g:=g) (p:=p)
 have rD:=yH (g:=g) (p:=bH p)
 rw [EZ hrun hI, ← hlo] at rD
 have hkey:∀i k,i<g.es.length→k<g.es.length→decide ((arr (Lf g p) g.es.length).getD i 0=(arr (Lf g p) g.es.length).getD k 0)=decide ((arr (Rf g (bH p)) g.es.length).getD i 0=(arr (Rf g (bH p)) g.es.length).getD k 0)∧decide ((arr (Lf g p) g.es.length).getD i 0=(arr (Rf g p) g.es.length).getD k 0)=decide ((arr (Rf g (bH p)) g.es.length).getD i 0=(arr (Lf g (bH p)) g.es.length).getD k 0):=fun i k hi hk=>by
  rw [a1 i hi,a1 k hk,a2 k hk,a3 k hk,a4 i hi,a4 k hk];exact hsame i k hi hk
 clear hsame a1 a2 a3 a4
 generalize arr (Lf g p) g.es.length=LA at*
 generalize arr (Rf g p) g.es.length=RA at*
 generalize arr (Lf g (bH p)) g.es.length=LB at*
 generalize arr (Rf g (bH p)) g.es.length=RB at*
 generalize EV g p=lo at*
 generalize Iq g p=hi at*
 generalize EV g (bH p)=L5 at*
 generalize Iq g (bH p)=hi2 at*
 generalize bH p=p2 at*
 repeat' (first|fail|((first|((with_reducible (first|apply oA|apply oB));exact rfl;intro K hK)|(refine hK _ ?_;clear hK K)|((with_reducible (first|apply oG|apply oH));iterate 3 exact rfl)|((with_reducible apply oI);(iterate 2 exact rfl);intro K hK)|(with_reducible (first|apply wI|apply wJ|apply wK)));try simp only [go_sem,simprocAttr,ic,c1,c2,c3,c4,rD,decide_true,decide_false])|fail|(with_reducible (first|apply oC|apply oJ|exact oK|apply wA|apply wB|apply wC hX hC|apply wD hX hC|apply wE hX hC af|apply wF hX hC af|apply wG|apply wH|apply And.intro))|((with_reducible refine oD ?_ ?_);first|fail|kernel_rfl)|((with_reducible (first|apply oE|apply oF));(iterate 3 exact rfl);all_goals (intro h;first|(exact absurd h (by decide))|((try simp only [go_sem,simprocAttr,ic,c1,c2,c3,c4,rD,decide_true,decide_false] at h);(try with_reducible intro K hK);simp only [go_sem,simprocAttr,ic,c1,c2,c3,c4,rD,decide_true,decide_false])))|((first|((with_reducible apply wL);exact rfl)|((with_reducible apply wM);exact rfl));all_goals (try ((with_reducible intro h);first|(exact absurd h (by decide))|(try simp only [go_sem,simprocAttr,ic,c1,c2,c3,c4,rD,decide_true,decide_false] at h))))|omega|((first|first|refine aa hX hC hP (lM) rfl rfl rfl (by simp only [go_sem,simprocAttr,ic,c1,c2,c3,c4,rD,decide_true,decide_false]) rfl ?_|refine aa hX hC hP (IS) rfl rfl rfl (by simp only [go_sem,simprocAttr,ic,c1,c2,c3,c4,rD,decide_true,decide_false]) rfl ?_|refine aa hX hC hP (hD) rfl rfl rfl (by simp only [go_sem,simprocAttr,ic,c1,c2,c3,c4,rD,decide_true,decide_false]) rfl ?_|refine aa hX hC hP (K8) rfl rfl rfl (by simp only [go_sem,simprocAttr,ic,c1,c2,c3,c4,rD,decide_true,decide_false]) rfl ?_|refine aa hX hC hP (NJ) rfl rfl rfl (by simp only [go_sem,simprocAttr,ic,c1,c2,c3,c4,rD,decide_true,decide_false]) rfl ?_);try simp only [go_sem,simprocAttr,ic,c1,c2,c3,c4,rD,decide_true,decide_false])|(intro h))
 refine an (fun i:Nat=>i≤g.es.length) (fun i=>⟨[(2, .ptr 2 0),(5, .ptr 5 0),(7, .ptr 7 0),(83,eN g.es.length),(84,eN i)], [(2, .box [eN g.n, .d (sE g.es)]),(5, .box [.d (sI LA), .d (sI RA), .d (sI lo), .d (sI hi)]),(7, .box [.d (sI LB), .d (sI RB), .d (sI L5), .d (sI hi2)])]⟩) (fun i=>g.es.length - i) 0 (by omega) ?_ ?_
 ·refine Le.of ?_ ?_<;>simp [go_sem,simprocAttr]
 rintro i hi1
 rcases Nat.lt_or_ge i g.es.length with hil|IK
 rotate_left
 ·have mw:decide ((i:Int)<(g.es.length:Int))=false:=decide_eq_false (by omega)
  repeat' (first|fail|((first|((with_reducible (first|apply oA|apply oB));exact rfl;intro K hK)|(refine hK _ ?_;clear hK K)|((with_reducible (first|apply oG|apply oH));iterate 3 exact rfl)|((with_reducible apply oI);(iterate 2 exact rfl);intro K hK)|(with_reducible (first|apply wI|apply wJ|apply wK)));try simp only [go_sem,simprocAttr,mw])|fail|(with_reducible (first|apply oC|apply oJ|exact oK|apply wA|apply wB|apply wC hX hC|apply wD hX hC|apply wE hX hC af|apply wF hX hC af|apply wG|apply wH|apply And.intro))|((with_reducible refine oD ?_ ?_);first|fail|kernel_rfl)|((with_reducible (first|apply oE|apply oF));(iterate 3 exact rfl);all_goals (intro h;first|(exact absurd h (by decide))|((try simp only [go_sem,simprocAttr,mw] at h);(try with_reducible intro K hK);simp only [go_sem,simprocAttr,mw])))|((first|((with_reducible apply wL);exact rfl)|((with_reducible apply wM);exact rfl));all_goals (try ((with_reducible intro h);first|(exact absurd h (by decide))|(try simp only [go_sem,simprocAttr,mw] at h))))|omega|((first|fail);try simp only [go_sem,simprocAttr,mw])|(intro h))
 have mw:decide ((i:Int)<(g.es.length:Int))=true:=decide_eq_true (by omega)
 repeat' (first|fail|((first|((with_reducible (first|apply oA|apply oB));exact rfl;intro K hK)|(refine hK _ ?_;clear hK K)|((with_reducible (first|apply oG|apply oH));iterate 3 exact rfl)|((with_reducible apply oI);(iterate 2 exact rfl);intro K hK)|(with_reducible (first|apply wI|apply wJ|apply wK)));try simp only [go_sem,simprocAttr,mw])|fail|(with_reducible (first|apply oC|apply oJ|exact oK|apply wA|apply wB|apply wC hX hC|apply wD hX hC|apply wE hX hC af|apply wF hX hC af|apply wG|apply wH|apply And.intro))|((with_reducible refine oD ?_ ?_);first|fail|kernel_rfl)|((with_reducible (first|apply oE|apply oF));(iterate 3 exact rfl);all_goals (intro h;first|(exact absurd h (by decide))|((try simp only [go_sem,simprocAttr,mw] at h);(try with_reducible intro K hK);simp only [go_sem,simprocAttr,mw])))|((first|((with_reducible apply wL);exact rfl)|((with_reducible apply wM);exact rfl));all_goals (try ((with_reducible intro h);first|(exact absurd h (by decide))|(try simp only [go_sem,simprocAttr,mw] at h))))|omega|((first|fail);try simp only [go_sem,simprocAttr,mw])|(intro h))
 refine an (fun k:Nat=>k≤g.es.length) (fun k=>⟨[(2, .ptr 2 0),(5, .ptr 5 0),(7, .ptr 7 0),(9,eN i),(83,eN g.es.length),(84,eN i),(89,eN g.es.length),(90,eN k)], [(2, .box [eN g.n, .d (sE g.es)]),(5, .box [.d (sI LA), .d (sI RA), .d (sI lo), .d (sI hi)]),(7, .box [.d (sI LB), .d (sI RB), .d (sI L5), .d (sI hi2)])]⟩) (fun k=>g.es.length - k) 0 (by omega) ?_ ?_
 ·refine Le.of ?_ ?_<;>simp [go_sem,simprocAttr]
 rintro k xO
 rcases Nat.lt_or_ge k g.es.length with cm|Ea
 rotate_left
 ·have cR:decide ((k:Int)<(g.es.length:Int))=false:=decide_eq_false (by omega)
  repeat' (first|fail|((first|((with_reducible (first|apply oA|apply oB));exact rfl;intro K hK)|(refine hK _ ?_;clear hK K)|((with_reducible (first|apply oG|apply oH));iterate 3 exact rfl)|((with_reducible apply oI);(iterate 2 exact rfl);intro K hK)|(with_reducible (first|apply wI|apply wJ|apply wK)));try simp only [go_sem,simprocAttr,cR])|fail|(with_reducible (first|apply oC|apply oJ|exact oK|apply wA|apply wB|apply wC hX hC|apply wD hX hC|apply wE hX hC af|apply wF hX hC af|apply wG|apply wH|apply And.intro))|((with_reducible refine oD ?_ ?_);first|fail|kernel_rfl)|((with_reducible (first|apply oE|apply oF));(iterate 3 exact rfl);all_goals (intro h;first|(exact absurd h (by decide))|((try simp only [go_sem,simprocAttr,cR] at h);(try with_reducible intro K hK);simp only [go_sem,simprocAttr,cR])))|((first|((with_reducible apply wL);exact rfl)|((with_reducible apply wM);exact rfl));all_goals (try ((with_reducible intro h);first|(exact absurd h (by decide))|(try simp only [go_sem,simprocAttr,cR] at h))))|omega|((first|fail);try simp only [go_sem,simprocAttr,cR])|(intro h))
  refine ⟨i+1,by omega, ?_,by omega⟩
  refine Le.of ?_ ?_<;>simp [go_sem,simprocAttr,cR]
 have cR:decide ((k:Int)<(g.es.length:Int))=true:=decide_eq_true (by omega)
 obtain ⟨k1,k2⟩:=hkey i k hil cm
 clear hkey
 generalize Fo:decide (LA.getD i 0=LA.getD k 0)=d1 at k1
 generalize Fp:decide (LA.getD i 0=RA.getD k 0)=d2 at k2
 have k1:=k1.symm
 have k2:=k2.symm
 have n1:(!decide (d1=d1))=false:=by simp
 have n2:(!decide (d2=d2))=false:=by simp
 repeat' (first|fail|((first|((with_reducible (first|apply oA|apply oB));exact rfl;intro K hK)|(refine hK _ ?_;clear hK K)|((with_reducible (first|apply oG|apply oH));iterate 3 exact rfl)|((with_reducible apply oI);(iterate 2 exact rfl);intro K hK)|(with_reducible (first|apply wI|apply wJ|apply wK)));try simp only [go_sem,simprocAttr,cR,Fo,Fp,k1,k2,c1,c2,c3,c4,n1,n2])|fail|(with_reducible (first|apply oC|apply oJ|exact oK|apply wA|apply wB|apply wC hX hC|apply wD hX hC|apply wE hX hC af|apply wF hX hC af|apply wG|apply wH|apply And.intro))|((with_reducible refine oD ?_ ?_);first|fail|kernel_rfl)|((with_reducible (first|apply oE|apply oF));(iterate 3 exact rfl);all_goals (intro h;first|(exact absurd h (by decide))|((try simp only [go_sem,simprocAttr,cR,Fo,Fp,k1,k2,c1,c2,c3,c4,n1,n2] at h);(try with_reducible intro K hK);simp only [go_sem,simprocAttr,cR,Fo,Fp,k1,k2,c1,c2,c3,c4,n1,n2])))|((first|((with_reducible apply wL);exact rfl)|((with_reducible apply wM);exact rfl));all_goals (try ((with_reducible intro h);first|(exact absurd h (by decide))|(try simp only [go_sem,simprocAttr,cR,Fo,Fp,k1,k2,c1,c2,c3,c4,n1,n2] at h))))|omega|((first|fail);try simp only [go_sem,simprocAttr,cR,Fo,Fp,k1,k2,c1,c2,c3,c4,n1,n2])|(intro h))
 refine ⟨k+1,by omega, ?_,by omega⟩
 refine Le.of ?_ ?_<;>simp [go_sem,simprocAttr,cR,Fo,Fp,k1,k2,c1,c2,c3,c4,n1,n2]
end Go.Ab
end
