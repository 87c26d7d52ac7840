/- A part of the proof. -/
import Derived.Test.YtjmaiddbinlooaaGreatL8P15
set_option linter.unusedSimpArgs false
set_option linter.unusedVariables false
section
namespace Go.Ab
open Go.Proofs
set_option maxRecDepth 10000
set_option linter.unusedSectionVars false
def arr (f:Int→Int) (m:Nat):List Int:=(List.range m).map fun i:Nat=>f (i:Int)
theorem c9 {f:Int→Int} {m:Nat} :(arr f m).length=m:=by simp [arr]
theorem qq {f:Int→Int} {m i:Nat} (h:i<m):(arr f m).getD i 0=f (i:Int):=by
 simp [arr,List.getD_eq_getElem?_getD,List.getElem?_range h]
theorem EF {l m:List Int} (hl:l.length=m.length) (h:∀i,i<l.length→l.getD i 0=m.getD i 0):l=m:=by
 refine List.ext_getElem? fun i=> ?_
 by_cases hi:i<l.length
 ·have:=h i hi
  rw [List.getD_eq_getElem?_getD,List.getD_eq_getElem?_getD,List.getElem?_eq_getElem hi,List.getElem?_eq_getElem (by omega)] at this
  rw [List.getElem?_eq_getElem hi,List.getElem?_eq_getElem (by omega)]
  simpa using this
 ·rw [List.getElem?_eq_none (by omega),List.getElem?_eq_none (by omega)]
theorem pI {u v:List Int} {e:Int} :(u++e::v).getD u.length 0=e:=by
 rw [List.getD_eq_getElem?_getD,List.getElem?_append_right (Nat.le_refl _)];simp
section
variable {g:Gr} {p:Pl} (h:cA g p)
include h
theorem jt {k:Nat} (hk:k<g.n.toNat) {e:Int} (he:e∈bH p (aq p k)):(0≤e∧e<g.es.length)∧iA g e=aq p k:=by
 have hx:=aM h.2.1 hk
 exact bL.1 ((bP h.2.1 hx.1 hx.2).mem_iff.1 he)
theorem EG {k:Nat} (hk:k<g.n.toNat):(bH p (aq p k)).Nodup:=by
 have hx:=aM h.2.1 hk
 exact (bP h.2.1 hx.1 hx.2).nodup_iff.2 bX
theorem Ba {k:Nat} (hk:k<g.n.toNat) {e:Int} (he:0≤e∧e<g.es.length) (ht:iA g e=aq p k):∃u v,bH p (aq p k)=u++e::v:=by
 have hx:=aM h.2.1 hk
 exact List.append_of_mem ((bP h.2.1 hx.1 hx.2).mem_iff.2 (bL.2 ⟨he,ht⟩))
theorem vt {k:Nat} (hk:k<g.n.toNat) {f F F':Int→Int} {v:Nat→Int} (hin:∀u w e,bH p (aq p k)=u++e::w→F' e=v u.length) (hout:∀e:Int,iA g e≠aq p k→F' e=F e):
 kf (arr F g.es.length) (bH p (aq p k)) v (bH p (aq p k)).length=arr F' g.es.length:=by
 refine EF (by rw [gI,c9,c9]) fun i hi=> ?_
 rw [gI,c9] at hi
 rw [qq hi]
 by_cases ht:iA g (i:Int)=aq p k
 ·obtain ⟨u,w,EH⟩:=Ba h hk (e:=(i:Int)) (by omega) ht
  have e1:(bH p (aq p k)).getD u.length 0=(i:Int):=by rw [EH];exact pI
  have:=yP (A:=arr F g.es.length) (o:=bH p (aq p k)) (f:=v) (i:=u.length) (by rw [e1,c9];simpa using hi) (j:=(bH p (aq p k)).length) (by rw [EH];simp) fun q hq e2=>by
   rw [e1,Int.toNat_natCast] at e2
   have h2:=jt h hk (aS (d:=0) hq)
   have h3:(bH p (aq p k)).getD q 0=(i:Int):=by omega
   have b7:=EG h hk
   have:(bH p (aq p k))[q]'hq=(bH p (aq p k))[u.length]'(by rw [EH];simp):=by
    rw [List.getD_eq_getElem?_getD,List.getElem?_eq_getElem hq] at h3
    rw [List.getD_eq_getElem?_getD,List.getElem?_eq_getElem (by rw [EH];simp)] at e1
    simp only [Option.getD_some] at h3 e1
    rw [h3,e1]
   exact (List.getElem_inj b7).1 this
  rw [e1,Int.toNat_natCast] at this
  rw [this,hin u w (i:Int) EH]
 ·rw [vp fun q hq e2=> ?_,qq hi,hout _ ht]
  have h2:=jt h hk (aS (d:=0) hq)
  exact ht (by rw [← h2.2];congr 1;omega)
theorem Kq {k:Nat} (hk:k<g.n.toNat):ni (arr (LK g p k) g.es.length) (bH p (aq p k)) (if k=0 then 0 else LK g p k (e8 g p (aq p k))) (cK p k) (bH p (aq p k)).length=arr (LK g p (k+1)) g.es.length:=by
 refine vt (f:=fun _=>0) h hk (fun u w e EH=> ?_) fun e he=>by rw [LK,if_neg he]
 obtain ⟨a,b⟩:=nT h hk EH
 rw [LK,if_pos a,b]
theorem Kr {r:Int} {k:Nat} (hk:k<g.n.toNat):nj (arr (RK g p r k) g.es.length) (bH p (aq p k)) (if k=0 then r else RK g p r k (nh g p (aq p k))) (cK p k) (bH p (aq p k)).length=arr (RK g p r (k+1)) g.es.length:=by
 refine vt (f:=fun _=>0) h hk (fun u w e EH=> ?_) fun e he=>by rw [RK,if_neg he]
 obtain ⟨a,b⟩:=nT h hk EH
 rw [RK,if_pos a,b]
theorem yQ (hI:pQ g=true):∀ {k:Nat},k<g.n.toNat→∀t∈(fK g p k).row,0≤t.1
 |0,_,t,ht=>by cases ht
 |k+1,hk,t,ht=>by
  have hm:=aA h.1
  have ih:=yQ hI (k:=k) (by omega)
  obtain ⟨hi,_,_⟩:=dm hm h.2.1 (k:=k) (by omega) fun j hj=>h.2.2 j (by omega)
  obtain ⟨A,X,C,hr,_,_,_,hs⟩:=iX hm hi.toij (h.2.2 k (by omega))
  have hO:bH p (aq p k)≠ []:=fun h1=>by
   have:=(eZ h hI (aM h.2.1 (show k<g.n.toNat by omega))).1 h1
   have:=dO h.2.1 (show k<g.n.toNat by omega) (by omega) this
   omega
  have ht:t∈(az g (fK g p k) (aq p k) (bH p (aq p k))).2.row:=ht
  rw [hs] at ht
  simp only [List.mem_append] at ht
  rcases ht with (ht|ht)|ht
  ·exact ih t (by rw [hr];simp [ht])
  ·unfold aO at ht
   rw [if_neg hO] at ht
   obtain ⟨i,hi2,rfl⟩:=List.mem_map.1 ht
   exact (jt h (show k<g.n.toNat by omega) hi2).1.1
  ·exact ih t (by rw [hr];simp [ht])
theorem z1 (hI:pQ g=true) {k:Nat} (hk:k<g.n.toNat):fZ (fN g p k)=fN g p k:=by
 have hm:=aA h.1
 obtain ⟨hi,_,_⟩:=dm hm h.2.1 (k:=k) (by omega) fun j hj=>h.2.2 j (by omega)
 obtain ⟨A,X,C,hr,_,_,_,hs⟩:=iX hm hi.toij (h.2.2 k hk)
 have e:fN g p k=X:=by unfold fN;rw [hs]
 rw [e]
 refine List.filter_eq_self.2 fun t ht=>decide_eq_true (yQ h hI hk t ?_)
 rw [hr];simp [ht]
theorem EI (hI:pQ g=true) {k:Nat} (hk:k<g.n.toNat):cO g p (aq p k)=(fN g p k).map (·.1):=by
 unfold cO
 rw [o8 h.2.1 (Nat.le_refl _) hk,z1 h hI hk]
end
section
variable (g:Gr) (p:Pl)
def ga:Nat→List Int
 |0=>bH p (aq p 0)
 |j+1=>if bH p (aq p (j+1))= [] then ga j else (ga j).take (dI (ga j) (e8 g p (aq p (j+1)))).toNat++bH p (aq p (j+1))++(ga j).drop ((dI (ga j) (e8 g p (aq p (j+1)))).toNat+(cO g p (aq p (j+1))).length)
def mh:Nat→List Int
 |0=> [0]++fO 1 ((bH p (aq p 0)).length - 1)++ [-1]
 |j+1=>(mh j).take ((dI (ga g p j) (e8 g p (aq p (j+1)))).toNat+1)++fO (cK p (j+1)) ((bH p (aq p (j+1))).length - 1)++(mh j).drop ((dI (ga g p j) (e8 g p (aq p (j+1)))).toNat+(cO g p (aq p (j+1))).length)
def tS (k:Nat):List Int:=((cO g p (aq p k)).dropLast).map (RK g p (-1) k)
def zf:Nat→List Int
 |0=> [aq p (g.n.toNat - 1)]
 |k+1=>mg (zf k) (tS g p k) (aq p k) (tS g p k).length++List.replicate ((bH p (aq p k)).length - 1) 0
end
section
variable {g:Gr} {p:Pl}
theorem rL:∀ {k:Nat},(zf g p k).length=cK p k
 |0=>rfl
 |k+1=>by rw [zf,List.length_append,qp,List.length_replicate,rL,cK]
variable (h:cA g p)
include h
theorem EJ {A I C:List Int} (b7:(A++I++C).Nodup) (hI:I≠ []):dI (A++I++C) (I.headD 0)=(A.length:Int):=by
 obtain ⟨a,u,rfl⟩:=jj hI
 obtain ⟨k,h1,h2,h3⟩:=dG (l:=A++a::u++C) (x:=a) (by simp)
 have e:A++a::u++C=A++a::(u++C):=by simp
 have h4:(A++a::u++C).getD A.length 0=a:=by rw [e];exact pI
 show dI _ a=_
 rw [h1]
 have hA:A.length<(A++a::u++C).length:=by simp
 rw [List.getD_eq_getElem?_getD,List.getElem?_eq_getElem h2] at h3
 rw [List.getD_eq_getElem?_getD,List.getElem?_eq_getElem hA] at h4
 simp only [Option.getD_some] at h3 h4
 have:=(List.getElem_inj b7 (h₀:=h2) (h₁:=hA)).1 (h3.trans h4.symm)
 omega
theorem EK {k:Nat} (hk:k≤g.n.toNat):(WK g p k).Nodup:=by
 have hm:=aA h.1
 obtain ⟨hi,_,_⟩:=dm hm h.2.1 (k:=k) (by omega) fun j hj=>h.2.2 j (by omega)
 exact EA hi
theorem EL {r:Int} {k:Nat} (hk:k<g.n.toNat) (hO:bH p (aq p k)≠ []) {j:Nat} (h1:k+1≤j) (h2:j≤g.n.toNat):(bH p (aq p k)).map (RK g p r j)=fO (cK p k) ((bH p (aq p k)).length - 1)++ [if k=0 then r else RK g p r k (nh g p (aq p k))]:=by
 obtain ⟨v,b,hv⟩:=di hO
 have e1:((bH p (aq p k)).length - 1)=v.length:=by rw [hv];simp
 rw [e1]
 conv=>lhs;rw [hv]
 rw [List.map_append,List.map_cons,List.map_nil,tP h hk hv h1 h2]
 congr 1
 refine List.ext_getElem? fun i=> ?_
 by_cases hi:i<v.length
 ·rw [List.getElem?_map,List.getElem?_eq_getElem hi,fO,List.getElem?_map,List.getElem?_range hi,Option.map_some,Option.map_some]
  have hs:v=v.take i++v[i]::v.drop (i+1):=by simp
  obtain ⟨c,w,MV⟩:∃c w,v.drop (i+1)++ [b]=c::w:=by
   cases hd:v.drop (i+1) with
   |nil=>exact ⟨b, [],rfl⟩
   |cons c w=>exact ⟨c,w++ [b],rfl⟩
  have h3:bH p (aq p k)=v.take i++v[i]::c::w:=by
   rw [hv]
   conv=>lhs;rw [hs]
   rw [List.append_assoc,List.cons_append,MV]
  rw [js h hk h3 h1 h2,List.length_take,Nat.min_eq_left (by omega)]
  congr 1
 ·rw [List.getElem?_eq_none (by simpa using hi),List.getElem?_eq_none (by rw [kg];omega)]
theorem w9 (hI:pQ g=true):∀ {j:Nat},j+1<g.n.toNat→ga g p j=WK g p (j+1)∧mh g p j=0::(WK g p (j+1)).map (RK g p (-1) (j+1))∧WK g p (j+1)≠ []
 |0,hj=>by
  have hO:bH p (aq p 0)≠ []:=fun h1=>by
   have:=(eZ h hI (aM h.2.1 (show 0<g.n.toNat by omega))).1 h1
   have:=dO h.2.1 (show 0<g.n.toNat by omega) (by omega) this
   omega
  refine ⟨(tQ h (by omega)).symm, ?_,by rw [tQ h (by omega)];exact hO⟩
  rw [tQ h (by omega),EL h (by omega) hO (Nat.le_refl _) (by omega),if_pos rfl]
  rfl
 |j+1,hj=>by
  obtain ⟨i1,i2,i3⟩:=w9 hI (j:=j) (by omega)
  obtain ⟨A,C,e1,hne,e2⟩:=mQ h (k:=j+1) (by omega) (by omega)
  have hO:bH p (aq p (j+1))≠ []:=fun h1=>by
   have:=(eZ h hI (aM h.2.1 (show j+1<g.n.toNat by omega))).1 h1
   have:=dO h.2.1 (show j+1<g.n.toNat by omega) (by omega) this
   omega
  have b7:=EK h (k:=j+1) (by omega)
  have IU:dI (WK g p (j+1)) (e8 g p (aq p (j+1)))=(A.length:Int):=by
   rw [e1] at b7 ⊢
   exact EJ h b7 hne
  have A9:∀a∈WK g p (j+1),RK g p (-1) (j+1+1) a=RK g p (-1) (j+1) a:=fun a ha=>by
   obtain ⟨i,hi,e⟩:=rK h (by omega) ha
   rw [gY h (by omega) e (j:=j+1+1) (by omega) (by omega),gY h (by omega) e (j:=j+1) (by omega) (by omega)]
  refine ⟨?_, ?_,by rw [e2];simp [hO]⟩
  ·rw [ga,if_neg hO,i1,IU,Int.toNat_natCast,e2]
   congr 1
   ·congr 1
    rw [e1,List.append_assoc,List.take_left]
   ·rw [e1, ← List.length_append,List.drop_left]
  ·rw [mh,i1,i2,IU,Int.toNat_natCast,List.take_succ_cons,e2]
   have e3:(WK g p (j+1)).map (RK g p (-1) (j+1))=A.map (RK g p (-1) (j+1))++((cO g p (aq p (j+1))).map (RK g p (-1) (j+1))++C.map (RK g p (-1) (j+1))):=by rw [e1];simp
   have hA:A.map (RK g p (-1) (j+1+1))=A.map (RK g p (-1) (j+1)):=List.map_congr_left fun a ha=>A9 a (by rw [e1];simp [ha])
   have hC:C.map (RK g p (-1) (j+1+1))=C.map (RK g p (-1) (j+1)):=List.map_congr_left fun a ha=>A9 a (by rw [e1];simp [ha])
   rw [List.map_append,List.map_append,hA,hC,EL h (by omega) hO (Nat.le_refl _) (by omega),if_neg (by omega)]
   rw [e3,List.take_append_of_le_length (by simp),List.take_of_length_le (by simp)]
   obtain ⟨u,a,hu⟩:=di hne
   have hl:(cO g p (aq p (j+1))).length=u.length+1:=by rw [hu];simp
   rw [hl,show A.length+(u.length+1)=(A.length+u.length)+1 by omega,List.drop_succ_cons]
   have e4:(A.map (RK g p (-1) (j+1))++((cO g p (aq p (j+1))).map (RK g p (-1) (j+1))++C.map (RK g p (-1) (j+1)))).drop (A.length+u.length)=RK g p (-1) (j+1) (nh g p (aq p (j+1)))::C.map (RK g p (-1) (j+1)):=by
    rw [l9 h hu,hu]
    have:A.map (RK g p (-1) (j+1))++((u++ [a]).map (RK g p (-1) (j+1))++C.map (RK g p (-1) (j+1)))=(A++u).map (RK g p (-1) (j+1))++(RK g p (-1) (j+1) a::C.map (RK g p (-1) (j+1))):=by simp
    rw [this,show A.length+u.length=((A++u).map (RK g p (-1) (j+1))).length by simp,List.drop_left]
   rw [e4]
   simp
theorem gh {A B:List Int} (h:B≠ []):(A++B).dropLast=A++B.dropLast:=by
 obtain ⟨u,a,rfl⟩:=di h
 rw [← List.append_assoc,List.dropLast_concat,List.dropLast_concat]
theorem Bb (hI:pQ g=true):∀ {k:Nat},1≤k→k<g.n.toNat→∀a∈(WK g p k).dropLast,1≤RK g p (-1) k a∧RK g p (-1) k a<cK p k
 |0,h1,_,_,_=>by omega
 |k+1,_,hk,a,ha=>by
  have hO:bH p (aq p k)≠ []:=fun h1=>by
   have:=(eZ h hI (aM h.2.1 (show k<g.n.toNat by omega))).1 h1
   have:=dO h.2.1 (show k<g.n.toNat by omega) (by omega) this
   omega
  have hc:cK p (k+1)=cK p k+((bH p (aq p k)).length - 1):=rfl
  have Jl:0<cK p k:=qn
  have hnew:∀b∈(bH p (aq p k)).dropLast,1≤RK g p (-1) (k+1) b∧RK g p (-1) (k+1) b<cK p (k+1):=fun b hb=>by
   obtain ⟨v,c,hv⟩:=di hO
   rw [hv,List.dropLast_concat] at hb
   obtain ⟨u,w,EH⟩:=List.append_of_mem hb
   obtain ⟨c',w',MV⟩:∃c' w',w++ [c]=c'::w':=by
    cases w with
    |nil=>exact ⟨c, [],rfl⟩
    |cons d w=>exact ⟨d,w++ [c],rfl⟩
   have h3:bH p (aq p k)=u++b::c'::w':=by rw [hv,EH, ← MV];simp
   rw [js h (show k<g.n.toNat by omega) h3 (Nat.le_refl _) (by omega)]
   have:(bH p (aq p k)).length=u.length+(w'.length+2):=by rw [h3];simp
   omega
  by_cases h0:k=0
  ·subst h0
   rw [tQ h (by omega)] at ha
   exact hnew a ha
  ·obtain ⟨A,C,e1,hne,e2⟩:=mQ h h0 (show k<g.n.toNat by omega)
   have ih:=Bb hI (k:=k) (by omega) (by omega)
   have A9:∀a∈WK g p k,RK g p (-1) (k+1) a=RK g p (-1) k a:=fun a ha=>by
    obtain ⟨i,hi,e⟩:=rK h (by omega) ha
    rw [gY h (by omega) e (j:=k+1) (by omega) (by omega),gY h (by omega) e (j:=k) (by omega) (by omega)]
   have old:∀b∈(WK g p k).dropLast,1≤RK g p (-1) (k+1) b∧RK g p (-1) (k+1) b<cK p (k+1):=fun b hb=>by
    rw [A9 b ((List.dropLast_sublist _).subset hb)]
    have:=ih b hb
    omega
   rw [e1] at old A9
   rw [e2] at ha
   by_cases hC:C= []
   ·subst hC
    rw [List.append_nil] at ha old
    rw [gh h hO] at ha
    rw [gh h hne] at old
    rcases List.mem_append.1 ha with ha|ha
    ·exact old a (by simp [ha])
    ·exact hnew a ha
   ·rw [gh h hC] at ha old
    rcases List.mem_append.1 ha with ha|ha
    ·rcases List.mem_append.1 ha with ha|ha
     ·exact old a (by simp [ha])
     ·obtain ⟨v,b,hv⟩:=di hO
      rw [hv,List.mem_append,List.mem_singleton] at ha
      rcases ha with ha|rfl
      ·exact hnew a (by rw [hv,List.dropLast_concat];exact ha)
      ·obtain ⟨u,c,hu⟩:=di hne
       rw [tP h (show k<g.n.toNat by omega) hv (Nat.le_refl _) (by omega),if_neg h0,l9 h hu, ← A9 c (by rw [hu];simp)]
       exact old c (by rw [hu];simp)
    ·exact old a (by simp [ha])
theorem Gn (hI:pQ g=true) {k:Nat} (hk:k<g.n.toNat):∀f∈tS g p k,0≤f∧f<(zf g p k).length:=by
 intro f hf
 rw [rL]
 obtain ⟨a,ha,rfl⟩:=List.mem_map.1 hf
 have PJ:cO g p (aq p k)≠ []:=fun h0=>by rw [h0] at ha;simp at ha
 have xJ:=A6 h hk PJ
 obtain ⟨A,C,e1,hne,_⟩:=mQ h xJ hk
 have:=Bb h hI (k:=k) (by omega) hk a (by
  rw [e1]
  by_cases hC:C= []
  ·subst hC;rw [List.append_nil,gh h hne];simp [ha]
  ·rw [gh h hC];simp [(List.dropLast_sublist _).subset ha])
 omega
theorem EM (hI:pQ g=true) {j:Nat} (hj:j+1<g.n.toNat):∃a:Nat,dI (ga g p j) (e8 g p (aq p (j+1)))=a∧0<(cO g p (aq p (j+1))).length∧a+(cO g p (aq p (j+1))).length≤(ga g p j).length∧
 (mh g p j).length=(ga g p j).length+1∧(mh g p j).getD a 0=LK g p (j+1) (e8 g p (aq p (j+1)))∧(mh g p j).getD (a+(cO g p (aq p (j+1))).length) 0=RK g p (-1) (j+1) (nh g p (aq p (j+1)))∧
 ((mh g p j).take (a+(cO g p (aq p (j+1))).length)).drop (a+1)=tS g p (j+1):=by
 obtain ⟨i1,i2,i3⟩:=w9 h hI hj
 obtain ⟨A,C,e1,hne,e2⟩:=mQ h (k:=j+1) (by omega) hj
 have b7:=EK h (k:=j+1) (by omega)
 have IU:dI (WK g p (j+1)) (e8 g p (aq p (j+1)))=(A.length:Int):=by
  rw [e1] at b7 ⊢
  exact EJ h b7 hne
 have hlk:=(zY (r:= -1) h hI (k:=j+1) (by omega) hj i3).1
 obtain ⟨u,c,hu⟩:=di hne
 obtain ⟨c0,u0,CO⟩:=jj hne
 have hl:(cO g p (aq p (j+1))).length=u.length+1:=by rw [hu];simp
 rw [i1,i2]
 refine ⟨A.length,IU,by omega,by rw [e1];simp,by simp, ?_, ?_, ?_⟩
 ·rw [e1,cF,cF] at hlk
  have h1:=hlk.1.2
  rw [CO] at h1
  rw [qo h CO,h1.1,e1]
  rcases List.eq_nil_or_concat A with hA|⟨A',t,hA⟩
  ·subst hA;rfl
  ·rw [List.concat_eq_append] at hA
   subst hA
   rw [fF]
   have:(0::(A'++ [t]++cO g p (aq p (j+1))++C).map (RK g p (-1) (j+1)))=(0::A'.map (RK g p (-1) (j+1)))++RK g p (-1) (j+1) t::((cO g p (aq p (j+1))++C).map (RK g p (-1) (j+1))):=by simp
   rw [this]
   have h2:(A'++ [t]).length=(0::A'.map (RK g p (-1) (j+1))).length:=by simp
   rw [h2];exact pI
 ·rw [l9 h hu,e1,hl]
  have:(0::(A++cO g p (aq p (j+1))++C).map (RK g p (-1) (j+1)))=(0::(A++u).map (RK g p (-1) (j+1)))++RK g p (-1) (j+1) c::(C.map (RK g p (-1) (j+1))):=by rw [hu];simp
  rw [this]
  have h2:A.length+(u.length+1)=(0::(A++u).map (RK g p (-1) (j+1))).length:=by simp;omega
  rw [h2];exact pI
 ·rw [e1,hl]
  have:(0::(A++cO g p (aq p (j+1))++C).map (RK g p (-1) (j+1)))=(0::A.map (RK g p (-1) (j+1)))++(u.map (RK g p (-1) (j+1))++(RK g p (-1) (j+1) c::(C.map (RK g p (-1) (j+1))))):=by rw [hu];simp
  rw [this,List.take_append,List.drop_append]
  have h2:(0::A.map (RK g p (-1) (j+1))).length=A.length+1:=by simp
  rw [h2,List.take_of_length_le (by rw [h2];omega),List.drop_of_length_le (by rw [h2];omega),h2]
  rw [show A.length+(u.length+1) - (A.length+1)=u.length by omega,Nat.sub_self,List.drop_zero,List.nil_append]
  rw [List.take_append_of_le_length (by simp),List.take_of_length_le (by simp)]
  unfold tS
  rw [hu,List.dropLast_concat]
end
end Go.Ab
end
section
namespace Go.Ab
open Go.Proofs
attribute [local congr] ACall.congr
set_option maxRecDepth 10000
set_option maxHeartbeats 8000000
def swapT (l:List It) (k:Nat):List It:=(List.range l.length).map fun p=>if p<k∨l.length - 1<p+k then l.getD (l.length - 1 - p) (0,0,0) else l.getD p (0,0,0)
def NU (rs:List Int) (l:List It):Int:=match l.find? (fun t=>decide (t.2.2∈rs)) with
 |some t=>t.2.2
 |none=>rs.headD (-1)
end Go.Ab
end
section
namespace Go.Ab
open Go.Proofs
attribute [local congr] ACall.congr
set_option maxRecDepth 10000
set_option maxHeartbeats 8000000
def QO (b:Bool) (g:Gr) (p:Pl):List Int × List Int × Int:=
 if (bU b g p).2.1=0∧pQ g=true then (Ej g p false g.n.toNat,Ej g p true g.n.toNat,0) else ([], [],1)
end Go.Ab
end
section
namespace Go.Ab
open Go.Proofs
attribute [local congr] ACall.congr
set_option maxRecDepth 10000
set_option maxHeartbeats 8000000
theorem nV {b:Bool} {g:Gr} {p:Pl} (hr:b=true↔(bJ g).1=0∧bw g p) (h:cA g p):bU b g p=((eu g p g.n.toNat,kX g p),(0,0)):=by
 obtain rfl:b=true:=hr.2 ⟨h.1,h.2.1⟩
 unfold bU
 rw [if_neg (by simp),fz.2 h.2.2]
 rfl
theorem PK (g:Gr) (p:Pl):∃b:Bool,(b=true↔(bJ g).1=0∧bw g p):=by
 by_cases h:(bJ g).1=0∧bw g p
 ·exact ⟨true,by simp [h]⟩
 ·exact ⟨false,by simp [h]⟩
end Go.Ab
end
section
namespace Go.Ab
open Go.Proofs
attribute [local congr] ACall.congr
set_option maxRecDepth 60000
set_option maxHeartbeats 8000000
structure Fc where
 L:List Int
 R:List Int
 lo:List Int
 hi:List Int
def mT (g:Gr) (p:Pl) (f:Int):Int:=if f= -1 then (cK p g.n.toNat:Int) else f
def GW (g:Gr) (p:Pl):Fc:=⟨arr (LK g p g.n.toNat) g.es.length,(arr (RK g p (-1) g.n.toNat) g.es.length).map (mT g p),iZ p g.n.toNat++ [aq p 0],zf g p g.n.toNat++ [aq p (g.n.toNat - 1)]⟩
def rM:Fc:=⟨[], [], [], []⟩
def GX (b:Bool) (g:Gr) (p:Pl):Fc × Int:=if ((bU b g p).2.1=0∧pQ g=true)∧0<g.es.length then (GW g p,0) else (rM,1)
def gU (f:Fc):AV:= .agg [.d (sI f.L), .d (sI f.R), .d (sI f.lo), .d (sI f.hi)]
def mj (l:List Int) (f:Int→Int) (j:Nat):List Int:=(l.take j).map f++l.drop j
theorem EN {l:List Int} {f:Int→Int} {j:Nat} :(mj l f j).length=l.length:=by
 simp only [mj,List.length_append,List.length_map,List.length_take,List.length_drop];omega
theorem vu {l:List Int} {f:Int→Int} {j:Nat} (h:j<l.length):mj l f (j+1)=(mj l f j).set j (f (l.getD j 0)):=by
 have h1:((l.take j).map f).length=j:=by simp;omega
 have e:l.getD j 0=l[j]:=by rw [List.getD_eq_getElem?_getD,List.getElem?_eq_getElem h];rfl
 unfold mj
 have e2:l.take (j+1)=l.take j++ [l[j]]:=by rw [List.take_add_one,List.getElem?_eq_getElem h];rfl
 rw [List.drop_eq_getElem_cons h,List.set_append,h1,if_neg (by omega),Nat.sub_self,List.set_cons_zero,e2,e,List.map_append,List.append_assoc]
 rfl
theorem Bc {l:List Int} {f:Int→Int} {j:Nat} (h:j<l.length):(mj l f j).getD j 0=l.getD j 0:=by
 have h1:((l.take j).map f).length=j:=by simp;omega
 unfold mj
 rw [List.getD_eq_getElem?_getD,List.getElem?_append_right (by omega),h1,Nat.sub_self,List.drop_eq_getElem_cons h,List.getD_eq_getElem?_getD,List.getElem?_eq_getElem h];rfl
theorem EO {l:List Int} {f:Int→Int} :mj l f l.length=l.map f:=by simp [mj]
theorem Cu {l:List Int} {f:Int→Int} {j:Nat} (h:j<l.length) (hf:f (l.getD j 0)=l.getD j 0):mj l f (j+1)=mj l f j:=by
 rw [vu h,hf]
 refine List.ext_getElem? fun i=> ?_
 rw [List.getElem?_set]
 split
 ·rename_i e;subst e
  split
  ·have:=Bc (l:=l) (f:=f) h
   rename_i hl
   rw [List.getD_eq_getElem?_getD,List.getElem?_eq_getElem hl] at this
   rw [List.getElem?_eq_getElem hl]
   simpa using this.symm
  ·rename_i hl;rw [List.getElem?_eq_none (by omega)]
 ·rfl
theorem Cv {g:Gr} {p:Pl} (h:cA g p):0<(bS (·.2) g).length∧(bS (·.2) g).getD 0 0=aq p 0:=by
 have hn:=aT (aA h.1)
 have h0:=aM h.2.1 (k:=0) (by omega)
 have hm:aq p 0∈bS (·.2) g:=mL.2 ⟨h0,gH h⟩
 have hl:=List.length_pos_of_mem hm
 refine ⟨hl, ?_⟩
 have:=mL.1 (aS (l:=bS (·.2) g) (m:=0) (d:=0) hl)
 exact mM h.1 this.1 h0 this.2 (gH h)
theorem Cw {g:Gr} {p:Pl} (h:cA g p) (hI:pQ g=true):0<(bS (·.1) g).length∧(bS (·.1) g).getD 0 0=aq p (g.n.toNat - 1):=by
 have hn:=aT (aA h.1)
 have h0:=aM h.2.1 (k:=g.n.toNat - 1) (by omega)
 have hm:aq p (g.n.toNat - 1)∈bS (·.1) g:=mN.2 ⟨h0,(pe h.2.1 h0.1 h0.2).2 (qj h).1⟩
 have hl:=List.length_pos_of_mem hm
 refine ⟨hl, ?_⟩
 have:=mN.1 (aS (l:=bS (·.1) g) (m:=0) (d:=0) hl)
 exact (eZ h hI this.1).1 ((pe h.2.1 this.1.1 this.1.2).1 this.2)
theorem GY {g:Gr} {p:Pl} (h:cA g p):∀ {k:Nat},k≤g.n.toNat→cK p k≤1+k*g.es.length
 |0,_=>by simp [cK]
 |k+1,hk=>by
  have:=GY h (k:=k) (by omega)
  have hx:=aM h.2.1 (show k<g.n.toNat by omega)
  have:=kN h.2.1 hx.1 hx.2
  rw [cK,Nat.add_mul];omega
theorem qL {g:Gr} {p:Pl} (h:cA g p) {k:Nat} (hk:k≤g.n.toNat):cK p k≤100000∧(∀x:Int,(bH p x).length≤100000∨¬lp g x):=by
 have hn:=aT (aA h.1)
 have h1:=GY h hk
 have h2:k*g.es.length≤64*128:=Nat.mul_le_mul (by omega) (by omega)
 refine ⟨by omega,fun x=> ?_⟩
 by_cases hx:lp g x
 ·have:=kN h.2.1 hx.1 hx.2;exact .inl (by omega)
 ·exact .inr hx
theorem Cx (g:Gr) (p:Pl) (hp:pg p) (hrun:cA g p) (hI:pQ g=true) (hm0:0<g.es.length) (b:Bool) (hr:b=true↔(bJ g).1=0∧bw g p):
 Spec Tryz.prog 17 (Args [eG g,ePl p]) [] (.tup [gU (GW g p),eN 0]) []:=by
 have hm:=aA hrun.1
 have hn:=aT hm
 have hle:=bK hrun.2.1
 have hO:=jB g (by omega) p hp b hr
 have Ik:=tJ g (by omega)
 have Il:=ff g hm
 have K5:=eA g hm
 have PL:=s7 g hm
 obtain ⟨hs1,hs2⟩:=Cv hrun
 obtain ⟨MW,hs4⟩:=Cw hrun hI
 rw [nV hr hrun] at hO
 simp only at hO
 rw [hI] at Ik
 have hb0:decide ((g.es.length:Int)=0)=false:=decide_eq_false (by omega)
 have hn2:1<g.n.toNat:=by
  refine Decidable.byContradiction fun hc=> ?_
  have ht:=bN hm (i:=0) hm0
  have hh:=cn hm (i:=0) hm0
  obtain ⟨j,hj,_⟩:=tO hrun (e:=0) (by omega) (k:=0) (by omega) (by
   obtain ⟨k,hk,e⟩:=fW hrun.2.1 hh.1 hh.2
   obtain rfl:k=0:=by omega
   exact e.symm)
  omega
 obtain ⟨s0,hs0⟩:∃s:Nat,aq p 0=s:=by have:=aM hrun.2.1 (k:=0) (by omega);exact ⟨(aq p 0).toNat,by omega⟩
 have MX:s0<p.outs.length:=by have:=aM hrun.2.1 (k:=0) (by omega);have:=hrun.2.1.1;omega
 have qx:=kK MX
 have MY:p.outs.getD s0 []=bH p (aq p 0):=by unfold bH;rw [hs0,Int.toNat_natCast]
 rw [MY] at qx
 have PM:=kN hrun.2.1 (aM hrun.2.1 (k:=0) (by omega)).1 (aM hrun.2.1 (k:=0) (by omega)).2
 have EE:=vq (aq p 0) 0 (-1) (bH p (aq p 0)) (.sl 1 []) (sI [0, -1]) (arr (LK g p 0) g.es.length) (arr (RK g p (-1) 0) g.es.length) [aq p 0] [aq p (g.n.toNat - 1)] (by omega) (fun i hi=>by rw [c9];exact (jt hrun (by omega) hi).1) (by rw [c9,c9]) (by simp) (by simp)
 have NV:=Kq hrun (k:=0) (by omega)
 have NW:=Kr (r:= -1) hrun (k:=0) (by omega)
 rw [if_pos rfl] at NV NW
 have Ks:cO g p (aq p 0)= []:=by
  have:=j9 hrun (aM hrun.2.1 (k:=0) (by omega))
  rw [gH hrun] at this
  exact List.eq_nil_of_length_eq_zero this
 have hi1:zf g p 1= [aq p (g.n.toNat - 1)]++List.replicate ((bH p (aq p 0)).length - 1) 0:=by
  have:tS g p 0= []:=by unfold tS;rw [Ks];rfl
  show mg (zf g p 0) (tS g p 0) (aq p 0) (tS g p 0).length++_=_
  rw [this];rfl
 have MZ:iZ p 1= [aq p 0]++List.replicate ((bH p (aq p 0)).length - 1) (aq p 0):=rfl
 have hc1:([aq p 0]:List Int).length=cK p 0:=rfl
 rw [hc1,NV,NW, ← hi1, ← MZ] at EE
 have tI:∀f:Int→Int,(∀e,f e=0)→List.replicate g.es.length [D.sc (.int .i64 0)]=(arr f g.es.length).map rI:=fun f hf=>by
  refine List.ext_getElem? fun i=> ?_
  simp only [arr,List.getElem?_replicate,List.getElem?_map]
  by_cases hi:i<g.es.length
  ·rw [if_pos hi,List.getElem?_range hi];simp [hf,rI]
  ·rw [if_neg hi,List.getElem?_eq_none (by simpa using hi)];rfl
 have gv:=tI (LK g p 0) fun _=>rfl
 have Fx:=lM (bH p (aq p 0)) (by omega)
 have M0:=jD [0, -1] (fO (cK p 0) ((bH p (aq p 0)).length - 1)) 1 1 (by simp) (by simp) (by rw [kg];omega)
 have HG:List.take 1 [(0:Int), -1]++fO (cK p 0) ((bH p (aq p 0)).length - 1)++List.drop 1 [(0:Int), -1]=mh g p 0:=rfl
 rw [HG] at M0
 have PN:RK g p (-1) 0=LK g p 0:=by funext e;rfl
 rw [PN] at EE
 have Gb:ga g p 0=bH p (aq p 0):=rfl
 have Fx:Spec Tryz.prog 53 (Args [.d (sI (bH p (s0:Int)))]) [] (.d (sI (ga g p 0))) []:=by
  rw [Gb, ← hs0];exact Fx
 generalize NX:arr (LK g p 0) g.es.length=A0 at EE gv
 have tW:=kg (c:=cK p 0) (k:=(bH p (aq p 0)).length - 1)
 generalize fO (cK p 0) ((bH p (aq p 0)).length - 1)=gs at EE M0 tW
 unfold IY IZ at EE
 have yR:List.drop 1 (List.map rI p.ord)=(p.ord.drop 1).map rI:=by rw [List.map_drop]
 have hdl:(p.ord.drop 1).length=g.n.toNat - 1:=by rw [List.length_drop];omega
 have ru:List.take p.ord.length (List.map rI p.ord)=List.map rI p.ord:=List.take_of_length_le (by simp)
 generalize Lu:g.n.toNat - 1=N1 at hdl
 (refine Spec.intro (C:=T.cfg [67] []) (rs:= [.c 4 32, .t 5]) (T.aj _ _) Tryz.func17 rfl rfl Tryz.ntmps17 Tryz.results17 (by simp [AObj.isNest]) (by simp [AObj.isNest]) (by kernel_rfl) ?_;intro X hX hP hC aD aF vals hA;refine ⟨_,by simp,hA, ?_⟩;have af:X.P.follows .mixedOrders=true:=(by rw [hP];exact T.mixed);clear aD aF)
 repeat' (first|((first|((with_reducible (first|apply oA|apply oB));exact rfl;intro K hK)|(refine hK _ ?_;clear hK K)|((with_reducible (first|apply oG|apply oH));iterate 3 exact rfl)|((with_reducible apply oI);(iterate 2 exact rfl);intro K hK)|(with_reducible (first|apply wI|apply wJ|apply wK)));try simp only [go_sem,simprocAttr,hb0,hs2,hs4,gv,hs0,qx,yR,hdl,rI])|(show dz _ (.seq (.region 8 _ _) _) _ _;(refine oP 54 0 1 rfl rfl rfl ?_;simp only [LA.app,ASt.put,ASt.kill,putM,rml,List.set_cons_zero,List.set_cons_succ,go_sem,simprocAttr,hb0,hs2,hs4,gv,hs0,qx,yR,hdl,rI]);(refine dF hX 52 rfl ?_;simp only [go_sem,simprocAttr,hb0,hs2,hs4,gv,hs0,qx,yR,hdl,rI]))|(with_reducible (first|apply oC|apply oJ|exact oK|apply wA|apply wB|apply wC hX hC|apply wD hX hC|apply wE hX hC af|apply wF hX hC af|apply wG|apply wH|apply And.intro))|((with_reducible refine oD ?_ ?_);kernel_rfl)|((with_reducible (first|apply oE|apply oF));(iterate 3 exact rfl);all_goals (intro h;first|(exact absurd h (by decide))|((try simp only [go_sem,simprocAttr,hb0,hs2,hs4,gv,hs0,qx,yR,hdl,rI] at h);(try with_reducible intro K hK);simp only [go_sem,simprocAttr,hb0,hs2,hs4,gv,hs0,qx,yR,hdl,rI])))|((first|((with_reducible apply wL);exact rfl)|((with_reducible apply wM);exact rfl));all_goals (try ((with_reducible intro h);first|(exact absurd h (by decide))|(try simp only [go_sem,simprocAttr,hb0,hs2,hs4,gv,hs0,qx,yR,hdl,rI] at h))))|omega|((first|refine aa hX hC hP (hO) rfl rfl rfl (by simp only [go_sem,simprocAttr,hb0,hs2,hs4,gv,hs0,qx,yR,hdl,rI]) rfl ?_|refine aa hX hC hP (Ik) rfl rfl rfl (by simp only [go_sem,simprocAttr,hb0,hs2,hs4,gv,hs0,qx,yR,hdl,rI]) rfl ?_|refine aa hX hC hP (Il) rfl rfl rfl (by simp only [go_sem,simprocAttr,hb0,hs2,hs4,gv,hs0,qx,yR,hdl,rI]) rfl ?_|refine aa hX hC hP (K5) rfl rfl rfl (by simp only [go_sem,simprocAttr,hb0,hs2,hs4,gv,hs0,qx,yR,hdl,rI]) rfl ?_|refine aa hX hC hP (PL) rfl rfl rfl (by simp only [go_sem,simprocAttr,hb0,hs2,hs4,gv,hs0,qx,yR,hdl,rI]) rfl ?_|(refine au hX hC hP [(10000,54),(10001,59),(10002,63),(10003,65),(10004,67),(10005,300),(10006,301)] (EE) rfl rfl rfl ?_ ?_ ?_ ?_ ?_ ?_ ?_ ?_ ?_ ?_ ?_ ?_ ?_ ?_;(focus (simp only [go_sem,simprocAttr,hb0,hs2,hs4,gv,hs0,qx,yR,hdl,rI];done));(iterate 12 (focus (simp [go_sem,simprocAttr,hb0,hs2,hs4,gv,hs0,qx,yR,hdl,rI];done)));simp only [go_sem,simprocAttr,hb0,hs2,hs4,gv,hs0,qx,yR,hdl,rI,List.map_cons,List.map_nil])|refine aa hX hC hP (Fx) rfl rfl rfl (by simp only [go_sem,simprocAttr,hb0,hs2,hs4,gv,hs0,qx,yR,hdl,rI]) rfl ?_|(refine bh hX hC hP (M0) rfl rfl rfl ?_ ?_ rfl ?_;iterate 2 (focus (simp only [go_sem,simprocAttr,hb0,hs2,hs4,gv,hs0,qx,yR,hdl,rI];done))));try simp only [go_sem,simprocAttr,hb0,hs2,hs4,gv,hs0,qx,yR,hdl,rI])|(intro h))
 refine ah (fun j:Nat=>j≤N1) (fun j=>⟨[(3, .ptr 3 0),(4, .ptr 4 0),(6, .d (.sl 1 (vT (eu g p g.n.toNat)))),(10,eN s0),(11,eN (aq p N1)),(12, .ptr 54 0),(106, .d (sI (p.ord.drop 1))),(107,eN N1),(108,eN j)], [(54, .box [.d (sI (ga g p j)), .d (sI (mh g p j)), .ref 59, .ref 63, .ref 300, .ref 301]),(59, .own 3 1 ((arr (LK g p (j+1)) g.es.length).map rI)),(63, .own 3 1 ((arr (RK g p (-1) (j+1)) g.es.length).map rI)),(300, .tip 3 1 ((iZ p (j+1)).map rI)),(301, .own 3 1 ((zf g p (j+1)).map rI)),(3, .box [.d (sI p.ord), .d (.sl 1 (vI p.outs))]),(4, .box [.nil 3, .nil 3, .nil 3, .nil 3])]⟩) (fun j=>N1 - j) 0 (by omega) ?_ ?_
 ·refine Le.of ?_ ?_<;>simp [go_sem,simprocAttr,Lu,ru]
  omega
 rintro j hj
 rcases Nat.lt_or_ge j N1 with hjl|J1
 ·have hb:decide ((j:Int)<(N1:Int))=true:=decide_eq_true (by omega)
  have hjn:j+1<g.n.toNat:=by omega
  obtain ⟨a,p1,p2,p3,p4,p5,p6,p7⟩:=EM hrun hI hjn
  have Fv:=aM hrun.2.1 hjn
  have hx:(p.ord.drop 1).getD j 0=aq p (j+1):=by
   rw [List.getD_eq_getElem?_getD,List.getElem?_drop,Nat.add_comm 1 j]
   show _=p.ord.getD (j+1) 0
   rw [List.getD_eq_getElem?_getD]
  have jF:=fun i hi=>(jt hrun hjn (e:=i) hi).1
  have CK:=kN hrun.2.1 Fv.1 Fv.2
  have Kt:=o8 hrun.2.1 (Nat.le_refl _) hjn
  have hel:=lW (g:=g) (p:=p) (k:=g.n.toNat)
  have NY:=EI hrun hI hjn
  have hL:=Kq hrun (k:=j+1) hjn
  have hR:=Kr (r:= -1) hrun (k:=j+1) hjn
  rw [if_neg (by omega)] at hL hR
  have vV:iZ p (j+1+1)=iZ p (j+1)++List.replicate ((bH p (aq p (j+1))).length - 1) (aq p (j+1)):=rfl
  have hhi:zf g p (j+1+1)=mg (zf g p (j+1)) (tS g p (j+1)) (aq p (j+1)) (tS g p (j+1)).length++List.replicate ((bH p (aq p (j+1))).length - 1) 0:=rfl
  have M1:=Gn hrun hI hjn
  have lu:=gT (p:=p) (k:=j+1)
  have um:=rL (g:=g) (p:=p) (k:=j+1)
  have NZ:=(qL hrun (k:=j+1) (by omega)).1
  have M3:ga g p (j+1)=if bH p (aq p (j+1))= [] then ga g p j else (ga g p j).take (dI (ga g p j) (e8 g p (aq p (j+1)))).toNat++bH p (aq p (j+1))++(ga g p j).drop ((dI (ga g p j) (e8 g p (aq p (j+1)))).toNat+(cO g p (aq p (j+1))).length):=rfl
  have M4:mh g p (j+1)=(mh g p j).take ((dI (ga g p j) (e8 g p (aq p (j+1)))).toNat+1)++fO (cK p (j+1)) ((bH p (aq p (j+1))).length - 1)++(mh g p j).drop ((dI (ga g p j) (e8 g p (aq p (j+1)))).toNat+(cO g p (aq p (j+1))).length):=rfl
  rw [p1,Int.toNat_natCast] at M3 M4
  obtain ⟨r1,r2,r3⟩:=w9 hrun hI hjn
  have QS:(ga g p j).length≤10000:=by
   rw [r1]
   have:=fE (m:=(List.range g.es.length).map Int.ofNat) (EK hrun (k:=j+1) (by omega)) fun e he=>by
    have hi:=dm hm hrun.2.1 (k:=j+1) (by omega) fun i hi=>hrun.2.2 i (by omega)
    obtain ⟨t,ht,rfl⟩:=List.mem_map.1 he
    obtain ⟨⟨h1,h2⟩,_⟩:=pG hm hi.1.toij ht
    exact List.mem_map.2 ⟨t.1.toNat,List.mem_range.2 (by omega),by simp;omega⟩
   simp at this
   omega
  have hfr:e8 g p (aq p (j+1))=((fN g p (j+1)).getD 0 (0,0,0)).1:=by
   unfold e8
   rw [NY]
   cases fN g p (j+1)<;>rfl
  rw [NY,List.length_map] at p2 p3 p6 p7 M3 M4
  have hIx:=aU (ga g p j) (e8 g p (aq p (j+1))) (by omega)
  rw [p1] at hIx
  rw [hfr] at hIx p5
  have kO:=w8 (aq p (j+1)) (bH p (aq p (j+1))) (ga g p j) (mh g p j) (arr (LK g p (j+1)) g.es.length) (arr (RK g p (-1) (j+1)) g.es.length) (iZ p (j+1)) (zf g p (j+1)) a (a+(fN g p (j+1)).length) (by omega) (by omega) (by omega) (by omega) (by omega) (by rw [p7];exact M1) (by omega) (fun i hi=>by rw [c9];exact jF i hi) (by rw [c9,c9]) (by omega) (by omega)
  rw [p7,p5,p6,lu, ← hhi, ← vV, ← M3, ← M4] at kO
  rw [← hfr] at kO
  rw [hL,hR] at kO
  obtain ⟨x,M5⟩:∃x:Nat,aq p (j+1)=x:=⟨(aq p (j+1)).toNat,by omega⟩
  have gJ:x<p.outs.length:=by have:=hrun.2.1.1;omega
  have hv:=kK gJ
  have hla:p.outs.getD x []=bH p (aq p (j+1)):=by unfold bH;rw [M5,Int.toNat_natCast]
  rw [hla] at hv
  have z6:=fun d=>o5 (ls:=eu g p g.n.toNat) (k:=x) (by omega) d
  have hex:(eu g p g.n.toNat).getD x []=fN g p (j+1):=by rw [← Kt,M5,Int.toNat_natCast]
  rw [hex] at z6
  have hvl:(vT (eu g p g.n.toNat)).length=g.n.toNat:=by rw [vT_length,hel]
  have BO:x<g.n.toNat:=by omega
  obtain ⟨bb,ng⟩:∃bb:Nat,bb=a+(fN g p (j+1)).length:=⟨_,rfl⟩
  have qs:(a:Int)+((fN g p (j+1)).length:Int)=(bb:Int):=by omega
  rw [← ng] at kO
  have jG:bb≤10000:=by omega
  generalize bH p (aq p (j+1))=o at kO hv
  rw [M5] at kO hx
  generalize fN g p (j+1)=gn at hIx z6 qs p2
  clear ng
  generalize HH:ga g p (j+1)=E2 at kO
  generalize ga g p j=E1 at kO hIx
  generalize hq1:mh g p (j+1)=G2 at kO
  generalize mh g p j=G1 at kO
  generalize Dv:arr (LK g p (j+1+1)) g.es.length=A2 at kO
  generalize PO:arr (RK g p (-1) (j+1+1)) g.es.length=B2 at kO
  generalize arr (LK g p (j+1)) g.es.length=A1 at kO
  generalize arr (RK g p (-1) (j+1)) g.es.length=B1 at kO
  generalize PR:iZ p (j+1+1)=L2 at kO
  generalize PT:zf g p (j+1+1)=H2 at kO
  generalize iZ p (j+1)=L1 at kO
  generalize zf g p (j+1)=H1 at kO
  generalize vT (eu g p g.n.toNat)=VE at z6 hvl
  unfold IY IZ at kO
  repeat' (first|((first|((with_reducible (first|apply oA|apply oB));exact rfl;intro K hK)|(refine hK _ ?_;clear hK K)|((with_reducible (first|apply oG|apply oH));iterate 3 exact rfl)|((with_reducible apply oI);(iterate 2 exact rfl);intro K hK)|(with_reducible (first|apply wI|apply wJ|apply wK)));try simp only [go_sem,simprocAttr,hb,hx,hv,z6,hvl,qs])|(show dz _ (.region 15 _ _) _ _;(refine dN hX 54 4 302 300 rfl rfl rfl (by first|exact .inl rfl|exact .inr rfl) (by decide) (by decide) ?_;simp only [LA.app,ASt.put,ASt.kill,subT,rmk,putM,rml,kl,AV.sub,AV.subs,AObj.sub,List.set_cons_zero,List.set_cons_succ,go_sem,simprocAttr,hb,hx,hv,z6,hvl,qs]);(refine dN hX 54 5 303 301 rfl rfl rfl (by first|exact .inl rfl|exact .inr rfl) (by decide) (by decide) ?_;simp only [LA.app,ASt.put,ASt.kill,subT,rmk,putM,rml,kl,AV.sub,AV.subs,AObj.sub,List.set_cons_zero,List.set_cons_succ,go_sem,simprocAttr,hb,hx,hv,z6,hvl,qs]))|(with_reducible (first|apply oC|apply oJ|exact oK|apply wA|apply wB|apply wC hX hC|apply wD hX hC|apply wE hX hC af|apply wF hX hC af|apply wG|apply wH|apply And.intro))|((with_reducible refine oD ?_ ?_);kernel_rfl)|((with_reducible (first|apply oE|apply oF));(iterate 3 exact rfl);all_goals (intro h;first|(exact absurd h (by decide))|((try simp only [go_sem,simprocAttr,hb,hx,hv,z6,hvl,qs] at h);(try with_reducible intro K hK);simp only [go_sem,simprocAttr,hb,hx,hv,z6,hvl,qs])))|((first|((with_reducible apply wL);exact rfl)|((with_reducible apply wM);exact rfl));all_goals (try ((with_reducible intro h);first|(exact absurd h (by decide))|(try simp only [go_sem,simprocAttr,hb,hx,hv,z6,hvl,qs] at h))))|omega|((first|refine aa hX hC hP (hIx) rfl rfl rfl (by simp only [go_sem,simprocAttr,hb,hx,hv,z6,hvl,qs]) rfl ?_|(refine au hX hC hP [(10000,54),(10001,59),(10002,63),(10003,300),(10004,301),(10005,302),(10006,303)] (kO) rfl rfl rfl ?_ ?_ ?_ ?_ ?_ ?_ ?_ ?_ ?_ ?_ ?_ ?_ ?_ ?_;(focus (simp only [go_sem,simprocAttr,hb,hx,hv,z6,hvl,qs];done));(iterate 12 (focus (simp [go_sem,simprocAttr,hb,hx,hv,z6,hvl,qs];done)));simp only [go_sem,simprocAttr,hb,hx,hv,z6,hvl,qs,List.map_cons,List.map_nil]));try simp only [go_sem,simprocAttr,hb,hx,hv,z6,hvl,qs])|(intro h))
  refine ⟨j+1,by omega, ?_,by omega⟩
  rw [HH,hq1,Dv,PO,PR,PT]
  refine Le.of ?_ ?_<;>simp [go_sem,simprocAttr,hb,hx,hv,z6,hvl,qs]
 have hb:decide ((j:Int)<(N1:Int))=false:=decide_eq_false (by omega)
 obtain rfl:j=N1:=by omega
 have PU:j+1=g.n.toNat:=by omega
 rw [PU]
 have lu:=gT (p:=p) (k:=g.n.toNat)
 have um:=rL (g:=g) (p:=p) (k:=g.n.toNat)
 have NZ:=(qL hrun (k:=g.n.toNat) (by omega)).1
 have PV:GW g p=⟨arr (LK g p g.n.toNat) g.es.length,(arr (RK g p (-1) g.n.toNat) g.es.length).map (mT g p),iZ p g.n.toNat++ [(s0:Int)],zf g p g.n.toNat++ [aq p j]⟩:=by unfold GW;rw [hs0,Lu]
 have PW:(arr (RK g p (-1) g.n.toNat) g.es.length).length=g.es.length:=c9
 rw [PV]
 have hrf:∀f,mT g p f=if f= -1 then (cK p g.n.toNat:Int) else f:=fun f=>rfl
 generalize arr (RK g p (-1) g.n.toNat) g.es.length=RA at PW
 generalize arr (LK g p g.n.toNat) g.es.length=LA
 generalize iZ p g.n.toNat=LO at lu
 generalize zf g p g.n.toNat=HI at um
 generalize ga g p j=E1
 generalize mh g p j=G1
 generalize cK p g.n.toNat=cc at lu um NZ hrf
 repeat' (first|((first|((with_reducible (first|apply oA|apply oB));exact rfl;intro K hK)|(refine hK _ ?_;clear hK K)|((with_reducible (first|apply oG|apply oH));iterate 3 exact rfl)|((with_reducible apply oI);(iterate 2 exact rfl);intro K hK)|(with_reducible (first|apply wI|apply wJ|apply wK)));try simp only [go_sem,simprocAttr,hb,lu])|(with_reducible (first|apply oC|apply oJ|exact oK|apply wA|apply wB|apply wC hX hC|apply wD hX hC|apply wE hX hC af|apply wF hX hC af|apply wG|apply wH|apply And.intro))|((with_reducible refine oD ?_ ?_);kernel_rfl)|((with_reducible (first|apply oE|apply oF));(iterate 3 exact rfl);all_goals (intro h;first|(exact absurd h (by decide))|((try simp only [go_sem,simprocAttr,hb,lu] at h);(try with_reducible intro K hK);simp only [go_sem,simprocAttr,hb,lu])))|((first|((with_reducible apply wL);exact rfl)|((with_reducible apply wM);exact rfl));all_goals (try ((with_reducible intro h);first|(exact absurd h (by decide))|(try simp only [go_sem,simprocAttr,hb,lu] at h))))|omega|(intro h))
 refine ah (fun i:Nat=>i≤RA.length) (fun i=>⟨[(4, .ptr 4 0),(12, .ptr 54 0),(17,eN cc),(175, .ref 63),(176,eN RA.length),(177,eN i)], [(54, .box [.d (sI E1), .d (sI G1), .ref 59, .ref 63, .ref 156, .ref 164]),(59, .own 3 1 (LA.map rI)),(63, .own 3 1 ((mj RA (mT g p) i).map rI)),(156, .tip 3 1 ((LO++ [(s0:Int)]).map rI)),(164, .own 3 1 ((HI++ [aq p j]).map rI)),(4, .box [.nil 3, .nil 3, .nil 3, .nil 3])]⟩) (fun i=>RA.length - i) 0 (by omega) ?_ ?_
 ·refine Le.of ?_ ?_<;>simp [go_sem,simprocAttr,mj,rI]
 rintro i hi
 rcases Nat.lt_or_ge i RA.length with hil|J2
 ·have fA:decide ((i:Int)<(RA.length:Int))=true:=decide_eq_true (by omega)
  have hml:=EN (l:=RA) (f:=mT g p) (j:=i)
  have hma:=Bc (f:=mT g p) hil
  by_cases za:RA.getD i 0= -1
  ·have an:decide ((mj RA (mT g p) i).getD i 0= -1)=true:=decide_eq_true (by rw [hma,za])
   have dQ:=vu (f:=mT g p) hil
   rw [hrf,if_pos za] at dQ
   generalize mj RA (mT g p) i=M at hml an dQ
   repeat' (first|((first|((with_reducible (first|apply oA|apply oB));exact rfl;intro K hK)|(refine hK _ ?_;clear hK K)|((with_reducible (first|apply oG|apply oH));iterate 3 exact rfl)|((with_reducible apply oI);(iterate 2 exact rfl);intro K hK)|(with_reducible (first|apply wI|apply wJ|apply wK)));try simp only [go_sem,simprocAttr,fA,an,hml])|(with_reducible (first|apply oC|apply oJ|exact oK|apply wA|apply wB|apply wC hX hC|apply wD hX hC|apply wE hX hC af|apply wF hX hC af|apply wG|apply wH|apply And.intro))|((with_reducible refine oD ?_ ?_);kernel_rfl)|((with_reducible (first|apply oE|apply oF));(iterate 3 exact rfl);all_goals (intro h;first|(exact absurd h (by decide))|((try simp only [go_sem,simprocAttr,fA,an,hml] at h);(try with_reducible intro K hK);simp only [go_sem,simprocAttr,fA,an,hml])))|((first|((with_reducible apply wL);exact rfl)|((with_reducible apply wM);exact rfl));all_goals (try ((with_reducible intro h);first|(exact absurd h (by decide))|(try simp only [go_sem,simprocAttr,fA,an,hml] at h))))|omega|(intro h))
   refine ⟨i+1,by omega, ?_,by omega⟩
   rw [dQ]
   refine Le.of ?_ ?_<;>simp [go_sem,simprocAttr,fA,an,hml,rI]
  ·have an:decide ((mj RA (mT g p) i).getD i 0= -1)=false:=decide_eq_false (by rw [hma];exact za)
   have dQ:=Cu (f:=mT g p) hil (by rw [hrf,if_neg za])
   generalize mj RA (mT g p) i=M at hml an dQ
   repeat' (first|((first|((with_reducible (first|apply oA|apply oB));exact rfl;intro K hK)|(refine hK _ ?_;clear hK K)|((with_reducible (first|apply oG|apply oH));iterate 3 exact rfl)|((with_reducible apply oI);(iterate 2 exact rfl);intro K hK)|(with_reducible (first|apply wI|apply wJ|apply wK)));try simp only [go_sem,simprocAttr,fA,an,hml])|(with_reducible (first|apply oC|apply oJ|exact oK|apply wA|apply wB|apply wC hX hC|apply wD hX hC|apply wE hX hC af|apply wF hX hC af|apply wG|apply wH|apply And.intro))|((with_reducible refine oD ?_ ?_);kernel_rfl)|((with_reducible (first|apply oE|apply oF));(iterate 3 exact rfl);all_goals (intro h;first|(exact absurd h (by decide))|((try simp only [go_sem,simprocAttr,fA,an,hml] at h);(try with_reducible intro K hK);simp only [go_sem,simprocAttr,fA,an,hml])))|((first|((with_reducible apply wL);exact rfl)|((with_reducible apply wM);exact rfl));all_goals (try ((with_reducible intro h);first|(exact absurd h (by decide))|(try simp only [go_sem,simprocAttr,fA,an,hml] at h))))|omega|(intro h))
   refine ⟨i+1,by omega, ?_,by omega⟩
   rw [dQ]
   refine Le.of ?_ ?_<;>simp [go_sem,simprocAttr,fA,an,hml,rI]
 have fA:decide ((i:Int)<(RA.length:Int))=false:=decide_eq_false (by omega)
 obtain rfl:i=RA.length:=by omega
 rw [EO]
 repeat' (first|((first|((with_reducible (first|apply oA|apply oB));exact rfl;intro K hK)|(refine hK _ ?_;clear hK K)|((with_reducible (first|apply oG|apply oH));iterate 3 exact rfl)|((with_reducible apply oI);(iterate 2 exact rfl);intro K hK)|(with_reducible (first|apply wI|apply wJ|apply wK)));try simp only [go_sem,simprocAttr,fA,gU])|(with_reducible (first|apply oC|apply oJ|exact oK|apply wA|apply wB|apply wC hX hC|apply wD hX hC|apply wE hX hC af|apply wF hX hC af|apply wG|apply wH|apply And.intro))|((with_reducible refine oD ?_ ?_);kernel_rfl)|((with_reducible (first|apply oE|apply oF));(iterate 3 exact rfl);all_goals (intro h;first|(exact absurd h (by decide))|((try simp only [go_sem,simprocAttr,fA,gU] at h);(try with_reducible intro K hK);simp only [go_sem,simprocAttr,fA,gU])))|((first|((with_reducible apply wL);exact rfl)|((with_reducible apply wM);exact rfl));all_goals (try ((with_reducible intro h);first|(exact absurd h (by decide))|(try simp only [go_sem,simprocAttr,fA,gU] at h))))|omega|(intro h))
end Go.Ab
end
section
namespace Go.Ab
open Go.Proofs
set_option maxRecDepth 10000
set_option linter.unusedSectionVars false
section
variable (g:Gr) (p:Pl)
def cN:Nat:=cK p g.n.toNat
def Lf (e:Int):Int:=LK g p g.n.toNat e
def Rf (e:Int):Int:=RK g p (cN g p) g.n.toNat e
def Gp:List Int:=iZ p g.n.toNat++ [aq p 0]
def I1:List Int:=zf g p g.n.toNat++ [aq p (g.n.toNat - 1)]
def PX (f:Int):Int:=(Gp g p).getD f.toNat 0
def QT (f:Int):Int:=(I1 g p).getD f.toNat 0
end
section
variable {g:Gr} {p:Pl}
theorem Gq:(Gp g p).length=cN g p+1:=by simp [Gp,gT,cN]
variable (h:cA g p) (hI:pQ g=true)
include h hI
theorem Ku {a:Int} (ha:(jC g p).K3 a):∃k u b v,k<g.n.toNat∧iA g a=aq p k∧bH p (aq p k)=u++a::b::v:=by
 obtain ⟨x,u,b,v,e⟩:=ha
 by_cases hx:lp g x
 ·obtain ⟨k,hk,rfl⟩:=fW h.2.1 hx.1 hx.2
  rw [jr hx] at e
  exact ⟨k,u,b,v,hk,(nT h hk e).1,e⟩
 ·rw [pF hx] at e;cases u<;>cases e
theorem Bd {a:Int} (ha:(jC g p).K3 a):∃f:Nat,1≤f∧f<cN g p∧∀r,RK g p r g.n.toNat a=f:=by
 obtain ⟨k,u,b,v,hk,_,e⟩:=Ku h hI ha
 have hl:(bH p (aq p k)).length=u.length+(v.length+2):=by rw [e];simp
 have DY:cK p (k+1)=cK p k+((bH p (aq p k)).length - 1):=rfl
 obtain ⟨d,hd⟩:=Nat.exists_eq_add_of_le (show k+1≤g.n.toNat by omega)
 have hmo:=rJ (p:=p) (k:=k+1) (d:=d)
 rw [← hd] at hmo
 have hp:0<cK p k:=qn
 have Ji:cN g p=cK p g.n.toNat:=rfl
 exact ⟨cK p k+u.length,by omega,by omega,fun r=>by rw [js h hk e (by omega) (Nat.le_refl _)];omega⟩
theorem mo:(jC g p).iL (Lf g p) (Rf g p) 0 (cN g p) (PX g p):=by
 have F:=nU h hI (r:=cN g p) (.inr (Int.le_refl _))
 exact {F with
  new:=fun {x u a b v} e=>by
   obtain ⟨h1,h2,h3⟩:=F.new e
   obtain ⟨f,_,h5,h6⟩:=Bd h hI (a:=a) ⟨x,u,b,v,e⟩
   have h7:Rf g p a=f:=h6 _
   have h8:RK g p (cN g p) g.n.toNat a=f:=h6 _
   refine ⟨?_,h2,h3⟩
   rw [h8] at h1
   show (iZ p g.n.toNat++ [aq p 0]).getD (Rf g p a).toNat 0=x
   rw [h7, ← h1,Int.toNat_natCast,lU (by rw [gT];exact h5)]}
theorem Kv {e:Int} (he:0≤e∧e<g.es.length):mT g p (RK g p (-1) g.n.toNat e)=Rf g p e:=by
 have F:=nU h hI (r:= -1) (.inl (by omega))
 have F':=nU h hI (r:=cN g p) (.inr (Int.le_refl _))
 rcases EC (AX h hI) F F' (d:=_+1) (Nat.lt_succ_self _) (e:=e) he with ⟨h1,h2⟩|⟨a,h1,_,h2,h3⟩
 ·rw [h1];unfold mT Rf;rw [if_pos rfl,h2];rfl
 ·obtain ⟨f,h4,_,h5⟩:=Bd h hI h1
  unfold mT Rf
  rw [h2,h3,h5,h5,if_neg (by omega)]
theorem Im:GW g p=⟨arr (Lf g p) g.es.length,arr (Rf g p) g.es.length,Gp g p,I1 g p⟩:=by
 unfold GW
 have:(arr (RK g p (-1) g.n.toNat) g.es.length).map (mT g p)=arr (Rf g p) g.es.length:=by
  unfold arr
  rw [List.map_map]
  refine List.map_congr_left fun i hi=> ?_
  have:=List.mem_range.1 hi
  exact Kv h hI (e:=(i:Int)) (by omega)
 rw [this];rfl
theorem GZ {e:Int} (he:0≤e∧e<g.es.length):1≤Rf g p e∧Rf g p e≤cN g p:=by
 have hp:0<cK p g.n.toNat:=qn
 rcases EC (AX h hI) (mo h hI) (mo h hI) (d:=_+1) (Nat.lt_succ_self _) (e:=e) he with ⟨h1,_⟩|⟨a,h1,_,h2,_⟩
 ·rw [h1];have:cN g p=cK p g.n.toNat:=rfl;omega
 ·obtain ⟨f,h3,h4,h5⟩:=Bd h hI h1
  have h5:Rf g p a=f:=h5 _
  omega
theorem G0 {e:Int} (he:0≤e∧e<g.es.length):0≤Lf g p e∧Lf g p e<cN g p:=by
 have hp:0<cK p g.n.toNat:=qn
 rcases GV (AX h hI) (mo h hI) (mo h hI) (d:=_+1) (Nat.lt_succ_self _) (e:=e) he with ⟨h1,_⟩|⟨a,h1,h2,_⟩
 ·rw [h1];have:cN g p=cK p g.n.toNat:=rfl;omega
 ·obtain ⟨f,h3,h4,h5⟩:=Bd h hI h1
  have h5:Rf g p a=f:=h5 _
  omega
theorem G3:(cN g p:Int)=g.es.length - g.n+2:=by
 have hm:=aA h.1
 have hn:=aT hm
 have va:bH p (aq p (g.n.toNat - 1))= []:=(eZ h hI (aM h.2.1 (by omega))).2 rfl
 have key:∀k,k<g.n.toNat→(cK p k:Int)=1+((List.range k).flatMap fun j=>bH p (aq p j)).length - k:=by
  intro k
  induction k with
  |zero=>intro _;simp [cK]
  |succ k ih=>
   intro hk
   have hO:bH p (aq p k)≠ []:=fun h1=>by
    have:=(eZ h hI (aM h.2.1 (show k<g.n.toNat by omega))).1 h1
    have:=dO h.2.1 (show k<g.n.toNat by omega) (by omega) this
    omega
   have:=List.length_pos_iff.2 hO
   have ih:=ih (by omega)
   have e1:((List.range (k+1)).flatMap fun j=>bH p (aq p j))=((List.range k).flatMap fun j=>bH p (aq p j))++bH p (aq p k):=by rw [List.range_succ,List.flatMap_append];simp
   rw [e1,List.length_append,cK]
   omega
 have hall:((List.range (g.n.toNat - 1)).flatMap fun j=>bH p (aq p j)).length=g.es.length:=by
  have b7:∀k,k≤g.n.toNat→((List.range k).flatMap fun j=>bH p (aq p j)).Nodup:=by
   intro k
   induction k with
   |zero=>intro _;simp
   |succ k ih=>
    intro hk
    rw [List.range_succ,List.flatMap_append,List.nodup_append]
    refine ⟨ih (by omega),by simpa using EG h (by omega),fun a ha b hb e=> ?_⟩
    subst e
    obtain ⟨j,hj,hja⟩:=List.mem_flatMap.1 ha
    have hj:=List.mem_range.1 hj
    have hb:a∈bH p (aq p k):=by simpa using hb
    have t1:=(jt h (by omega) hja).2
    have t2:=(jt h (by omega) hb).2
    have:=dO h.2.1 (show j<g.n.toNat by omega) (by omega) (t1.symm.trans t2)
    omega
  have Kw:∀e:Int,0≤e→e<g.es.length→e∈((List.range (g.n.toNat - 1)).flatMap fun j=>bH p (aq p j)):=fun e h1 h2=>by
   have ht:=bN hm (i:=e.toNat) (by omega)
   obtain ⟨k,hk,e1⟩:=fW h.2.1 ht.1 ht.2
   have e1:aq p k=iA g e:=e1
   obtain ⟨u,v,e2⟩:=Ba h hk ⟨h1,h2⟩ e1.symm
   refine List.mem_flatMap.2 ⟨k,List.mem_range.2 ?_,by rw [e2];simp⟩
   refine Decidable.byContradiction fun hc=> ?_
   obtain rfl:k=g.n.toNat - 1:=by omega
   rw [va] at e2;cases u<;>cases e2
  have h1:=pZ Kw
  have h2:=fE (m:=(List.range g.es.length).map Int.ofNat) (b7 (g.n.toNat - 1) (by omega)) fun e he=>by
   obtain ⟨j,hj,hja⟩:=List.mem_flatMap.1 he
   have hj:=List.mem_range.1 hj
   have:=(jt h (by omega) hja).1
   exact List.mem_map.2 ⟨e.toNat,List.mem_range.2 (by omega),by simp;omega⟩
  rw [List.length_map,List.length_range] at h2
  omega
 have h1:=key (g.n.toNat - 1) (by omega)
 rw [hall] at h1
 have h2:cN g p=cK p (g.n.toNat - 1):=by
  show cK p g.n.toNat=_
  rw [show g.n.toNat=(g.n.toNat - 1)+1 by omega,cK,show g.n.toNat - 1+1 - 1=g.n.toNat - 1 by omega,va];rfl
 omega
theorem Io (h0:0<g.es.length):2≤g.n:=by
 have hm:=aA h.1
 have ht:=bN hm (i:=0) h0
 have hh:=cn hm (i:=0) h0
 obtain ⟨k,hk,e⟩:=fW h.2.1 hh.1 hh.2
 obtain ⟨j,hj,_⟩:=tO h (e:=0) (by omega) hk e.symm
 omega
end
end Go.Ab
end
section
namespace Go.Ab
open Go.Proofs
set_option maxRecDepth 10000
def EP (q:Nat→Bool):Nat→Nat
 |0=>0
 |n+1=>EP q n ||| (if q n then 2 ^ n else 0)
theorem pJ {q:Nat→Bool} {y:Nat} :∀ {n:Nat},(EP q n).testBit y=(decide (y<n)&&q y)
 |0=>by simp [EP]
 |n+1=>by
  rw [EP,Nat.testBit_or,pJ]
  by_cases h:y=n
  ·subst h
   cases hq:q y<;>simp [Nat.testBit_two_pow_self]
  ·have h2:(if q n then 2 ^ n else 0).testBit y=false:=by
    split
    ·rw [Nat.testBit_two_pow];exact decide_eq_false fun e=>h e.symm
    ·simp
   rw [h2,Bool.or_false]
   congr 1
   rw [decide_eq_decide];omega
inductive CQ (g:Gr) (both:Bool) (c:Nat→Bool) (x:Nat):Nat→Prop
 |refl:CQ g both c x x
 |fwd {i:Nat} :i<g.es.length→c i=true→CQ g both c x (tl g i).toNat→CQ g both c x (hd g i).toNat
 |N0 {i:Nat} :i<g.es.length→c i=true→both=true→CQ g both c x (hd g i).toNat→CQ g both c x (tl g i).toNat
theorem CQ.trans {g:Gr} {both:Bool} {c:Nat→Bool} {x y z:Nat} (h1:CQ g both c x y) (h2:CQ g both c y z):CQ g both c x z:=by
 induction h2 with
 |refl=>exact h1
 |fwd a b _ ih=>exact .fwd a b ih
 |N0 a b d _ ih=>exact .N0 a b d ih
open Classical in
noncomputable def M6 (g:Gr) (both:Bool) (c:Nat→Bool) (x:Nat):Nat:=EP (fun y=>decide (CQ g both c x y)) g.n.toNat
noncomputable def PY (g:Gr) (both:Bool) (c:Nat→Bool):List Nat:=(List.range g.n.toNat).map (M6 g both c)
open Classical in
theorem K6 {g:Gr} {both:Bool} {c:Nat→Bool} {x y:Nat} :(M6 g both c x).testBit y=true↔y<g.n.toNat∧CQ g both c x y:=by
 unfold M6
 rw [pJ]
 simp
def Kx (g:Gr) (both:Bool) (c:Nat→Bool) (a:List Nat):Nat→List Nat × Bool
 |0=>(a,false)
 |k+1=>
  let s:=Kx g both c a k
  if c k=true then
   let t:=s.1.getD (tl g k).toNat 0 ||| s.1.getD (hd g k).toNat 0
   let h:=if both=true then t else s.1.getD (hd g k).toNat 0
   ((s.1.set (tl g k).toNat t).set (hd g k).toNat h,s.2||(decide (t≠s.1.getD (tl g k).toNat 0)||decide (h≠s.1.getD (hd g k).toNat 0)))
  else s
structure N2 (g:Gr) (both:Bool) (c:Nat→Bool) (a:List Nat):Prop where
 len:a.length=g.n.toNat
 own:∀x,x<g.n.toNat→(a.getD x 0).testBit x=true
 snd:∀x y,x<g.n.toNat→(a.getD x 0).testBit y=true→y<g.n.toNat∧CQ g both c x y
theorem N2.lt {g:Gr} {both:Bool} {c:Nat→Bool} {a:List Nat} (h:N2 g both c a) (hn:g.n.toNat≤64) (x:Nat):a.getD x 0<18446744073709551616:=by
 by_cases hx:x<g.n.toNat
 ·have:a.getD x 0<2 ^ 64:=Nat.lt_pow_two_of_testBit _ fun i hi=>by
   cases hb:(a.getD x 0).testBit i with
   |false=>rfl
   |true=>have:=(h.snd x i hx hb).1;omega
  simpa using this
 ·rw [List.getD_eq_getElem?_getD,List.getElem?_eq_none (by rw [h.len];omega)];simp
def PZ (a:List Nat):Nat:=a.foldr (· + ·) 0
end Go.Ab
end
section
namespace Go.Ab
open Go.Proofs
attribute [local congr] ACall.congr
set_option maxRecDepth 20000
set_option maxHeartbeats 8000000
def rU (n:Nat):List D:= [.sc (.int .u64 (n:Int))]
def eU (n:Nat):AV:= .d (.sc (.int .u64 (n:Int)))
def sU (l:List Nat):D:= .sl 1 (l.map rU)
theorem getD_rU (ps:List Nat) (i:Nat):(ps.map rU).getD i [.sc (.int .u64 0)]= [.sc (.int .u64 ((ps.getD i 0:Nat):Int))]:=by
 rw [List.getD_eq_getElem?_getD,List.getElem?_map,List.getD_eq_getElem?_getD]
 cases ps[i]? <;>rfl
attribute [go_sem] eU sU getD_rU InU
end Go.Ab
end
section
namespace Go.Ab
open Go.Proofs
attribute [local congr] ACall.congr
set_option maxRecDepth 20000
set_option maxHeartbeats 8000000
def M7 (k:Nat):List Nat:=(List.range k).map fun x=>2 ^ x
def N3 (g:Gr):List Nat:=if aP g=true then M7 g.n.toNat else []
theorem yu {l:List Nat} :∀r∈l.map rU,∀x∈r,∃v,x=D.sc v:=by
 intro r hr x hx
 obtain ⟨y,_,rfl⟩:=List.mem_map.1 hr
 simp only [rU,List.mem_singleton] at hx
 exact ⟨_,hx⟩
noncomputable def QU (g:Gr):List Nat:=if aP g=true then PY g false (fun _=>true) else []
end Go.Ab
end
section
namespace Go.Ab
open Go.Proofs
set_option maxRecDepth 10000
set_option linter.unusedSectionVars false
def P3 (s:Nat) (x:Int):Bool:=decide (0≤x)&&decide (x<64)&&s.testBit x.toNat
section
variable {P:PS} (h:P.Ok) {L R:Int→Int} {f0 f1:Int} {low:Int→Int} (F:P.iL L R f0 f1 low)
def Gs (P:PS) (R:Int→Int) (f:Int):Nat→Nat
 |0=>0
 |j+1=>if R (P.sh j)=f then j+1 else Gs P R f j
theorem Be {i:Nat} {f:Int} (hf:R (P.sh i)=f):∀ {m:Nat},i<m→i+1≤Gs P R f m
 |0,h=>by omega
 |m+1,h=>by
  unfold Gs
  split
  ·omega
  ·rename_i hne
   by_cases e:i=m
   ·subst e;exact absurd hf hne
   ·exact Be hf (by omega)
theorem ES {i:Nat} {f:Int} :∀ {m:Nat},(∀j,j<m→R (P.sh j)=f→j<i)→Gs P R f m≤i
 |0,_=>Nat.zero_le _
 |m+1,hj=>by
  unfold Gs
  split
  ·rename_i e;exact hj m (by omega) e
  ·exact ES fun j h1 h2=>hj j (by omega) h2
include h F
theorem Gt {e:Int} (he:P.E e):Gs P R (L e) P.m<Gs P R (R e) P.m:=by
 obtain ⟨i,hi,rfl⟩:=mJ h he
 have h1:=Be (P:=P) (R:=R) (i:=i) (f:=R (P.sh i)) rfl hi
 have h2:Gs P R (L (P.sh i)) P.m≤i:=ES fun j hj hR=>BI h F hj hi (by rw [hR];exact .refl)
 omega
end
section
variable (g:Gr) (p:Pl)
def qt:Gr:=⟨(cN g p:Int)+1,(List.range g.es.length).map fun i:Nat=>(Lf g p i,Rf g p i)⟩
end
section
variable {g:Gr} {p:Pl}
theorem xb:(qt g p).es.length=g.es.length:=by simp [qt]
theorem Ip {i:Nat} (hi:i<g.es.length):tl (qt g p) i=Lf g p i:=by
 show ((qt g p).es.getD i (0,0)).1=_
 simp [qt,List.getD_eq_getElem?_getD,List.getElem?_range hi]
theorem Iq {i:Nat} (hi:i<g.es.length):hd (qt g p) i=Rf g p i:=by
 show ((qt g p).es.getD i (0,0)).2=_
 simp [qt,List.getD_eq_getElem?_getD,List.getElem?_range hi]
variable (h:cA g p) (hI:pQ g=true)
include h hI
theorem Gu (h0:0<g.es.length) (hl:g.es.length≤60):aP (qt g p)=true:=by
 have he:=G3 h hI
 have hn:=Io h hI h0
 unfold aP
 have hn:(qt g p).n=(cN g p:Int)+1:=rfl
 rw [xb,hn]
 simp only [Bool.and_eq_true,decide_eq_true_eq,Bool.not_eq_true',List.any_eq_false]
 refine ⟨⟨⟨by omega,by omega⟩,by omega⟩,fun e hm=> ?_⟩
 obtain ⟨i,hi,rfl⟩:=List.mem_map.1 hm
 have hi:=List.mem_range.1 hi
 have h1:=G0 h hI (e:=(i:Int)) (by omega)
 have h2:=GZ h hI (e:=(i:Int)) (by omega)
 simp only [oT,uf,hn,Bool.or_eq_true,decide_eq_true_eq]
 omega
theorem ET (hm:aP (qt g p)=true):oZ (qt g p)=true:=(rz hm).2 ⟨fun f=>Gs (jC g p) (Rf g p) f (jC g p).m,fun i hi=>by
 rw [xb] at hi
 rw [Ip hi,Iq hi]
 exact Gt (AX h hI) (mo h hI) (e:=(i:Int)) ⟨by omega,by show (i:Int)<(g.es.length:Int);omega⟩⟩
end
end Go.Ab
end
section
namespace Go.Ab
open Go.Proofs
attribute [local congr] ACall.congr
set_option maxRecDepth 10000
set_option maxHeartbeats 16000000
theorem Cy (g:Gr) (hl:g.es.length≤9223372036854775807) (p:Pl) (hp:pg p) (b:Bool) (hr:b=true↔(bJ g).1=0∧bw g p):Spec Tryz.prog 47 (Args [eG g,ePl p]) [] (eB (decide ((bU b g p).2.1=0))) []:=by
 have hO:=yG g hl p hp b hr
 generalize bU b g p=R at hO
 (refine Spec.intro (C:=T.cfg [] []) (rs:= [.t 4]) (T.aj _ _) Tryz.func47 rfl rfl Tryz.ntmps47 Tryz.results47 (by simp [AObj.isNest]) (by simp [AObj.isNest]) (by kernel_rfl) ?_;intro X hX hP hC aD aF vals hA;refine ⟨_,by simp,hA, ?_⟩;have af:X.P.follows .mixedOrders=true:=(by rw [hP];exact T.mixed);clear aD aF)
 repeat' (first|((first|((with_reducible (first|apply oA|apply oB));exact rfl;intro K hK)|(refine hK _ ?_;clear hK K)|((with_reducible (first|apply oG|apply oH));iterate 3 exact rfl)|((with_reducible apply oI);(iterate 2 exact rfl);intro K hK)|(with_reducible (first|apply wI|apply wJ|apply wK)));try simp only [go_sem,simprocAttr])|(with_reducible (first|apply oC|apply oJ|exact oK|apply wA|apply wB|apply wC hX hC|apply wD hX hC|apply wE hX hC af|apply wF hX hC af|apply wG|apply wH|apply And.intro))|((with_reducible refine oD ?_ ?_);kernel_rfl)|((with_reducible (first|apply oE|apply oF));(iterate 3 exact rfl);all_goals (intro h;first|(exact absurd h (by decide))|((try simp only [go_sem,simprocAttr] at h);(try with_reducible intro K hK);simp only [go_sem,simprocAttr])))|((first|((with_reducible apply wL);exact rfl)|((with_reducible apply wM);exact rfl));all_goals (try ((with_reducible intro h);first|(exact absurd h (by decide))|(try simp only [go_sem,simprocAttr] at h))))|omega|((first|refine aa hX hC hP (hO) rfl rfl rfl (by simp only [go_sem,simprocAttr]) rfl ?_);try simp only [go_sem,simprocAttr])|(intro h))
end Go.Ab
end
section
namespace Go.Ab
open Go.Proofs
attribute [local congr] ACall.congr
set_option maxRecDepth 20000
set_option maxHeartbeats 8000000
theorem yS (g:Gr) (hl:g.es.length≤1000) (p:Pl) (hp:pg p) (b:Bool) (hr:b=true↔(bJ g).1=0∧bw g p):
 Spec Tryz.prog 17 (Args [eG g,ePl p]) [] (.tup [gU (GX b g p).1,eN (GX b g p).2]) []:=by
 have hO:=jB g hl p hp b hr
 have Ik:=tJ g hl
 by_cases h0:(bU b g p).2.1=0
 rotate_left
 ·have hK:GX b g p=(rM,1):=if_neg fun h=>h0 h.1.1
  have hb0:decide ((bU b g p).2.1=0)=false:=decide_eq_false h0
  rw [hK]
  (refine Spec.intro (C:=T.cfg [] []) (rs:= [.c 4 32, .t 5]) (T.aj _ _) Tryz.func17 rfl rfl Tryz.ntmps17 Tryz.results17 (by simp [AObj.isNest]) (by simp [AObj.isNest]) (by kernel_rfl) ?_;intro X hX hP hC aD aF vals hA;refine ⟨_,by simp,hA, ?_⟩;have af:X.P.follows .mixedOrders=true:=(by rw [hP];exact T.mixed);clear aD aF)
  repeat' (first|((first|((with_reducible (first|apply oA|apply oB));exact rfl;intro K hK)|(refine hK _ ?_;clear hK K)|((with_reducible (first|apply oG|apply oH));iterate 3 exact rfl)|((with_reducible apply oI);(iterate 2 exact rfl);intro K hK)|(with_reducible (first|apply wI|apply wJ|apply wK)));try simp only [go_sem,simprocAttr,hb0,gU,rM,List.map_nil])|(with_reducible (first|apply oC|apply oJ|exact oK|apply wA|apply wB|apply wC hX hC|apply wD hX hC|apply wE hX hC af|apply wF hX hC af|apply wG|apply wH|apply And.intro))|((with_reducible refine oD ?_ ?_);kernel_rfl)|((with_reducible (first|apply oE|apply oF));(iterate 3 exact rfl);all_goals (intro h;first|(exact absurd h (by decide))|((try simp only [go_sem,simprocAttr,hb0,gU,rM,List.map_nil] at h);(try with_reducible intro K hK);simp only [go_sem,simprocAttr,hb0,gU,rM,List.map_nil])))|((first|((with_reducible apply wL);exact rfl)|((with_reducible apply wM);exact rfl));all_goals (try ((with_reducible intro h);first|(exact absurd h (by decide))|(try simp only [go_sem,simprocAttr,hb0,gU,rM,List.map_nil] at h))))|omega|((first|refine aa hX hC hP (hO) rfl rfl rfl (by simp only [go_sem,simprocAttr,hb0,gU,rM,List.map_nil]) rfl ?_);try simp only [go_sem,simprocAttr,hb0,gU,rM,List.map_nil])|(intro h))
 obtain ⟨hrun,hR⟩:=u9 hr h0
 cases hI:pQ g with
 |false=>
  have hK:GX b g p=(rM,1):=if_neg fun h=>by rw [hI] at h;cases h.1.2
  rw [hR] at hO
  simp only at hO
  rw [hI] at Ik
  rw [hK]
  (refine Spec.intro (C:=T.cfg [] []) (rs:= [.c 4 32, .t 5]) (T.aj _ _) Tryz.func17 rfl rfl Tryz.ntmps17 Tryz.results17 (by simp [AObj.isNest]) (by simp [AObj.isNest]) (by kernel_rfl) ?_;intro X hX hP hC aD aF vals hA;refine ⟨_,by simp,hA, ?_⟩;have af:X.P.follows .mixedOrders=true:=(by rw [hP];exact T.mixed);clear aD aF)
  repeat' (first|((first|((with_reducible (first|apply oA|apply oB));exact rfl;intro K hK)|(refine hK _ ?_;clear hK K)|((with_reducible (first|apply oG|apply oH));iterate 3 exact rfl)|((with_reducible apply oI);(iterate 2 exact rfl);intro K hK)|(with_reducible (first|apply wI|apply wJ|apply wK)));try simp only [go_sem,simprocAttr,gU,rM,List.map_nil])|(with_reducible (first|apply oC|apply oJ|exact oK|apply wA|apply wB|apply wC hX hC|apply wD hX hC|apply wE hX hC af|apply wF hX hC af|apply wG|apply wH|apply And.intro))|((with_reducible refine oD ?_ ?_);kernel_rfl)|((with_reducible (first|apply oE|apply oF));(iterate 3 exact rfl);all_goals (intro h;first|(exact absurd h (by decide))|((try simp only [go_sem,simprocAttr,gU,rM,List.map_nil] at h);(try with_reducible intro K hK);simp only [go_sem,simprocAttr,gU,rM,List.map_nil])))|((first|((with_reducible apply wL);exact rfl)|((with_reducible apply wM);exact rfl));all_goals (try ((with_reducible intro h);first|(exact absurd h (by decide))|(try simp only [go_sem,simprocAttr,gU,rM,List.map_nil] at h))))|omega|((first|refine aa hX hC hP (hO) rfl rfl rfl (by simp only [go_sem,simprocAttr,gU,rM,List.map_nil]) rfl ?_|refine aa hX hC hP (Ik) rfl rfl rfl (by simp only [go_sem,simprocAttr,gU,rM,List.map_nil]) rfl ?_);try simp only [go_sem,simprocAttr,gU,rM,List.map_nil])|(intro h))
 |true=>
  by_cases hm:0<g.es.length
  ·have hK:GX b g p=(GW g p,0):=if_pos ⟨⟨h0,hI⟩,hm⟩
   rw [hK]
   exact Cx g p hp hrun hI hm b hr
  ·have hK:GX b g p=(rM,1):=if_neg fun h=>hm h.2
   have an:decide ((g.es.length:Int)=0)=true:=decide_eq_true (by omega)
   rw [hR] at hO
   simp only at hO
   rw [hI] at Ik
   rw [hK]
   (refine Spec.intro (C:=T.cfg [] []) (rs:= [.c 4 32, .t 5]) (T.aj _ _) Tryz.func17 rfl rfl Tryz.ntmps17 Tryz.results17 (by simp [AObj.isNest]) (by simp [AObj.isNest]) (by kernel_rfl) ?_;intro X hX hP hC aD aF vals hA;refine ⟨_,by simp,hA, ?_⟩;have af:X.P.follows .mixedOrders=true:=(by rw [hP];exact T.mixed);clear aD aF)
   repeat' (first|((first|((with_reducible (first|apply oA|apply oB));exact rfl;intro K hK)|(refine hK _ ?_;clear hK K)|((with_reducible (first|apply oG|apply oH));iterate 3 exact rfl)|((with_reducible apply oI);(iterate 2 exact rfl);intro K hK)|(with_reducible (first|apply wI|apply wJ|apply wK)));try simp only [go_sem,simprocAttr,an,gU,rM,List.map_nil])|(with_reducible (first|apply oC|apply oJ|exact oK|apply wA|apply wB|apply wC hX hC|apply wD hX hC|apply wE hX hC af|apply wF hX hC af|apply wG|apply wH|apply And.intro))|((with_reducible refine oD ?_ ?_);kernel_rfl)|((with_reducible (first|apply oE|apply oF));(iterate 3 exact rfl);all_goals (intro h;first|(exact absurd h (by decide))|((try simp only [go_sem,simprocAttr,an,gU,rM,List.map_nil] at h);(try with_reducible intro K hK);simp only [go_sem,simprocAttr,an,gU,rM,List.map_nil])))|((first|((with_reducible apply wL);exact rfl)|((with_reducible apply wM);exact rfl));all_goals (try ((with_reducible intro h);first|(exact absurd h (by decide))|(try simp only [go_sem,simprocAttr,an,gU,rM,List.map_nil] at h))))|omega|((first|refine aa hX hC hP (hO) rfl rfl rfl (by simp only [go_sem,simprocAttr,an,gU,rM,List.map_nil]) rfl ?_|refine aa hX hC hP (Ik) rfl rfl rfl (by simp only [go_sem,simprocAttr,an,gU,rM,List.map_nil]) rfl ?_);try simp only [go_sem,simprocAttr,an,gU,rM,List.map_nil])|(intro h))
end Go.Ab
end
section
namespace Go.Ab
open Go.Proofs
attribute [local congr] ACall.congr
set_option maxRecDepth 20000
set_option maxHeartbeats 8000000
def EU (f:Fc) (k:Nat):List Edge:=(List.range k).map fun i:Nat=>(f.L.getD i 0,f.R.getD i 0)
theorem Gv {f:Fc} {k:Nat} :(EU f k).length=k:=by simp [EU]
theorem EV {f:Fc} {k:Nat} :(EU f (k+1)).map rE=(EU f k).map rE++ [rE (f.L.getD k 0,f.R.getD k 0)]:=by simp [EU,List.range_succ]
theorem yT (f:Fc) (h1:f.L.length≤100000) (h2:f.R.length=f.L.length):Spec Tryz.prog 23 (Args [gU f]) [] (eG ⟨f.lo.length,EU f f.L.length⟩) []:=by
 have hmin:min (f.L.length:Int) (f.R.length:Int)=f.L.length:=by rw [h2];simp
 (refine Spec.intro (C:=T.cfg [] []) (rs:= [.c 2 24]) (T.aj _ _) Tryz.func23 rfl rfl Tryz.ntmps23 Tryz.results23 (by simp [AObj.isNest]) (by simp [AObj.isNest]) (by kernel_rfl) ?_;intro X hX hP hC aD aF vals hA;refine ⟨_,by simp,hA, ?_⟩;have af:X.P.follows .mixedOrders=true:=(by rw [hP];exact T.mixed);clear aD aF)
 repeat' (first|((first|((with_reducible (first|apply oA|apply oB));exact rfl;intro K hK)|(refine hK _ ?_;clear hK K)|((with_reducible (first|apply oG|apply oH));iterate 3 exact rfl)|((with_reducible apply oI);(iterate 2 exact rfl);intro K hK)|(with_reducible (first|apply wI|apply wJ|apply wK)));try simp only [go_sem,simprocAttr,gU,hmin])|(show dz _ (.seq (.region 2 _ _) _) _ _;(refine iK hX 3 1 200 (.tip 58 2 []) rfl rfl rfl (by simp only [go_sem,simprocAttr,gU,hmin]) (by decide) (by simp [go_sem,simprocAttr,gU,hmin]) ⟨58,2,by decide, .inr rfl⟩ ?_;simp only [LA.app,ASt.put,ASt.kill,subT,rmk,putM,rml,kl,AV.sub,AV.subs,AObj.sub,List.set_cons_zero,List.set_cons_succ,go_sem,simprocAttr,gU,hmin]))|(with_reducible (first|apply oC|apply oJ|exact oK|apply wA|apply wB|apply wC hX hC|apply wD hX hC|apply wE hX hC af|apply wF hX hC af|apply wG|apply wH|apply And.intro))|((with_reducible refine oD ?_ ?_);kernel_rfl)|((with_reducible (first|apply oE|apply oF));(iterate 3 exact rfl);all_goals (intro h;first|(exact absurd h (by decide))|((try simp only [go_sem,simprocAttr,gU,hmin] at h);(try with_reducible intro K hK);simp only [go_sem,simprocAttr,gU,hmin])))|((first|((with_reducible apply wL);exact rfl)|((with_reducible apply wM);exact rfl));all_goals (try ((with_reducible intro h);first|(exact absurd h (by decide))|(try simp only [go_sem,simprocAttr,gU,hmin] at h))))|omega|(intro h))
 refine ah (fun k:Nat=>k≤f.L.length) (fun k=>⟨[(1, .ptr 1 0),(2, .ptr 2 0),(3, .ptr 3 0),(15,eN f.L.length),(16,eN k)], [(1, .box [.d (sI f.L), .d (sI f.R), .d (sI f.lo), .d (sI f.hi)]),(2, .box [eN 0, .nil 58]),(3, .box [eN f.lo.length, .ref 200]),(200, .tip 58 2 ((EU f k).map rE))]⟩) (fun k=>f.L.length - k) 0 (by omega) ?_ ?_
 ·refine Le.of ?_ ?_<;>simp [go_sem,simprocAttr,gU,hmin,EU]
 rintro k hk
 rcases Nat.lt_or_ge k f.L.length with hlt|hge
 ·have hb:decide ((k:Int)<(f.L.length:Int))=true:=decide_eq_true (by omega)
  have dQ:=EV (f:=f) (k:=k)
  have DT:=Gv (f:=f) (k:=k)
  generalize EU f k=G at dQ DT
  repeat' (first|((first|((with_reducible (first|apply oA|apply oB));exact rfl;intro K hK)|(refine hK _ ?_;clear hK K)|((with_reducible (first|apply oG|apply oH));iterate 3 exact rfl)|((with_reducible apply oI);(iterate 2 exact rfl);intro K hK)|(with_reducible (first|apply wI|apply wJ|apply wK)));try simp only [go_sem,simprocAttr,hb,DT])|(show dz _ (.region 6 _ _) _ _;(refine dN hX 3 1 33 200 rfl rfl rfl (by first|exact .inl rfl|exact .inr rfl) (by decide) (by decide) ?_;simp only [LA.app,ASt.put,ASt.kill,subT,rmk,putM,rml,kl,AV.sub,AV.subs,AObj.sub,List.set_cons_zero,List.set_cons_succ,go_sem,simprocAttr,hb,DT]))|(with_reducible (first|apply oC|apply oJ|exact oK|apply wA|apply wB|apply wC hX hC|apply wD hX hC|apply wE hX hC af|apply wF hX hC af|apply wG|apply wH|apply And.intro))|((with_reducible refine oD ?_ ?_);kernel_rfl)|((with_reducible (first|apply oE|apply oF));(iterate 3 exact rfl);all_goals (intro h;first|(exact absurd h (by decide))|((try simp only [go_sem,simprocAttr,hb,DT] at h);(try with_reducible intro K hK);simp only [go_sem,simprocAttr,hb,DT])))|((first|((with_reducible apply wL);exact rfl)|((with_reducible apply wM);exact rfl));all_goals (try ((with_reducible intro h);first|(exact absurd h (by decide))|(try simp only [go_sem,simprocAttr,hb,DT] at h))))|omega|(intro h))
  refine ⟨k+1,by omega, ?_,by omega⟩
  rw [dQ]
  refine Le.of ?_ ?_<;>simp [go_sem,simprocAttr,hb,DT,rE]
 ·have hb:decide ((k:Int)<(f.L.length:Int))=false:=decide_eq_false (by omega)
  obtain rfl:k=f.L.length:=by omega
  repeat' (first|((first|((with_reducible (first|apply oA|apply oB));exact rfl;intro K hK)|(refine hK _ ?_;clear hK K)|((with_reducible (first|apply oG|apply oH));iterate 3 exact rfl)|((with_reducible apply oI);(iterate 2 exact rfl);intro K hK)|(with_reducible (first|apply wI|apply wJ|apply wK)));try simp only [go_sem,simprocAttr,hb])|(with_reducible (first|apply oC|apply oJ|exact oK|apply wA|apply wB|apply wC hX hC|apply wD hX hC|apply wE hX hC af|apply wF hX hC af|apply wG|apply wH|apply And.intro))|((with_reducible refine oD ?_ ?_);kernel_rfl)|((with_reducible (first|apply oE|apply oF));(iterate 3 exact rfl);all_goals (intro h;first|(exact absurd h (by decide))|((try simp only [go_sem,simprocAttr,hb] at h);(try with_reducible intro K hK);simp only [go_sem,simprocAttr,hb])))|((first|((with_reducible apply wL);exact rfl)|((with_reducible apply wM);exact rfl));all_goals (try ((with_reducible intro h);first|(exact absurd h (by decide))|(try simp only [go_sem,simprocAttr,hb] at h))))|omega|(intro h))
def P4 (b:Bool) (g:Gr) (p:Pl):Bool:= !Ew g p&&pQ g&&decide ((bU b g p).2.1=0)&&decide (0<(g.es.length:Int))&&decide ((g.es.length:Int)≤60)
theorem Ir {b:Bool} {g:Gr} {p:Pl} (hr:b=true↔(bJ g).1=0∧bw g p) (hrun:cA g p) (hI:pQ g=true) (h0:0<g.es.length):GX b g p=(⟨arr (Lf g p) g.es.length,arr (Rf g p) g.es.length,Gp g p,I1 g p⟩,0):=by
 have:GX b g p=(GW g p,0):=if_pos ⟨⟨by rw [nV hr hrun],hI⟩,h0⟩
 rw [this,Im hrun hI]
theorem Gw {g:Gr} {p:Pl} :(⟨((Gp g p).length:Nat),EU ⟨arr (Lf g p) g.es.length,arr (Rf g p) g.es.length,Gp g p,I1 g p⟩ (arr (Lf g p) g.es.length).length⟩:Gr)=qt g p:=by
 unfold qt EU
 rw [Gq,c9]
 congr 1
 refine List.map_congr_left fun i hi=> ?_
 have hi:=List.mem_range.1 hi
 rw [qq hi,qq hi]
def g18:Gr:=⟨4, [(0,1),(1,3),(0,2),(2,3)]⟩
def I2:Pl:=⟨[0,1,2,3], [[0,2], [1], [3], []]⟩
theorem Ky:(true=true)↔(bJ g18).1=0∧bw g18 I2:=⟨fun _=>⟨by decide,⟨rfl,by decide,by decide⟩⟩,fun _=>rfl⟩
end Go.Ab
end
section
namespace Go.Ab
open Go.Proofs
attribute [local congr] ACall.congr
set_option maxRecDepth 20000
set_option maxHeartbeats 16000000
structure Br where
 y:List Int
 fr:List Int
 to:List Int
 x:List Int
def aI (b:Br):AV:= .agg [.d (sI b.y), .d (sI b.fr), .d (sI b.to), .d (sI b.x)]
section
variable (g:Gr) (p:Pl)
def Fy (f:Int):Int:=(yM (qt g p)).getD f.toNat 0
def G4 (e:Int):Int:=Fy g p (Lf g p e)
def EW (l:List Int):Int:=if l= [] then 0 else Fy g p (Lf g p (l.getD 0 0))
def toV (l:List Int):Int:=(if l= [] then Fy g p (cN g p) else Fy g p (Rf g p (l.getD (l.length - 1) 0))) - 1
def M8:Br:=⟨yM g,p.outs.map (EW g p),p.outs.map (toV g p),arr (G4 g p) g.es.length⟩
end
theorem EX {f:Int→Int} {k:Nat} :(arr f (k+1)).map rI=(arr f k).map rI++ [rI (f k)]:=by simp [arr,List.range_succ]
theorem Gx {g:Gr} (hc:(bJ g).1=0):oZ g=true:=by
 rcases Cm (aA hc) with h|h|h|h|h
 ·rw [h.1] at hc;cases hc
 ·rw [h.1] at hc;cases hc
 ·rw [h.1] at hc;cases hc
 ·rw [h.1] at hc;cases hc
 ·exact h.2.2
theorem Cz (g:Gr) (p:Pl) (hB:Ew g p=false) (hrun:cA g p) (hI:pQ g=true) (h0:0<g.es.length) (P5:g.es.length≤60) (b:Bool) (hr:b=true↔(bJ g).1=0∧bw g p):
 Spec Tryz.prog 36 (Args [eG g,ePl p]) [] (.tup [aI (M8 g p),eN 0]) []:=by
 have hm:=aA hrun.1
 have hn:=aT hm
 have hm2:=Gu hrun hI h0 P5
 have hD:=yS g (by omega) p (yH hB) b hr
 rw [Ir hr hrun hI h0] at hD
 simp only at hD
 have N4:=yT ⟨arr (Lf g p) g.es.length,arr (Rf g p) g.es.length,Gp g p,I1 g p⟩ (by simp only [c9];omega) (by simp only [c9])
 simp only [Gw] at N4
 have P6:=qK g hm (Gx hrun.1)
 have P7:=qK (qt g p) hm2 (ET hrun hI hm2)
 obtain ⟨k1,k2,k3,k4⟩:=Ig hm2 (ET hrun hI hm2)
 have P8:(qt g p).n.toNat=cN g p+1:=by show ((cN g p:Int)+1).toNat=_;omega
 rw [P8] at k1
 have hbd:∀v:Nat,(yM (qt g p)).getD v 0≤100000:=fun v=>by
  have:=(rH (g:=qt g p) (k:=(bW (qt g p)).length) v).2
  have h1:=AM hm2
  rw [xb] at this
  have h2:(bW (qt g p)).length*g.es.length≤64*128:=Nat.mul_le_mul h1 (by omega)
  have h3:yM (qt g p)=ql (qt g p) (bW (qt g p)).length:=rfl
  rw [h3];omega
 have QV:=G3 hrun hI
 have hac:∀f:Nat,Fy g p f=(yM (qt g p)).getD f 0:=fun f=>by unfold Fy;rw [Int.toNat_natCast]
 have a1:=fun (i:Nat) (hi:i<g.es.length)=>qq (f:=Lf g p) hi
 have a2:=fun (i:Nat) (hi:i<g.es.length)=>qq (f:=Rf g p) hi
 have c1:(arr (Lf g p) g.es.length).length=g.es.length:=c9
 have c2:(arr (Rf g p) g.es.length).length=g.es.length:=c9
 have N5:=fun (i:Nat) (hi:i<g.es.length)=>G0 hrun hI (e:=(i:Int)) (by omega)
 have I3:=fun (i:Nat) (hi:i<g.es.length)=>GZ hrun hI (e:=(i:Int)) (by omega)
 have P9:∀k,k<g.es.length→G4 g p k=Fy g p ((arr (Lf g p) g.es.length).getD k 0):=fun k hk=>by rw [a1 k hk];rfl
 have hout:∀x,x<p.outs.length→∀e∈p.outs.getD x [],0≤e∧e<g.es.length:=fun x hx e he=>by
  have BO:x<g.n.toNat:=by have:=hrun.2.1.1;omega
  have:=(hrun.2.1.2.2 x BO).mem_iff.1 he
  exact (bL.1 this).1
 have CK:=yH hB
 have M9:=(wX hB).2.2.2
 have QW:=(wX hB).2.2.1
 have Qa:M8 g p=⟨yM g,p.outs.map (EW g p),p.outs.map (toV g p),arr (G4 g p) g.es.length⟩:=rfl
 rw [Qa]
 have hfr:∀l,EW g p l=if l= [] then 0 else Fy g p (Lf g p (l.getD 0 0)):=fun _=>rfl
 have hto:∀l,toV g p l=(if l= [] then Fy g p (cN g p) else Fy g p (Rf g p (l.getD (l.length - 1) 0))) - 1:=fun _=>rfl
 generalize QX:arr (Lf g p) g.es.length=LL at*
 generalize QY:arr (Rf g p) g.es.length=RR at*
 generalize Gp g p=lo at*
 generalize I1 g p=hi at*
 generalize Qb:yM (qt g p)=ac at*
 generalize qt g p=G2 at*
 generalize yM g=yl at*
 (refine Spec.intro (C:=T.cfg [] []) (rs:= [.c 4 64, .t 5]) (T.aj _ _) Tryz.func36 rfl rfl Tryz.ntmps36 Tryz.results36 (by simp [AObj.isNest]) (by simp [AObj.isNest]) (by kernel_rfl) ?_;intro X hX hP hC aD aF vals hA;refine ⟨_,by simp,hA, ?_⟩;have af:X.P.follows .mixedOrders=true:=(by rw [hP];exact T.mixed);clear aD aF)
 repeat' (first|((first|((with_reducible (first|apply oA|apply oB));exact rfl;intro K hK)|(refine hK _ ?_;clear hK K)|((with_reducible (first|apply oG|apply oH));iterate 3 exact rfl)|((with_reducible apply oI);(iterate 2 exact rfl);intro K hK)|(with_reducible (first|apply wI|apply wJ|apply wK)));try simp only [go_sem,simprocAttr,gU,aI,c1])|(with_reducible (first|apply oC|apply oJ|exact oK|apply wA|apply wB|apply wC hX hC|apply wD hX hC|apply wE hX hC af|apply wF hX hC af|apply wG|apply wH|apply And.intro))|((with_reducible refine oD ?_ ?_);kernel_rfl)|((with_reducible (first|apply oE|apply oF));(iterate 3 exact rfl);all_goals (intro h;first|(exact absurd h (by decide))|((try simp only [go_sem,simprocAttr,gU,aI,c1] at h);(try with_reducible intro K hK);simp only [go_sem,simprocAttr,gU,aI,c1])))|((first|((with_reducible apply wL);exact rfl)|((with_reducible apply wM);exact rfl));all_goals (try ((with_reducible intro h);first|(exact absurd h (by decide))|(try simp only [go_sem,simprocAttr,gU,aI,c1] at h))))|omega|((first|refine aa hX hC hP (hD) rfl rfl rfl (by simp only [go_sem,simprocAttr,gU,aI,c1]) rfl ?_|refine aa hX hC hP (N4) rfl rfl rfl (by simp only [go_sem,simprocAttr,gU,aI,c1]) rfl ?_|refine aa hX hC hP (P6) rfl rfl rfl (by simp only [go_sem,simprocAttr,gU,aI,c1]) rfl ?_|refine aa hX hC hP (P7) rfl rfl rfl (by simp only [go_sem,simprocAttr,gU,aI,c1]) rfl ?_);try simp only [go_sem,simprocAttr,gU,aI,c1])|(intro h))
 (refine iK hX 10 3 200 (.tip 3 1 []) rfl rfl rfl (by simp only [go_sem,simprocAttr,gU,aI,c1]) (by decide) (by simp [go_sem,simprocAttr,gU,aI,c1]) ⟨3,1,by decide, .inr rfl⟩ ?_;simp only [LA.app,ASt.put,ASt.kill,subT,rmk,putM,rml,kl,AV.sub,AV.subs,AObj.sub,List.set_cons_zero,List.set_cons_succ,go_sem,simprocAttr,gU,aI,c1])
 (refine iK hX 10 1 201 (.tip 3 1 []) rfl rfl rfl (by simp only [go_sem,simprocAttr,gU,aI,c1]) (by decide) (by simp [go_sem,simprocAttr,gU,aI,c1]) ⟨3,1,by decide, .inr rfl⟩ ?_;simp only [LA.app,ASt.put,ASt.kill,subT,rmk,putM,rml,kl,AV.sub,AV.subs,AObj.sub,List.set_cons_zero,List.set_cons_succ,go_sem,simprocAttr,gU,aI,c1])
 (refine iK hX 10 2 202 (.tip 3 1 []) rfl rfl rfl (by simp only [go_sem,simprocAttr,gU,aI,c1]) (by decide) (by simp [go_sem,simprocAttr,gU,aI,c1]) ⟨3,1,by decide, .inr rfl⟩ ?_;simp only [LA.app,ASt.put,ASt.kill,subT,rmk,putM,rml,kl,AV.sub,AV.subs,AObj.sub,List.set_cons_zero,List.set_cons_succ,go_sem,simprocAttr,gU,aI,c1])
 refine ah (fun k:Nat=>k≤g.es.length) (fun k=>⟨[(2, .ptr 2 0),(3, .ptr 3 0),(4, .ptr 4 0),(6, .ptr 6 0),(8, .d (sI ac)),(10, .ptr 10 0),(41, .d (sI LL)),(42,eN g.es.length),(43,eN k)], [(2, .box [eN g.n, .d (sE g.es)]),(3, .box [.d (sI p.ord), .d (.sl 1 (vI p.outs))]),(4, .box [.nil 3, .nil 3, .nil 3, .nil 3]),(6, .box [.d (sI LL), .d (sI RR), .d (sI lo), .d (sI hi)]),(10, .box [.d (sI yl), .ref 201, .ref 202, .ref 200]),(200, .tip 3 1 ((arr (G4 g p) k).map rI)),(201, .tip 3 1 []),(202, .tip 3 1 [])]⟩) (fun k=>g.es.length - k) 0 (by omega) ?_ ?_
 ·refine Le.of ?_ ?_
  ·simp [go_sem,simprocAttr,arr]
  ·simp [go_sem,simprocAttr,arr]
 rintro k hk
 rcases Nat.lt_or_ge k g.es.length with bT|An
 ·have hb:decide ((k:Int)<(g.es.length:Int))=true:=decide_eq_true (by omega)
  have jb:=N5 k bT
  rw [← a1 k bT] at jb
  have hx1:=P9 k bT
  have dQ:=EX (f:=G4 g p) (k:=k)
  have jm:(arr (G4 g p) k).length=k:=c9
  generalize arr (G4 g p) k=XA at dQ jm
  obtain ⟨f,hf⟩:∃f:Nat,LL.getD k 0=f:=⟨(LL.getD k 0).toNat,by omega⟩
  rw [hf] at jb hx1
  rw [hac] at hx1
  repeat' (first|((first|((with_reducible (first|apply oA|apply oB));exact rfl;intro K hK)|(refine hK _ ?_;clear hK K)|((with_reducible (first|apply oG|apply oH));iterate 3 exact rfl)|((with_reducible apply oI);(iterate 2 exact rfl);intro K hK)|(with_reducible (first|apply wI|apply wJ|apply wK)));try simp only [go_sem,simprocAttr,hb,hf,k1,c1,jm])|(show dz _ (.region 11 _ _) _ _;(refine dN hX 10 3 54 200 rfl rfl rfl (by first|exact .inl rfl|exact .inr rfl) (by decide) (by decide) ?_;simp only [LA.app,ASt.put,ASt.kill,subT,rmk,putM,rml,kl,AV.sub,AV.subs,AObj.sub,List.set_cons_zero,List.set_cons_succ,go_sem,simprocAttr,hb,hf,k1,c1,jm]))|(with_reducible (first|apply oC|apply oJ|exact oK|apply wA|apply wB|apply wC hX hC|apply wD hX hC|apply wE hX hC af|apply wF hX hC af|apply wG|apply wH|apply And.intro))|((with_reducible refine oD ?_ ?_);kernel_rfl)|((with_reducible (first|apply oE|apply oF));(iterate 3 exact rfl);all_goals (intro h;first|(exact absurd h (by decide))|((try simp only [go_sem,simprocAttr,hb,hf,k1,c1,jm] at h);(try with_reducible intro K hK);simp only [go_sem,simprocAttr,hb,hf,k1,c1,jm])))|((first|((with_reducible apply wL);exact rfl)|((with_reducible apply wM);exact rfl));all_goals (try ((with_reducible intro h);first|(exact absurd h (by decide))|(try simp only [go_sem,simprocAttr,hb,hf,k1,c1,jm] at h))))|omega|(intro h))
  refine ⟨k+1,by omega, ?_,by omega⟩
  rw [dQ,hx1]
  refine Le.of ?_ ?_<;>simp [go_sem,simprocAttr,hb,hf,k1,c1,jm,rI]
 have hb:decide ((k:Int)<(g.es.length:Int))=false:=decide_eq_false (by omega)
 obtain rfl:k=g.es.length:=by omega
 generalize arr (G4 g p) g.es.length=XA
 repeat' (first|((first|((with_reducible (first|apply oA|apply oB));exact rfl;intro K hK)|(refine hK _ ?_;clear hK K)|((with_reducible (first|apply oG|apply oH));iterate 3 exact rfl)|((with_reducible apply oI);(iterate 2 exact rfl);intro K hK)|(with_reducible (first|apply wI|apply wJ|apply wK)));try simp only [go_sem,simprocAttr,hb])|(with_reducible (first|apply oC|apply oJ|exact oK|apply wA|apply wB|apply wC hX hC|apply wD hX hC|apply wE hX hC af|apply wF hX hC af|apply wG|apply wH|apply And.intro))|((with_reducible refine oD ?_ ?_);kernel_rfl)|((with_reducible (first|apply oE|apply oF));(iterate 3 exact rfl);all_goals (intro h;first|(exact absurd h (by decide))|((try simp only [go_sem,simprocAttr,hb] at h);(try with_reducible intro K hK);simp only [go_sem,simprocAttr,hb])))|((first|((with_reducible apply wL);exact rfl)|((with_reducible apply wM);exact rfl));all_goals (try ((with_reducible intro h);first|(exact absurd h (by decide))|(try simp only [go_sem,simprocAttr,hb] at h))))|omega|(intro h))
 refine ah (fun k:Nat=>k≤p.outs.length) (fun k=>⟨[(2, .ptr 2 0),(3, .ptr 3 0),(4, .ptr 4 0),(6, .ptr 6 0),(8, .d (sI ac)),(10, .ptr 10 0),(58, .d (.sl 1 (vI p.outs))),(59,eN p.outs.length),(60,eN k)], [(2, .box [eN g.n, .d (sE g.es)]),(3, .box [.d (sI p.ord), .d (.sl 1 (vI p.outs))]),(4, .box [.nil 3, .nil 3, .nil 3, .nil 3]),(6, .box [.d (sI LL), .d (sI RR), .d (sI lo), .d (sI hi)]),(10, .box [.d (sI yl), .ref 201, .ref 202, .ref 200]),(200, .tip 3 1 (XA.map rI)),(201, .tip 3 1 (((p.outs.take k).map (EW g p)).map rI)),(202, .tip 3 1 (((p.outs.take k).map (toV g p)).map rI))]⟩) (fun k=>p.outs.length - k) 0 (by omega) ?_ ?_
 ·refine Le.of ?_ ?_<;>simp [go_sem,simprocAttr]
 rintro k hk
 rcases Nat.lt_or_ge k p.outs.length with bT|An
 rotate_left
 ·have hb:decide ((k:Int)<(p.outs.length:Int))=false:=decide_eq_false (by omega)
  obtain rfl:k=p.outs.length:=by omega
  rw [List.take_length]
  repeat' (first|((first|((with_reducible (first|apply oA|apply oB));exact rfl;intro K hK)|(refine hK _ ?_;clear hK K)|((with_reducible (first|apply oG|apply oH));iterate 3 exact rfl)|((with_reducible apply oI);(iterate 2 exact rfl);intro K hK)|(with_reducible (first|apply wI|apply wJ|apply wK)));try simp only [go_sem,simprocAttr,hb,aI])|(with_reducible (first|apply oC|apply oJ|exact oK|apply wA|apply wB|apply wC hX hC|apply wD hX hC|apply wE hX hC af|apply wF hX hC af|apply wG|apply wH|apply And.intro))|((with_reducible refine oD ?_ ?_);kernel_rfl)|((with_reducible (first|apply oE|apply oF));(iterate 3 exact rfl);all_goals (intro h;first|(exact absurd h (by decide))|((try simp only [go_sem,simprocAttr,hb,aI] at h);(try with_reducible intro K hK);simp only [go_sem,simprocAttr,hb,aI])))|((first|((with_reducible apply wL);exact rfl)|((with_reducible apply wM);exact rfl));all_goals (try ((with_reducible intro h);first|(exact absurd h (by decide))|(try simp only [go_sem,simprocAttr,hb,aI] at h))))|omega|(intro h))
 have hb:decide ((k:Int)<(p.outs.length:Int))=true:=decide_eq_true (by omega)
 have hv:=kK bT
 have ho:=hout k bT
 have hlb:=M9 _ (aS (d:= []) bT)
 have Gk:(p.outs.take (k+1)).map (EW g p)=(p.outs.take k).map (EW g p)++ [EW g p (p.outs.getD k [])]:=tA bT
 have hn2:(p.outs.take (k+1)).map (toV g p)=(p.outs.take k).map (toV g p)++ [toV g p (p.outs.getD k [])]:=tA bT
 have wm:((p.outs.take k).map (EW g p)).length=k:=by rw [List.length_map,List.length_take];omega
 have ye:((p.outs.take k).map (toV g p)).length=k:=by rw [List.length_map,List.length_take];omega
 have pK:(((cN g p+1:Nat):Int) - 1)=((cN g p:Nat):Int):=by omega
 have QZ:=hbd (cN g p)
 have hk2:=k2 (cN g p)
 generalize p.outs.getD k []=l at hv ho hlb Gk hn2
 generalize (p.outs.take k).map (EW g p)=F1 at Gk wm
 generalize (p.outs.take k).map (toV g p)=F2 at hn2 ye
 by_cases hl:l= []
 ·subst hl
  have e1:EW g p []=0:=rfl
  have e2:toV g p []=ac.getD (cN g p) 0 - 1:=by rw [hto,if_pos rfl,hac]
  rw [e1] at Gk
  rw [e2] at hn2
  repeat' (first|((first|((with_reducible (first|apply oA|apply oB));exact rfl;intro K hK)|(refine hK _ ?_;clear hK K)|((with_reducible (first|apply oG|apply oH));iterate 3 exact rfl)|((with_reducible apply oI);(iterate 2 exact rfl);intro K hK)|(with_reducible (first|apply wI|apply wJ|apply wK)));try simp only [go_sem,simprocAttr,hb,hv,k1,pK,wm,ye,List.map_nil,List.length_nil])|(show dz _ (.region 20 _ _) _ _;(refine dN hX 10 1 100 201 rfl rfl rfl (by first|exact .inl rfl|exact .inr rfl) (by decide) (by decide) ?_;simp only [LA.app,ASt.put,ASt.kill,subT,rmk,putM,rml,kl,AV.sub,AV.subs,AObj.sub,List.set_cons_zero,List.set_cons_succ,go_sem,simprocAttr,hb,hv,k1,pK,wm,ye,List.map_nil,List.length_nil]);(refine dN hX 10 2 106 202 rfl rfl rfl (by first|exact .inl rfl|exact .inr rfl) (by decide) (by decide) ?_;simp only [LA.app,ASt.put,ASt.kill,subT,rmk,putM,rml,kl,AV.sub,AV.subs,AObj.sub,List.set_cons_zero,List.set_cons_succ,go_sem,simprocAttr,hb,hv,k1,pK,wm,ye,List.map_nil,List.length_nil]))|(with_reducible (first|apply oC|apply oJ|exact oK|apply wA|apply wB|apply wC hX hC|apply wD hX hC|apply wE hX hC af|apply wF hX hC af|apply wG|apply wH|apply And.intro))|((with_reducible refine oD ?_ ?_);kernel_rfl)|((with_reducible (first|apply oE|apply oF));(iterate 3 exact rfl);all_goals (intro h;first|(exact absurd h (by decide))|((try simp only [go_sem,simprocAttr,hb,hv,k1,pK,wm,ye,List.map_nil,List.length_nil] at h);(try with_reducible intro K hK);simp only [go_sem,simprocAttr,hb,hv,k1,pK,wm,ye,List.map_nil,List.length_nil])))|((first|((with_reducible apply wL);exact rfl)|((with_reducible apply wM);exact rfl));all_goals (try ((with_reducible intro h);first|(exact absurd h (by decide))|(try simp only [go_sem,simprocAttr,hb,hv,k1,pK,wm,ye,List.map_nil,List.length_nil] at h))))|omega|(intro h))
  refine ⟨k+1,by omega, ?_,by omega⟩
  rw [Gk,hn2]
  refine Le.of ?_ ?_<;>simp [go_sem,simprocAttr,hb,hv,k1,pK,wm,ye,List.map_nil,List.length_nil,rI]
 ·have hlp:=List.length_pos_iff.2 hl
  have ak:decide (0<(l.length:Int))=true:=decide_eq_true (by omega)
  have o1:=ho _ (aS (d:=0) (show 0<l.length by omega))
  have o2:=ho _ (aS (d:=0) (show l.length - 1<l.length by omega))
  have Is:((l.length:Int) - 1)=((l.length - 1:Nat):Int):=by omega
  obtain ⟨e,he⟩:∃e:Nat,l.getD 0 0=e:=⟨(l.getD 0 0).toNat,by omega⟩
  obtain ⟨f,hf⟩:∃f:Nat,l.getD (l.length - 1) 0=f:=⟨(l.getD (l.length - 1) 0).toNat,by omega⟩
  have r1:=N5 e (by omega)
  have r2:=I3 f (by omega)
  rw [← a1 e (by omega)] at r1
  rw [← a2 f (by omega)] at r2
  obtain ⟨u,hu⟩:∃u:Nat,LL.getD e 0=u:=⟨(LL.getD e 0).toNat,by omega⟩
  obtain ⟨w,hw⟩:∃w:Nat,RR.getD f 0=w:=⟨(RR.getD f 0).toNat,by omega⟩
  have e1:EW g p l=ac.getD u 0:=by rw [hfr,if_neg hl,he, ← a1 e (by omega),hu,hac]
  have e2:toV g p l=ac.getD w 0 - 1:=by rw [hto,if_neg hl,hf, ← a2 f (by omega),hw,hac]
  rw [hu] at r1
  rw [hw] at r2
  have Q0:=k2 w
  have Q1:=hbd w
  rw [e1] at Gk
  rw [e2] at hn2
  repeat' (first|((first|((with_reducible (first|apply oA|apply oB));exact rfl;intro K hK)|(refine hK _ ?_;clear hK K)|((with_reducible (first|apply oG|apply oH));iterate 3 exact rfl)|((with_reducible apply oI);(iterate 2 exact rfl);intro K hK)|(with_reducible (first|apply wI|apply wJ|apply wK)));try simp only [go_sem,simprocAttr,hb,ak,hv,k1,c1,c2,pK,wm,ye,Is,he,hf,hu,hw])|(show dz _ (.region 20 _ _) _ _;(refine dN hX 10 1 100 201 rfl rfl rfl (by first|exact .inl rfl|exact .inr rfl) (by decide) (by decide) ?_;simp only [LA.app,ASt.put,ASt.kill,subT,rmk,putM,rml,kl,AV.sub,AV.subs,AObj.sub,List.set_cons_zero,List.set_cons_succ,go_sem,simprocAttr,hb,ak,hv,k1,c1,c2,pK,wm,ye,Is,he,hf,hu,hw]);(refine dN hX 10 2 106 202 rfl rfl rfl (by first|exact .inl rfl|exact .inr rfl) (by decide) (by decide) ?_;simp only [LA.app,ASt.put,ASt.kill,subT,rmk,putM,rml,kl,AV.sub,AV.subs,AObj.sub,List.set_cons_zero,List.set_cons_succ,go_sem,simprocAttr,hb,ak,hv,k1,c1,c2,pK,wm,ye,Is,he,hf,hu,hw]))|(with_reducible (first|apply oC|apply oJ|exact oK|apply wA|apply wB|apply wC hX hC|apply wD hX hC|apply wE hX hC af|apply wF hX hC af|apply wG|apply wH|apply And.intro))|((with_reducible refine oD ?_ ?_);kernel_rfl)|((with_reducible (first|apply oE|apply oF));(iterate 3 exact rfl);all_goals (intro h;first|(exact absurd h (by decide))|((try simp only [go_sem,simprocAttr,hb,ak,hv,k1,c1,c2,pK,wm,ye,Is,he,hf,hu,hw] at h);(try with_reducible intro K hK);simp only [go_sem,simprocAttr,hb,ak,hv,k1,c1,c2,pK,wm,ye,Is,he,hf,hu,hw])))|((first|((with_reducible apply wL);exact rfl)|((with_reducible apply wM);exact rfl));all_goals (try ((with_reducible intro h);first|(exact absurd h (by decide))|(try simp only [go_sem,simprocAttr,hb,ak,hv,k1,c1,c2,pK,wm,ye,Is,he,hf,hu,hw] at h))))|omega|(intro h))
  refine ⟨k+1,by omega, ?_,by omega⟩
  rw [Gk,hn2]
  refine Le.of ?_ ?_<;>simp [go_sem,simprocAttr,hb,ak,hv,k1,c1,c2,pK,wm,ye,Is,he,hf,hu,hw,rI]
end Go.Ab
end
section
namespace Go.Ab
open Go.Proofs
attribute [local congr] ACall.congr
set_option maxRecDepth 20000
set_option maxHeartbeats 16000000
def hasB (b:Br) (x:Nat) (q:Int):Bool:=decide (b.fr.getD x 0≤q)&&decide (q≤b.to.getD x 0)
theorem z7 (b:Br) (x:Nat) (q:Int) (h1:x<b.fr.length) (h2:x<b.to.length) (hl:b.fr.length≤100000):Spec Tryz.prog 104 (Args [aI b,eN x,eN q]) [] (eB (hasB b x q)) []:=by
 cases hc:decide (b.fr.getD x 0≤q) with
 |false=>
  have hr:hasB b x q=false:=by unfold hasB;rw [hc];rfl
  rw [hr]
  (refine Spec.intro (C:=T.cfg [] []) (rs:= [.t 6]) (T.aj _ _) Tryz.func104 rfl rfl Tryz.ntmps104 Tryz.results104 (by simp [AObj.isNest]) (by simp [AObj.isNest]) (by kernel_rfl) ?_;intro X hX hP hC aD aF vals hA;refine ⟨_,by simp,hA, ?_⟩;have af:X.P.follows .mixedOrders=true:=(by rw [hP];exact T.mixed);clear aD aF)
  repeat' (first|((first|((with_reducible (first|apply oA|apply oB));exact rfl;intro K hK)|(refine hK _ ?_;clear hK K)|((with_reducible (first|apply oG|apply oH));iterate 3 exact rfl)|((with_reducible apply oI);(iterate 2 exact rfl);intro K hK)|(with_reducible (first|apply wI|apply wJ|apply wK)));try simp only [go_sem,simprocAttr,aI,hc])|(with_reducible (first|apply oC|apply oJ|exact oK|apply wA|apply wB|apply wC hX hC|apply wD hX hC|apply wE hX hC af|apply wF hX hC af|apply wG|apply wH|apply And.intro))|((with_reducible refine oD ?_ ?_);kernel_rfl)|((with_reducible (first|apply oE|apply oF));(iterate 3 exact rfl);all_goals (intro h;first|(exact absurd h (by decide))|((try simp only [go_sem,simprocAttr,aI,hc] at h);(try with_reducible intro K hK);simp only [go_sem,simprocAttr,aI,hc])))|((first|((with_reducible apply wL);exact rfl)|((with_reducible apply wM);exact rfl));all_goals (try ((with_reducible intro h);first|(exact absurd h (by decide))|(try simp only [go_sem,simprocAttr,aI,hc] at h))))|omega|(intro h))
 |true=>
  have hr:hasB b x q=decide (q≤b.to.getD x 0):=by unfold hasB;rw [hc];rfl
  rw [hr]
  (refine Spec.intro (C:=T.cfg [] []) (rs:= [.t 6]) (T.aj _ _) Tryz.func104 rfl rfl Tryz.ntmps104 Tryz.results104 (by simp [AObj.isNest]) (by simp [AObj.isNest]) (by kernel_rfl) ?_;intro X hX hP hC aD aF vals hA;refine ⟨_,by simp,hA, ?_⟩;have af:X.P.follows .mixedOrders=true:=(by rw [hP];exact T.mixed);clear aD aF)
  repeat' (first|((first|((with_reducible (first|apply oA|apply oB));exact rfl;intro K hK)|(refine hK _ ?_;clear hK K)|((with_reducible (first|apply oG|apply oH));iterate 3 exact rfl)|((with_reducible apply oI);(iterate 2 exact rfl);intro K hK)|(with_reducible (first|apply wI|apply wJ|apply wK)));try simp only [go_sem,simprocAttr,aI,hc])|(with_reducible (first|apply oC|apply oJ|exact oK|apply wA|apply wB|apply wC hX hC|apply wD hX hC|apply wE hX hC af|apply wF hX hC af|apply wG|apply wH|apply And.intro))|((with_reducible refine oD ?_ ?_);kernel_rfl)|((with_reducible (first|apply oE|apply oF));(iterate 3 exact rfl);all_goals (intro h;first|(exact absurd h (by decide))|((try simp only [go_sem,simprocAttr,aI,hc] at h);(try with_reducible intro K hK);simp only [go_sem,simprocAttr,aI,hc])))|((first|((with_reducible apply wL);exact rfl)|((with_reducible apply wM);exact rfl));all_goals (try ((with_reducible intro h);first|(exact absurd h (by decide))|(try simp only [go_sem,simprocAttr,aI,hc] at h))))|omega|(intro h))
def EY (b:Br) (x z:Nat):Bool:=decide (b.y.getD z 0=b.y.getD x 0)&&decide (b.fr.getD z 0≤b.to.getD x 0)&&decide (b.fr.getD x 0≤b.to.getD z 0)
def Iu (b:Br) (x:Nat):Bool:=decide (b.fr.getD x 0≤b.to.getD x 0)&&(List.range x).all fun z=> !EY b x z
def kR (b:Br):Bool:=(List.range b.y.length).all (Iu b)
theorem gl {n:Nat} {f:Nat→Bool} {k:Nat} (hk:k<n) (h:f k=false):(List.range n).all f=false:=List.all_eq_false.2 ⟨k,List.mem_range.2 hk,by rw [h];decide⟩
theorem gK {n:Nat} {f:Nat→Bool} (h:∀k,k<n→f k=true):(List.range n).all f=true:=List.all_eq_true.2 fun k hk=>h k (List.mem_range.1 hk)
theorem apart_spec (b:Br) (h1:b.fr.length=b.y.length) (h2:b.to.length=b.y.length) (hl:b.y.length≤100000):Spec Tryz.prog 76 (Args [aI b]) [] (eB (kR b)) []:=by
 (refine Spec.intro (C:=T.cfg [] []) (rs:= [.t 2]) (T.aj _ _) Tryz.func76 rfl rfl Tryz.ntmps76 Tryz.results76 (by simp [AObj.isNest]) (by simp [AObj.isNest]) (by kernel_rfl) ?_;intro X hX hP hC aD aF vals hA;refine ⟨_,by simp,hA, ?_⟩;have af:X.P.follows .mixedOrders=true:=(by rw [hP];exact T.mixed);clear aD aF)
 repeat' (first|((first|((with_reducible (first|apply oA|apply oB));exact rfl;intro K hK)|(refine hK _ ?_;clear hK K)|((with_reducible (first|apply oG|apply oH));iterate 3 exact rfl)|((with_reducible apply oI);(iterate 2 exact rfl);intro K hK)|(with_reducible (first|apply wI|apply wJ|apply wK)));try simp only [go_sem,simprocAttr,aI])|(with_reducible (first|apply oC|apply oJ|exact oK|apply wA|apply wB|apply wC hX hC|apply wD hX hC|apply wE hX hC af|apply wF hX hC af|apply wG|apply wH|apply And.intro))|((with_reducible refine oD ?_ ?_);kernel_rfl)|((with_reducible (first|apply oE|apply oF));(iterate 3 exact rfl);all_goals (intro h;first|(exact absurd h (by decide))|((try simp only [go_sem,simprocAttr,aI] at h);(try with_reducible intro K hK);simp only [go_sem,simprocAttr,aI])))|((first|((with_reducible apply wL);exact rfl)|((with_reducible apply wM);exact rfl));all_goals (try ((with_reducible intro h);first|(exact absurd h (by decide))|(try simp only [go_sem,simprocAttr,aI] at h))))|omega|(intro h))
 refine ah (fun k:Nat=>k≤b.y.length∧∀j,j<k→Iu b j=true) (fun k=>⟨[(1, .ptr 1 0),(7, .d (sI b.y)),(8,eN b.y.length),(9,eN k)], [(1, .box [.d (sI b.y), .d (sI b.fr), .d (sI b.to), .d (sI b.x)])]⟩) (fun k=>b.y.length - k) 0 ⟨by omega,fun j hj=>by omega⟩ ?_ ?_
 ·refine Le.of ?_ ?_<;>simp [go_sem,simprocAttr]
 rintro k ⟨hk,hin⟩
 rcases Nat.lt_or_ge k b.y.length with bT|An
 rotate_left
 ·have hb:decide ((k:Int)<(b.y.length:Int))=false:=decide_eq_false (by omega)
  obtain rfl:k=b.y.length:=by omega
  have hr:kR b=true:=gK hin
  rw [hr]
  repeat' (first|((first|((with_reducible (first|apply oA|apply oB));exact rfl;intro K hK)|(refine hK _ ?_;clear hK K)|((with_reducible (first|apply oG|apply oH));iterate 3 exact rfl)|((with_reducible apply oI);(iterate 2 exact rfl);intro K hK)|(with_reducible (first|apply wI|apply wJ|apply wK)));try simp only [go_sem,simprocAttr,hb])|(with_reducible (first|apply oC|apply oJ|exact oK|apply wA|apply wB|apply wC hX hC|apply wD hX hC|apply wE hX hC af|apply wF hX hC af|apply wG|apply wH|apply And.intro))|((with_reducible refine oD ?_ ?_);kernel_rfl)|((with_reducible (first|apply oE|apply oF));(iterate 3 exact rfl);all_goals (intro h;first|(exact absurd h (by decide))|((try simp only [go_sem,simprocAttr,hb] at h);(try with_reducible intro K hK);simp only [go_sem,simprocAttr,hb])))|((first|((with_reducible apply wL);exact rfl)|((with_reducible apply wM);exact rfl));all_goals (try ((with_reducible intro h);first|(exact absurd h (by decide))|(try simp only [go_sem,simprocAttr,hb] at h))))|omega|(intro h))
 have hb:decide ((k:Int)<(b.y.length:Int))=true:=decide_eq_true (by omega)
 by_cases hc:b.fr.getD k 0≤b.to.getD k 0
 rotate_left
 ·have hc1:decide (b.to.getD k 0<b.fr.getD k 0)=true:=decide_eq_true (by omega)
  have hr:kR b=false:=gl bT (by unfold Iu;rw [decide_eq_false hc];rfl)
  rw [hr]
  repeat' (first|((first|((with_reducible (first|apply oA|apply oB));exact rfl;intro K hK)|(refine hK _ ?_;clear hK K)|((with_reducible (first|apply oG|apply oH));iterate 3 exact rfl)|((with_reducible apply oI);(iterate 2 exact rfl);intro K hK)|(with_reducible (first|apply wI|apply wJ|apply wK)));try simp only [go_sem,simprocAttr,hb,hc1])|(with_reducible (first|apply oC|apply oJ|exact oK|apply wA|apply wB|apply wC hX hC|apply wD hX hC|apply wE hX hC af|apply wF hX hC af|apply wG|apply wH|apply And.intro))|((with_reducible refine oD ?_ ?_);kernel_rfl)|((with_reducible (first|apply oE|apply oF));(iterate 3 exact rfl);all_goals (intro h;first|(exact absurd h (by decide))|((try simp only [go_sem,simprocAttr,hb,hc1] at h);(try with_reducible intro K hK);simp only [go_sem,simprocAttr,hb,hc1])))|((first|((with_reducible apply wL);exact rfl)|((with_reducible apply wM);exact rfl));all_goals (try ((with_reducible intro h);first|(exact absurd h (by decide))|(try simp only [go_sem,simprocAttr,hb,hc1] at h))))|omega|(intro h))
 have hc1:decide (b.to.getD k 0<b.fr.getD k 0)=false:=decide_eq_false (by omega)
 repeat' (first|((first|((with_reducible (first|apply oA|apply oB));exact rfl;intro K hK)|(refine hK _ ?_;clear hK K)|((with_reducible (first|apply oG|apply oH));iterate 3 exact rfl)|((with_reducible apply oI);(iterate 2 exact rfl);intro K hK)|(with_reducible (first|apply wI|apply wJ|apply wK)));try simp only [go_sem,simprocAttr,hb,hc1])|(with_reducible (first|apply oC|apply oJ|exact oK|apply wA|apply wB|apply wC hX hC|apply wD hX hC|apply wE hX hC af|apply wF hX hC af|apply wG|apply wH|apply And.intro))|((with_reducible refine oD ?_ ?_);kernel_rfl)|((with_reducible (first|apply oE|apply oF));(iterate 3 exact rfl);all_goals (intro h;first|(exact absurd h (by decide))|((try simp only [go_sem,simprocAttr,hb,hc1] at h);(try with_reducible intro K hK);simp only [go_sem,simprocAttr,hb,hc1])))|((first|((with_reducible apply wL);exact rfl)|((with_reducible apply wM);exact rfl));all_goals (try ((with_reducible intro h);first|(exact absurd h (by decide))|(try simp only [go_sem,simprocAttr,hb,hc1] at h))))|omega|(intro h))
 refine ah (fun z:Nat=>z≤k∧∀j,j<z→EY b k j=false) (fun z=>⟨[(1, .ptr 1 0),(3,eN k),(4,eN (b.y.getD k 0)),(7, .d (sI b.y)),(8,eN b.y.length),(9,eN k),(25,eN k),(26,eN z)], [(1, .box [.d (sI b.y), .d (sI b.fr), .d (sI b.to), .d (sI b.x)])]⟩) (fun z=>k - z) 0 ⟨by omega,fun j hj=>by omega⟩ ?_ ?_
 ·refine Le.of ?_ ?_<;>simp [go_sem,simprocAttr]
 rintro z ⟨hz,EZ⟩
 rcases Nat.lt_or_ge z k with hzl|Mo
 rotate_left
 ·have hbz:decide ((z:Int)<(k:Int))=false:=decide_eq_false (by omega)
  obtain rfl:z=k:=by omega
  repeat' (first|((first|((with_reducible (first|apply oA|apply oB));exact rfl;intro K hK)|(refine hK _ ?_;clear hK K)|((with_reducible (first|apply oG|apply oH));iterate 3 exact rfl)|((with_reducible apply oI);(iterate 2 exact rfl);intro K hK)|(with_reducible (first|apply wI|apply wJ|apply wK)));try simp only [go_sem,simprocAttr,hbz])|(with_reducible (first|apply oC|apply oJ|exact oK|apply wA|apply wB|apply wC hX hC|apply wD hX hC|apply wE hX hC af|apply wF hX hC af|apply wG|apply wH|apply And.intro))|((with_reducible refine oD ?_ ?_);kernel_rfl)|((with_reducible (first|apply oE|apply oF));(iterate 3 exact rfl);all_goals (intro h;first|(exact absurd h (by decide))|((try simp only [go_sem,simprocAttr,hbz] at h);(try with_reducible intro K hK);simp only [go_sem,simprocAttr,hbz])))|((first|((with_reducible apply wL);exact rfl)|((with_reducible apply wM);exact rfl));all_goals (try ((with_reducible intro h);first|(exact absurd h (by decide))|(try simp only [go_sem,simprocAttr,hbz] at h))))|omega|(intro h))
  refine ⟨z+1,⟨by omega,fun j hj=> ?_⟩, ?_,by omega⟩
  ·by_cases uc:j=z
   ·subst uc
    unfold Iu
    rw [decide_eq_true hc,gK (f:=fun z=> !EY b j z) (fun i hi=>by rw [EZ i hi];rfl)];rfl
   ·exact hin j (by omega)
  ·refine Le.of ?_ ?_<;>simp [go_sem,simprocAttr,hbz]
 have hbz:decide ((z:Int)<(k:Int))=true:=decide_eq_true (by omega)
 have hap:EY b k z=(decide (b.y.getD z 0=b.y.getD k 0)&&decide (b.fr.getD z 0≤b.to.getD k 0)&&decide (b.fr.getD k 0≤b.to.getD z 0)):=rfl
 have hno:EY b k z=true→kR b=false:=fun h1=>gl bT (by unfold Iu;rw [gl (f:=fun z=> !EY b k z) hzl (by rw [h1];rfl),Bool.and_false])
 have hyes:EY b k z=false→∀j,j<z+1→EY b k j=false:=fun h1 j hj=>by
  by_cases uc:j=z
  ·subst uc;exact h1
  ·exact EZ j (by omega)
 generalize EY b k z=av at*
 cases gZ:decide (b.y.getD z 0=b.y.getD k 0)<;>cases hd2:decide (b.fr.getD z 0≤b.to.getD k 0)<;>cases mR:decide (b.fr.getD k 0≤b.to.getD z 0)<;>rw [gZ,hd2,mR] at hap<;>simp only [Bool.and_true,Bool.and_false,Bool.true_and,Bool.false_and] at hap<;>subst hap
 all_goals (
 repeat' (first|((first|((with_reducible (first|apply oA|apply oB));exact rfl;intro K hK)|(refine hK _ ?_;clear hK K)|((with_reducible (first|apply oG|apply oH));iterate 3 exact rfl)|((with_reducible apply oI);(iterate 2 exact rfl);intro K hK)|(with_reducible (first|apply wI|apply wJ|apply wK)));try simp only [go_sem,simprocAttr,hbz,gZ,hd2,mR])|(with_reducible (first|apply oC|apply oJ|exact oK|apply wA|apply wB|apply wC hX hC|apply wD hX hC|apply wE hX hC af|apply wF hX hC af|apply wG|apply wH|apply And.intro))|((with_reducible refine oD ?_ ?_);kernel_rfl)|((with_reducible (first|apply oE|apply oF));(iterate 3 exact rfl);all_goals (intro h;first|(exact absurd h (by decide))|((try simp only [go_sem,simprocAttr,hbz,gZ,hd2,mR] at h);(try with_reducible intro K hK);simp only [go_sem,simprocAttr,hbz,gZ,hd2,mR])))|((first|((with_reducible apply wL);exact rfl)|((with_reducible apply wM);exact rfl));all_goals (try ((with_reducible intro h);first|(exact absurd h (by decide))|(try simp only [go_sem,simprocAttr,hbz,gZ,hd2,mR] at h))))|omega|(intro h)))
 all_goals (first|(rw [hno rfl];done)|(exact hno rfl)|(exact (hno rfl).symm)|(refine ⟨z+1,⟨by omega,hyes rfl⟩, ?_,by omega⟩;refine Le.of ?_ ?_<;>simp [go_sem];done)|trace_state)
end Go.Ab
end
section
namespace Go.Ab
open Go.Proofs
attribute [local congr] ACall.congr
set_option maxRecDepth 20000
set_option maxHeartbeats 32000000
def nk (b:Br) (g:Gr):Bool:=decide ((b.y.length:Int)=g.n)&&decide ((b.fr.length:Int)=g.n)&&decide ((b.to.length:Int)=g.n)&&decide ((b.x.length:Int)=(g.es.length:Int))
theorem CA (b:Br) (g:Gr):Spec Tryz.prog 75 (Args [aI b,eG g]) [] (eB (nk b g)) []:=by
 have hf:nk b g=(decide ((b.y.length:Int)=g.n)&&decide ((b.fr.length:Int)=g.n)&&decide ((b.to.length:Int)=g.n)&&decide ((b.x.length:Int)=(g.es.length:Int))):=rfl
 cases h1:decide ((b.y.length:Int)=g.n)<;>cases h2:decide ((b.fr.length:Int)=g.n)<;>cases h3:decide ((b.to.length:Int)=g.n)<;>rw [h1,h2,h3] at hf<;>simp only [Bool.and_true,Bool.and_false,Bool.true_and,Bool.false_and] at hf<;>rw [hf]
 all_goals (
 (refine Spec.intro (C:=T.cfg [] []) (rs:= [.t 4]) (T.aj _ _) Tryz.func75 rfl rfl Tryz.ntmps75 Tryz.results75 (by simp [AObj.isNest]) (by simp [AObj.isNest]) (by kernel_rfl) ?_;intro X hX hP hC aD aF vals hA;refine ⟨_,by simp,hA, ?_⟩;have af:X.P.follows .mixedOrders=true:=(by rw [hP];exact T.mixed);clear aD aF)
 repeat' (first|((first|((with_reducible (first|apply oA|apply oB));exact rfl;intro K hK)|(refine hK _ ?_;clear hK K)|((with_reducible (first|apply oG|apply oH));iterate 3 exact rfl)|((with_reducible apply oI);(iterate 2 exact rfl);intro K hK)|(with_reducible (first|apply wI|apply wJ|apply wK)));try simp only [go_sem,simprocAttr,aI,h1,h2,h3])|(with_reducible (first|apply oC|apply oJ|exact oK|apply wA|apply wB|apply wC hX hC|apply wD hX hC|apply wE hX hC af|apply wF hX hC af|apply wG|apply wH|apply And.intro))|((with_reducible refine oD ?_ ?_);kernel_rfl)|((with_reducible (first|apply oE|apply oF));(iterate 3 exact rfl);all_goals (intro h;first|(exact absurd h (by decide))|((try simp only [go_sem,simprocAttr,aI,h1,h2,h3] at h);(try with_reducible intro K hK);simp only [go_sem,simprocAttr,aI,h1,h2,h3])))|((first|((with_reducible apply wL);exact rfl)|((with_reducible apply wM);exact rfl));all_goals (try ((with_reducible intro h);first|(exact absurd h (by decide))|(try simp only [go_sem,simprocAttr,aI,h1,h2,h3] at h))))|omega|(intro h)))
def xd (b:Br) (lo hi q:Int) (x:Nat):Bool:=decide (lo<b.y.getD x 0)&&decide (b.y.getD x 0<hi)&&hasB b x q
def dU (b:Br) (s t:Nat) (q:Int):Bool:=decide (b.y.getD s 0<b.y.getD t 0)&&hasB b s q&&hasB b t q&&(List.range b.y.length).all fun x=> !xd b (b.y.getD s 0) (b.y.getD t 0) q x
theorem z8 (b:Br) (s t:Nat) (q:Int) (h1:b.fr.length=b.y.length) (h2:b.to.length=b.y.length) (hl:b.y.length≤100000) (hs:s<b.y.length) (ht:t<b.y.length):Spec Tryz.prog 77 (Args [aI b, .agg [eN s,eN t],eN q]) [] (eB (dU b s t q)) []:=by
 have hH:=fun x (hx:x<b.y.length)=>z7 b x q (by omega) (by omega) (by omega)
 have Kz:=hH s hs
 have K7:=hH t ht
 by_cases hc:b.y.getD s 0<b.y.getD t 0
 rotate_left
 ·have hr:dU b s t q=false:=by unfold dU;rw [decide_eq_false hc];rfl
  have hc1:decide (b.y.getD t 0≤b.y.getD s 0)=true:=decide_eq_true (by omega)
  rw [hr]
  (refine Spec.intro (C:=T.cfg [] []) (rs:= [.t 6]) (T.aj _ _) Tryz.func77 rfl rfl Tryz.ntmps77 Tryz.results77 (by simp [AObj.isNest]) (by simp [AObj.isNest]) (by kernel_rfl) ?_;intro X hX hP hC aD aF vals hA;refine ⟨_,by simp,hA, ?_⟩;have af:X.P.follows .mixedOrders=true:=(by rw [hP];exact T.mixed);clear aD aF)
  repeat' (first|((first|((with_reducible (first|apply oA|apply oB));exact rfl;intro K hK)|(refine hK _ ?_;clear hK K)|((with_reducible (first|apply oG|apply oH));iterate 3 exact rfl)|((with_reducible apply oI);(iterate 2 exact rfl);intro K hK)|(with_reducible (first|apply wI|apply wJ|apply wK)));try simp only [go_sem,simprocAttr,aI,hc1])|(with_reducible (first|apply oC|apply oJ|exact oK|apply wA|apply wB|apply wC hX hC|apply wD hX hC|apply wE hX hC af|apply wF hX hC af|apply wG|apply wH|apply And.intro))|((with_reducible refine oD ?_ ?_);kernel_rfl)|((with_reducible (first|apply oE|apply oF));(iterate 3 exact rfl);all_goals (intro h;first|(exact absurd h (by decide))|((try simp only [go_sem,simprocAttr,aI,hc1] at h);(try with_reducible intro K hK);simp only [go_sem,simprocAttr,aI,hc1])))|((first|((with_reducible apply wL);exact rfl)|((with_reducible apply wM);exact rfl));all_goals (try ((with_reducible intro h);first|(exact absurd h (by decide))|(try simp only [go_sem,simprocAttr,aI,hc1] at h))))|omega|(intro h))
 have hc1:decide (b.y.getD t 0≤b.y.getD s 0)=false:=decide_eq_false (by omega)
 cases hvs:hasB b s q with
 |false=>
  have hr:dU b s t q=false:=by unfold dU;rw [hvs];simp
  rw [hr]
  rw [hvs] at Kz
  (refine Spec.intro (C:=T.cfg [] []) (rs:= [.t 6]) (T.aj _ _) Tryz.func77 rfl rfl Tryz.ntmps77 Tryz.results77 (by simp [AObj.isNest]) (by simp [AObj.isNest]) (by kernel_rfl) ?_;intro X hX hP hC aD aF vals hA;refine ⟨_,by simp,hA, ?_⟩;have af:X.P.follows .mixedOrders=true:=(by rw [hP];exact T.mixed);clear aD aF)
  repeat' (first|((first|((with_reducible (first|apply oA|apply oB));exact rfl;intro K hK)|(refine hK _ ?_;clear hK K)|((with_reducible (first|apply oG|apply oH));iterate 3 exact rfl)|((with_reducible apply oI);(iterate 2 exact rfl);intro K hK)|(with_reducible (first|apply wI|apply wJ|apply wK)));try simp only [go_sem,simprocAttr,aI,hc1])|(with_reducible (first|apply oC|apply oJ|exact oK|apply wA|apply wB|apply wC hX hC|apply wD hX hC|apply wE hX hC af|apply wF hX hC af|apply wG|apply wH|apply And.intro))|((with_reducible refine oD ?_ ?_);kernel_rfl)|((with_reducible (first|apply oE|apply oF));(iterate 3 exact rfl);all_goals (intro h;first|(exact absurd h (by decide))|((try simp only [go_sem,simprocAttr,aI,hc1] at h);(try with_reducible intro K hK);simp only [go_sem,simprocAttr,aI,hc1])))|((first|((with_reducible apply wL);exact rfl)|((with_reducible apply wM);exact rfl));all_goals (try ((with_reducible intro h);first|(exact absurd h (by decide))|(try simp only [go_sem,simprocAttr,aI,hc1] at h))))|omega|((first|refine aa hX hC hP (Kz) rfl rfl rfl (by simp only [go_sem,simprocAttr,aI,hc1]) rfl ?_);try simp only [go_sem,simprocAttr,aI,hc1])|(intro h))
 |true=>
 rw [hvs] at Kz
 cases G5:hasB b t q with
 |false=>
  have hr:dU b s t q=false:=by unfold dU;rw [G5];simp
  rw [hr]
  rw [G5] at K7
  (refine Spec.intro (C:=T.cfg [] []) (rs:= [.t 6]) (T.aj _ _) Tryz.func77 rfl rfl Tryz.ntmps77 Tryz.results77 (by simp [AObj.isNest]) (by simp [AObj.isNest]) (by kernel_rfl) ?_;intro X hX hP hC aD aF vals hA;refine ⟨_,by simp,hA, ?_⟩;have af:X.P.follows .mixedOrders=true:=(by rw [hP];exact T.mixed);clear aD aF)
  repeat' (first|((first|((with_reducible (first|apply oA|apply oB));exact rfl;intro K hK)|(refine hK _ ?_;clear hK K)|((with_reducible (first|apply oG|apply oH));iterate 3 exact rfl)|((with_reducible apply oI);(iterate 2 exact rfl);intro K hK)|(with_reducible (first|apply wI|apply wJ|apply wK)));try simp only [go_sem,simprocAttr,aI,hc1])|(with_reducible (first|apply oC|apply oJ|exact oK|apply wA|apply wB|apply wC hX hC|apply wD hX hC|apply wE hX hC af|apply wF hX hC af|apply wG|apply wH|apply And.intro))|((with_reducible refine oD ?_ ?_);kernel_rfl)|((with_reducible (first|apply oE|apply oF));(iterate 3 exact rfl);all_goals (intro h;first|(exact absurd h (by decide))|((try simp only [go_sem,simprocAttr,aI,hc1] at h);(try with_reducible intro K hK);simp only [go_sem,simprocAttr,aI,hc1])))|((first|((with_reducible apply wL);exact rfl)|((with_reducible apply wM);exact rfl));all_goals (try ((with_reducible intro h);first|(exact absurd h (by decide))|(try simp only [go_sem,simprocAttr,aI,hc1] at h))))|omega|((first|refine aa hX hC hP (Kz) rfl rfl rfl (by simp only [go_sem,simprocAttr,aI,hc1]) rfl ?_|refine aa hX hC hP (K7) rfl rfl rfl (by simp only [go_sem,simprocAttr,aI,hc1]) rfl ?_);try simp only [go_sem,simprocAttr,aI,hc1])|(intro h))
 |true=>
 rw [G5] at K7
 have hr:dU b s t q=(List.range b.y.length).all fun x=> !xd b (b.y.getD s 0) (b.y.getD t 0) q x:=by unfold dU;rw [hvs,G5,decide_eq_true hc];rfl
 rw [hr]
 (refine Spec.intro (C:=T.cfg [] []) (rs:= [.t 6]) (T.aj _ _) Tryz.func77 rfl rfl Tryz.ntmps77 Tryz.results77 (by simp [AObj.isNest]) (by simp [AObj.isNest]) (by kernel_rfl) ?_;intro X hX hP hC aD aF vals hA;refine ⟨_,by simp,hA, ?_⟩;have af:X.P.follows .mixedOrders=true:=(by rw [hP];exact T.mixed);clear aD aF)
 repeat' (first|((first|((with_reducible (first|apply oA|apply oB));exact rfl;intro K hK)|(refine hK _ ?_;clear hK K)|((with_reducible (first|apply oG|apply oH));iterate 3 exact rfl)|((with_reducible apply oI);(iterate 2 exact rfl);intro K hK)|(with_reducible (first|apply wI|apply wJ|apply wK)));try simp only [go_sem,simprocAttr,aI,hc1])|(with_reducible (first|apply oC|apply oJ|exact oK|apply wA|apply wB|apply wC hX hC|apply wD hX hC|apply wE hX hC af|apply wF hX hC af|apply wG|apply wH|apply And.intro))|((with_reducible refine oD ?_ ?_);kernel_rfl)|((with_reducible (first|apply oE|apply oF));(iterate 3 exact rfl);all_goals (intro h;first|(exact absurd h (by decide))|((try simp only [go_sem,simprocAttr,aI,hc1] at h);(try with_reducible intro K hK);simp only [go_sem,simprocAttr,aI,hc1])))|((first|((with_reducible apply wL);exact rfl)|((with_reducible apply wM);exact rfl));all_goals (try ((with_reducible intro h);first|(exact absurd h (by decide))|(try simp only [go_sem,simprocAttr,aI,hc1] at h))))|omega|((first|refine aa hX hC hP (Kz) rfl rfl rfl (by simp only [go_sem,simprocAttr,aI,hc1]) rfl ?_|refine aa hX hC hP (K7) rfl rfl rfl (by simp only [go_sem,simprocAttr,aI,hc1]) rfl ?_);try simp only [go_sem,simprocAttr,aI,hc1])|(intro h))
 refine ah (fun k:Nat=>k≤b.y.length∧∀j,j<k→xd b (b.y.getD s 0) (b.y.getD t 0) q j=false) (fun k=>⟨[(2,eN q),(3, .ptr 3 0),(7,eN (b.y.getD s 0)),(8,eN (b.y.getD t 0)),(43, .d (sI b.y)),(44,eN b.y.length),(45,eN k)], [(3, .box [.d (sI b.y), .d (sI b.fr), .d (sI b.to), .d (sI b.x)])]⟩) (fun k=>b.y.length - k) 0 ⟨by omega,fun j hj=>by omega⟩ ?_ ?_
 ·refine Le.of ?_ ?_<;>simp [go_sem,simprocAttr]
 rintro k ⟨hk,hin⟩
 rcases Nat.lt_or_ge k b.y.length with bT|An
 rotate_left
 ·have hb:decide ((k:Int)<(b.y.length:Int))=false:=decide_eq_false (by omega)
  obtain rfl:k=b.y.length:=by omega
  rw [gK (f:=fun x=> !xd b (b.y.getD s 0) (b.y.getD t 0) q x) (fun i hi=>by rw [hin i hi];rfl)]
  repeat' (first|((first|((with_reducible (first|apply oA|apply oB));exact rfl;intro K hK)|(refine hK _ ?_;clear hK K)|((with_reducible (first|apply oG|apply oH));iterate 3 exact rfl)|((with_reducible apply oI);(iterate 2 exact rfl);intro K hK)|(with_reducible (first|apply wI|apply wJ|apply wK)));try simp only [go_sem,simprocAttr,hb])|(with_reducible (first|apply oC|apply oJ|exact oK|apply wA|apply wB|apply wC hX hC|apply wD hX hC|apply wE hX hC af|apply wF hX hC af|apply wG|apply wH|apply And.intro))|((with_reducible refine oD ?_ ?_);kernel_rfl)|((with_reducible (first|apply oE|apply oF));(iterate 3 exact rfl);all_goals (intro h;first|(exact absurd h (by decide))|((try simp only [go_sem,simprocAttr,hb] at h);(try with_reducible intro K hK);simp only [go_sem,simprocAttr,hb])))|((first|((with_reducible apply wL);exact rfl)|((with_reducible apply wM);exact rfl));all_goals (try ((with_reducible intro h);first|(exact absurd h (by decide))|(try simp only [go_sem,simprocAttr,hb] at h))))|omega|(intro h))
 have hb:decide ((k:Int)<(b.y.length:Int))=true:=decide_eq_true (by omega)
 have N6:=hH k bT
 have hap:xd b (b.y.getD s 0) (b.y.getD t 0) q k=(decide (b.y.getD s 0<b.y.getD k 0)&&decide (b.y.getD k 0<b.y.getD t 0)&&hasB b k q):=rfl
 have hno:xd b (b.y.getD s 0) (b.y.getD t 0) q k=true→((List.range b.y.length).all fun x=> !xd b (b.y.getD s 0) (b.y.getD t 0) q x)=false:=fun h1=>gl bT (by rw [h1];rfl)
 have hyes:xd b (b.y.getD s 0) (b.y.getD t 0) q k=false→∀j,j<k+1→xd b (b.y.getD s 0) (b.y.getD t 0) q j=false:=fun h1 j hj=>by
  by_cases uc:j=k
  ·subst uc;exact h1
  ·exact hin j (by omega)
 generalize xd b (b.y.getD s 0) (b.y.getD t 0) q k=av at*
 cases gZ:decide (b.y.getD s 0<b.y.getD k 0)<;>cases hd2:decide (b.y.getD k 0<b.y.getD t 0)<;>cases mR:hasB b k q<;>rw [gZ,hd2,mR] at hap<;>simp only [Bool.and_true,Bool.and_false,Bool.true_and,Bool.false_and] at hap<;>subst hap<;>rw [mR] at N6
 all_goals (
 repeat' (first|((first|((with_reducible (first|apply oA|apply oB));exact rfl;intro K hK)|(refine hK _ ?_;clear hK K)|((with_reducible (first|apply oG|apply oH));iterate 3 exact rfl)|((with_reducible apply oI);(iterate 2 exact rfl);intro K hK)|(with_reducible (first|apply wI|apply wJ|apply wK)));try simp only [go_sem,simprocAttr,aI,hb,gZ,hd2])|(with_reducible (first|apply oC|apply oJ|exact oK|apply wA|apply wB|apply wC hX hC|apply wD hX hC|apply wE hX hC af|apply wF hX hC af|apply wG|apply wH|apply And.intro))|((with_reducible refine oD ?_ ?_);kernel_rfl)|((with_reducible (first|apply oE|apply oF));(iterate 3 exact rfl);all_goals (intro h;first|(exact absurd h (by decide))|((try simp only [go_sem,simprocAttr,aI,hb,gZ,hd2] at h);(try with_reducible intro K hK);simp only [go_sem,simprocAttr,aI,hb,gZ,hd2])))|((first|((with_reducible apply wL);exact rfl)|((with_reducible apply wM);exact rfl));all_goals (try ((with_reducible intro h);first|(exact absurd h (by decide))|(try simp only [go_sem,simprocAttr,aI,hb,gZ,hd2] at h))))|omega|((first|(refine bh hX hC hP (N6) rfl rfl rfl ?_ ?_ rfl ?_;iterate 2 (focus (simp only [go_sem,simprocAttr,aI,hb,gZ,hd2];done))));try simp only [go_sem,simprocAttr,aI,hb,gZ,hd2])|(intro h)))
 all_goals (first|(exact hno rfl)|(exact (hno rfl).symm)|(refine ⟨k+1,⟨by omega,hyes rfl⟩, ?_,by omega⟩;refine Le.of ?_ ?_<;>simp [go_sem];done)|trace_state)
def CB (g:Gr) (b:Br) (i k:Nat):Bool:=decide (b.x.getD k 0=b.x.getD i 0)&&decide (b.y.getD (tl g i).toNat 0<b.y.getD (hd g k).toNat 0)&&decide (b.y.getD (tl g k).toNat 0<b.y.getD (hd g i).toNat 0)
def Fz (g:Gr) (b:Br) (i:Nat):Bool:=dU b (tl g i).toNat (hd g i).toNat (b.x.getD i 0)&&(List.range i).all fun k=> !CB g b i k
def cB (g:Gr) (b:Br):Bool:=decide ((bJ g).1=0)&&nk b g&&kR b&&(List.range g.es.length).all (Fz g b)
theorem pL (g:Gr) (b:Br) (hl:g.es.length≤1000) (an:b.y.length≤1000) (ak:b.x.length≤1000):Spec Tryz.prog 41 (Args [eG g,aI b]) [] (eB (cB g b)) []:=by
 have K8:=iR g hl
 have KA:=CA b g
 by_cases hc:(bJ g).1=0
 rotate_left
 ·have hr:cB g b=false:=by unfold cB;rw [decide_eq_false hc];rfl
  have hc0:decide ((bJ g).1=0)=false:=decide_eq_false hc
  rw [hr]
  (refine Spec.intro (C:=T.cfg [] []) (rs:= [.t 4]) (T.aj _ _) Tryz.func41 rfl rfl Tryz.ntmps41 Tryz.results41 (by simp [AObj.isNest]) (by simp [AObj.isNest]) (by kernel_rfl) ?_;intro X hX hP hC aD aF vals hA;refine ⟨_,by simp,hA, ?_⟩;have af:X.P.follows .mixedOrders=true:=(by rw [hP];exact T.mixed);clear aD aF)
  repeat' (first|((first|((with_reducible (first|apply oA|apply oB));exact rfl;intro K hK)|(refine hK _ ?_;clear hK K)|((with_reducible (first|apply oG|apply oH));iterate 3 exact rfl)|((with_reducible apply oI);(iterate 2 exact rfl);intro K hK)|(with_reducible (first|apply wI|apply wJ|apply wK)));try simp only [go_sem,simprocAttr,eF,aI,hc0])|(with_reducible (first|apply oC|apply oJ|exact oK|apply wA|apply wB|apply wC hX hC|apply wD hX hC|apply wE hX hC af|apply wF hX hC af|apply wG|apply wH|apply And.intro))|((with_reducible refine oD ?_ ?_);kernel_rfl)|((with_reducible (first|apply oE|apply oF));(iterate 3 exact rfl);all_goals (intro h;first|(exact absurd h (by decide))|((try simp only [go_sem,simprocAttr,eF,aI,hc0] at h);(try with_reducible intro K hK);simp only [go_sem,simprocAttr,eF,aI,hc0])))|((first|((with_reducible apply wL);exact rfl)|((with_reducible apply wM);exact rfl));all_goals (try ((with_reducible intro h);first|(exact absurd h (by decide))|(try simp only [go_sem,simprocAttr,eF,aI,hc0] at h))))|omega|((first|refine aa hX hC hP (K8) rfl rfl rfl (by simp only [go_sem,simprocAttr,eF,aI,hc0]) rfl ?_);try simp only [go_sem,simprocAttr,eF,aI,hc0])|(intro h))
 have hc0:decide ((bJ g).1=0)=true:=decide_eq_true hc
 cases FA:nk b g with
 |false=>
  have hr:cB g b=false:=by unfold cB;rw [FA];simp
  rw [hr]
  rw [FA] at KA
  (refine Spec.intro (C:=T.cfg [] []) (rs:= [.t 4]) (T.aj _ _) Tryz.func41 rfl rfl Tryz.ntmps41 Tryz.results41 (by simp [AObj.isNest]) (by simp [AObj.isNest]) (by kernel_rfl) ?_;intro X hX hP hC aD aF vals hA;refine ⟨_,by simp,hA, ?_⟩;have af:X.P.follows .mixedOrders=true:=(by rw [hP];exact T.mixed);clear aD aF)
  repeat' (first|((first|((with_reducible (first|apply oA|apply oB));exact rfl;intro K hK)|(refine hK _ ?_;clear hK K)|((with_reducible (first|apply oG|apply oH));iterate 3 exact rfl)|((with_reducible apply oI);(iterate 2 exact rfl);intro K hK)|(with_reducible (first|apply wI|apply wJ|apply wK)));try simp only [go_sem,simprocAttr,eF,aI,hc0])|(with_reducible (first|apply oC|apply oJ|exact oK|apply wA|apply wB|apply wC hX hC|apply wD hX hC|apply wE hX hC af|apply wF hX hC af|apply wG|apply wH|apply And.intro))|((with_reducible refine oD ?_ ?_);kernel_rfl)|((with_reducible (first|apply oE|apply oF));(iterate 3 exact rfl);all_goals (intro h;first|(exact absurd h (by decide))|((try simp only [go_sem,simprocAttr,eF,aI,hc0] at h);(try with_reducible intro K hK);simp only [go_sem,simprocAttr,eF,aI,hc0])))|((first|((with_reducible apply wL);exact rfl)|((with_reducible apply wM);exact rfl));all_goals (try ((with_reducible intro h);first|(exact absurd h (by decide))|(try simp only [go_sem,simprocAttr,eF,aI,hc0] at h))))|omega|((first|refine aa hX hC hP (K8) rfl rfl rfl (by simp only [go_sem,simprocAttr,eF,aI,hc0]) rfl ?_|refine aa hX hC hP (KA) rfl rfl rfl (by simp only [go_sem,simprocAttr,eF,aI,hc0]) rfl ?_);try simp only [go_sem,simprocAttr,eF,aI,hc0])|(intro h))
 |true=>
 rw [FA] at KA
 have hm:=aA hc
 have hn:=aT hm
 have E3:=FA
 simp only [nk,Bool.and_eq_true,decide_eq_true_eq] at E3
 obtain ⟨⟨⟨l1,l2⟩,l3⟩,l4⟩:=E3
 have K9:=apart_spec b (by omega) (by omega) (by omega)
 cases hap:kR b with
 |false=>
  have hr:cB g b=false:=by unfold cB;rw [hap];simp
  rw [hr]
  rw [hap] at K9
  (refine Spec.intro (C:=T.cfg [] []) (rs:= [.t 4]) (T.aj _ _) Tryz.func41 rfl rfl Tryz.ntmps41 Tryz.results41 (by simp [AObj.isNest]) (by simp [AObj.isNest]) (by kernel_rfl) ?_;intro X hX hP hC aD aF vals hA;refine ⟨_,by simp,hA, ?_⟩;have af:X.P.follows .mixedOrders=true:=(by rw [hP];exact T.mixed);clear aD aF)
  repeat' (first|((first|((with_reducible (first|apply oA|apply oB));exact rfl;intro K hK)|(refine hK _ ?_;clear hK K)|((with_reducible (first|apply oG|apply oH));iterate 3 exact rfl)|((with_reducible apply oI);(iterate 2 exact rfl);intro K hK)|(with_reducible (first|apply wI|apply wJ|apply wK)));try simp only [go_sem,simprocAttr,eF,aI,hc0])|(with_reducible (first|apply oC|apply oJ|exact oK|apply wA|apply wB|apply wC hX hC|apply wD hX hC|apply wE hX hC af|apply wF hX hC af|apply wG|apply wH|apply And.intro))|((with_reducible refine oD ?_ ?_);kernel_rfl)|((with_reducible (first|apply oE|apply oF));(iterate 3 exact rfl);all_goals (intro h;first|(exact absurd h (by decide))|((try simp only [go_sem,simprocAttr,eF,aI,hc0] at h);(try with_reducible intro K hK);simp only [go_sem,simprocAttr,eF,aI,hc0])))|((first|((with_reducible apply wL);exact rfl)|((with_reducible apply wM);exact rfl));all_goals (try ((with_reducible intro h);first|(exact absurd h (by decide))|(try simp only [go_sem,simprocAttr,eF,aI,hc0] at h))))|omega|((first|refine aa hX hC hP (K8) rfl rfl rfl (by simp only [go_sem,simprocAttr,eF,aI,hc0]) rfl ?_|refine aa hX hC hP (KA) rfl rfl rfl (by simp only [go_sem,simprocAttr,eF,aI,hc0]) rfl ?_|refine aa hX hC hP (K9) rfl rfl rfl (by simp only [go_sem,simprocAttr,eF,aI,hc0]) rfl ?_);try simp only [go_sem,simprocAttr,eF,aI,hc0])|(intro h))
 |true=>
 rw [hap] at K9
 have hr:cB g b=(List.range g.es.length).all (Fz g b):=by unfold cB;rw [hc0,FA,hap];rfl
 rw [hr]
 (refine Spec.intro (C:=T.cfg [] []) (rs:= [.t 4]) (T.aj _ _) Tryz.func41 rfl rfl Tryz.ntmps41 Tryz.results41 (by simp [AObj.isNest]) (by simp [AObj.isNest]) (by kernel_rfl) ?_;intro X hX hP hC aD aF vals hA;refine ⟨_,by simp,hA, ?_⟩;have af:X.P.follows .mixedOrders=true:=(by rw [hP];exact T.mixed);clear aD aF)
 repeat' (first|((first|((with_reducible (first|apply oA|apply oB));exact rfl;intro K hK)|(refine hK _ ?_;clear hK K)|((with_reducible (first|apply oG|apply oH));iterate 3 exact rfl)|((with_reducible apply oI);(iterate 2 exact rfl);intro K hK)|(with_reducible (first|apply wI|apply wJ|apply wK)));try simp only [go_sem,simprocAttr,eF,aI,hc0])|(with_reducible (first|apply oC|apply oJ|exact oK|apply wA|apply wB|apply wC hX hC|apply wD hX hC|apply wE hX hC af|apply wF hX hC af|apply wG|apply wH|apply And.intro))|((with_reducible refine oD ?_ ?_);kernel_rfl)|((with_reducible (first|apply oE|apply oF));(iterate 3 exact rfl);all_goals (intro h;first|(exact absurd h (by decide))|((try simp only [go_sem,simprocAttr,eF,aI,hc0] at h);(try with_reducible intro K hK);simp only [go_sem,simprocAttr,eF,aI,hc0])))|((first|((with_reducible apply wL);exact rfl)|((with_reducible apply wM);exact rfl));all_goals (try ((with_reducible intro h);first|(exact absurd h (by decide))|(try simp only [go_sem,simprocAttr,eF,aI,hc0] at h))))|omega|((first|refine aa hX hC hP (K8) rfl rfl rfl (by simp only [go_sem,simprocAttr,eF,aI,hc0]) rfl ?_|refine aa hX hC hP (KA) rfl rfl rfl (by simp only [go_sem,simprocAttr,eF,aI,hc0]) rfl ?_|refine aa hX hC hP (K9) rfl rfl rfl (by simp only [go_sem,simprocAttr,eF,aI,hc0]) rfl ?_);try simp only [go_sem,simprocAttr,eF,aI,hc0])|(intro h))
 refine ah (fun i:Nat=>i≤g.es.length∧∀j,j<i→Fz g b j=true) (fun i=>⟨[(2, .ptr 2 0),(3, .ptr 3 0),(25, .d (sE g.es)),(26,eN g.es.length),(27,eN i)], [(2, .box [eN g.n, .d (sE g.es)]),(3, .box [.d (sI b.y), .d (sI b.fr), .d (sI b.to), .d (sI b.x)])]⟩) (fun i=>g.es.length - i) 0 ⟨by omega,fun j hj=>by omega⟩ ?_ ?_
 ·refine Le.of ?_ ?_<;>simp [go_sem,simprocAttr,aI]
 rintro i ⟨hi,hin⟩
 rcases Nat.lt_or_ge i g.es.length with hil|J2
 rotate_left
 ·have fA:decide ((i:Int)<(g.es.length:Int))=false:=decide_eq_false (by omega)
  obtain rfl:i=g.es.length:=by omega
  rw [gK hin]
  repeat' (first|((first|((with_reducible (first|apply oA|apply oB));exact rfl;intro K hK)|(refine hK _ ?_;clear hK K)|((with_reducible (first|apply oG|apply oH));iterate 3 exact rfl)|((with_reducible apply oI);(iterate 2 exact rfl);intro K hK)|(with_reducible (first|apply wI|apply wJ|apply wK)));try simp only [go_sem,simprocAttr,fA])|(with_reducible (first|apply oC|apply oJ|exact oK|apply wA|apply wB|apply wC hX hC|apply wD hX hC|apply wE hX hC af|apply wF hX hC af|apply wG|apply wH|apply And.intro))|((with_reducible refine oD ?_ ?_);kernel_rfl)|((with_reducible (first|apply oE|apply oF));(iterate 3 exact rfl);all_goals (intro h;first|(exact absurd h (by decide))|((try simp only [go_sem,simprocAttr,fA] at h);(try with_reducible intro K hK);simp only [go_sem,simprocAttr,fA])))|((first|((with_reducible apply wL);exact rfl)|((with_reducible apply wM);exact rfl));all_goals (try ((with_reducible intro h);first|(exact absurd h (by decide))|(try simp only [go_sem,simprocAttr,fA] at h))))|omega|(intro h))
 have fA:decide ((i:Int)<(g.es.length:Int))=true:=decide_eq_true (by omega)
 obtain ⟨t1,t2⟩:=dS hm hil
 obtain ⟨s,hs⟩:∃s:Nat,(g.es.getD i (0,0)).1=s:=⟨(g.es.getD i (0,0)).1.toNat,by omega⟩
 obtain ⟨t,ht⟩:∃t:Nat,(g.es.getD i (0,0)).2=t:=⟨(g.es.getD i (0,0)).2.toNat,by omega⟩
 have hts:(tl g i).toNat=s:=by show ((g.es.getD i (0,0)).1).toNat=s;rw [hs];rfl
 have y7:(hd g i).toNat=t:=by show ((g.es.getD i (0,0)).2).toNat=t;rw [ht];rfl
 have Fx:=z8 b s t (b.x.getD i 0) (by omega) (by omega) (by omega) (by omega) (by omega)
 have mA:Fz g b i=(dU b s t (b.x.getD i 0)&&(List.range i).all fun k=> !CB g b i k):=by unfold Fz;rw [hts,y7]
 cases dB:dU b s t (b.x.getD i 0) with
 |false=>
  rw [dB] at Fx
  rw [gl hil (f:=Fz g b) (by rw [mA,dB];rfl)]
  repeat' (first|((first|((with_reducible (first|apply oA|apply oB));exact rfl;intro K hK)|(refine hK _ ?_;clear hK K)|((with_reducible (first|apply oG|apply oH));iterate 3 exact rfl)|((with_reducible apply oI);(iterate 2 exact rfl);intro K hK)|(with_reducible (first|apply wI|apply wJ|apply wK)));try simp only [go_sem,simprocAttr,aI,fA,hs,ht])|(with_reducible (first|apply oC|apply oJ|exact oK|apply wA|apply wB|apply wC hX hC|apply wD hX hC|apply wE hX hC af|apply wF hX hC af|apply wG|apply wH|apply And.intro))|((with_reducible refine oD ?_ ?_);kernel_rfl)|((with_reducible (first|apply oE|apply oF));(iterate 3 exact rfl);all_goals (intro h;first|(exact absurd h (by decide))|((try simp only [go_sem,simprocAttr,aI,fA,hs,ht] at h);(try with_reducible intro K hK);simp only [go_sem,simprocAttr,aI,fA,hs,ht])))|((first|((with_reducible apply wL);exact rfl)|((with_reducible apply wM);exact rfl));all_goals (try ((with_reducible intro h);first|(exact absurd h (by decide))|(try simp only [go_sem,simprocAttr,aI,fA,hs,ht] at h))))|omega|((first|(refine bh hX hC hP (Fx) rfl rfl rfl ?_ ?_ rfl ?_;iterate 2 (focus (simp only [go_sem,simprocAttr,aI,fA,hs,ht];done))));try simp only [go_sem,simprocAttr,aI,fA,hs,ht])|(intro h))
 |true=>
 rw [dB] at Fx mA
 rw [Bool.true_and] at mA
 repeat' (first|((first|((with_reducible (first|apply oA|apply oB));exact rfl;intro K hK)|(refine hK _ ?_;clear hK K)|((with_reducible (first|apply oG|apply oH));iterate 3 exact rfl)|((with_reducible apply oI);(iterate 2 exact rfl);intro K hK)|(with_reducible (first|apply wI|apply wJ|apply wK)));try simp only [go_sem,simprocAttr,aI,fA,hs,ht])|(with_reducible (first|apply oC|apply oJ|exact oK|apply wA|apply wB|apply wC hX hC|apply wD hX hC|apply wE hX hC af|apply wF hX hC af|apply wG|apply wH|apply And.intro))|((with_reducible refine oD ?_ ?_);kernel_rfl)|((with_reducible (first|apply oE|apply oF));(iterate 3 exact rfl);all_goals (intro h;first|(exact absurd h (by decide))|((try simp only [go_sem,simprocAttr,aI,fA,hs,ht] at h);(try with_reducible intro K hK);simp only [go_sem,simprocAttr,aI,fA,hs,ht])))|((first|((with_reducible apply wL);exact rfl)|((with_reducible apply wM);exact rfl));all_goals (try ((with_reducible intro h);first|(exact absurd h (by decide))|(try simp only [go_sem,simprocAttr,aI,fA,hs,ht] at h))))|omega|((first|(refine bh hX hC hP (Fx) rfl rfl rfl ?_ ?_ rfl ?_;iterate 2 (focus (simp only [go_sem,simprocAttr,aI,fA,hs,ht];done))));try simp only [go_sem,simprocAttr,aI,fA,hs,ht])|(intro h))
 refine ah (fun k:Nat=>k≤i∧∀j,j<k→CB g b i j=false) (fun k=>⟨[(2, .ptr 2 0),(3, .ptr 3 0),(5,eN i),(6, .ptr 6 0),(25, .d (sE g.es)),(26,eN g.es.length),(27,eN i),(44, .d (.sl 2 ((g.es.map rE).take i))),(45,eN i),(46,eN k)], [(2, .box [eN g.n, .d (sE g.es)]),(3, .box [.d (sI b.y), .d (sI b.fr), .d (sI b.to), .d (sI b.x)]),(6, .box [eN s,eN t])]⟩) (fun k=>i - k) 0 ⟨by omega,fun j hj=>by omega⟩ ?_ ?_
 ·refine Le.of ?_ ?_<;>simp [go_sem,simprocAttr]
  all_goals omega
 rintro k ⟨hk,E4⟩
 rcases Nat.lt_or_ge k i with bT|An
 rotate_left
 ·have hbk:decide ((k:Int)<(i:Int))=false:=decide_eq_false (by omega)
  obtain rfl:k=i:=by omega
  repeat' (first|((first|((with_reducible (first|apply oA|apply oB));exact rfl;intro K hK)|(refine hK _ ?_;clear hK K)|((with_reducible (first|apply oG|apply oH));iterate 3 exact rfl)|((with_reducible apply oI);(iterate 2 exact rfl);intro K hK)|(with_reducible (first|apply wI|apply wJ|apply wK)));try simp only [go_sem,simprocAttr,hbk])|(with_reducible (first|apply oC|apply oJ|exact oK|apply wA|apply wB|apply wC hX hC|apply wD hX hC|apply wE hX hC af|apply wF hX hC af|apply wG|apply wH|apply And.intro))|((with_reducible refine oD ?_ ?_);kernel_rfl)|((with_reducible (first|apply oE|apply oF));(iterate 3 exact rfl);all_goals (intro h;first|(exact absurd h (by decide))|((try simp only [go_sem,simprocAttr,hbk] at h);(try with_reducible intro K hK);simp only [go_sem,simprocAttr,hbk])))|((first|((with_reducible apply wL);exact rfl)|((with_reducible apply wM);exact rfl));all_goals (try ((with_reducible intro h);first|(exact absurd h (by decide))|(try simp only [go_sem,simprocAttr,hbk] at h))))|omega|(intro h))
  refine ⟨k+1,⟨by omega,fun j hj=> ?_⟩, ?_,by omega⟩
  ·by_cases hjk:j=k
   ·subst hjk
    rw [mA,gK (f:=fun z=> !CB g b j z) (fun z hz=>by rw [E4 z hz];rfl)]
   ·exact hin j (by omega)
  ·refine Le.of ?_ ?_<;>simp [go_sem,simprocAttr,hbk]
 have hbk:decide ((k:Int)<(i:Int))=true:=decide_eq_true (by omega)
 obtain ⟨t3,t4⟩:=dS hm (k:=k) (by omega)
 obtain ⟨s',hs'⟩:∃s':Nat,(g.es.getD k (0,0)).1=s':=⟨(g.es.getD k (0,0)).1.toNat,by omega⟩
 obtain ⟨t',ht'⟩:∃t':Nat,(g.es.getD k (0,0)).2=t':=⟨(g.es.getD k (0,0)).2.toNat,by omega⟩
 have Iv:(tl g k).toNat=s':=by show ((g.es.getD k (0,0)).1).toNat=s';rw [hs'];rfl
 have Iw:(hd g k).toNat=t':=by show ((g.es.getD k (0,0)).2).toNat=t';rw [ht'];rfl
 have ru:∀d,((g.es.map rE).take i).getD k d= [.sc (.int .i64 (s':Int)), .sc (.int .i64 (t':Int))]:=fun d=>by
  rw [List.getD_eq_getElem?_getD,List.getElem?_take,if_pos bT,List.getElem?_map]
  have e:g.es[k]? =some (g.es.getD k (0,0)):=by rw [List.getD_eq_getElem?_getD,List.getElem?_eq_getElem (by omega)];rfl
  rw [e]
  show rE (g.es.getD k (0,0))=_
  rw [show g.es.getD k (0,0)=((s':Int),(t':Int)) from Prod.ext hs' ht'];rfl
 have mD:((g.es.map rE).take i).length=i:=by rw [List.length_take,List.length_map];omega
 have Na:CB g b i k=(decide (b.x.getD k 0=b.x.getD i 0)&&decide (b.y.getD s 0<b.y.getD t' 0)&&decide (b.y.getD s' 0<b.y.getD t 0)):=by unfold CB;rw [hts,y7,Iv,Iw]
 have hno:CB g b i k=true→(List.range g.es.length).all (Fz g b)=false:=fun h1=>gl hil (by rw [mA];exact gl (f:=fun z=> !CB g b i z) bT (by rw [h1];rfl))
 have hyes:CB g b i k=false→∀j,j<k+1→CB g b i j=false:=fun h1 j hj=>by
  by_cases uc:j=k
  ·subst uc;exact h1
  ·exact E4 j (by omega)
 generalize CB g b i k=av at*
 generalize (g.es.map rE).take i=T1 at*
 cases gZ:decide (b.x.getD k 0=b.x.getD i 0)<;>cases hd2:decide (b.y.getD s 0<b.y.getD t' 0)<;>cases mR:decide (b.y.getD s' 0<b.y.getD t 0)<;>rw [gZ,hd2,mR] at Na<;>simp only [Bool.and_true,Bool.and_false,Bool.true_and,Bool.false_and] at Na<;>subst Na
 all_goals (
 repeat' (first|((first|((with_reducible (first|apply oA|apply oB));exact rfl;intro K hK)|(refine hK _ ?_;clear hK K)|((with_reducible (first|apply oG|apply oH));iterate 3 exact rfl)|((with_reducible apply oI);(iterate 2 exact rfl);intro K hK)|(with_reducible (first|apply wI|apply wJ|apply wK)));try simp only [go_sem,simprocAttr,hbk,gZ,hd2,mR,ru,mD])|(with_reducible (first|apply oC|apply oJ|exact oK|apply wA|apply wB|apply wC hX hC|apply wD hX hC|apply wE hX hC af|apply wF hX hC af|apply wG|apply wH|apply And.intro))|((with_reducible refine oD ?_ ?_);kernel_rfl)|((with_reducible (first|apply oE|apply oF));(iterate 3 exact rfl);all_goals (intro h;first|(exact absurd h (by decide))|((try simp only [go_sem,simprocAttr,hbk,gZ,hd2,mR,ru,mD] at h);(try with_reducible intro K hK);simp only [go_sem,simprocAttr,hbk,gZ,hd2,mR,ru,mD])))|((first|((with_reducible apply wL);exact rfl)|((with_reducible apply wM);exact rfl));all_goals (try ((with_reducible intro h);first|(exact absurd h (by decide))|(try simp only [go_sem,simprocAttr,hbk,gZ,hd2,mR,ru,mD] at h))))|omega|(intro h)))
 all_goals (first|(exact hno rfl)|(exact (hno rfl).symm)|(refine ⟨k+1,⟨by omega,hyes rfl⟩, ?_,by omega⟩;refine Le.of ?_ ?_<;>simp [go_sem];done)|trace_state)
end Go.Ab
end
section
namespace Go.Ab
open Go.Proofs
attribute [local congr] ACall.congr
set_option maxRecDepth 20000
set_option maxHeartbeats 32000000
theorem yU (b:Br) (x:Nat) (q:Int) (h1:x<b.fr.length) (h2:x<b.to.length) (hl:b.fr.length≤100000):Spec Tryz.prog 73 (Args [aI b,eN x,eN q]) [] (eB (hasB b x q)) []:=by
 cases hc:decide (b.fr.getD x 0≤q) with
 |false=>
  have hr:hasB b x q=false:=by unfold hasB;rw [hc];rfl
  rw [hr]
  (refine Spec.intro (C:=T.cfg [] []) (rs:= [.t 6]) (T.aj _ _) Tryz.func73 rfl rfl Tryz.ntmps73 Tryz.results73 (by simp [AObj.isNest]) (by simp [AObj.isNest]) (by kernel_rfl) ?_;intro X hX hP hC aD aF vals hA;refine ⟨_,by simp,hA, ?_⟩;have af:X.P.follows .mixedOrders=true:=(by rw [hP];exact T.mixed);clear aD aF)
  repeat' (first|((first|((with_reducible (first|apply oA|apply oB));exact rfl;intro K hK)|(refine hK _ ?_;clear hK K)|((with_reducible (first|apply oG|apply oH));iterate 3 exact rfl)|((with_reducible apply oI);(iterate 2 exact rfl);intro K hK)|(with_reducible (first|apply wI|apply wJ|apply wK)));try simp only [go_sem,simprocAttr,aI,hc])|(with_reducible (first|apply oC|apply oJ|exact oK|apply wA|apply wB|apply wC hX hC|apply wD hX hC|apply wE hX hC af|apply wF hX hC af|apply wG|apply wH|apply And.intro))|((with_reducible refine oD ?_ ?_);kernel_rfl)|((with_reducible (first|apply oE|apply oF));(iterate 3 exact rfl);all_goals (intro h;first|(exact absurd h (by decide))|((try simp only [go_sem,simprocAttr,aI,hc] at h);(try with_reducible intro K hK);simp only [go_sem,simprocAttr,aI,hc])))|((first|((with_reducible apply wL);exact rfl)|((with_reducible apply wM);exact rfl));all_goals (try ((with_reducible intro h);first|(exact absurd h (by decide))|(try simp only [go_sem,simprocAttr,aI,hc] at h))))|omega|(intro h))
 |true=>
  have hr:hasB b x q=decide (q≤b.to.getD x 0):=by unfold hasB;rw [hc];rfl
  rw [hr]
  (refine Spec.intro (C:=T.cfg [] []) (rs:= [.t 6]) (T.aj _ _) Tryz.func73 rfl rfl Tryz.ntmps73 Tryz.results73 (by simp [AObj.isNest]) (by simp [AObj.isNest]) (by kernel_rfl) ?_;intro X hX hP hC aD aF vals hA;refine ⟨_,by simp,hA, ?_⟩;have af:X.P.follows .mixedOrders=true:=(by rw [hP];exact T.mixed);clear aD aF)
  repeat' (first|((first|((with_reducible (first|apply oA|apply oB));exact rfl;intro K hK)|(refine hK _ ?_;clear hK K)|((with_reducible (first|apply oG|apply oH));iterate 3 exact rfl)|((with_reducible apply oI);(iterate 2 exact rfl);intro K hK)|(with_reducible (first|apply wI|apply wJ|apply wK)));try simp only [go_sem,simprocAttr,aI,hc])|(with_reducible (first|apply oC|apply oJ|exact oK|apply wA|apply wB|apply wC hX hC|apply wD hX hC|apply wE hX hC af|apply wF hX hC af|apply wG|apply wH|apply And.intro))|((with_reducible refine oD ?_ ?_);kernel_rfl)|((with_reducible (first|apply oE|apply oF));(iterate 3 exact rfl);all_goals (intro h;first|(exact absurd h (by decide))|((try simp only [go_sem,simprocAttr,aI,hc] at h);(try with_reducible intro K hK);simp only [go_sem,simprocAttr,aI,hc])))|((first|((with_reducible apply wL);exact rfl)|((with_reducible apply wM);exact rfl));all_goals (try ((with_reducible intro h);first|(exact absurd h (by decide))|(try simp only [go_sem,simprocAttr,aI,hc] at h))))|omega|(intro h))
def FB (b:Br) (x z:Nat):Bool:= !decide ((x:Int)=(z:Int))&&decide (b.y.getD x 0=b.y.getD z 0)&& !(decide (b.to.getD x 0<b.fr.getD z 0)||decide (b.to.getD z 0<b.fr.getD x 0))
def E5 (b:Br) (n x:Nat):Bool:=decide (b.fr.getD x 0≤b.to.getD x 0)&&(List.range n).all fun z=> !FB b x z
def CR (g:Gr) (b:Br) (i k:Nat):Bool:= !decide ((k:Int)=(i:Int))&&decide (b.x.getD k 0=b.x.getD i 0)&& !(decide (b.y.getD (hd g i).toNat 0≤b.y.getD (tl g k).toNat 0)||decide (b.y.getD (hd g k).toNat 0≤b.y.getD (tl g i).toNat 0))
def E6 (g:Gr) (b:Br) (i:Nat):Bool:=dU b (tl g i).toNat (hd g i).toNat (b.x.getD i 0)&&(List.range g.es.length).all fun k=> !CR g b i k
def fP (g:Gr) (b:Br):Bool:=decide ((bJ g).1=0)&&nk b g&&(List.range b.y.length).all (E5 b b.y.length)&&(List.range g.es.length).all (E6 g b)
theorem yV (g:Gr) (b:Br):fP g b=cB g b:=by
 have e1:(List.range b.y.length).all (E5 b b.y.length)=kR b:=by
  rw [Bool.eq_iff_iff]
  unfold kR
  simp only [List.all_eq_true,List.mem_range,E5,Iu,Bool.and_eq_true,decide_eq_true_eq,Bool.not_eq_true',FB,EY,Bool.and_eq_false_iff,Bool.or_eq_false_iff,Bool.not_eq_false',Bool.or_eq_true,decide_eq_false_iff_not,Bool.not_eq_eq_eq_not,Bool.not_true,Bool.not_false]
  constructor
  ·intro h x hx
   refine ⟨(h x hx).1,fun z hz=> ?_⟩
   have:=(h x hx).2 z (by omega)
   omega
  ·intro h x hx
   refine ⟨(h x hx).1,fun z hz=> ?_⟩
   rcases Nat.lt_trichotomy x z with h1|h1|h1
   ·have:=(h z hz).2 x h1;omega
   ·omega
   ·have:=(h x hx).2 z h1;omega
 have e2:(List.range g.es.length).all (E6 g b)=(List.range g.es.length).all (Fz g b):=by
  rw [Bool.eq_iff_iff]
  simp only [List.all_eq_true,List.mem_range,E6,Fz,Bool.and_eq_true,decide_eq_true_eq,Bool.not_eq_true',CR,CB,Bool.and_eq_false_iff,Bool.or_eq_false_iff,Bool.not_eq_false',Bool.or_eq_true,decide_eq_false_iff_not,Bool.not_eq_eq_eq_not,Bool.not_true,Bool.not_false]
  constructor
  ·intro h i hi
   refine ⟨(h i hi).1,fun k hk=> ?_⟩
   have:=(h i hi).2 k (by omega)
   omega
  ·intro h i hi
   refine ⟨(h i hi).1,fun k hk=> ?_⟩
   rcases Nat.lt_trichotomy i k with h1|h1|h1
   ·have:=(h k hk).2 i h1;omega
   ·omega
   ·have:=(h i hi).2 k h1;omega
 unfold fP cB
 rw [e1,e2]
end Go.Ab
end
section
namespace Go.Ab
open Go.Proofs
attribute [local congr] ACall.congr
set_option maxRecDepth 20000
set_option maxHeartbeats 32000000
theorem uo (g:Gr) (b:Br) (hl:g.es.length≤1000) (an:b.y.length≤1000) (ak:b.x.length≤1000):Spec Tryz.prog 40 (Args [eG g,aI b]) [] (eB (cB g b)) []:=by
 rw [← yV]
 have Il:=aX g (by omega)
 by_cases hc:(bJ g).1=0
 rotate_left
 ·have hr:fP g b=false:=by unfold fP;rw [decide_eq_false hc];rfl
  rw [hr]
  rw [decide_eq_false hc] at Il
  (refine Spec.intro (C:=T.cfg [] []) (rs:= [.t 4]) (T.aj _ _) Tryz.func40 rfl rfl Tryz.ntmps40 Tryz.results40 (by simp [AObj.isNest]) (by simp [AObj.isNest]) (by kernel_rfl) ?_;intro X hX hP hC aD aF vals hA;refine ⟨_,by simp,hA, ?_⟩;have af:X.P.follows .mixedOrders=true:=(by rw [hP];exact T.mixed);clear aD aF)
  repeat' (first|((first|((with_reducible (first|apply oA|apply oB));exact rfl;intro K hK)|(refine hK _ ?_;clear hK K)|((with_reducible (first|apply oG|apply oH));iterate 3 exact rfl)|((with_reducible apply oI);(iterate 2 exact rfl);intro K hK)|(with_reducible (first|apply wI|apply wJ|apply wK)));try simp only [go_sem,simprocAttr,aI])|(with_reducible (first|apply oC|apply oJ|exact oK|apply wA|apply wB|apply wC hX hC|apply wD hX hC|apply wE hX hC af|apply wF hX hC af|apply wG|apply wH|apply And.intro))|((with_reducible refine oD ?_ ?_);kernel_rfl)|((with_reducible (first|apply oE|apply oF));(iterate 3 exact rfl);all_goals (intro h;first|(exact absurd h (by decide))|((try simp only [go_sem,simprocAttr,aI] at h);(try with_reducible intro K hK);simp only [go_sem,simprocAttr,aI])))|((first|((with_reducible apply wL);exact rfl)|((with_reducible apply wM);exact rfl));all_goals (try ((with_reducible intro h);first|(exact absurd h (by decide))|(try simp only [go_sem,simprocAttr,aI] at h))))|omega|((first|refine aa hX hC hP (Il) rfl rfl rfl (by simp only [go_sem,simprocAttr,aI]) rfl ?_);try simp only [go_sem,simprocAttr,aI])|(intro h))
 rw [decide_eq_true hc] at Il
 cases FA:nk b g with
 |false=>
  have hr:fP g b=false:=by unfold fP;rw [FA];simp
  rw [hr]
  have hf:nk b g=(decide ((b.y.length:Int)=g.n)&&decide ((b.fr.length:Int)=g.n)&&decide ((b.to.length:Int)=g.n)&&decide ((b.x.length:Int)=(g.es.length:Int))):=rfl
  rw [FA] at hf
  cases h1:decide ((b.y.length:Int)=g.n)<;>cases h2:decide ((b.fr.length:Int)=g.n)<;>cases h3:decide ((b.to.length:Int)=g.n)<;>cases h4:decide ((b.x.length:Int)=(g.es.length:Int))<;>rw [h1,h2,h3,h4] at hf<;>simp only [Bool.and_true,Bool.and_false,Bool.true_and,Bool.false_and] at hf
  all_goals (first|(exact absurd hf (by decide))|skip)
  all_goals (
  (refine Spec.intro (C:=T.cfg [] []) (rs:= [.t 4]) (T.aj _ _) Tryz.func40 rfl rfl Tryz.ntmps40 Tryz.results40 (by simp [AObj.isNest]) (by simp [AObj.isNest]) (by kernel_rfl) ?_;intro X hX hP hC aD aF vals hA;refine ⟨_,by simp,hA, ?_⟩;have af:X.P.follows .mixedOrders=true:=(by rw [hP];exact T.mixed);clear aD aF)
  repeat' (first|((first|((with_reducible (first|apply oA|apply oB));exact rfl;intro K hK)|(refine hK _ ?_;clear hK K)|((with_reducible (first|apply oG|apply oH));iterate 3 exact rfl)|((with_reducible apply oI);(iterate 2 exact rfl);intro K hK)|(with_reducible (first|apply wI|apply wJ|apply wK)));try simp only [go_sem,simprocAttr,aI,h1,h2,h3,h4])|(with_reducible (first|apply oC|apply oJ|exact oK|apply wA|apply wB|apply wC hX hC|apply wD hX hC|apply wE hX hC af|apply wF hX hC af|apply wG|apply wH|apply And.intro))|((with_reducible refine oD ?_ ?_);kernel_rfl)|((with_reducible (first|apply oE|apply oF));(iterate 3 exact rfl);all_goals (intro h;first|(exact absurd h (by decide))|((try simp only [go_sem,simprocAttr,aI,h1,h2,h3,h4] at h);(try with_reducible intro K hK);simp only [go_sem,simprocAttr,aI,h1,h2,h3,h4])))|((first|((with_reducible apply wL);exact rfl)|((with_reducible apply wM);exact rfl));all_goals (try ((with_reducible intro h);first|(exact absurd h (by decide))|(try simp only [go_sem,simprocAttr,aI,h1,h2,h3,h4] at h))))|omega|((first|refine aa hX hC hP (Il) rfl rfl rfl (by simp only [go_sem,simprocAttr,aI,h1,h2,h3,h4]) rfl ?_);try simp only [go_sem,simprocAttr,aI,h1,h2,h3,h4])|(intro h)))
 |true=>
 have hm:=aA hc
 have hn:=aT hm
 have E3:=FA
 simp only [nk,Bool.and_eq_true,decide_eq_true_eq] at E3
 obtain ⟨⟨⟨l1,l2⟩,l3⟩,l4⟩:=E3
 have l5:b.fr.length=b.y.length:=by omega
 have l6:b.to.length=b.y.length:=by omega
 have l7:b.x.length=g.es.length:=by omega
 have m1:decide ((b.y.length:Int)=g.n)=true:=decide_eq_true l1
 have CM:g.n=(b.y.length:Int):=by omega
 have hr:fP g b=((List.range b.y.length).all (E5 b b.y.length)&&(List.range g.es.length).all (E6 g b)):=by
  unfold fP;rw [decide_eq_true hc,FA];rfl
 rw [hr]
 (refine Spec.intro (C:=T.cfg [] []) (rs:= [.t 4]) (T.aj _ _) Tryz.func40 rfl rfl Tryz.ntmps40 Tryz.results40 (by simp [AObj.isNest]) (by simp [AObj.isNest]) (by kernel_rfl) ?_;intro X hX hP hC aD aF vals hA;refine ⟨_,by simp,hA, ?_⟩;have af:X.P.follows .mixedOrders=true:=(by rw [hP];exact T.mixed);clear aD aF)
 repeat' (first|((first|((with_reducible (first|apply oA|apply oB));exact rfl;intro K hK)|(refine hK _ ?_;clear hK K)|((with_reducible (first|apply oG|apply oH));iterate 3 exact rfl)|((with_reducible apply oI);(iterate 2 exact rfl);intro K hK)|(with_reducible (first|apply wI|apply wJ|apply wK)));try simp only [go_sem,simprocAttr,aI,l5,l6,l7,m1,decide_true])|(with_reducible (first|apply oC|apply oJ|exact oK|apply wA|apply wB|apply wC hX hC|apply wD hX hC|apply wE hX hC af|apply wF hX hC af|apply wG|apply wH|apply And.intro))|((with_reducible refine oD ?_ ?_);kernel_rfl)|((with_reducible (first|apply oE|apply oF));(iterate 3 exact rfl);all_goals (intro h;first|(exact absurd h (by decide))|((try simp only [go_sem,simprocAttr,aI,l5,l6,l7,m1,decide_true] at h);(try with_reducible intro K hK);simp only [go_sem,simprocAttr,aI,l5,l6,l7,m1,decide_true])))|((first|((with_reducible apply wL);exact rfl)|((with_reducible apply wM);exact rfl));all_goals (try ((with_reducible intro h);first|(exact absurd h (by decide))|(try simp only [go_sem,simprocAttr,aI,l5,l6,l7,m1,decide_true] at h))))|omega|((first|refine aa hX hC hP (Il) rfl rfl rfl (by simp only [go_sem,simprocAttr,aI,l5,l6,l7,m1,decide_true]) rfl ?_);try simp only [go_sem,simprocAttr,aI,l5,l6,l7,m1,decide_true])|(intro h))
 refine ah (fun k:Nat=>k≤b.y.length∧∀j,j<k→E5 b b.y.length j=true) (fun k=>⟨[(2, .ptr 2 0),(3, .ptr 3 0),(5,eN k)], [(2, .box [eN g.n, .d (sE g.es)]),(3, .box [.d (sI b.y), .d (sI b.fr), .d (sI b.to), .d (sI b.x)])]⟩) (fun k=>b.y.length - k) 0 ⟨by omega,fun j hj=>by omega⟩ ?_ ?_
 ·refine Le.of ?_ ?_<;>simp [go_sem,simprocAttr,aI]
 rintro k ⟨hk,hin⟩
 rcases Nat.lt_or_ge k b.y.length with bT|An
 ·have hb:decide ((k:Int)<g.n)=true:=decide_eq_true (by omega)
  by_cases DY:b.fr.getD k 0≤b.to.getD k 0
  rotate_left
  ·have hc1:decide (b.to.getD k 0<b.fr.getD k 0)=true:=decide_eq_true (by omega)
   rw [gl bT (f:=E5 b b.y.length) (by unfold E5;rw [decide_eq_false DY];rfl),Bool.false_and]
   repeat' (first|((first|((with_reducible (first|apply oA|apply oB));exact rfl;intro K hK)|(refine hK _ ?_;clear hK K)|((with_reducible (first|apply oG|apply oH));iterate 3 exact rfl)|((with_reducible apply oI);(iterate 2 exact rfl);intro K hK)|(with_reducible (first|apply wI|apply wJ|apply wK)));try simp only [go_sem,simprocAttr,hb,hc1,l5,l6])|(with_reducible (first|apply oC|apply oJ|exact oK|apply wA|apply wB|apply wC hX hC|apply wD hX hC|apply wE hX hC af|apply wF hX hC af|apply wG|apply wH|apply And.intro))|((with_reducible refine oD ?_ ?_);kernel_rfl)|((with_reducible (first|apply oE|apply oF));(iterate 3 exact rfl);all_goals (intro h;first|(exact absurd h (by decide))|((try simp only [go_sem,simprocAttr,hb,hc1,l5,l6] at h);(try with_reducible intro K hK);simp only [go_sem,simprocAttr,hb,hc1,l5,l6])))|((first|((with_reducible apply wL);exact rfl)|((with_reducible apply wM);exact rfl));all_goals (try ((with_reducible intro h);first|(exact absurd h (by decide))|(try simp only [go_sem,simprocAttr,hb,hc1,l5,l6] at h))))|omega|(intro h))
  have hc1:decide (b.to.getD k 0<b.fr.getD k 0)=false:=decide_eq_false (by omega)
  repeat' (first|((first|((with_reducible (first|apply oA|apply oB));exact rfl;intro K hK)|(refine hK _ ?_;clear hK K)|((with_reducible (first|apply oG|apply oH));iterate 3 exact rfl)|((with_reducible apply oI);(iterate 2 exact rfl);intro K hK)|(with_reducible (first|apply wI|apply wJ|apply wK)));try simp only [go_sem,simprocAttr,hb,hc1,l5,l6])|(with_reducible (first|apply oC|apply oJ|exact oK|apply wA|apply wB|apply wC hX hC|apply wD hX hC|apply wE hX hC af|apply wF hX hC af|apply wG|apply wH|apply And.intro))|((with_reducible refine oD ?_ ?_);kernel_rfl)|((with_reducible (first|apply oE|apply oF));(iterate 3 exact rfl);all_goals (intro h;first|(exact absurd h (by decide))|((try simp only [go_sem,simprocAttr,hb,hc1,l5,l6] at h);(try with_reducible intro K hK);simp only [go_sem,simprocAttr,hb,hc1,l5,l6])))|((first|((with_reducible apply wL);exact rfl)|((with_reducible apply wM);exact rfl));all_goals (try ((with_reducible intro h);first|(exact absurd h (by decide))|(try simp only [go_sem,simprocAttr,hb,hc1,l5,l6] at h))))|omega|(intro h))
  refine ah (fun z:Nat=>z≤b.y.length∧∀j,j<z→FB b k j=false) (fun z=>⟨[(2, .ptr 2 0),(3, .ptr 3 0),(5,eN k),(6,eN z)], [(2, .box [eN g.n, .d (sE g.es)]),(3, .box [.d (sI b.y), .d (sI b.fr), .d (sI b.to), .d (sI b.x)])]⟩) (fun z=>b.y.length - z) 0 ⟨by omega,fun j hj=>by omega⟩ ?_ ?_
  ·refine Le.of ?_ ?_<;>simp [go_sem,simprocAttr]
  rintro z ⟨hz,EZ⟩
  rcases Nat.lt_or_ge z b.y.length with hzl|Mo
  rotate_left
  ·have hbz:decide ((z:Int)<g.n)=false:=decide_eq_false (by omega)
   obtain rfl:z=b.y.length:=by omega
   repeat' (first|((first|((with_reducible (first|apply oA|apply oB));exact rfl;intro K hK)|(refine hK _ ?_;clear hK K)|((with_reducible (first|apply oG|apply oH));iterate 3 exact rfl)|((with_reducible apply oI);(iterate 2 exact rfl);intro K hK)|(with_reducible (first|apply wI|apply wJ|apply wK)));try simp only [go_sem,simprocAttr,hbz])|(with_reducible (first|apply oC|apply oJ|exact oK|apply wA|apply wB|apply wC hX hC|apply wD hX hC|apply wE hX hC af|apply wF hX hC af|apply wG|apply wH|apply And.intro))|((with_reducible refine oD ?_ ?_);kernel_rfl)|((with_reducible (first|apply oE|apply oF));(iterate 3 exact rfl);all_goals (intro h;first|(exact absurd h (by decide))|((try simp only [go_sem,simprocAttr,hbz] at h);(try with_reducible intro K hK);simp only [go_sem,simprocAttr,hbz])))|((first|((with_reducible apply wL);exact rfl)|((with_reducible apply wM);exact rfl));all_goals (try ((with_reducible intro h);first|(exact absurd h (by decide))|(try simp only [go_sem,simprocAttr,hbz] at h))))|omega|(intro h))
   refine ⟨k+1,⟨by omega,fun j hj=> ?_⟩, ?_,by omega⟩
   ·by_cases uc:j=k
    ·subst uc
     unfold E5
     rw [decide_eq_true DY,gK (f:=fun z=> !FB b j z) (fun i hi=>by rw [EZ i hi];rfl)];rfl
    ·exact hin j (by omega)
   ·refine Le.of ?_ ?_<;>simp [go_sem,simprocAttr,hbz]
  have hbz:decide ((z:Int)<g.n)=true:=decide_eq_true (by omega)
  have hap:FB b k z=(!decide ((k:Int)=(z:Int))&&decide (b.y.getD k 0=b.y.getD z 0)&& !(decide (b.to.getD k 0<b.fr.getD z 0)||decide (b.to.getD z 0<b.fr.getD k 0))):=rfl
  have hno:FB b k z=true→((List.range b.y.length).all (E5 b b.y.length)&&(List.range g.es.length).all (E6 g b))=false:=fun h1=>by
   rw [gl bT (f:=E5 b b.y.length) (by unfold E5;rw [gl (f:=fun z=> !FB b k z) hzl (by rw [h1];rfl),Bool.and_false]),Bool.false_and]
  have hyes:FB b k z=false→∀j,j<z+1→FB b k j=false:=fun h1 j hj=>by
   by_cases uc:j=z
   ·subst uc;exact h1
   ·exact EZ j (by omega)
  generalize FB b k z=av at*
  cases KB:decide ((k:Int)=(z:Int))<;>cases gZ:decide (b.y.getD k 0=b.y.getD z 0)<;>cases hd2:decide (b.to.getD k 0<b.fr.getD z 0)<;>cases mR:decide (b.to.getD z 0<b.fr.getD k 0)<;>rw [KB,gZ,hd2,mR] at hap<;>simp only [Bool.and_true,Bool.and_false,Bool.true_and,Bool.false_and,Bool.not_true,Bool.not_false,Bool.or_true,Bool.or_false] at hap<;>subst hap
  all_goals (
  repeat' (first|((first|((with_reducible (first|apply oA|apply oB));exact rfl;intro K hK)|(refine hK _ ?_;clear hK K)|((with_reducible (first|apply oG|apply oH));iterate 3 exact rfl)|((with_reducible apply oI);(iterate 2 exact rfl);intro K hK)|(with_reducible (first|apply wI|apply wJ|apply wK)));try simp only [go_sem,simprocAttr,hbz,KB,gZ,hd2,mR,l5,l6])|(with_reducible (first|apply oC|apply oJ|exact oK|apply wA|apply wB|apply wC hX hC|apply wD hX hC|apply wE hX hC af|apply wF hX hC af|apply wG|apply wH|apply And.intro))|((with_reducible refine oD ?_ ?_);kernel_rfl)|((with_reducible (first|apply oE|apply oF));(iterate 3 exact rfl);all_goals (intro h;first|(exact absurd h (by decide))|((try simp only [go_sem,simprocAttr,hbz,KB,gZ,hd2,mR,l5,l6] at h);(try with_reducible intro K hK);simp only [go_sem,simprocAttr,hbz,KB,gZ,hd2,mR,l5,l6])))|((first|((with_reducible apply wL);exact rfl)|((with_reducible apply wM);exact rfl));all_goals (try ((with_reducible intro h);first|(exact absurd h (by decide))|(try simp only [go_sem,simprocAttr,hbz,KB,gZ,hd2,mR,l5,l6] at h))))|omega|(intro h)))
  all_goals (first|(exact hno rfl)|(exact (hno rfl).symm)|(refine ⟨z+1,⟨by omega,hyes rfl⟩, ?_,by omega⟩;refine Le.of ?_ ?_<;>simp [go_sem];done)|trace_state)
 have hb:decide ((k:Int)<g.n)=false:=decide_eq_false (by omega)
 obtain rfl:k=b.y.length:=by omega
 rw [gK hin,Bool.true_and]
 repeat' (first|((first|((with_reducible (first|apply oA|apply oB));exact rfl;intro K hK)|(refine hK _ ?_;clear hK K)|((with_reducible (first|apply oG|apply oH));iterate 3 exact rfl)|((with_reducible apply oI);(iterate 2 exact rfl);intro K hK)|(with_reducible (first|apply wI|apply wJ|apply wK)));try simp only [go_sem,simprocAttr,hb])|(with_reducible (first|apply oC|apply oJ|exact oK|apply wA|apply wB|apply wC hX hC|apply wD hX hC|apply wE hX hC af|apply wF hX hC af|apply wG|apply wH|apply And.intro))|((with_reducible refine oD ?_ ?_);kernel_rfl)|((with_reducible (first|apply oE|apply oF));(iterate 3 exact rfl);all_goals (intro h;first|(exact absurd h (by decide))|((try simp only [go_sem,simprocAttr,hb] at h);(try with_reducible intro K hK);simp only [go_sem,simprocAttr,hb])))|((first|((with_reducible apply wL);exact rfl)|((with_reducible apply wM);exact rfl));all_goals (try ((with_reducible intro h);first|(exact absurd h (by decide))|(try simp only [go_sem,simprocAttr,hb] at h))))|omega|(intro h))
 refine ah (fun i:Nat=>i≤g.es.length∧∀j,j<i→E6 g b j=true) (fun i=>⟨[(2, .ptr 2 0),(3, .ptr 3 0),(7,eN i)], [(2, .box [eN g.n, .d (sE g.es)]),(3, .box [.d (sI b.y), .d (sI b.fr), .d (sI b.to), .d (sI b.x)])]⟩) (fun i=>g.es.length - i) 0 ⟨by omega,fun j hj=>by omega⟩ ?_ ?_
 ·refine Le.of ?_ ?_<;>simp [go_sem,simprocAttr]
 rintro i ⟨hi,KC⟩
 rcases Nat.lt_or_ge i g.es.length with hil|J2
 rotate_left
 ·have fA:decide ((i:Int)<(g.es.length:Int))=false:=decide_eq_false (by omega)
  obtain rfl:i=g.es.length:=by omega
  rw [gK KC]
  repeat' (first|((first|((with_reducible (first|apply oA|apply oB));exact rfl;intro K hK)|(refine hK _ ?_;clear hK K)|((with_reducible (first|apply oG|apply oH));iterate 3 exact rfl)|((with_reducible apply oI);(iterate 2 exact rfl);intro K hK)|(with_reducible (first|apply wI|apply wJ|apply wK)));try simp only [go_sem,simprocAttr,fA])|(with_reducible (first|apply oC|apply oJ|exact oK|apply wA|apply wB|apply wC hX hC|apply wD hX hC|apply wE hX hC af|apply wF hX hC af|apply wG|apply wH|apply And.intro))|((with_reducible refine oD ?_ ?_);kernel_rfl)|((with_reducible (first|apply oE|apply oF));(iterate 3 exact rfl);all_goals (intro h;first|(exact absurd h (by decide))|((try simp only [go_sem,simprocAttr,fA] at h);(try with_reducible intro K hK);simp only [go_sem,simprocAttr,fA])))|((first|((with_reducible apply wL);exact rfl)|((with_reducible apply wM);exact rfl));all_goals (try ((with_reducible intro h);first|(exact absurd h (by decide))|(try simp only [go_sem,simprocAttr,fA] at h))))|omega|(intro h))
 have fA:decide ((i:Int)<(g.es.length:Int))=true:=decide_eq_true (by omega)
 obtain ⟨t1,t2⟩:=dS hm hil
 obtain ⟨s,hs⟩:∃s:Nat,(g.es.getD i (0,0)).1=s:=⟨(g.es.getD i (0,0)).1.toNat,by omega⟩
 obtain ⟨t,ht⟩:∃t:Nat,(g.es.getD i (0,0)).2=t:=⟨(g.es.getD i (0,0)).2.toNat,by omega⟩
 have hts:(tl g i).toNat=s:=by show ((g.es.getD i (0,0)).1).toNat=s;rw [hs];rfl
 have y7:(hd g i).toNat=t:=by show ((g.es.getD i (0,0)).2).toNat=t;rw [ht];rfl
 have mA:E6 g b i=(dU b s t (b.x.getD i 0)&&(List.range g.es.length).all fun k=> !CR g b i k):=by unfold E6;rw [hts,y7]
 have hW:=fun x (hx:x<b.y.length)=>yU b x (b.x.getD i 0) (by omega) (by omega) (by omega)
 have KE:=hW s (by omega)
 have La:=hW t (by omega)
 have dB:dU b s t (b.x.getD i 0)=(decide (b.y.getD s 0<b.y.getD t 0)&&hasB b s (b.x.getD i 0)&&hasB b t (b.x.getD i 0)&&(List.range b.y.length).all fun x=> !xd b (b.y.getD s 0) (b.y.getD t 0) (b.x.getD i 0) x):=rfl
 have Gy:dU b s t (b.x.getD i 0)=false→(List.range g.es.length).all (E6 g b)=false:=fun h1=>gl hil (by rw [mA,h1];rfl)
 generalize hq:b.x.getD i 0=q at*
 by_cases hc1:b.y.getD s 0<b.y.getD t 0
 rotate_left
 ·have gZ:decide (b.y.getD t 0≤b.y.getD s 0)=true:=decide_eq_true (by omega)
  rw [Gy (by rw [dB,decide_eq_false hc1];rfl)]
  repeat' (first|((first|((with_reducible (first|apply oA|apply oB));exact rfl;intro K hK)|(refine hK _ ?_;clear hK K)|((with_reducible (first|apply oG|apply oH));iterate 3 exact rfl)|((with_reducible apply oI);(iterate 2 exact rfl);intro K hK)|(with_reducible (first|apply wI|apply wJ|apply wK)));try simp only [go_sem,simprocAttr,fA,hs,ht,gZ])|(with_reducible (first|apply oC|apply oJ|exact oK|apply wA|apply wB|apply wC hX hC|apply wD hX hC|apply wE hX hC af|apply wF hX hC af|apply wG|apply wH|apply And.intro))|((with_reducible refine oD ?_ ?_);kernel_rfl)|((with_reducible (first|apply oE|apply oF));(iterate 3 exact rfl);all_goals (intro h;first|(exact absurd h (by decide))|((try simp only [go_sem,simprocAttr,fA,hs,ht,gZ] at h);(try with_reducible intro K hK);simp only [go_sem,simprocAttr,fA,hs,ht,gZ])))|((first|((with_reducible apply wL);exact rfl)|((with_reducible apply wM);exact rfl));all_goals (try ((with_reducible intro h);first|(exact absurd h (by decide))|(try simp only [go_sem,simprocAttr,fA,hs,ht,gZ] at h))))|omega|(intro h))
 have gZ:decide (b.y.getD t 0≤b.y.getD s 0)=false:=decide_eq_false (by omega)
 rw [decide_eq_true hc1,Bool.true_and] at dB
 cases hvs:hasB b s q with
 |false=>
  rw [hvs] at KE
  rw [Gy (by rw [dB,hvs];rfl)]
  repeat' (first|((first|((with_reducible (first|apply oA|apply oB));exact rfl;intro K hK)|(refine hK _ ?_;clear hK K)|((with_reducible (first|apply oG|apply oH));iterate 3 exact rfl)|((with_reducible apply oI);(iterate 2 exact rfl);intro K hK)|(with_reducible (first|apply wI|apply wJ|apply wK)));try simp only [go_sem,simprocAttr,aI,fA,hs,ht,gZ,hq,l7])|(with_reducible (first|apply oC|apply oJ|exact oK|apply wA|apply wB|apply wC hX hC|apply wD hX hC|apply wE hX hC af|apply wF hX hC af|apply wG|apply wH|apply And.intro))|((with_reducible refine oD ?_ ?_);kernel_rfl)|((with_reducible (first|apply oE|apply oF));(iterate 3 exact rfl);all_goals (intro h;first|(exact absurd h (by decide))|((try simp only [go_sem,simprocAttr,aI,fA,hs,ht,gZ,hq,l7] at h);(try with_reducible intro K hK);simp only [go_sem,simprocAttr,aI,fA,hs,ht,gZ,hq,l7])))|((first|((with_reducible apply wL);exact rfl)|((with_reducible apply wM);exact rfl));all_goals (try ((with_reducible intro h);first|(exact absurd h (by decide))|(try simp only [go_sem,simprocAttr,aI,fA,hs,ht,gZ,hq,l7] at h))))|omega|((first|refine aa hX hC hP (KE) rfl rfl rfl (by simp only [go_sem,simprocAttr,aI,fA,hs,ht,gZ,hq,l7]) rfl ?_);try simp only [go_sem,simprocAttr,aI,fA,hs,ht,gZ,hq,l7])|(intro h))
 |true=>
 rw [hvs] at KE dB
 cases G5:hasB b t q with
 |false=>
  rw [G5] at La
  rw [Gy (by rw [dB,G5];rfl)]
  repeat' (first|((first|((with_reducible (first|apply oA|apply oB));exact rfl;intro K hK)|(refine hK _ ?_;clear hK K)|((with_reducible (first|apply oG|apply oH));iterate 3 exact rfl)|((with_reducible apply oI);(iterate 2 exact rfl);intro K hK)|(with_reducible (first|apply wI|apply wJ|apply wK)));try simp only [go_sem,simprocAttr,aI,fA,hs,ht,gZ,hq,l7])|(with_reducible (first|apply oC|apply oJ|exact oK|apply wA|apply wB|apply wC hX hC|apply wD hX hC|apply wE hX hC af|apply wF hX hC af|apply wG|apply wH|apply And.intro))|((with_reducible refine oD ?_ ?_);kernel_rfl)|((with_reducible (first|apply oE|apply oF));(iterate 3 exact rfl);all_goals (intro h;first|(exact absurd h (by decide))|((try simp only [go_sem,simprocAttr,aI,fA,hs,ht,gZ,hq,l7] at h);(try with_reducible intro K hK);simp only [go_sem,simprocAttr,aI,fA,hs,ht,gZ,hq,l7])))|((first|((with_reducible apply wL);exact rfl)|((with_reducible apply wM);exact rfl));all_goals (try ((with_reducible intro h);first|(exact absurd h (by decide))|(try simp only [go_sem,simprocAttr,aI,fA,hs,ht,gZ,hq,l7] at h))))|omega|((first|refine aa hX hC hP (KE) rfl rfl rfl (by simp only [go_sem,simprocAttr,aI,fA,hs,ht,gZ,hq,l7]) rfl ?_|refine aa hX hC hP (La) rfl rfl rfl (by simp only [go_sem,simprocAttr,aI,fA,hs,ht,gZ,hq,l7]) rfl ?_);try simp only [go_sem,simprocAttr,aI,fA,hs,ht,gZ,hq,l7])|(intro h))
 |true=>
 rw [G5] at La dB
 rw [Bool.true_and,Bool.true_and] at dB
 repeat' (first|((first|((with_reducible (first|apply oA|apply oB));exact rfl;intro K hK)|(refine hK _ ?_;clear hK K)|((with_reducible (first|apply oG|apply oH));iterate 3 exact rfl)|((with_reducible apply oI);(iterate 2 exact rfl);intro K hK)|(with_reducible (first|apply wI|apply wJ|apply wK)));try simp only [go_sem,simprocAttr,aI,fA,hs,ht,gZ,hq,l7])|(with_reducible (first|apply oC|apply oJ|exact oK|apply wA|apply wB|apply wC hX hC|apply wD hX hC|apply wE hX hC af|apply wF hX hC af|apply wG|apply wH|apply And.intro))|((with_reducible refine oD ?_ ?_);kernel_rfl)|((with_reducible (first|apply oE|apply oF));(iterate 3 exact rfl);all_goals (intro h;first|(exact absurd h (by decide))|((try simp only [go_sem,simprocAttr,aI,fA,hs,ht,gZ,hq,l7] at h);(try with_reducible intro K hK);simp only [go_sem,simprocAttr,aI,fA,hs,ht,gZ,hq,l7])))|((first|((with_reducible apply wL);exact rfl)|((with_reducible apply wM);exact rfl));all_goals (try ((with_reducible intro h);first|(exact absurd h (by decide))|(try simp only [go_sem,simprocAttr,aI,fA,hs,ht,gZ,hq,l7] at h))))|omega|((first|refine aa hX hC hP (KE) rfl rfl rfl (by simp only [go_sem,simprocAttr,aI,fA,hs,ht,gZ,hq,l7]) rfl ?_|refine aa hX hC hP (La) rfl rfl rfl (by simp only [go_sem,simprocAttr,aI,fA,hs,ht,gZ,hq,l7]) rfl ?_);try simp only [go_sem,simprocAttr,aI,fA,hs,ht,gZ,hq,l7])|(intro h))
 refine ah (fun x:Nat=>x≤b.y.length∧∀j,j<x→xd b (b.y.getD s 0) (b.y.getD t 0) q j=false) (fun x=>⟨[(2, .ptr 2 0),(3, .ptr 3 0),(7,eN i),(8, .ptr 8 0),(9,eN x)], [(2, .box [eN g.n, .d (sE g.es)]),(3, .box [.d (sI b.y), .d (sI b.fr), .d (sI b.to), .d (sI b.x)]),(8, .box [eN s,eN t])]⟩) (fun x=>b.y.length - x) 0 ⟨by omega,fun j hj=>by omega⟩ ?_ ?_
 ·refine Le.of ?_ ?_<;>simp [go_sem,simprocAttr]
 rintro x ⟨hx,KF⟩
 rcases Nat.lt_or_ge x b.y.length with hxl|Em
 ·have oO:decide ((x:Int)<g.n)=true:=decide_eq_true (by omega)
  have N7:=hW x hxl
  have hap:xd b (b.y.getD s 0) (b.y.getD t 0) q x=(decide (b.y.getD s 0<b.y.getD x 0)&&decide (b.y.getD x 0<b.y.getD t 0)&&hasB b x q):=rfl
  have hno:xd b (b.y.getD s 0) (b.y.getD t 0) q x=true→(List.range g.es.length).all (E6 g b)=false:=fun h1=>Gy (by rw [dB];exact gl (f:=fun x=> !xd b (b.y.getD s 0) (b.y.getD t 0) q x) hxl (by rw [h1];rfl))
  have hyes:xd b (b.y.getD s 0) (b.y.getD t 0) q x=false→∀j,j<x+1→xd b (b.y.getD s 0) (b.y.getD t 0) q j=false:=fun h1 j hj=>by
   by_cases uc:j=x
   ·subst uc;exact h1
   ·exact KF j (by omega)
  generalize xd b (b.y.getD s 0) (b.y.getD t 0) q x=av at*
  cases hd2:decide (b.y.getD s 0<b.y.getD x 0)<;>cases mR:decide (b.y.getD x 0<b.y.getD t 0)<;>cases G6:hasB b x q<;>rw [hd2,mR,G6] at hap<;>simp only [Bool.and_true,Bool.and_false,Bool.true_and,Bool.false_and] at hap<;>subst hap<;>rw [G6] at N7
  all_goals (
  repeat' (first|((first|((with_reducible (first|apply oA|apply oB));exact rfl;intro K hK)|(refine hK _ ?_;clear hK K)|((with_reducible (first|apply oG|apply oH));iterate 3 exact rfl)|((with_reducible apply oI);(iterate 2 exact rfl);intro K hK)|(with_reducible (first|apply wI|apply wJ|apply wK)));try simp only [go_sem,simprocAttr,aI,oO,hd2,mR,hq,l7])|(with_reducible (first|apply oC|apply oJ|exact oK|apply wA|apply wB|apply wC hX hC|apply wD hX hC|apply wE hX hC af|apply wF hX hC af|apply wG|apply wH|apply And.intro))|((with_reducible refine oD ?_ ?_);kernel_rfl)|((with_reducible (first|apply oE|apply oF));(iterate 3 exact rfl);all_goals (intro h;first|(exact absurd h (by decide))|((try simp only [go_sem,simprocAttr,aI,oO,hd2,mR,hq,l7] at h);(try with_reducible intro K hK);simp only [go_sem,simprocAttr,aI,oO,hd2,mR,hq,l7])))|((first|((with_reducible apply wL);exact rfl)|((with_reducible apply wM);exact rfl));all_goals (try ((with_reducible intro h);first|(exact absurd h (by decide))|(try simp only [go_sem,simprocAttr,aI,oO,hd2,mR,hq,l7] at h))))|omega|((first|refine aa hX hC hP (N7) rfl rfl rfl (by simp only [go_sem,simprocAttr,aI,oO,hd2,mR,hq,l7]) rfl ?_);try simp only [go_sem,simprocAttr,aI,oO,hd2,mR,hq,l7])|(intro h)))
  all_goals (first|(exact hno rfl)|(exact (hno rfl).symm)|(refine ⟨x+1,⟨by omega,hyes rfl⟩, ?_,by omega⟩;refine Le.of ?_ ?_<;>simp [go_sem];done)|trace_state)
 have oO:decide ((x:Int)<g.n)=false:=decide_eq_false (by omega)
 obtain rfl:x=b.y.length:=by omega
 have Nb:dU b s t q=true:=by rw [dB];exact gK fun j hj=>by rw [KF j hj];rfl
 rw [Nb,Bool.true_and] at mA
 repeat' (first|((first|((with_reducible (first|apply oA|apply oB));exact rfl;intro K hK)|(refine hK _ ?_;clear hK K)|((with_reducible (first|apply oG|apply oH));iterate 3 exact rfl)|((with_reducible apply oI);(iterate 2 exact rfl);intro K hK)|(with_reducible (first|apply wI|apply wJ|apply wK)));try simp only [go_sem,simprocAttr,oO])|(with_reducible (first|apply oC|apply oJ|exact oK|apply wA|apply wB|apply wC hX hC|apply wD hX hC|apply wE hX hC af|apply wF hX hC af|apply wG|apply wH|apply And.intro))|((with_reducible refine oD ?_ ?_);kernel_rfl)|((with_reducible (first|apply oE|apply oF));(iterate 3 exact rfl);all_goals (intro h;first|(exact absurd h (by decide))|((try simp only [go_sem,simprocAttr,oO] at h);(try with_reducible intro K hK);simp only [go_sem,simprocAttr,oO])))|((first|((with_reducible apply wL);exact rfl)|((with_reducible apply wM);exact rfl));all_goals (try ((with_reducible intro h);first|(exact absurd h (by decide))|(try simp only [go_sem,simprocAttr,oO] at h))))|omega|(intro h))
 refine ah (fun k:Nat=>k≤g.es.length∧∀j,j<k→CR g b i j=false) (fun k=>⟨[(2, .ptr 2 0),(3, .ptr 3 0),(7,eN i),(8, .ptr 8 0),(10,eN k)], [(2, .box [eN g.n, .d (sE g.es)]),(3, .box [.d (sI b.y), .d (sI b.fr), .d (sI b.to), .d (sI b.x)]),(8, .box [eN s,eN t])]⟩) (fun k=>g.es.length - k) 0 ⟨by omega,fun j hj=>by omega⟩ ?_ ?_
 ·refine Le.of ?_ ?_<;>simp [go_sem,simprocAttr]
 rintro k ⟨hk2,E4⟩
 rcases Nat.lt_or_ge k g.es.length with bT|An
 rotate_left
 ·have hbk:decide ((k:Int)<(g.es.length:Int))=false:=decide_eq_false (by omega)
  obtain rfl:k=g.es.length:=by omega
  repeat' (first|((first|((with_reducible (first|apply oA|apply oB));exact rfl;intro K hK)|(refine hK _ ?_;clear hK K)|((with_reducible (first|apply oG|apply oH));iterate 3 exact rfl)|((with_reducible apply oI);(iterate 2 exact rfl);intro K hK)|(with_reducible (first|apply wI|apply wJ|apply wK)));try simp only [go_sem,simprocAttr,hbk])|(with_reducible (first|apply oC|apply oJ|exact oK|apply wA|apply wB|apply wC hX hC|apply wD hX hC|apply wE hX hC af|apply wF hX hC af|apply wG|apply wH|apply And.intro))|((with_reducible refine oD ?_ ?_);kernel_rfl)|((with_reducible (first|apply oE|apply oF));(iterate 3 exact rfl);all_goals (intro h;first|(exact absurd h (by decide))|((try simp only [go_sem,simprocAttr,hbk] at h);(try with_reducible intro K hK);simp only [go_sem,simprocAttr,hbk])))|((first|((with_reducible apply wL);exact rfl)|((with_reducible apply wM);exact rfl));all_goals (try ((with_reducible intro h);first|(exact absurd h (by decide))|(try simp only [go_sem,simprocAttr,hbk] at h))))|omega|(intro h))
  refine ⟨i+1,⟨by omega,fun j hj=> ?_⟩, ?_,by omega⟩
  ·by_cases hjk:j=i
   ·subst hjk
    rw [mA,gK (f:=fun z=> !CR g b j z) (fun z hz=>by rw [E4 z hz];rfl)]
   ·exact KC j (by omega)
  ·refine Le.of ?_ ?_<;>simp [go_sem,simprocAttr,hbk]
 have hbk:decide ((k:Int)<(g.es.length:Int))=true:=decide_eq_true (by omega)
 obtain ⟨t3,t4⟩:=dS hm (k:=k) (by omega)
 obtain ⟨s',hs'⟩:∃s':Nat,(g.es.getD k (0,0)).1=s':=⟨(g.es.getD k (0,0)).1.toNat,by omega⟩
 obtain ⟨t',ht'⟩:∃t':Nat,(g.es.getD k (0,0)).2=t':=⟨(g.es.getD k (0,0)).2.toNat,by omega⟩
 have Iv:(tl g k).toNat=s':=by show ((g.es.getD k (0,0)).1).toNat=s';rw [hs'];rfl
 have Iw:(hd g k).toNat=t':=by show ((g.es.getD k (0,0)).2).toNat=t';rw [ht'];rfl
 have hap:CR g b i k=(!decide ((k:Int)=(i:Int))&&decide (b.x.getD k 0=q)&& !(decide (b.y.getD t 0≤b.y.getD s' 0)||decide (b.y.getD t' 0≤b.y.getD s 0))):=by unfold CR;rw [hts,y7,Iv,Iw,hq]
 have hno:CR g b i k=true→(List.range g.es.length).all (E6 g b)=false:=fun h1=>gl hil (by rw [mA];exact gl (f:=fun z=> !CR g b i z) bT (by rw [h1];rfl))
 have hyes:CR g b i k=false→∀j,j<k+1→CR g b i j=false:=fun h1 j hj=>by
  by_cases uc:j=k
  ·subst uc;exact h1
  ·exact E4 j (by omega)
 generalize CR g b i k=av at*
 cases hd2:decide ((k:Int)=(i:Int))<;>cases mR:decide (b.x.getD k 0=q)<;>cases G6:decide (b.y.getD t 0≤b.y.getD s' 0)<;>cases KG:decide (b.y.getD t' 0≤b.y.getD s 0)<;>rw [hd2,mR,G6,KG] at hap<;>simp only [Bool.and_true,Bool.and_false,Bool.true_and,Bool.false_and,Bool.not_true,Bool.not_false,Bool.or_true,Bool.or_false] at hap<;>subst hap
 all_goals (
 repeat' (first|((first|((with_reducible (first|apply oA|apply oB));exact rfl;intro K hK)|(refine hK _ ?_;clear hK K)|((with_reducible (first|apply oG|apply oH));iterate 3 exact rfl)|((with_reducible apply oI);(iterate 2 exact rfl);intro K hK)|(with_reducible (first|apply wI|apply wJ|apply wK)));try simp only [go_sem,simprocAttr,hbk,hs',ht',hd2,mR,G6,KG,hq,l7])|(with_reducible (first|apply oC|apply oJ|exact oK|apply wA|apply wB|apply wC hX hC|apply wD hX hC|apply wE hX hC af|apply wF hX hC af|apply wG|apply wH|apply And.intro))|((with_reducible refine oD ?_ ?_);kernel_rfl)|((with_reducible (first|apply oE|apply oF));(iterate 3 exact rfl);all_goals (intro h;first|(exact absurd h (by decide))|((try simp only [go_sem,simprocAttr,hbk,hs',ht',hd2,mR,G6,KG,hq,l7] at h);(try with_reducible intro K hK);simp only [go_sem,simprocAttr,hbk,hs',ht',hd2,mR,G6,KG,hq,l7])))|((first|((with_reducible apply wL);exact rfl)|((with_reducible apply wM);exact rfl));all_goals (try ((with_reducible intro h);first|(exact absurd h (by decide))|(try simp only [go_sem,simprocAttr,hbk,hs',ht',hd2,mR,G6,KG,hq,l7] at h))))|omega|(intro h)))
 all_goals (first|(exact hno rfl)|(exact (hno rfl).symm)|(refine ⟨k+1,⟨by omega,hyes rfl⟩, ?_,by omega⟩;refine Le.of ?_ ?_<;>simp [go_sem];done)|trace_state)
end Go.Ab
end
