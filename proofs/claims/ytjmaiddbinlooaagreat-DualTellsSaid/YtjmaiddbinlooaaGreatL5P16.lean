/- A part of the proof. -/
import Derived.Test.YtjmaiddbinlooaaGreatL5P15
set_option linter.unusedSimpArgs false
set_option linter.unusedVariables false
section
namespace Go.Ab
open Go.Proofs
set_option maxRecDepth 10000
set_option linter.unusedSectionVars false
def arr (f:Int→Int) (m:Nat):List Int:=(List.range m).map fun i:Nat=>f (i:Int)
theorem cq {f:Int→Int} {m:Nat} :(arr f m).length=m:=by simp [arr]
theorem u9 {f:Int→Int} {m i:Nat} (h:i<m):(arr f m).getD i 0=f (i:Int):=by
 simp [arr,List.getD_eq_getElem?_getD,List.getElem?_range h]
theorem CP {l m:List Int} (hl:l.length=m.length) (h:∀i,i<l.length→l.getD i 0=m.getD i 0):l=m:=by
 refine List.ext_getElem? fun i=> ?_
 by_cases hi:i<l.length
 ·have:=h i hi
  rw [List.getD_eq_getElem?_getD,List.getD_eq_getElem?_getD,List.getElem?_eq_getElem hi,List.getElem?_eq_getElem (by omega)] at this
  rw [List.getElem?_eq_getElem hi,List.getElem?_eq_getElem (by omega)]
  simpa using this
 ·rw [List.getElem?_eq_none (by omega),List.getElem?_eq_none (by omega)]
theorem fR {u v:List Int} {e:Int} :(u++e::v).getD u.length 0=e:=by
 rw [List.getD_eq_getElem?_getD,List.getElem?_append_right (Nat.le_refl _)];simp
section
variable {g:Gr} {p:Pl} (h:cA g p)
include h
theorem gW {k:Nat} (hk:k<g.n.toNat) {e:Int} (he:e∈aW p (au p k)):(0≤e∧e<g.es.length)∧qe g e=au p k:=by
 have hx:=aG h.2.1 hk
 exact cE.1 ((bR h.2.1 hx.1 hx.2).mem_iff.1 he)
theorem CQ {k:Nat} (hk:k<g.n.toNat):(aW p (au p k)).Nodup:=by
 have hx:=aG h.2.1 hk
 exact (bR h.2.1 hx.1 hx.2).nodup_iff.2 cW
theorem zg {k:Nat} (hk:k<g.n.toNat) {e:Int} (he:0≤e∧e<g.es.length) (ht:qe g e=au p k):∃u v,aW p (au p k)=u++e::v:=by
 have hx:=aG h.2.1 hk
 exact List.append_of_mem ((bR h.2.1 hx.1 hx.2).mem_iff.2 (cE.2 ⟨he,ht⟩))
theorem tG {k:Nat} (hk:k<g.n.toNat) {f F F':Int→Int} {v:Nat→Int} (hin:∀u w e,aW p (au p k)=u++e::w→F' e=v u.length) (hout:∀e:Int,qe g e≠au p k→F' e=F e):
 dz (arr F g.es.length) (aW p (au p k)) v (aW p (au p k)).length=arr F' g.es.length:=by
 refine CP (by rw [dR,cq,cq]) fun i hi=> ?_
 rw [dR,cq] at hi
 rw [u9 hi]
 by_cases ht:qe g (i:Int)=au p k
 ·obtain ⟨u,w,CR⟩:=zg h hk (e:=(i:Int)) (by omega) ht
  have e1:(aW p (au p k)).getD u.length 0=(i:Int):=by rw [CR];exact fR
  have:=w5 (A:=arr F g.es.length) (o:=aW p (au p k)) (f:=v) (i:=u.length) (by rw [e1,cq];simpa using hi) (j:=(aW p (au p k)).length) (by rw [CR];simp) fun q hq e2=>by
   rw [e1,Int.toNat_natCast] at e2
   have h2:=gW h hk (aK (d:=0) hq)
   have h3:(aW p (au p k)).getD q 0=(i:Int):=by omega
   have cg:=CQ h hk
   have:(aW p (au p k))[q]'hq=(aW p (au p k))[u.length]'(by rw [CR];simp):=by
    rw [List.getD_eq_getElem?_getD,List.getElem?_eq_getElem hq] at h3
    rw [List.getD_eq_getElem?_getD,List.getElem?_eq_getElem (by rw [CR];simp)] at e1
    simp only [Option.getD_some] at h3 e1
    rw [h3,e1]
   exact (List.getElem_inj cg).1 this
  rw [e1,Int.toNat_natCast] at this
  rw [this,hin u w (i:Int) CR]
 ·rw [oX fun q hq e2=> ?_,u9 hi,hout _ ht]
  have h2:=gW h hk (aK (d:=0) hq)
  exact ht (by rw [← h2.2];congr 1;omega)
theorem FU {k:Nat} (hk:k<g.n.toNat):eo (arr (LK g p k) g.es.length) (aW p (au p k)) (if k=0 then 0 else LK g p k (ek g p (au p k))) (cK p k) (aW p (au p k)).length=arr (LK g p (k+1)) g.es.length:=by
 refine tG (f:=fun _=>0) h hk (fun u w e CR=> ?_) fun e he=>by rw [LK,if_neg he]
 obtain ⟨a,b⟩:=mM h hk CR
 rw [LK,if_pos a,b]
theorem FV {r:Int} {k:Nat} (hk:k<g.n.toNat):er (arr (RK g p r k) g.es.length) (aW p (au p k)) (if k=0 then r else RK g p r k (kF g p (au p k))) (cK p k) (aW p (au p k)).length=arr (RK g p r (k+1)) g.es.length:=by
 refine tG (f:=fun _=>0) h hk (fun u w e CR=> ?_) fun e he=>by rw [RK,if_neg he]
 obtain ⟨a,b⟩:=mM h hk CR
 rw [RK,if_pos a,b]
theorem w6 (hI:kE g=true):∀ {k:Nat},k<g.n.toNat→∀t∈(fK g p k).row,0≤t.1
 |0,_,t,ht=>by cases ht
 |k+1,hk,t,ht=>by
  have hm:=aE h.1
  have ih:=w6 hI (k:=k) (by omega)
  obtain ⟨hi,_,_⟩:=c9 hm h.2.1 (k:=k) (by omega) fun j hj=>h.2.2 j (by omega)
  obtain ⟨A,X,C,hr,_,_,_,hs⟩:=iH hm hi.togP (h.2.2 k (by omega))
  have hO:aW p (au p k)≠ []:=fun h1=>by
   have:=(eW h hI (aG h.2.1 (show k<g.n.toNat by omega))).1 h1
   have:=dV h.2.1 (show k<g.n.toNat by omega) (by omega) this
   omega
  have ht:t∈(aA g (fK g p k) (au p k) (aW p (au p k))).2.row:=ht
  rw [hs] at ht
  simp only [List.mem_append] at ht
  rcases ht with (ht|ht)|ht
  ·exact ih t (by rw [hr];simp [ht])
  ·unfold aJ at ht
   rw [if_neg hO] at ht
   obtain ⟨i,hi2,rfl⟩:=List.mem_map.1 ht
   exact (gW h (show k<g.n.toNat by omega) hi2).1.1
  ·exact ih t (by rw [hr];simp [ht])
theorem yb (hI:kE g=true) {k:Nat} (hk:k<g.n.toNat):ji (fF g p k)=fF g p k:=by
 have hm:=aE h.1
 obtain ⟨hi,_,_⟩:=c9 hm h.2.1 (k:=k) (by omega) fun j hj=>h.2.2 j (by omega)
 obtain ⟨A,X,C,hr,_,_,_,hs⟩:=iH hm hi.togP (h.2.2 k hk)
 have e:fF g p k=X:=by unfold fF;rw [hs]
 rw [e]
 refine List.filter_eq_self.2 fun t ht=>decide_eq_true (w6 h hI hk t ?_)
 rw [hr];simp [ht]
theorem CS (hI:kE g=true) {k:Nat} (hk:k<g.n.toNat):bw g p (au p k)=(fF g p k).map (·.1):=by
 unfold bw
 rw [nL h.2.1 (Nat.le_refl _) hk,yb h hI hk]
end
section
variable (g:Gr) (p:Pl)
def fS:Nat→List Int
 |0=>aW p (au p 0)
 |j+1=>if aW p (au p (j+1))= [] then fS j else (fS j).take (dB (fS j) (ek g p (au p (j+1)))).toNat++aW p (au p (j+1))++(fS j).drop ((dB (fS j) (ek g p (au p (j+1)))).toNat+(bw g p (au p (j+1))).length)
def lu:Nat→List Int
 |0=> [0]++fH 1 ((aW p (au p 0)).length - 1)++ [-1]
 |j+1=>(lu j).take ((dB (fS g p j) (ek g p (au p (j+1)))).toNat+1)++fH (cK p (j+1)) ((aW p (au p (j+1))).length - 1)++(lu j).drop ((dB (fS g p j) (ek g p (au p (j+1)))).toNat+(bw g p (au p (j+1))).length)
def eX (k:Nat):List Int:=((bw g p (au p k)).dropLast).map (RK g p (-1) k)
def pL:Nat→List Int
 |0=> [au p (g.n.toNat - 1)]
 |k+1=>dN (pL k) (eX g p k) (au p k) (eX g p k).length++List.replicate ((aW p (au p k)).length - 1) 0
end
section
variable {g:Gr} {p:Pl}
theorem fc:∀ {k:Nat},(pL g p k).length=cK p k
 |0=>rfl
 |k+1=>by rw [pL,List.length_append,jR,List.length_replicate,fc,cK]
variable (h:cA g p)
include h
theorem CT {A I C:List Int} (cg:(A++I++C).Nodup) (hI:I≠ []):dB (A++I++C) (I.headD 0)=(A.length:Int):=by
 obtain ⟨a,u,rfl⟩:=iR hI
 obtain ⟨k,h1,h2,h3⟩:=dr (l:=A++a::u++C) (x:=a) (by simp)
 have e:A++a::u++C=A++a::(u++C):=by simp
 have h4:(A++a::u++C).getD A.length 0=a:=by rw [e];exact fR
 show dB _ a=_
 rw [h1]
 have hA:A.length<(A++a::u++C).length:=by simp
 rw [List.getD_eq_getElem?_getD,List.getElem?_eq_getElem h2] at h3
 rw [List.getD_eq_getElem?_getD,List.getElem?_eq_getElem hA] at h4
 simp only [Option.getD_some] at h3 h4
 have:=(List.getElem_inj cg (h₀:=h2) (h₁:=hA)).1 (h3.trans h4.symm)
 omega
theorem zh {k:Nat} (hk:k≤g.n.toNat):(WK g p k).Nodup:=by
 have hm:=aE h.1
 obtain ⟨hi,_,_⟩:=c9 hm h.2.1 (k:=k) (by omega) fun j hj=>h.2.2 j (by omega)
 exact CK hi
theorem CU {r:Int} {k:Nat} (hk:k<g.n.toNat) (hO:aW p (au p k)≠ []) {j:Nat} (h1:k+1≤j) (h2:j≤g.n.toNat):(aW p (au p k)).map (RK g p r j)=fH (cK p k) ((aW p (au p k)).length - 1)++ [if k=0 then r else RK g p r k (kF g p (au p k))]:=by
 obtain ⟨v,b,hv⟩:=cG hO
 have e1:((aW p (au p k)).length - 1)=v.length:=by rw [hv];simp
 rw [e1]
 conv=>lhs;rw [hv]
 rw [List.map_append,List.map_cons,List.map_nil,mN h hk hv h1 h2]
 congr 1
 refine List.ext_getElem? fun i=> ?_
 by_cases hi:i<v.length
 ·rw [List.getElem?_map,List.getElem?_eq_getElem hi,fH,List.getElem?_map,List.getElem?_range hi,Option.map_some,Option.map_some]
  have hs:v=v.take i++v[i]::v.drop (i+1):=by simp
  obtain ⟨c,w,Mc⟩:∃c w,v.drop (i+1)++ [b]=c::w:=by
   cases hd:v.drop (i+1) with
   |nil=>exact ⟨b, [],rfl⟩
   |cons c w=>exact ⟨c,w++ [b],rfl⟩
  have h3:aW p (au p k)=v.take i++v[i]::c::w:=by
   rw [hv]
   conv=>lhs;rw [hs]
   rw [List.append_assoc,List.cons_append,Mc]
  rw [gB h hk h3 h1 h2,List.length_take,Nat.min_eq_left (by omega)]
  congr 1
 ·rw [List.getElem?_eq_none (by simpa using hi),List.getElem?_eq_none (by rw [jQ];omega)]
theorem va (hI:kE g=true):∀ {j:Nat},j+1<g.n.toNat→fS g p j=WK g p (j+1)∧lu g p j=0::(WK g p (j+1)).map (RK g p (-1) (j+1))∧WK g p (j+1)≠ []
 |0,hj=>by
  have hO:aW p (au p 0)≠ []:=fun h1=>by
   have:=(eW h hI (aG h.2.1 (show 0<g.n.toNat by omega))).1 h1
   have:=dV h.2.1 (show 0<g.n.toNat by omega) (by omega) this
   omega
  refine ⟨(oU h (by omega)).symm, ?_,by rw [oU h (by omega)];exact hO⟩
  rw [oU h (by omega),CU h (by omega) hO (Nat.le_refl _) (by omega),if_pos rfl]
  rfl
 |j+1,hj=>by
  obtain ⟨i1,i2,i3⟩:=va hI (j:=j) (by omega)
  obtain ⟨A,C,e1,hne,e2⟩:=jb h (k:=j+1) (by omega) (by omega)
  have hO:aW p (au p (j+1))≠ []:=fun h1=>by
   have:=(eW h hI (aG h.2.1 (show j+1<g.n.toNat by omega))).1 h1
   have:=dV h.2.1 (show j+1<g.n.toNat by omega) (by omega) this
   omega
  have cg:=zh h (k:=j+1) (by omega)
  have Gk:dB (WK g p (j+1)) (ek g p (au p (j+1)))=(A.length:Int):=by
   rw [e1] at cg ⊢
   exact CT h cg hne
  have zf:∀a∈WK g p (j+1),RK g p (-1) (j+1+1) a=RK g p (-1) (j+1) a:=fun a ha=>by
   obtain ⟨i,hi,e⟩:=lV h (by omega) ha
   rw [dS h (by omega) e (j:=j+1+1) (by omega) (by omega),dS h (by omega) e (j:=j+1) (by omega) (by omega)]
  refine ⟨?_, ?_,by rw [e2];simp [hO]⟩
  ·rw [fS,if_neg hO,i1,Gk,Int.toNat_natCast,e2]
   congr 1
   ·congr 1
    rw [e1,List.append_assoc,List.take_left]
   ·rw [e1, ← List.length_append,List.drop_left]
  ·rw [lu,i1,i2,Gk,Int.toNat_natCast,List.take_succ_cons,e2]
   have e3:(WK g p (j+1)).map (RK g p (-1) (j+1))=A.map (RK g p (-1) (j+1))++((bw g p (au p (j+1))).map (RK g p (-1) (j+1))++C.map (RK g p (-1) (j+1))):=by rw [e1];simp
   have hA:A.map (RK g p (-1) (j+1+1))=A.map (RK g p (-1) (j+1)):=List.map_congr_left fun a ha=>zf a (by rw [e1];simp [ha])
   have hC:C.map (RK g p (-1) (j+1+1))=C.map (RK g p (-1) (j+1)):=List.map_congr_left fun a ha=>zf a (by rw [e1];simp [ha])
   rw [List.map_append,List.map_append,hA,hC,CU h (by omega) hO (Nat.le_refl _) (by omega),if_neg (by omega)]
   rw [e3,List.take_append_of_le_length (by simp),List.take_of_length_le (by simp)]
   obtain ⟨u,a,hu⟩:=cG hne
   have hl:(bw g p (au p (j+1))).length=u.length+1:=by rw [hu];simp
   rw [hl,show A.length+(u.length+1)=(A.length+u.length)+1 by omega,List.drop_succ_cons]
   have e4:(A.map (RK g p (-1) (j+1))++((bw g p (au p (j+1))).map (RK g p (-1) (j+1))++C.map (RK g p (-1) (j+1)))).drop (A.length+u.length)=RK g p (-1) (j+1) (kF g p (au p (j+1)))::C.map (RK g p (-1) (j+1)):=by
    rw [iL h hu,hu]
    have:A.map (RK g p (-1) (j+1))++((u++ [a]).map (RK g p (-1) (j+1))++C.map (RK g p (-1) (j+1)))=(A++u).map (RK g p (-1) (j+1))++(RK g p (-1) (j+1) a::C.map (RK g p (-1) (j+1))):=by simp
    rw [this,show A.length+u.length=((A++u).map (RK g p (-1) (j+1))).length by simp,List.drop_left]
   rw [e4]
   simp
theorem dJ {A B:List Int} (h:B≠ []):(A++B).dropLast=A++B.dropLast:=by
 obtain ⟨u,a,rfl⟩:=cG h
 rw [← List.append_assoc,List.dropLast_concat,List.dropLast_concat]
theorem vb (hI:kE g=true):∀ {k:Nat},1≤k→k<g.n.toNat→∀a∈(WK g p k).dropLast,1≤RK g p (-1) k a∧RK g p (-1) k a<cK p k
 |0,h1,_,_,_=>by omega
 |k+1,_,hk,a,ha=>by
  have hO:aW p (au p k)≠ []:=fun h1=>by
   have:=(eW h hI (aG h.2.1 (show k<g.n.toNat by omega))).1 h1
   have:=dV h.2.1 (show k<g.n.toNat by omega) (by omega) this
   omega
  have hc:cK p (k+1)=cK p k+((aW p (au p k)).length - 1):=rfl
  have GO:0<cK p k:=gJ
  have hnew:∀b∈(aW p (au p k)).dropLast,1≤RK g p (-1) (k+1) b∧RK g p (-1) (k+1) b<cK p (k+1):=fun b hb=>by
   obtain ⟨v,c,hv⟩:=cG hO
   rw [hv,List.dropLast_concat] at hb
   obtain ⟨u,w,CR⟩:=List.append_of_mem hb
   obtain ⟨c',w',Mc⟩:∃c' w',w++ [c]=c'::w':=by
    cases w with
    |nil=>exact ⟨c, [],rfl⟩
    |cons d w=>exact ⟨d,w++ [c],rfl⟩
   have h3:aW p (au p k)=u++b::c'::w':=by rw [hv,CR, ← Mc];simp
   rw [gB h (show k<g.n.toNat by omega) h3 (Nat.le_refl _) (by omega)]
   have:(aW p (au p k)).length=u.length+(w'.length+2):=by rw [h3];simp
   omega
  by_cases h0:k=0
  ·subst h0
   rw [oU h (by omega)] at ha
   exact hnew a ha
  ·obtain ⟨A,C,e1,hne,e2⟩:=jb h h0 (show k<g.n.toNat by omega)
   have ih:=vb hI (k:=k) (by omega) (by omega)
   have zf:∀a∈WK g p k,RK g p (-1) (k+1) a=RK g p (-1) k a:=fun a ha=>by
    obtain ⟨i,hi,e⟩:=lV h (by omega) ha
    rw [dS h (by omega) e (j:=k+1) (by omega) (by omega),dS h (by omega) e (j:=k) (by omega) (by omega)]
   have old:∀b∈(WK g p k).dropLast,1≤RK g p (-1) (k+1) b∧RK g p (-1) (k+1) b<cK p (k+1):=fun b hb=>by
    rw [zf b ((List.dropLast_sublist _).subset hb)]
    have:=ih b hb
    omega
   rw [e1] at old zf
   rw [e2] at ha
   by_cases hC:C= []
   ·subst hC
    rw [List.append_nil] at ha old
    rw [dJ h hO] at ha
    rw [dJ h hne] at old
    rcases List.mem_append.1 ha with ha|ha
    ·exact old a (by simp [ha])
    ·exact hnew a ha
   ·rw [dJ h hC] at ha old
    rcases List.mem_append.1 ha with ha|ha
    ·rcases List.mem_append.1 ha with ha|ha
     ·exact old a (by simp [ha])
     ·obtain ⟨v,b,hv⟩:=cG hO
      rw [hv,List.mem_append,List.mem_singleton] at ha
      rcases ha with ha|rfl
      ·exact hnew a (by rw [hv,List.dropLast_concat];exact ha)
      ·obtain ⟨u,c,hu⟩:=cG hne
       rw [mN h (show k<g.n.toNat by omega) hv (Nat.le_refl _) (by omega),if_neg h0,iL h hu, ← zf c (by rw [hu];simp)]
       exact old c (by rw [hu];simp)
    ·exact old a (by simp [ha])
theorem ve (hI:kE g=true) {k:Nat} (hk:k<g.n.toNat):∀f∈eX g p k,0≤f∧f<(pL g p k).length:=by
 intro f hf
 rw [fc]
 obtain ⟨a,ha,rfl⟩:=List.mem_map.1 hf
 have OO:bw g p (au p k)≠ []:=fun h0=>by rw [h0] at ha;simp at ha
 have uj:=w4 h hk OO
 obtain ⟨A,C,e1,hne,_⟩:=jb h uj hk
 have:=vb h hI (k:=k) (by omega) hk a (by
  rw [e1]
  by_cases hC:C= []
  ·subst hC;rw [List.append_nil,dJ h hne];simp [ha]
  ·rw [dJ h hC];simp [(List.dropLast_sublist _).subset ha])
 omega
theorem CV (hI:kE g=true) {j:Nat} (hj:j+1<g.n.toNat):∃a:Nat,dB (fS g p j) (ek g p (au p (j+1)))=a∧0<(bw g p (au p (j+1))).length∧a+(bw g p (au p (j+1))).length≤(fS g p j).length∧
 (lu g p j).length=(fS g p j).length+1∧(lu g p j).getD a 0=LK g p (j+1) (ek g p (au p (j+1)))∧(lu g p j).getD (a+(bw g p (au p (j+1))).length) 0=RK g p (-1) (j+1) (kF g p (au p (j+1)))∧
 ((lu g p j).take (a+(bw g p (au p (j+1))).length)).drop (a+1)=eX g p (j+1):=by
 obtain ⟨i1,i2,i3⟩:=va h hI hj
 obtain ⟨A,C,e1,hne,e2⟩:=jb h (k:=j+1) (by omega) hj
 have cg:=zh h (k:=j+1) (by omega)
 have Gk:dB (WK g p (j+1)) (ek g p (au p (j+1)))=(A.length:Int):=by
  rw [e1] at cg ⊢
  exact CT h cg hne
 have hlk:=(u6 (r:= -1) h hI (k:=j+1) (by omega) hj i3).1
 obtain ⟨u,c,hu⟩:=cG hne
 obtain ⟨c0,u0,AO⟩:=iR hne
 have hl:(bw g p (au p (j+1))).length=u.length+1:=by rw [hu];simp
 rw [i1,i2]
 refine ⟨A.length,Gk,by omega,by rw [e1];simp,by simp, ?_, ?_, ?_⟩
 ·rw [e1,cj,cj] at hlk
  have h1:=hlk.1.2
  rw [AO] at h1
  rw [lU h AO,h1.1,e1]
  rcases List.eq_nil_or_concat A with hA|⟨A',t,hA⟩
  ·subst hA;rfl
  ·rw [List.concat_eq_append] at hA
   subst hA
   rw [gY]
   have:(0::(A'++ [t]++bw g p (au p (j+1))++C).map (RK g p (-1) (j+1)))=(0::A'.map (RK g p (-1) (j+1)))++RK g p (-1) (j+1) t::((bw g p (au p (j+1))++C).map (RK g p (-1) (j+1))):=by simp
   rw [this]
   have h2:(A'++ [t]).length=(0::A'.map (RK g p (-1) (j+1))).length:=by simp
   rw [h2];exact fR
 ·rw [iL h hu,e1,hl]
  have:(0::(A++bw g p (au p (j+1))++C).map (RK g p (-1) (j+1)))=(0::(A++u).map (RK g p (-1) (j+1)))++RK g p (-1) (j+1) c::(C.map (RK g p (-1) (j+1))):=by rw [hu];simp
  rw [this]
  have h2:A.length+(u.length+1)=(0::(A++u).map (RK g p (-1) (j+1))).length:=by simp;omega
  rw [h2];exact fR
 ·rw [e1,hl]
  have:(0::(A++bw g p (au p (j+1))++C).map (RK g p (-1) (j+1)))=(0::A.map (RK g p (-1) (j+1)))++(u.map (RK g p (-1) (j+1))++(RK g p (-1) (j+1) c::(C.map (RK g p (-1) (j+1))))):=by rw [hu];simp
  rw [this,List.take_append,List.drop_append]
  have h2:(0::A.map (RK g p (-1) (j+1))).length=A.length+1:=by simp
  rw [h2,List.take_of_length_le (by rw [h2];omega),List.drop_of_length_le (by rw [h2];omega),h2]
  rw [show A.length+(u.length+1) - (A.length+1)=u.length by omega,Nat.sub_self,List.drop_zero,List.nil_append]
  rw [List.take_append_of_le_length (by simp),List.take_of_length_le (by simp)]
  unfold eX
  rw [hu,List.dropLast_concat]
end
end Go.Ab
end
section
namespace Go.Ab
open Go.Proofs
attribute [local congr] ACall.congr
set_option maxRecDepth 10000
set_option maxHeartbeats 8000000
def swapT (l:List It) (k:Nat):List It:=(List.range l.length).map fun p=>if p<k∨l.length - 1<p+k then l.getD (l.length - 1 - p) (0,0,0) else l.getD p (0,0,0)
def M8 (rs:List Int) (l:List It):Int:=match l.find? (fun t=>decide (t.2.2∈rs)) with
 |some t=>t.2.2
 |none=>rs.headD (-1)
end Go.Ab
end
section
namespace Go.Ab
open Go.Proofs
attribute [local congr] ACall.congr
set_option maxRecDepth 10000
set_option maxHeartbeats 8000000
def P7 (b:Bool) (g:Gr) (p:Pl):List Int × List Int × Int:=
 if (bK b g p).2.1=0∧kE g=true then (Ct g p false g.n.toNat,Ct g p true g.n.toNat,0) else ([], [],1)
end Go.Ab
end
section
namespace Go.Ab
open Go.Proofs
attribute [local congr] ACall.congr
set_option maxRecDepth 10000
set_option maxHeartbeats 8000000
theorem mP {b:Bool} {g:Gr} {p:Pl} (hr:b=true↔(cr g).1=0∧bF g p) (h:cA g p):bK b g p=((eH g p g.n.toNat,k9 g p),(0,0)):=by
 obtain rfl:b=true:=hr.2 ⟨h.1,h.2.1⟩
 unfold bK
 rw [if_neg (by simp),fu.2 h.2.2]
 rfl
theorem OP (g:Gr) (p:Pl):∃b:Bool,(b=true↔(cr g).1=0∧bF g p):=by
 by_cases h:(cr g).1=0∧bF g p
 ·exact ⟨true,by simp [h]⟩
 ·exact ⟨false,by simp [h]⟩
end Go.Ab
end
section
namespace Go.Ab
open Go.Proofs
attribute [local congr] ACall.congr
set_option maxRecDepth 60000
set_option maxHeartbeats 8000000
structure Fc where
 L:List Int
 R:List Int
 lo:List Int
 hi:List Int
def kL (g:Gr) (p:Pl) (f:Int):Int:=if f= -1 then (cK p g.n.toNat:Int) else f
def Em (g:Gr) (p:Pl):Fc:=⟨arr (LK g p g.n.toNat) g.es.length,(arr (RK g p (-1) g.n.toNat) g.es.length).map (kL g p),dx p g.n.toNat++ [au p 0],pL g p g.n.toNat++ [au p (g.n.toNat - 1)]⟩
def gv:Fc:=⟨[], [], [], []⟩
def yc (b:Bool) (g:Gr) (p:Pl):Fc × Int:=if ((bK b g p).2.1=0∧kE g=true)∧0<g.es.length then (Em g p,0) else (gv,1)
def b8 (f:Fc):AV:= .agg [.d (sI f.L), .d (sI f.R), .d (sI f.lo), .d (sI f.hi)]
def lz (l:List Int) (f:Int→Int) (j:Nat):List Int:=(l.take j).map f++l.drop j
theorem CW {l:List Int} {f:Int→Int} {j:Nat} :(lz l f j).length=l.length:=by
 simp only [lz,List.length_append,List.length_map,List.length_take,List.length_drop];omega
theorem tH {l:List Int} {f:Int→Int} {j:Nat} (h:j<l.length):lz l f (j+1)=(lz l f j).set j (f (l.getD j 0)):=by
 have h1:((l.take j).map f).length=j:=by simp;omega
 have e:l.getD j 0=l[j]:=by rw [List.getD_eq_getElem?_getD,List.getElem?_eq_getElem h];rfl
 unfold lz
 have e2:l.take (j+1)=l.take j++ [l[j]]:=by rw [List.take_add_one,List.getElem?_eq_getElem h];rfl
 rw [List.drop_eq_getElem_cons h,List.set_append,h1,if_neg (by omega),Nat.sub_self,List.set_cons_zero,e2,e,List.map_append,List.append_assoc]
 rfl
theorem zi {l:List Int} {f:Int→Int} {j:Nat} (h:j<l.length):(lz l f j).getD j 0=l.getD j 0:=by
 have h1:((l.take j).map f).length=j:=by simp;omega
 unfold lz
 rw [List.getD_eq_getElem?_getD,List.getElem?_append_right (by omega),h1,Nat.sub_self,List.drop_eq_getElem_cons h,List.getD_eq_getElem?_getD,List.getElem?_eq_getElem h];rfl
theorem CX {l:List Int} {f:Int→Int} :lz l f l.length=l.map f:=by simp [lz]
theorem Ay {l:List Int} {f:Int→Int} {j:Nat} (h:j<l.length) (hf:f (l.getD j 0)=l.getD j 0):lz l f (j+1)=lz l f j:=by
 rw [tH h,hf]
 refine List.ext_getElem? fun i=> ?_
 rw [List.getElem?_set]
 split
 ·rename_i e;subst e
  split
  ·have:=zi (l:=l) (f:=f) h
   rename_i hl
   rw [List.getD_eq_getElem?_getD,List.getElem?_eq_getElem hl] at this
   rw [List.getElem?_eq_getElem hl]
   simpa using this.symm
  ·rename_i hl;rw [List.getElem?_eq_none (by omega)]
 ·rfl
theorem Az {g:Gr} {p:Pl} (h:cA g p):0<(bJ (·.2) g).length∧(bJ (·.2) g).getD 0 0=au p 0:=by
 have hn:=aZ (aE h.1)
 have h0:=aG h.2.1 (k:=0) (by omega)
 have hm:au p 0∈bJ (·.2) g:=lN.2 ⟨h0,fG h⟩
 have hl:=List.length_pos_of_mem hm
 refine ⟨hl, ?_⟩
 have:=lN.1 (aK (l:=bJ (·.2) g) (m:=0) (d:=0) hl)
 exact nJ h.1 this.1 h0 this.2 (fG h)
theorem AA {g:Gr} {p:Pl} (h:cA g p) (hI:kE g=true):0<(bJ (·.1) g).length∧(bJ (·.1) g).getD 0 0=au p (g.n.toNat - 1):=by
 have hn:=aZ (aE h.1)
 have h0:=aG h.2.1 (k:=g.n.toNat - 1) (by omega)
 have hm:au p (g.n.toNat - 1)∈bJ (·.1) g:=lQ.2 ⟨h0,(nN h.2.1 h0.1 h0.2).2 (oS h).1⟩
 have hl:=List.length_pos_of_mem hm
 refine ⟨hl, ?_⟩
 have:=lQ.1 (aK (l:=bJ (·.1) g) (m:=0) (d:=0) hl)
 exact (eW h hI this.1).1 ((nN h.2.1 this.1.1 this.1.2).1 this.2)
theorem CY {g:Gr} {p:Pl} (h:cA g p):∀ {k:Nat},k≤g.n.toNat→cK p k≤1+k*g.es.length
 |0,_=>by simp [cK]
 |k+1,hk=>by
  have:=CY h (k:=k) (by omega)
  have hx:=aG h.2.1 (show k<g.n.toNat by omega)
  have:=iX h.2.1 hx.1 hx.2
  rw [cK,Nat.add_mul];omega
theorem pM {g:Gr} {p:Pl} (h:cA g p) {k:Nat} (hk:k≤g.n.toNat):cK p k≤100000∧(∀x:Int,(aW p x).length≤100000∨¬pK g x):=by
 have hn:=aZ (aE h.1)
 have h1:=CY h hk
 have h2:k*g.es.length≤64*128:=Nat.mul_le_mul (by omega) (by omega)
 refine ⟨by omega,fun x=> ?_⟩
 by_cases hx:pK g x
 ·have:=iX h.2.1 hx.1 hx.2;exact .inl (by omega)
 ·exact .inr hx
theorem AB (g:Gr) (p:Pl) (hp:pI p) (hrun:cA g p) (hI:kE g=true) (hm0:0<g.es.length) (b:Bool) (hr:b=true↔(cr g).1=0∧bF g p):
 Spec Tryz.prog 17 (Args [eG g,ePl p]) [] (.tup [b8 (Em g p),eN 0]) []:=by
 have hm:=aE hrun.1
 have hn:=aZ hm
 have hle:=bW hrun.2.1
 have hO:=mj g (by omega) p hp b hr
 have xq:=rX g (by omega)
 have OQ:=gy g hm
 have OR:=eA g hm
 have OS:=qZ g hm
 obtain ⟨hs1,pX⟩:=Az hrun
 obtain ⟨P8,hs4⟩:=AA hrun hI
 rw [mP hr hrun] at hO
 simp only at hO
 rw [hI] at xq
 have hb0:decide ((g.es.length:Int)=0)=false:=decide_eq_false (by omega)
 have hn2:1<g.n.toNat:=by
  refine Decidable.byContradiction fun hc=> ?_
  have ht:=b7 hm (i:=0) hm0
  have hh:=dw hm (i:=0) hm0
  obtain ⟨j,hj,_⟩:=uZ hrun (e:=0) (by omega) (k:=0) (by omega) (by
   obtain ⟨k,hk,e⟩:=gV hrun.2.1 hh.1 hh.2
   obtain rfl:k=0:=by omega
   exact e.symm)
  omega
 obtain ⟨s0,hs0⟩:∃s:Nat,au p 0=s:=by have:=aG hrun.2.1 (k:=0) (by omega);exact ⟨(au p 0).toNat,by omega⟩
 have Md:s0<p.outs.length:=by have:=aG hrun.2.1 (k:=0) (by omega);have:=hrun.2.1.1;omega
 have qj:=iV Md
 have Me:p.outs.getD s0 []=aW p (au p 0):=by unfold aW;rw [hs0,Int.toNat_natCast]
 rw [Me] at qj
 have OU:=iX hrun.2.1 (aG hrun.2.1 (k:=0) (by omega)).1 (aG hrun.2.1 (k:=0) (by omega)).2
 have CO:=tF (au p 0) 0 (-1) (aW p (au p 0)) (.sl 1 []) (sI [0, -1]) (arr (LK g p 0) g.es.length) (arr (RK g p (-1) 0) g.es.length) [au p 0] [au p (g.n.toNat - 1)] (by omega) (fun i hi=>by rw [cq];exact (gW hrun (by omega) hi).1) (by rw [cq,cq]) (by simp) (by simp)
 have M9:=FU hrun (k:=0) (by omega)
 have Na:=FV (r:= -1) hrun (k:=0) (by omega)
 rw [if_pos rfl] at M9 Na
 have Jr:bw g p (au p 0)= []:=by
  have:=iK hrun (aG hrun.2.1 (k:=0) (by omega))
  rw [fG hrun] at this
  exact List.eq_nil_of_length_eq_zero this
 have hi1:pL g p 1= [au p (g.n.toNat - 1)]++List.replicate ((aW p (au p 0)).length - 1) 0:=by
  have:eX g p 0= []:=by unfold eX;rw [Jr];rfl
  show dN (pL g p 0) (eX g p 0) (au p 0) (eX g p 0).length++_=_
  rw [this];rfl
 have Mf:dx p 1= [au p 0]++List.replicate ((aW p (au p 0)).length - 1) (au p 0):=rfl
 have hc1:([au p 0]:List Int).length=cK p 0:=rfl
 rw [hc1,M9,Na, ← hi1, ← Mf] at CO
 have As:∀f:Int→Int,(∀e,f e=0)→List.replicate g.es.length [D.sc (.int .i64 0)]=(arr f g.es.length).map rI:=fun f hf=>by
  refine List.ext_getElem? fun i=> ?_
  simp only [arr,List.getElem?_replicate,List.getElem?_map]
  by_cases hi:i<g.es.length
  ·rw [if_pos hi,List.getElem?_range hi];simp [hf,rI]
  ·rw [if_neg hi,List.getElem?_eq_none (by simpa using hi)];rfl
 have dA:=As (LK g p 0) fun _=>rfl
 have Mg:=kX (aW p (au p 0)) (by omega)
 have Mh:=jk [0, -1] (fH (cK p 0) ((aW p (au p 0)).length - 1)) 1 1 (by simp) (by simp) (by rw [jQ];omega)
 have Fu:List.take 1 [(0:Int), -1]++fH (cK p 0) ((aW p (au p 0)).length - 1)++List.drop 1 [(0:Int), -1]=lu g p 0:=rfl
 rw [Fu] at Mh
 have Mi:RK g p (-1) 0=LK g p 0:=by funext e;rfl
 rw [Mi] at CO
 have D7:fS g p 0=aW p (au p 0):=rfl
 have Mg:Spec Tryz.prog 53 (Args [.d (sI (aW p (s0:Int)))]) [] (.d (sI (fS g p 0))) []:=by
  rw [D7, ← hs0];exact Mg
 generalize Nb:arr (LK g p 0) g.es.length=A0 at CO dA
 have o5:=jQ (c:=cK p 0) (k:=(aW p (au p 0)).length - 1)
 generalize fH (cK p 0) ((aW p (au p 0)).length - 1)=gs at CO Mh o5
 unfold Gm Gn at CO
 have sK:List.drop 1 (List.map rI p.ord)=(p.ord.drop 1).map rI:=by rw [List.map_drop]
 have hdl:(p.ord.drop 1).length=g.n.toNat - 1:=by rw [List.length_drop];omega
 have uR:List.take p.ord.length (List.map rI p.ord)=List.map rI p.ord:=List.take_of_length_le (by simp)
 generalize Ki:g.n.toNat - 1=N1 at hdl
 (refine Spec.intro (C:=T.cfg [67] []) (rs:= [.c 4 32, .t 5]) (T.aq _ _) Tryz.func17 rfl rfl Tryz.ntmps17 Tryz.results17 (by simp [AObj.isNest]) (by simp [AObj.isNest]) (by kernel_rfl) ?_;intro X hX hP hC aN aO vals hA;refine ⟨_,by simp,hA, ?_⟩;have af:X.P.follows .mixedOrders=true:=(by rw [hP];exact T.mixed);clear aN aO)
 repeat' (first|fail|((first|((with_reducible (first|apply oA|apply oB));exact rfl;intro K hK)|(refine hK _ ?_;clear hK K)|((with_reducible (first|apply oG|apply oH));iterate 3 exact rfl)|((with_reducible apply oI);(iterate 2 exact rfl);intro K hK)|(with_reducible (first|apply wI|apply wJ|apply wK)));try simp only [go_sem,simprocAttr,hb0,pX,hs4,dA,hs0,qj,sK,hdl,rI])|(show cH _ (.seq (.region 8 _ _) _) _ _;(refine nu 54 0 1 rfl rfl rfl ?_;simp only [LA.app,ASt.put,ASt.kill,putM,rml,List.set_cons_zero,List.set_cons_succ,go_sem,simprocAttr,hb0,pX,hs4,dA,hs0,qj,sK,hdl,rI]);(refine bT hX 52 rfl ?_;simp only [go_sem,simprocAttr,hb0,pX,hs4,dA,hs0,qj,sK,hdl,rI]))|(with_reducible (first|apply oC|apply oJ|exact oK|apply wA|apply wB|apply wC hX hC|apply wD hX hC|apply wE hX hC af|apply wF hX hC af|apply wG|apply wH|apply And.intro))|((with_reducible refine oD ?_ ?_);first|fail|kernel_rfl)|((with_reducible (first|apply oE|apply oF));(iterate 3 exact rfl);all_goals (intro h;first|(exact absurd h (by decide))|((try simp only [go_sem,simprocAttr,hb0,pX,hs4,dA,hs0,qj,sK,hdl,rI] at h);(try with_reducible intro K hK);simp only [go_sem,simprocAttr,hb0,pX,hs4,dA,hs0,qj,sK,hdl,rI])))|((first|((with_reducible apply wL);exact rfl)|((with_reducible apply wM);exact rfl));all_goals (try ((with_reducible intro h);first|(exact absurd h (by decide))|(try simp only [go_sem,simprocAttr,hb0,pX,hs4,dA,hs0,qj,sK,hdl,rI] at h))))|omega|((first|first|refine aa hX hC hP (hO) rfl rfl rfl (by simp only [go_sem,simprocAttr,hb0,pX,hs4,dA,hs0,qj,sK,hdl,rI]) rfl ?_|refine aa hX hC hP (xq) rfl rfl rfl (by simp only [go_sem,simprocAttr,hb0,pX,hs4,dA,hs0,qj,sK,hdl,rI]) rfl ?_|refine aa hX hC hP (OQ) rfl rfl rfl (by simp only [go_sem,simprocAttr,hb0,pX,hs4,dA,hs0,qj,sK,hdl,rI]) rfl ?_|refine aa hX hC hP (OR) rfl rfl rfl (by simp only [go_sem,simprocAttr,hb0,pX,hs4,dA,hs0,qj,sK,hdl,rI]) rfl ?_|refine aa hX hC hP (OS) rfl rfl rfl (by simp only [go_sem,simprocAttr,hb0,pX,hs4,dA,hs0,qj,sK,hdl,rI]) rfl ?_|(refine az hX hC hP [(10000,54),(10001,59),(10002,63),(10003,65),(10004,67),(10005,300),(10006,301)] (CO) rfl rfl rfl ?_ ?_ ?_ ?_ ?_ ?_ ?_ ?_ ?_ ?_ ?_ ?_ ?_ ?_;(focus (simp only [go_sem,simprocAttr,hb0,pX,hs4,dA,hs0,qj,sK,hdl,rI];done));(iterate 12 (focus (simp [go_sem,simprocAttr,hb0,pX,hs4,dA,hs0,qj,sK,hdl,rI];done)));simp only [go_sem,simprocAttr,hb0,pX,hs4,dA,hs0,qj,sK,hdl,rI,List.map_cons,List.map_nil])|refine aa hX hC hP (Mg) rfl rfl rfl (by simp only [go_sem,simprocAttr,hb0,pX,hs4,dA,hs0,qj,sK,hdl,rI]) rfl ?_|(refine bM hX hC hP (Mh) rfl rfl rfl ?_ ?_ rfl ?_;iterate 2 (focus (simp only [go_sem,simprocAttr,hb0,pX,hs4,dA,hs0,qj,sK,hdl,rI];done))));try simp only [go_sem,simprocAttr,hb0,pX,hs4,dA,hs0,qj,sK,hdl,rI])|(intro h))
 refine ak (fun j:Nat=>j≤N1) (fun j=>⟨[(3, .ptr 3 0),(4, .ptr 4 0),(6, .d (.sl 1 (vT (eH g p g.n.toNat)))),(10,eN s0),(11,eN (au p N1)),(12, .ptr 54 0),(106, .d (sI (p.ord.drop 1))),(107,eN N1),(108,eN j)], [(54, .box [.d (sI (fS g p j)), .d (sI (lu g p j)), .ref 59, .ref 63, .ref 300, .ref 301]),(59, .own 3 1 ((arr (LK g p (j+1)) g.es.length).map rI)),(63, .own 3 1 ((arr (RK g p (-1) (j+1)) g.es.length).map rI)),(300, .tip 3 1 ((dx p (j+1)).map rI)),(301, .own 3 1 ((pL g p (j+1)).map rI)),(3, .box [.d (sI p.ord), .d (.sl 1 (vI p.outs))]),(4, .box [.nil 3, .nil 3, .nil 3, .nil 3])]⟩) (fun j=>N1 - j) 0 (by omega) ?_ ?_
 ·refine Le.of ?_ ?_<;>simp [go_sem,simprocAttr,Ki,uR]
  omega
 rintro j hj
 rcases Nat.lt_or_ge j N1 with hjl|I9
 ·have hb:decide ((j:Int)<(N1:Int))=true:=decide_eq_true (by omega)
  have hjn:j+1<g.n.toNat:=by omega
  obtain ⟨a,p1,p2,p3,p4,p5,p6,p7⟩:=CV hrun hI hjn
  have Dm:=aG hrun.2.1 hjn
  have hx:(p.ord.drop 1).getD j 0=au p (j+1):=by
   rw [List.getD_eq_getElem?_getD,List.getElem?_drop,Nat.add_comm 1 j]
   show _=p.ord.getD (j+1) 0
   rw [List.getD_eq_getElem?_getD]
  have jc:=fun i hi=>(gW hrun hjn (e:=i) hi).1
  have zB:=iX hrun.2.1 Dm.1 Dm.2
  have Js:=nL hrun.2.1 (Nat.le_refl _) hjn
  have hel:=k8 (g:=g) (p:=p) (k:=g.n.toNat)
  have Nc:=CS hrun hI hjn
  have hL:=FU hrun (k:=j+1) hjn
  have hR:=FV (r:= -1) hrun (k:=j+1) hjn
  rw [if_neg (by omega)] at hL hR
  have qG:dx p (j+1+1)=dx p (j+1)++List.replicate ((aW p (au p (j+1))).length - 1) (au p (j+1)):=rfl
  have hhi:pL g p (j+1+1)=dN (pL g p (j+1)) (eX g p (j+1)) (au p (j+1)) (eX g p (j+1)).length++List.replicate ((aW p (au p (j+1))).length - 1) 0:=rfl
  have Mj:=ve hrun hI hjn
  have kJ:=dy (p:=p) (k:=j+1)
  have sg:=fc (g:=g) (p:=p) (k:=j+1)
  have En:=(pM hrun (k:=j+1) (by omega)).1
  have Mk:fS g p (j+1)=if aW p (au p (j+1))= [] then fS g p j else (fS g p j).take (dB (fS g p j) (ek g p (au p (j+1)))).toNat++aW p (au p (j+1))++(fS g p j).drop ((dB (fS g p j) (ek g p (au p (j+1)))).toNat+(bw g p (au p (j+1))).length):=rfl
  have Ml:lu g p (j+1)=(lu g p j).take ((dB (fS g p j) (ek g p (au p (j+1)))).toNat+1)++fH (cK p (j+1)) ((aW p (au p (j+1))).length - 1)++(lu g p j).drop ((dB (fS g p j) (ek g p (au p (j+1)))).toNat+(bw g p (au p (j+1))).length):=rfl
  rw [p1,Int.toNat_natCast] at Mk Ml
  obtain ⟨r1,r2,r3⟩:=va hrun hI hjn
  have P9:(fS g p j).length≤10000:=by
   rw [r1]
   have:=eu (m:=(List.range g.es.length).map Int.ofNat) (zh hrun (k:=j+1) (by omega)) fun e he=>by
    have hi:=c9 hm hrun.2.1 (k:=j+1) (by omega) fun i hi=>hrun.2.2 i (by omega)
    obtain ⟨t,ht,rfl⟩:=List.mem_map.1 he
    obtain ⟨⟨h1,h2⟩,_⟩:=lT hm hi.1.togP ht
    exact List.mem_map.2 ⟨t.1.toNat,List.mem_range.2 (by omega),by simp;omega⟩
   simp at this
   omega
  have hfr:ek g p (au p (j+1))=((fF g p (j+1)).getD 0 (0,0,0)).1:=by
   unfold ek
   rw [Nc]
   cases fF g p (j+1)<;>rfl
  rw [Nc,List.length_map] at p2 p3 p6 p7 Mk Ml
  have hIx:=aP (fS g p j) (ek g p (au p (j+1))) (by omega)
  rw [p1] at hIx
  rw [hfr] at hIx p5
  have kK:=u7 (au p (j+1)) (aW p (au p (j+1))) (fS g p j) (lu g p j) (arr (LK g p (j+1)) g.es.length) (arr (RK g p (-1) (j+1)) g.es.length) (dx p (j+1)) (pL g p (j+1)) a (a+(fF g p (j+1)).length) (by omega) (by omega) (by omega) (by omega) (by omega) (by rw [p7];exact Mj) (by omega) (fun i hi=>by rw [cq];exact jc i hi) (by rw [cq,cq]) (by omega) (by omega)
  rw [p7,p5,p6,kJ, ← hhi, ← qG, ← Mk, ← Ml] at kK
  rw [← hfr] at kK
  rw [hL,hR] at kK
  obtain ⟨x,FW⟩:∃x:Nat,au p (j+1)=x:=⟨(au p (j+1)).toNat,by omega⟩
  have gw:x<p.outs.length:=by have:=hrun.2.1.1;omega
  have hv:=iV gw
  have hla:p.outs.getD x []=aW p (au p (j+1)):=by unfold aW;rw [FW,Int.toNat_natCast]
  rw [hla] at hv
  have yd:=fun d=>nG (ls:=eH g p g.n.toNat) (k:=x) (by omega) d
  have hex:(eH g p g.n.toNat).getD x []=fF g p (j+1):=by rw [← Js,FW,Int.toNat_natCast]
  rw [hex] at yd
  have hvl:(vT (eH g p g.n.toNat)).length=g.n.toNat:=by rw [vT_length,hel]
  have EM:x<g.n.toNat:=by omega
  obtain ⟨bb,mh⟩:∃bb:Nat,bb=a+(fF g p (j+1)).length:=⟨_,rfl⟩
  have oY:(a:Int)+((fF g p (j+1)).length:Int)=(bb:Int):=by omega
  rw [← mh] at kK
  have dK:bb≤10000:=by omega
  generalize aW p (au p (j+1))=o at kK hv
  rw [FW] at kK hx
  generalize fF g p (j+1)=gn at hIx yd oY p2
  clear mh
  generalize Fv:fS g p (j+1)=E2 at kK
  generalize fS g p j=E1 at kK hIx
  generalize hq1:lu g p (j+1)=G2 at kK
  generalize lu g p j=G1 at kK
  generalize DV:arr (LK g p (j+1+1)) g.es.length=A2 at kK
  generalize OV:arr (RK g p (-1) (j+1+1)) g.es.length=B2 at kK
  generalize arr (LK g p (j+1)) g.es.length=A1 at kK
  generalize arr (RK g p (-1) (j+1)) g.es.length=B1 at kK
  generalize OW:dx p (j+1+1)=L2 at kK
  generalize OX:pL g p (j+1+1)=H2 at kK
  generalize dx p (j+1)=L1 at kK
  generalize pL g p (j+1)=H1 at kK
  generalize vT (eH g p g.n.toNat)=VE at yd hvl
  unfold Gm Gn at kK
  repeat' (first|fail|((first|((with_reducible (first|apply oA|apply oB));exact rfl;intro K hK)|(refine hK _ ?_;clear hK K)|((with_reducible (first|apply oG|apply oH));iterate 3 exact rfl)|((with_reducible apply oI);(iterate 2 exact rfl);intro K hK)|(with_reducible (first|apply wI|apply wJ|apply wK)));try simp only [go_sem,simprocAttr,hb,hx,hv,yd,hvl,oY])|(show cH _ (.region 15 _ _) _ _;(refine gS hX 54 4 302 300 rfl rfl rfl (by first|exact .inl rfl|exact .inr rfl) (by decide) (by decide) ?_;simp only [LA.app,ASt.put,ASt.kill,subT,rmk,putM,rml,kl,AV.sub,AV.subs,AObj.sub,List.set_cons_zero,List.set_cons_succ,go_sem,simprocAttr,hb,hx,hv,yd,hvl,oY]);(refine gS hX 54 5 303 301 rfl rfl rfl (by first|exact .inl rfl|exact .inr rfl) (by decide) (by decide) ?_;simp only [LA.app,ASt.put,ASt.kill,subT,rmk,putM,rml,kl,AV.sub,AV.subs,AObj.sub,List.set_cons_zero,List.set_cons_succ,go_sem,simprocAttr,hb,hx,hv,yd,hvl,oY]))|(with_reducible (first|apply oC|apply oJ|exact oK|apply wA|apply wB|apply wC hX hC|apply wD hX hC|apply wE hX hC af|apply wF hX hC af|apply wG|apply wH|apply And.intro))|((with_reducible refine oD ?_ ?_);first|fail|kernel_rfl)|((with_reducible (first|apply oE|apply oF));(iterate 3 exact rfl);all_goals (intro h;first|(exact absurd h (by decide))|((try simp only [go_sem,simprocAttr,hb,hx,hv,yd,hvl,oY] at h);(try with_reducible intro K hK);simp only [go_sem,simprocAttr,hb,hx,hv,yd,hvl,oY])))|((first|((with_reducible apply wL);exact rfl)|((with_reducible apply wM);exact rfl));all_goals (try ((with_reducible intro h);first|(exact absurd h (by decide))|(try simp only [go_sem,simprocAttr,hb,hx,hv,yd,hvl,oY] at h))))|omega|((first|first|refine aa hX hC hP (hIx) rfl rfl rfl (by simp only [go_sem,simprocAttr,hb,hx,hv,yd,hvl,oY]) rfl ?_|(refine az hX hC hP [(10000,54),(10001,59),(10002,63),(10003,300),(10004,301),(10005,302),(10006,303)] (kK) rfl rfl rfl ?_ ?_ ?_ ?_ ?_ ?_ ?_ ?_ ?_ ?_ ?_ ?_ ?_ ?_;(focus (simp only [go_sem,simprocAttr,hb,hx,hv,yd,hvl,oY];done));(iterate 12 (focus (simp [go_sem,simprocAttr,hb,hx,hv,yd,hvl,oY];done)));simp only [go_sem,simprocAttr,hb,hx,hv,yd,hvl,oY,List.map_cons,List.map_nil]));try simp only [go_sem,simprocAttr,hb,hx,hv,yd,hvl,oY])|(intro h))
  refine ⟨j+1,by omega, ?_,by omega⟩
  rw [Fv,hq1,DV,OV,OW,OX]
  refine Le.of ?_ ?_<;>simp [go_sem,simprocAttr,hb,hx,hv,yd,hvl,oY]
 have hb:decide ((j:Int)<(N1:Int))=false:=decide_eq_false (by omega)
 obtain rfl:j=N1:=by omega
 have OY:j+1=g.n.toNat:=by omega
 rw [OY]
 have kJ:=dy (p:=p) (k:=g.n.toNat)
 have sg:=fc (g:=g) (p:=p) (k:=g.n.toNat)
 have En:=(pM hrun (k:=g.n.toNat) (by omega)).1
 have OZ:Em g p=⟨arr (LK g p g.n.toNat) g.es.length,(arr (RK g p (-1) g.n.toNat) g.es.length).map (kL g p),dx p g.n.toNat++ [(s0:Int)],pL g p g.n.toNat++ [au p j]⟩:=by unfold Em;rw [hs0,Ki]
 have Mm:(arr (RK g p (-1) g.n.toNat) g.es.length).length=g.es.length:=cq
 rw [OZ]
 have hrf:∀f,kL g p f=if f= -1 then (cK p g.n.toNat:Int) else f:=fun f=>rfl
 generalize arr (RK g p (-1) g.n.toNat) g.es.length=RA at Mm
 generalize arr (LK g p g.n.toNat) g.es.length=LA
 generalize dx p g.n.toNat=LO at kJ
 generalize pL g p g.n.toNat=HI at sg
 generalize fS g p j=E1
 generalize lu g p j=G1
 generalize cK p g.n.toNat=cc at kJ sg En hrf
 repeat' (first|fail|((first|((with_reducible (first|apply oA|apply oB));exact rfl;intro K hK)|(refine hK _ ?_;clear hK K)|((with_reducible (first|apply oG|apply oH));iterate 3 exact rfl)|((with_reducible apply oI);(iterate 2 exact rfl);intro K hK)|(with_reducible (first|apply wI|apply wJ|apply wK)));try simp only [go_sem,simprocAttr,hb,kJ])|fail|(with_reducible (first|apply oC|apply oJ|exact oK|apply wA|apply wB|apply wC hX hC|apply wD hX hC|apply wE hX hC af|apply wF hX hC af|apply wG|apply wH|apply And.intro))|((with_reducible refine oD ?_ ?_);first|fail|kernel_rfl)|((with_reducible (first|apply oE|apply oF));(iterate 3 exact rfl);all_goals (intro h;first|(exact absurd h (by decide))|((try simp only [go_sem,simprocAttr,hb,kJ] at h);(try with_reducible intro K hK);simp only [go_sem,simprocAttr,hb,kJ])))|((first|((with_reducible apply wL);exact rfl)|((with_reducible apply wM);exact rfl));all_goals (try ((with_reducible intro h);first|(exact absurd h (by decide))|(try simp only [go_sem,simprocAttr,hb,kJ] at h))))|omega|((first|fail);try simp only [go_sem,simprocAttr,hb,kJ])|(intro h))
 refine ak (fun i:Nat=>i≤RA.length) (fun i=>⟨[(4, .ptr 4 0),(12, .ptr 54 0),(17,eN cc),(175, .ref 63),(176,eN RA.length),(177,eN i)], [(54, .box [.d (sI E1), .d (sI G1), .ref 59, .ref 63, .ref 156, .ref 164]),(59, .own 3 1 (LA.map rI)),(63, .own 3 1 ((lz RA (kL g p) i).map rI)),(156, .tip 3 1 ((LO++ [(s0:Int)]).map rI)),(164, .own 3 1 ((HI++ [au p j]).map rI)),(4, .box [.nil 3, .nil 3, .nil 3, .nil 3])]⟩) (fun i=>RA.length - i) 0 (by omega) ?_ ?_
 ·refine Le.of ?_ ?_<;>simp [go_sem,simprocAttr,lz,rI]
 rintro i hi
 rcases Nat.lt_or_ge i RA.length with hil|Ja
 ·have cF:decide ((i:Int)<(RA.length:Int))=true:=decide_eq_true (by omega)
  have hml:=CW (l:=RA) (f:=kL g p) (j:=i)
  have hma:=zi (f:=kL g p) hil
  by_cases zN:RA.getD i 0= -1
  ·have an:decide ((lz RA (kL g p) i).getD i 0= -1)=true:=decide_eq_true (by rw [hma,zN])
   have dQ:=tH (f:=kL g p) hil
   rw [hrf,if_pos zN] at dQ
   generalize lz RA (kL g p) i=M at hml an dQ
   repeat' (first|fail|((first|((with_reducible (first|apply oA|apply oB));exact rfl;intro K hK)|(refine hK _ ?_;clear hK K)|((with_reducible (first|apply oG|apply oH));iterate 3 exact rfl)|((with_reducible apply oI);(iterate 2 exact rfl);intro K hK)|(with_reducible (first|apply wI|apply wJ|apply wK)));try simp only [go_sem,simprocAttr,cF,an,hml])|fail|(with_reducible (first|apply oC|apply oJ|exact oK|apply wA|apply wB|apply wC hX hC|apply wD hX hC|apply wE hX hC af|apply wF hX hC af|apply wG|apply wH|apply And.intro))|((with_reducible refine oD ?_ ?_);first|fail|kernel_rfl)|((with_reducible (first|apply oE|apply oF));(iterate 3 exact rfl);all_goals (intro h;first|(exact absurd h (by decide))|((try simp only [go_sem,simprocAttr,cF,an,hml] at h);(try with_reducible intro K hK);simp only [go_sem,simprocAttr,cF,an,hml])))|((first|((with_reducible apply wL);exact rfl)|((with_reducible apply wM);exact rfl));all_goals (try ((with_reducible intro h);first|(exact absurd h (by decide))|(try simp only [go_sem,simprocAttr,cF,an,hml] at h))))|omega|((first|fail);try simp only [go_sem,simprocAttr,cF,an,hml])|(intro h))
   refine ⟨i+1,by omega, ?_,by omega⟩
   rw [dQ]
   refine Le.of ?_ ?_<;>simp [go_sem,simprocAttr,cF,an,hml,rI]
  ·have an:decide ((lz RA (kL g p) i).getD i 0= -1)=false:=decide_eq_false (by rw [hma];exact zN)
   have dQ:=Ay (f:=kL g p) hil (by rw [hrf,if_neg zN])
   generalize lz RA (kL g p) i=M at hml an dQ
   repeat' (first|fail|((first|((with_reducible (first|apply oA|apply oB));exact rfl;intro K hK)|(refine hK _ ?_;clear hK K)|((with_reducible (first|apply oG|apply oH));iterate 3 exact rfl)|((with_reducible apply oI);(iterate 2 exact rfl);intro K hK)|(with_reducible (first|apply wI|apply wJ|apply wK)));try simp only [go_sem,simprocAttr,cF,an,hml])|fail|(with_reducible (first|apply oC|apply oJ|exact oK|apply wA|apply wB|apply wC hX hC|apply wD hX hC|apply wE hX hC af|apply wF hX hC af|apply wG|apply wH|apply And.intro))|((with_reducible refine oD ?_ ?_);first|fail|kernel_rfl)|((with_reducible (first|apply oE|apply oF));(iterate 3 exact rfl);all_goals (intro h;first|(exact absurd h (by decide))|((try simp only [go_sem,simprocAttr,cF,an,hml] at h);(try with_reducible intro K hK);simp only [go_sem,simprocAttr,cF,an,hml])))|((first|((with_reducible apply wL);exact rfl)|((with_reducible apply wM);exact rfl));all_goals (try ((with_reducible intro h);first|(exact absurd h (by decide))|(try simp only [go_sem,simprocAttr,cF,an,hml] at h))))|omega|((first|fail);try simp only [go_sem,simprocAttr,cF,an,hml])|(intro h))
   refine ⟨i+1,by omega, ?_,by omega⟩
   rw [dQ]
   refine Le.of ?_ ?_<;>simp [go_sem,simprocAttr,cF,an,hml,rI]
 have cF:decide ((i:Int)<(RA.length:Int))=false:=decide_eq_false (by omega)
 obtain rfl:i=RA.length:=by omega
 rw [CX]
 repeat' (first|fail|((first|((with_reducible (first|apply oA|apply oB));exact rfl;intro K hK)|(refine hK _ ?_;clear hK K)|((with_reducible (first|apply oG|apply oH));iterate 3 exact rfl)|((with_reducible apply oI);(iterate 2 exact rfl);intro K hK)|(with_reducible (first|apply wI|apply wJ|apply wK)));try simp only [go_sem,simprocAttr,cF,b8])|fail|(with_reducible (first|apply oC|apply oJ|exact oK|apply wA|apply wB|apply wC hX hC|apply wD hX hC|apply wE hX hC af|apply wF hX hC af|apply wG|apply wH|apply And.intro))|((with_reducible refine oD ?_ ?_);first|fail|kernel_rfl)|((with_reducible (first|apply oE|apply oF));(iterate 3 exact rfl);all_goals (intro h;first|(exact absurd h (by decide))|((try simp only [go_sem,simprocAttr,cF,b8] at h);(try with_reducible intro K hK);simp only [go_sem,simprocAttr,cF,b8])))|((first|((with_reducible apply wL);exact rfl)|((with_reducible apply wM);exact rfl));all_goals (try ((with_reducible intro h);first|(exact absurd h (by decide))|(try simp only [go_sem,simprocAttr,cF,b8] at h))))|omega|((first|fail);try simp only [go_sem,simprocAttr,cF,b8])|(intro h))
end Go.Ab
end
section
namespace Go.Ab
open Go.Proofs
set_option maxRecDepth 10000
set_option linter.unusedSectionVars false
section
variable (g:Gr) (p:Pl)
def cN:Nat:=cK p g.n.toNat
def Lf (e:Int):Int:=LK g p g.n.toNat e
def Rf (e:Int):Int:=RK g p (cN g p) g.n.toNat e
def w8:List Int:=dx p g.n.toNat++ [au p 0]
def ye:List Int:=pL g p g.n.toNat++ [au p (g.n.toNat - 1)]
def Mn (f:Int):Int:=(w8 g p).getD f.toNat 0
def Qa (f:Int):Int:=(ye g p).getD f.toNat 0
end
section
variable {g:Gr} {p:Pl}
theorem zj:(w8 g p).length=cN g p+1:=by simp [w8,dy,cN]
theorem Eo:(ye g p).length=cN g p+1:=by simp [ye,fc,cN]
variable (h:cA g p) (hI:kE g=true)
include h hI
theorem Jt {a:Int} (ha:(kq g p).JZ a):∃k u b v,k<g.n.toNat∧qe g a=au p k∧aW p (au p k)=u++a::b::v:=by
 obtain ⟨x,u,b,v,e⟩:=ha
 by_cases hx:pK g x
 ·obtain ⟨k,hk,rfl⟩:=gV h.2.1 hx.1 hx.2
  rw [ja hx] at e
  exact ⟨k,u,b,v,hk,(mM h hk e).1,e⟩
 ·rw [nR hx] at e;cases u<;>cases e
theorem EW {a:Int} (ha:(kq g p).JZ a):∃f:Nat,1≤f∧f<cN g p∧∀r,RK g p r g.n.toNat a=f:=by
 obtain ⟨k,u,b,v,hk,_,e⟩:=Jt h hI ha
 have hl:(aW p (au p k)).length=u.length+(v.length+2):=by rw [e];simp
 have EN:cK p (k+1)=cK p k+((aW p (au p k)).length - 1):=rfl
 obtain ⟨d,hd⟩:=Nat.exists_eq_add_of_le (show k+1≤g.n.toNat by omega)
 have hmo:=nS (p:=p) (k:=k+1) (d:=d)
 rw [← hd] at hmo
 have hp:0<cK p k:=gJ
 have GK:cN g p=cK p g.n.toNat:=rfl
 exact ⟨cK p k+u.length,by omega,by omega,fun r=>by rw [gB h hk e (by omega) (Nat.le_refl _)];omega⟩
theorem CZ:(kq g p).ij (Lf g p) (Rf g p) 0 (cN g p) (Mn g p):=by
 have F:=mO h hI (r:=cN g p) (.inr (Int.le_refl _))
 exact {F with
  new:=fun {x u a b v} e=>by
   obtain ⟨h1,h2,h3⟩:=F.new e
   obtain ⟨f,_,h5,h6⟩:=EW h hI (a:=a) ⟨x,u,b,v,e⟩
   have h7:Rf g p a=f:=h6 _
   have h8:RK g p (cN g p) g.n.toNat a=f:=h6 _
   refine ⟨?_,h2,h3⟩
   rw [h8] at h1
   show (dx p g.n.toNat++ [au p 0]).getD (Rf g p a).toNat 0=x
   rw [h7, ← h1,Int.toNat_natCast,iD (by rw [dy];exact h5)]}
theorem C0 {e:Int} (he:0≤e∧e<g.es.length):kL g p (RK g p (-1) g.n.toNat e)=Rf g p e:=by
 have F:=mO h hI (r:= -1) (.inl (by omega))
 have F':=mO h hI (r:=cN g p) (.inr (Int.le_refl _))
 rcases Ex (EV h hI) F F' (d:=_+1) (Nat.lt_succ_self _) (e:=e) he with ⟨h1,h2⟩|⟨a,h1,_,h2,h3⟩
 ·rw [h1];unfold kL Rf;rw [if_pos rfl,h2];rfl
 ·obtain ⟨f,h4,_,h5⟩:=EW h hI h1
  unfold kL Rf
  rw [h2,h3,h5,h5,if_neg (by omega)]
theorem FX:Em g p=⟨arr (Lf g p) g.es.length,arr (Rf g p) g.es.length,w8 g p,ye g p⟩:=by
 unfold Em
 have:(arr (RK g p (-1) g.n.toNat) g.es.length).map (kL g p)=arr (Rf g p) g.es.length:=by
  unfold arr
  rw [List.map_map]
  refine List.map_congr_left fun i hi=> ?_
  have:=List.mem_range.1 hi
  exact C0 h hI (e:=(i:Int)) (by omega)
 rw [this];rfl
theorem AD {k:Nat} (hk:k<g.n.toNat) {a:Int} (ha:a∈(bw g p (au p k)).dropLast):∃u b v,bw g p (au p k)=u++a::b::v:=by
 have hne:bw g p (au p k)≠ []:=fun h0=>by rw [h0] at ha;cases ha
 obtain ⟨w,c,hw⟩:=cG hne
 rw [hw,List.dropLast_concat] at ha
 obtain ⟨u,v,rfl⟩:=List.append_of_mem ha
 cases v with
 |nil=>exact ⟨u,c, [],by rw [hw];simp⟩
 |cons b v=>exact ⟨u,b,v++ [c],by rw [hw];simp⟩
theorem qf {k:Nat} (hk:k<g.n.toNat) {f:Int} (hf:f∈eX g p k):1≤f∧∃u a b v,bw g p (au p k)=u++a::b::v∧Rf g p a=f:=by
 obtain ⟨a,ha,rfl⟩:=List.mem_map.1 hf
 obtain ⟨u,b,v,e⟩:=AD h hI hk ha
 have uj:=w4 h hk (by rw [e];simp)
 obtain ⟨j,hj,et⟩:=nT h hk (a:=a) (by rw [e];simp)
 have h1:RK g p (-1) k a=RK g p (-1) g.n.toNat a:=by
  rw [dS h (by omega) et (j:=g.n.toNat) (by omega) (by omega),dS h (by omega) et (j:=k) (by omega) (by omega)]
 obtain ⟨A,C,e1,hne,_⟩:=jb h uj hk
 have h2:=vb h hI (k:=k) (by omega) hk a (by
  rw [e1]
  by_cases hC:C= []
  ·subst hC;rw [List.append_nil,dJ h hne];simp [ha]
  ·rw [dJ h hC];simp [(List.dropLast_sublist _).subset ha])
 refine ⟨h2.1,u,a,b,v,e, ?_⟩
 have O0:0≤a∧a<g.es.length:=((iJ h (aG h.2.1 hk)).2 a).1 (by rw [e];simp) |>.1
 rw [← C0 h hI O0, ← h1]
 unfold kL
 rw [if_neg (by omega)]
theorem w9:∀ {k:Nat},k≤g.n.toNat→(pL g p k).getD 0 0=au p (g.n.toNat - 1)
 |0,_=>rfl
 |k+1,hk=>by
  have ih:=w9 (k:=k) (by omega)
  have hl:(pL g p k).length=cK p k:=fc
  have hp:0<cK p k:=gJ
  rw [pL,iD (by rw [jR];omega)]
  unfold dN
  rw [oX fun i hi=> ?_,ih]
  have:=(qf h hI (k:=k) (by omega) (f:=(eX g p k).getD i 0) (aK hi)).1
  omega
theorem C1:Mn g p 0=au p 0:=by
 have hp:0<cK p g.n.toNat:=gJ
 show (dx p g.n.toNat++ [au p 0]).getD 0 0=_
 rw [iD (by rw [dy];exact hp)]
 have:=oT (p:=p) (k:=0) (f:=0) (by simp [cK]) (d:=g.n.toNat)
 rw [Nat.zero_add] at this
 rw [this];rfl
theorem Ju:(cN g p:Int)=g.es.length - g.n+2:=by
 have hm:=aE h.1
 have hn:=aZ hm
 have tw:aW p (au p (g.n.toNat - 1))= []:=(eW h hI (aG h.2.1 (by omega))).2 rfl
 have key:∀k,k<g.n.toNat→(cK p k:Int)=1+((List.range k).flatMap fun j=>aW p (au p j)).length - k:=by
  intro k
  induction k with
  |zero=>intro _;simp [cK]
  |succ k ih=>
   intro hk
   have hO:aW p (au p k)≠ []:=fun h1=>by
    have:=(eW h hI (aG h.2.1 (show k<g.n.toNat by omega))).1 h1
    have:=dV h.2.1 (show k<g.n.toNat by omega) (by omega) this
    omega
   have:=List.length_pos_iff.2 hO
   have ih:=ih (by omega)
   have e1:((List.range (k+1)).flatMap fun j=>aW p (au p j))=((List.range k).flatMap fun j=>aW p (au p j))++aW p (au p k):=by rw [List.range_succ,List.flatMap_append];simp
   rw [e1,List.length_append,cK]
   omega
 have hall:((List.range (g.n.toNat - 1)).flatMap fun j=>aW p (au p j)).length=g.es.length:=by
  have cg:∀k,k≤g.n.toNat→((List.range k).flatMap fun j=>aW p (au p j)).Nodup:=by
   intro k
   induction k with
   |zero=>intro _;simp
   |succ k ih=>
    intro hk
    rw [List.range_succ,List.flatMap_append,List.nodup_append]
    refine ⟨ih (by omega),by simpa using CQ h (by omega),fun a ha b hb e=> ?_⟩
    subst e
    obtain ⟨j,hj,hja⟩:=List.mem_flatMap.1 ha
    have hj:=List.mem_range.1 hj
    have hb:a∈aW p (au p k):=by simpa using hb
    have t1:=(gW h (by omega) hja).2
    have t2:=(gW h (by omega) hb).2
    have:=dV h.2.1 (show j<g.n.toNat by omega) (by omega) (t1.symm.trans t2)
    omega
  have Jv:∀e:Int,0≤e→e<g.es.length→e∈((List.range (g.n.toNat - 1)).flatMap fun j=>aW p (au p j)):=fun e h1 h2=>by
   have ht:=b7 hm (i:=e.toNat) (by omega)
   obtain ⟨k,hk,e1⟩:=gV h.2.1 ht.1 ht.2
   have e1:au p k=qe g e:=e1
   obtain ⟨u,v,e2⟩:=zg h hk ⟨h1,h2⟩ e1.symm
   refine List.mem_flatMap.2 ⟨k,List.mem_range.2 ?_,by rw [e2];simp⟩
   refine Decidable.byContradiction fun hc=> ?_
   obtain rfl:k=g.n.toNat - 1:=by omega
   rw [tw] at e2;cases u<;>cases e2
  have h1:=sO Jv
  have h2:=eu (m:=(List.range g.es.length).map Int.ofNat) (cg (g.n.toNat - 1) (by omega)) fun e he=>by
   obtain ⟨j,hj,hja⟩:=List.mem_flatMap.1 he
   have hj:=List.mem_range.1 hj
   have:=(gW h (by omega) hja).1
   exact List.mem_map.2 ⟨e.toNat,List.mem_range.2 (by omega),by simp;omega⟩
  rw [List.length_map,List.length_range] at h2
  omega
 have h1:=key (g.n.toNat - 1) (by omega)
 rw [hall] at h1
 have h2:cN g p=cK p (g.n.toNat - 1):=by
  show cK p g.n.toNat=_
  rw [show g.n.toNat=(g.n.toNat - 1)+1 by omega,cK,show g.n.toNat - 1+1 - 1=g.n.toNat - 1 by omega,tw];rfl
 omega
end
end Go.Ab
end
section
namespace Go.Ab
open Go.Proofs
set_option maxRecDepth 10000
def C2 (q:Nat→Bool):Nat→Nat
 |0=>0
 |n+1=>C2 q n ||| (if q n then 2 ^ n else 0)
theorem nU {q:Nat→Bool} {y:Nat} :∀ {n:Nat},(C2 q n).testBit y=(decide (y<n)&&q y)
 |0=>by simp [C2]
 |n+1=>by
  rw [C2,Nat.testBit_or,nU]
  by_cases h:y=n
  ·subst h
   cases hq:q y<;>simp [Nat.testBit_two_pow_self]
  ·have h2:(if q n then 2 ^ n else 0).testBit y=false:=by
    split
    ·rw [Nat.testBit_two_pow];exact decide_eq_false fun e=>h e.symm
    ·simp
   rw [h2,Bool.or_false]
   congr 1
   rw [decide_eq_decide];omega
inductive AW (g:Gr) (both:Bool) (c:Nat→Bool) (x:Nat):Nat→Prop
 |refl:AW g both c x x
 |fwd {i:Nat} :i<g.es.length→c i=true→AW g both c x (tl g i).toNat→AW g both c x (hd g i).toNat
 |Nd {i:Nat} :i<g.es.length→c i=true→both=true→AW g both c x (hd g i).toNat→AW g both c x (tl g i).toNat
theorem AW.trans {g:Gr} {both:Bool} {c:Nat→Bool} {x y z:Nat} (h1:AW g both c x y) (h2:AW g both c y z):AW g both c x z:=by
 induction h2 with
 |refl=>exact h1
 |fwd a b _ ih=>exact .fwd a b ih
 |Nd a b d _ ih=>exact .Nd a b d ih
open Classical in
noncomputable def Mo (g:Gr) (both:Bool) (c:Nat→Bool) (x:Nat):Nat:=C2 (fun y=>decide (AW g both c x y)) g.n.toNat
noncomputable def O1 (g:Gr) (both:Bool) (c:Nat→Bool):List Nat:=(List.range g.n.toNat).map (Mo g both c)
open Classical in
theorem JX {g:Gr} {both:Bool} {c:Nat→Bool} {x y:Nat} :(Mo g both c x).testBit y=true↔y<g.n.toNat∧AW g both c x y:=by
 unfold Mo
 rw [nU]
 simp
def Jw (g:Gr) (both:Bool) (c:Nat→Bool) (a:List Nat):Nat→List Nat × Bool
 |0=>(a,false)
 |k+1=>
  let s:=Jw g both c a k
  if c k=true then
   let t:=s.1.getD (tl g k).toNat 0 ||| s.1.getD (hd g k).toNat 0
   let h:=if both=true then t else s.1.getD (hd g k).toNat 0
   ((s.1.set (tl g k).toNat t).set (hd g k).toNat h,s.2||(decide (t≠s.1.getD (tl g k).toNat 0)||decide (h≠s.1.getD (hd g k).toNat 0)))
  else s
structure Nf (g:Gr) (both:Bool) (c:Nat→Bool) (a:List Nat):Prop where
 len:a.length=g.n.toNat
 own:∀x,x<g.n.toNat→(a.getD x 0).testBit x=true
 snd:∀x y,x<g.n.toNat→(a.getD x 0).testBit y=true→y<g.n.toNat∧AW g both c x y
theorem Nf.lt {g:Gr} {both:Bool} {c:Nat→Bool} {a:List Nat} (h:Nf g both c a) (hn:g.n.toNat≤64) (x:Nat):a.getD x 0<18446744073709551616:=by
 by_cases hx:x<g.n.toNat
 ·have:a.getD x 0<2 ^ 64:=Nat.lt_pow_two_of_testBit _ fun i hi=>by
   cases hb:(a.getD x 0).testBit i with
   |false=>rfl
   |true=>have:=(h.snd x i hx hb).1;omega
  simpa using this
 ·rw [List.getD_eq_getElem?_getD,List.getElem?_eq_none (by rw [h.len];omega)];simp
def O2 (a:List Nat):Nat:=a.foldr (· + ·) 0
end Go.Ab
end
section
namespace Go.Ab
open Go.Proofs
attribute [local congr] ACall.congr
set_option maxRecDepth 20000
set_option maxHeartbeats 8000000
def rU (n:Nat):List D:= [.sc (.int .u64 (n:Int))]
def eU (n:Nat):AV:= .d (.sc (.int .u64 (n:Int)))
def sU (l:List Nat):D:= .sl 1 (l.map rU)
theorem getD_rU (ps:List Nat) (i:Nat):(ps.map rU).getD i [.sc (.int .u64 0)]= [.sc (.int .u64 ((ps.getD i 0:Nat):Int))]:=by
 rw [List.getD_eq_getElem?_getD,List.getElem?_map,List.getD_eq_getElem?_getD]
 cases ps[i]? <;>rfl
attribute [go_sem] eU sU getD_rU InU
end Go.Ab
end
section
namespace Go.Ab
open Go.Proofs
attribute [local congr] ACall.congr
set_option maxRecDepth 20000
set_option maxHeartbeats 8000000
def Mp (k:Nat):List Nat:=(List.range k).map fun x=>2 ^ x
def Ng (g:Gr):List Nat:=if aU g=true then Mp g.n.toNat else []
theorem ET {l:List Nat} :∀r∈l.map rU,∀x∈r,∃v,x=D.sc v:=by
 intro r hr x hx
 obtain ⟨y,_,rfl⟩:=List.mem_map.1 hr
 simp only [rU,List.mem_singleton] at hx
 exact ⟨_,hx⟩
noncomputable def Qb (g:Gr):List Nat:=if aU g=true then O1 g false (fun _=>true) else []
end Go.Ab
end
section
namespace Go.Ab
open Go.Proofs
set_option maxRecDepth 10000
set_option linter.unusedSectionVars false
def O3 (s:Nat) (x:Int):Bool:=decide (0≤x)&&decide (x<64)&&s.testBit x.toNat
section
variable {P:PS} (h:P.Ok) {L R:Int→Int} {f0 f1:Int} {low:Int→Int} (F:P.ij L R f0 f1 low)
def O4 (P:PS) (R:Int→Int) (f:Int):Nat→Nat
 |0=>0
 |j+1=>if R (P.sh j)=f then j+1 else O4 P R f j
include h F
end
section
variable (g:Gr) (p:Pl)
def FY:Gr:=⟨(cN g p:Int)+1,(List.range g.es.length).map fun i:Nat=>(Lf g p i,Rf g p i)⟩
end
section
variable {g:Gr} {p:Pl}
theorem Ep:(FY g p).es.length=g.es.length:=by simp [FY]
variable (h:cA g p) (hI:kE g=true)
include h hI
end
end Go.Ab
end
section
namespace Go.Ab
open Go.Proofs
set_option maxRecDepth 10000
set_option linter.unusedSectionVars false
def jl (R:Int→Int):List Int→List Int
 | []=> []
 |e::W=>e::R e::jl R W
def eY (R:Int→Int) (W:List Int):List Int:=0::jl R W
variable {R:Int→Int}
theorem fT:∀ {A B:List Int},jl R (A++B)=jl R A++jl R B
 | [],_=>rfl
 |a::A,B=>by simp [jl,fT (A:=A)]
theorem lB:∀ {W:List Int},(jl R W).length=2*W.length
 | []=>rfl
 |a::W=>by simp only [jl,List.length_cons,lB (W:=W)];omega
theorem si {W:List Int} :(eY R W).length=2*W.length+1:=by simp [eY,lB]
theorem tI:∀ {W:List Int} {q:Nat},q<W.length→(jl R W).getD (2*q) 0=W.getD q 0
 | [],q,h=>by cases h
 |a::W,0,_=>rfl
 |a::W,q+1,h=>by
  have:=tI (W:=W) (q:=q) (by simpa using h)
  rw [show 2*(q+1)=2*q+2 by omega]
  simpa [jl] using this
theorem xb:∀ {W:List Int} {q:Nat},q<W.length→(jl R W).getD (2*q+1) 0=R (W.getD q 0)
 | [],q,h=>by cases h
 |a::W,0,_=>rfl
 |a::W,q+1,h=>by
  have:=xb (W:=W) (q:=q) (by simpa using h)
  rw [show 2*(q+1)+1=(2*q+1)+2 by omega]
  simpa [jl] using this
theorem C3 {W:List Int} {q:Nat} (h:q<W.length):(eY R W).getD (2*q+1) 0=W.getD q 0:=by
 have:=tI (R:=R) h
 simpa [eY] using this
theorem jS {W:List Int} {q:Nat} (h:q<W.length):(eY R W).getD (2*q+2) 0=R (W.getD q 0):=by
 have:=xb (R:=R) h
 simpa [eY] using this
theorem C4 {A B:List Int} :(eY R (A++B)).take (2*A.length+1)=eY R A:=by
 unfold eY
 rw [List.take_succ_cons,fT,List.take_append_of_le_length (by rw [lB];omega),List.take_of_length_le (by rw [lB];omega)]
theorem AE {A B:List Int} :(eY R (A++B)).drop (2*A.length+1)=jl R B:=by
 unfold eY
 rw [List.drop_succ_cons,fT]
 have:2*A.length=(jl R A).length:=lB.symm
 rw [this,List.drop_left]
def ku (c:Nat) (o:List Int):Nat→List Int
 |0=> []
 |k+1=>ku c o k++if k+1<o.length then [o.getD k 0,((c+k:Nat):Int)] else [o.getD k 0]
theorem tJ {c:Nat} {o:List Int} (hR:∀k,k+1<o.length→R (o.getD k 0)=((c+k:Nat):Int)):∀ {k:Nat},k<o.length→ku c o k=jl R (o.take k)
 |0,_=>rfl
 |k+1,h=>by
  have ih:=tJ hR (k:=k) (by omega)
  have e:o.take (k+1)=o.take k++ [o.getD k 0]:=by
   rw [List.take_add_one,List.getD_eq_getElem?_getD,List.getElem?_eq_getElem (by omega)];rfl
  rw [ku,if_pos h,ih,e,fT,jl,jl,hR k h]
theorem C5 {c:Nat} {o:List Int} (hR:∀k,k+1<o.length→R (o.getD k 0)=((c+k:Nat):Int)) (h:o≠ []):ku c o o.length++ [R (o.getD (o.length - 1) 0)]=jl R o:=by
 obtain ⟨v,b,rfl⟩:=cG h
 have hl:(v++ [b]).length=v.length+1:=by simp
 have e1:=tJ (R:=R) hR (k:=v.length) (by omega)
 have e2:(v++ [b]).getD v.length 0=b:=fR (v:= [])
 rw [hl,ku,if_neg (by omega),e1,e2,show v.length+1 - 1=v.length by omega,e2,List.take_left,fT]
 simp [jl]
theorem sj {c:Nat} {o:List Int} :∀ {k:Nat},(ku c o k).length≤2*k
 |0=>Nat.le_refl _
 |k+1=>by
  rw [ku,List.length_append]
  have:=sj (c:=c) (o:=o) (k:=k)
  split<;>simp<;>omega
def dO (A:List Int) (T:Nat) (x:Int) (j:Nat):List Int:=A++(List.replicate j x++List.replicate (T - A.length - j) 0)
theorem AF {A:List Int} {T:Nat} {x:Int} {j:Nat} (h:A.length+j≤T):(dO A T x j).length=T:=by simp [dO];omega
theorem AG {A:List Int} {T:Nat} {x:Int} {j:Nat} (h:A.length+j<T):(dO A T x j).set (A.length+j) x=dO A T x (j+1):=by
 unfold dO
 rw [List.set_append,if_neg (by omega),show A.length+j - A.length=j by omega,List.set_append,if_neg (by simp),List.length_replicate,Nat.sub_self]
 have e:T - A.length - j=(T - A.length - (j+1))+1:=by omega
 rw [e,List.replicate_succ,List.set_cons_zero,List.replicate_succ',List.append_assoc];rfl
section
variable (g:Gr) (p:Pl)
def lC (k:Nat):List Int:=(0::(dx p k).tail)++List.replicate (cN g p+1 - cK p k) 0
def yf (k:Nat):List Int:=(0::(pL g p k).tail)++List.replicate (cN g p+1 - cK p k) 0
def sk (k:Nat):List Int:=if k=0 then [0,(cN g p:Int)] else eY (Rf g p) (WK g p k)
end
section
variable {g:Gr} {p:Pl}
theorem tK {l:List Int} {a:Int} (h:0<l.length):(a::l.tail).length=l.length:=by
 cases l with
 |nil=>cases h
 |cons b l=>simp
theorem sn {k:Nat} (hk:k≤g.n.toNat):cK p k≤cN g p:=by
 obtain ⟨d,hd⟩:=Nat.exists_eq_add_of_le hk
 have:=nS (p:=p) (k:=k) (d:=d)
 rw [← hd] at this;exact this
theorem lW {k:Nat} :(0::(dx p k).tail:List Int).length=cK p k:=by rw [tK (by rw [dy];exact gJ),dy]
theorem xd {k:Nat} :(0::(pL g p k).tail:List Int).length=cK p k:=by rw [tK (by rw [fc];exact gJ),fc]
theorem AH {k:Nat} {x:Int} :lC g p k=dO (0::(dx p k).tail) (cN g p+1) x 0:=by
 unfold dO lC
 rw [lW];rfl
theorem AI {k:Nat} :lC g p (k+1)=dO (0::(dx p k).tail) (cN g p+1) (au p k) ((aW p (au p k)).length - 1):=by
 unfold dO lC
 have h0:(dx p k).length=cK p k:=dy
 have hp:0<cK p k:=gJ
 rw [lW,dx,cK]
 cases hl:dx p k with
 |nil=>rw [hl] at h0;simp at h0;omega
 |cons a l=>
  simp only [List.tail_cons,List.cons_append,List.append_assoc]
  congr 3
  congr 1
  omega
theorem C6 {k:Nat} (hk:k≤g.n.toNat):(lC g p k).length=cN g p+1:=by
 have:=sn (g:=g) (p:=p) hk
 unfold lC
 rw [List.length_append,lW,List.length_replicate];omega
theorem zk {k:Nat} (hk:k≤g.n.toNat):(yf g p k).length=cN g p+1:=by
 have:=sn (g:=g) (p:=p) hk
 unfold yf
 rw [List.length_append,xd,List.length_replicate];omega
theorem tL {A B o:List Int} {f:Nat→Int} :∀ {j:Nat},(∀i,i<j→(o.getD i 0).toNat<A.length)→dz (A++B) o f j=dz A o f j++B
 |0,_=>rfl
 |j+1,h=>by
  rw [dz,dz,tL fun i hi=>h i (by omega),List.set_append,if_pos (by rw [dR];exact h j (by omega))]
theorem sq {A o:List Int} {f:Nat→Int} {a b:Int} :∀ {j:Nat},(∀i,i<j→1≤o.getD i 0)→(a::(dz (b::A) o f j).tail)=dz (a::A) o f j
 |0,_=>rfl
 |j+1,h=>by
  have ih:=sq (A:=A) (o:=o) (f:=f) (a:=a) (b:=b) (j:=j) fun i hi=>h i (by omega)
  have h1:=h j (by omega)
  obtain ⟨n,hn⟩:∃n,(o.getD j 0).toNat=n+1:=⟨(o.getD j 0).toNat - 1,by omega⟩
  have hl:(dz (b::A) o f j).length=A.length+1:=by rw [dR];rfl
  rw [dz,dz, ← ih,hn]
  cases hs:dz (b::A) o f j with
  |nil=>rw [hs] at hl;cases hl
  |cons c l=>rfl
variable (h:cA g p) (hI:kE g=true)
include h hI
theorem xe {k:Nat} (hk:k<g.n.toNat):yf g p (k+1)=dN (yf g p k) (eX g p k) (au p k) (eX g p k).length:=by
 have dL:∀i,i<(eX g p k).length→1≤(eX g p k).getD i 0∧(eX g p k).getD i 0<cK p k:=fun i hi=>by
  have h1:=(qf h hI hk (f:=(eX g p k).getD i 0) (aK hi)).1
  have h2:=ve h hI hk _ (aK (d:=0) hi)
  rw [fc] at h2
  omega
 have hp:0<cK p k:=gJ
 have hl:(pL g p k).length=cK p k:=fc
 have hle:=sn (g:=g) (p:=p) (show k+1≤g.n.toNat by omega)
 have En:cK p (k+1)=cK p k+((aW p (au p k)).length - 1):=rfl
 unfold yf dN
 rw [tL (fun i hi=>by rw [xd];have:=dL i hi;omega),pL]
 unfold dN
 cases hh:pL g p k with
 |nil=>rw [hh] at hl;simp at hl;omega
 |cons a l=>
  have AR:0<(dz (a::l) (eX g p k) (fun _=>au p k) (eX g p k).length).length:=by rw [dR];simp
  rw [List.tail_append_of_ne_nil (List.length_pos_iff.1 AR), ← List.cons_append,sq (fun i hi=>(dL i hi).1),List.append_assoc,List.tail_cons]
  congr 1
  rw [List.replicate_append_replicate]
  congr 1
  omega
theorem Er:((lC g p g.n.toNat).set 0 (au p 0)).set (cN g p) (au p 0)=w8 g p:=by
 have hl:(dx p g.n.toNat).length=cN g p:=dy
 have hp:0<cN g p:=gJ
 have h0:=C1 h hI
 unfold Mn w8 at h0
 unfold lC w8
 rw [show cN g p+1 - cK p g.n.toNat=1 by show cN g p+1 - cN g p=1;omega]
 cases hh:dx p g.n.toNat with
 |nil=>rw [hh] at hl;simp at hl;omega
 |cons a l=>
  rw [hh] at h0 hl
  have ha:a=au p 0:=h0
  have hl:l.length+1=cN g p:=hl
  rw [List.tail_cons,List.cons_append,List.set_cons_zero,ha, ← hl,List.set_cons_succ,List.set_append,if_neg (by omega),Nat.sub_self];rfl
theorem FZ:((yf g p g.n.toNat).set 0 (au p (g.n.toNat - 1))).set (cN g p) (au p (g.n.toNat - 1))=ye g p:=by
 have hl:(pL g p g.n.toNat).length=cN g p:=fc
 have hp:0<cN g p:=gJ
 have h0:=w9 h hI (Nat.le_refl _)
 unfold yf ye
 rw [show cN g p+1 - cK p g.n.toNat=1 by show cN g p+1 - cN g p=1;omega]
 cases hh:pL g p g.n.toNat with
 |nil=>rw [hh] at hl;simp at hl;omega
 |cons a l=>
  rw [hh] at h0 hl
  have ha:a=au p (g.n.toNat - 1):=h0
  have hl:l.length+1=cN g p:=hl
  rw [List.tail_cons,List.cons_append,List.set_cons_zero,ha, ← hl,List.set_cons_succ,List.set_append,if_neg (by omega),Nat.sub_self];rfl
end
end Go.Ab
end
section
namespace Go.Ab
open Go.Proofs
attribute [local congr] ACall.congr
set_option maxRecDepth 10000
set_option maxHeartbeats 16000000
theorem tM (g:Gr) (hl:g.es.length≤9223372036854775807) (p:Pl) (hp:pI p) (b:Bool) (hr:b=true↔(cr g).1=0∧bF g p):Spec Tryz.prog 47 (Args [eG g,ePl p]) [] (eB (decide ((bK b g p).2.1=0))) []:=by
 have hO:=wW g hl p hp b hr
 generalize bK b g p=R at hO
 (refine Spec.intro (C:=T.cfg [] []) (rs:= [.t 4]) (T.aq _ _) Tryz.func47 rfl rfl Tryz.ntmps47 Tryz.results47 (by simp [AObj.isNest]) (by simp [AObj.isNest]) (by kernel_rfl) ?_;intro X hX hP hC aN aO vals hA;refine ⟨_,by simp,hA, ?_⟩;have af:X.P.follows .mixedOrders=true:=(by rw [hP];exact T.mixed);clear aN aO)
 repeat' (first|fail|((first|((with_reducible (first|apply oA|apply oB));exact rfl;intro K hK)|(refine hK _ ?_;clear hK K)|((with_reducible (first|apply oG|apply oH));iterate 3 exact rfl)|((with_reducible apply oI);(iterate 2 exact rfl);intro K hK)|(with_reducible (first|apply wI|apply wJ|apply wK)));try simp only [go_sem,simprocAttr])|fail|(with_reducible (first|apply oC|apply oJ|exact oK|apply wA|apply wB|apply wC hX hC|apply wD hX hC|apply wE hX hC af|apply wF hX hC af|apply wG|apply wH|apply And.intro))|((with_reducible refine oD ?_ ?_);first|fail|kernel_rfl)|((with_reducible (first|apply oE|apply oF));(iterate 3 exact rfl);all_goals (intro h;first|(exact absurd h (by decide))|((try simp only [go_sem,simprocAttr] at h);(try with_reducible intro K hK);simp only [go_sem,simprocAttr])))|((first|((with_reducible apply wL);exact rfl)|((with_reducible apply wM);exact rfl));all_goals (try ((with_reducible intro h);first|(exact absurd h (by decide))|(try simp only [go_sem,simprocAttr] at h))))|omega|((first|first|refine aa hX hC hP (hO) rfl rfl rfl (by simp only [go_sem,simprocAttr]) rfl ?_);try simp only [go_sem,simprocAttr])|(intro h))
end Go.Ab
end
section
namespace Go.Ab
open Go.Proofs
attribute [local congr] ACall.congr
set_option maxRecDepth 20000
set_option maxHeartbeats 8000000
theorem pN (g:Gr) (hl:g.es.length≤1000) (p:Pl) (hp:pI p) (b:Bool) (hr:b=true↔(cr g).1=0∧bF g p):
 Spec Tryz.prog 17 (Args [eG g,ePl p]) [] (.tup [b8 (yc b g p).1,eN (yc b g p).2]) []:=by
 have hO:=mj g hl p hp b hr
 have xq:=rX g hl
 by_cases h0:(bK b g p).2.1=0
 rotate_left
 ·have hK:yc b g p=(gv,1):=if_neg fun h=>h0 h.1.1
  have hb0:decide ((bK b g p).2.1=0)=false:=decide_eq_false h0
  rw [hK]
  (refine Spec.intro (C:=T.cfg [] []) (rs:= [.c 4 32, .t 5]) (T.aq _ _) Tryz.func17 rfl rfl Tryz.ntmps17 Tryz.results17 (by simp [AObj.isNest]) (by simp [AObj.isNest]) (by kernel_rfl) ?_;intro X hX hP hC aN aO vals hA;refine ⟨_,by simp,hA, ?_⟩;have af:X.P.follows .mixedOrders=true:=(by rw [hP];exact T.mixed);clear aN aO)
  repeat' (first|fail|((first|((with_reducible (first|apply oA|apply oB));exact rfl;intro K hK)|(refine hK _ ?_;clear hK K)|((with_reducible (first|apply oG|apply oH));iterate 3 exact rfl)|((with_reducible apply oI);(iterate 2 exact rfl);intro K hK)|(with_reducible (first|apply wI|apply wJ|apply wK)));try simp only [go_sem,simprocAttr,hb0,b8,gv,List.map_nil])|fail|(with_reducible (first|apply oC|apply oJ|exact oK|apply wA|apply wB|apply wC hX hC|apply wD hX hC|apply wE hX hC af|apply wF hX hC af|apply wG|apply wH|apply And.intro))|((with_reducible refine oD ?_ ?_);first|fail|kernel_rfl)|((with_reducible (first|apply oE|apply oF));(iterate 3 exact rfl);all_goals (intro h;first|(exact absurd h (by decide))|((try simp only [go_sem,simprocAttr,hb0,b8,gv,List.map_nil] at h);(try with_reducible intro K hK);simp only [go_sem,simprocAttr,hb0,b8,gv,List.map_nil])))|((first|((with_reducible apply wL);exact rfl)|((with_reducible apply wM);exact rfl));all_goals (try ((with_reducible intro h);first|(exact absurd h (by decide))|(try simp only [go_sem,simprocAttr,hb0,b8,gv,List.map_nil] at h))))|omega|((first|first|refine aa hX hC hP (hO) rfl rfl rfl (by simp only [go_sem,simprocAttr,hb0,b8,gv,List.map_nil]) rfl ?_);try simp only [go_sem,simprocAttr,hb0,b8,gv,List.map_nil])|(intro h))
 obtain ⟨hrun,hR⟩:=oN hr h0
 cases hI:kE g with
 |false=>
  have hK:yc b g p=(gv,1):=if_neg fun h=>by rw [hI] at h;cases h.1.2
  rw [hR] at hO
  simp only at hO
  rw [hI] at xq
  rw [hK]
  (refine Spec.intro (C:=T.cfg [] []) (rs:= [.c 4 32, .t 5]) (T.aq _ _) Tryz.func17 rfl rfl Tryz.ntmps17 Tryz.results17 (by simp [AObj.isNest]) (by simp [AObj.isNest]) (by kernel_rfl) ?_;intro X hX hP hC aN aO vals hA;refine ⟨_,by simp,hA, ?_⟩;have af:X.P.follows .mixedOrders=true:=(by rw [hP];exact T.mixed);clear aN aO)
  repeat' (first|fail|((first|((with_reducible (first|apply oA|apply oB));exact rfl;intro K hK)|(refine hK _ ?_;clear hK K)|((with_reducible (first|apply oG|apply oH));iterate 3 exact rfl)|((with_reducible apply oI);(iterate 2 exact rfl);intro K hK)|(with_reducible (first|apply wI|apply wJ|apply wK)));try simp only [go_sem,simprocAttr,b8,gv,List.map_nil])|fail|(with_reducible (first|apply oC|apply oJ|exact oK|apply wA|apply wB|apply wC hX hC|apply wD hX hC|apply wE hX hC af|apply wF hX hC af|apply wG|apply wH|apply And.intro))|((with_reducible refine oD ?_ ?_);first|fail|kernel_rfl)|((with_reducible (first|apply oE|apply oF));(iterate 3 exact rfl);all_goals (intro h;first|(exact absurd h (by decide))|((try simp only [go_sem,simprocAttr,b8,gv,List.map_nil] at h);(try with_reducible intro K hK);simp only [go_sem,simprocAttr,b8,gv,List.map_nil])))|((first|((with_reducible apply wL);exact rfl)|((with_reducible apply wM);exact rfl));all_goals (try ((with_reducible intro h);first|(exact absurd h (by decide))|(try simp only [go_sem,simprocAttr,b8,gv,List.map_nil] at h))))|omega|((first|first|refine aa hX hC hP (hO) rfl rfl rfl (by simp only [go_sem,simprocAttr,b8,gv,List.map_nil]) rfl ?_|refine aa hX hC hP (xq) rfl rfl rfl (by simp only [go_sem,simprocAttr,b8,gv,List.map_nil]) rfl ?_);try simp only [go_sem,simprocAttr,b8,gv,List.map_nil])|(intro h))
 |true=>
  by_cases hm:0<g.es.length
  ·have hK:yc b g p=(Em g p,0):=if_pos ⟨⟨h0,hI⟩,hm⟩
   rw [hK]
   exact AB g p hp hrun hI hm b hr
  ·have hK:yc b g p=(gv,1):=if_neg fun h=>hm h.2
   have an:decide ((g.es.length:Int)=0)=true:=decide_eq_true (by omega)
   rw [hR] at hO
   simp only at hO
   rw [hI] at xq
   rw [hK]
   (refine Spec.intro (C:=T.cfg [] []) (rs:= [.c 4 32, .t 5]) (T.aq _ _) Tryz.func17 rfl rfl Tryz.ntmps17 Tryz.results17 (by simp [AObj.isNest]) (by simp [AObj.isNest]) (by kernel_rfl) ?_;intro X hX hP hC aN aO vals hA;refine ⟨_,by simp,hA, ?_⟩;have af:X.P.follows .mixedOrders=true:=(by rw [hP];exact T.mixed);clear aN aO)
   repeat' (first|fail|((first|((with_reducible (first|apply oA|apply oB));exact rfl;intro K hK)|(refine hK _ ?_;clear hK K)|((with_reducible (first|apply oG|apply oH));iterate 3 exact rfl)|((with_reducible apply oI);(iterate 2 exact rfl);intro K hK)|(with_reducible (first|apply wI|apply wJ|apply wK)));try simp only [go_sem,simprocAttr,an,b8,gv,List.map_nil])|fail|(with_reducible (first|apply oC|apply oJ|exact oK|apply wA|apply wB|apply wC hX hC|apply wD hX hC|apply wE hX hC af|apply wF hX hC af|apply wG|apply wH|apply And.intro))|((with_reducible refine oD ?_ ?_);first|fail|kernel_rfl)|((with_reducible (first|apply oE|apply oF));(iterate 3 exact rfl);all_goals (intro h;first|(exact absurd h (by decide))|((try simp only [go_sem,simprocAttr,an,b8,gv,List.map_nil] at h);(try with_reducible intro K hK);simp only [go_sem,simprocAttr,an,b8,gv,List.map_nil])))|((first|((with_reducible apply wL);exact rfl)|((with_reducible apply wM);exact rfl));all_goals (try ((with_reducible intro h);first|(exact absurd h (by decide))|(try simp only [go_sem,simprocAttr,an,b8,gv,List.map_nil] at h))))|omega|((first|first|refine aa hX hC hP (hO) rfl rfl rfl (by simp only [go_sem,simprocAttr,an,b8,gv,List.map_nil]) rfl ?_|refine aa hX hC hP (xq) rfl rfl rfl (by simp only [go_sem,simprocAttr,an,b8,gv,List.map_nil]) rfl ?_);try simp only [go_sem,simprocAttr,an,b8,gv,List.map_nil])|(intro h))
end Go.Ab
end
section
namespace Go.Ab
open Go.Proofs
attribute [local congr] ACall.congr
set_option maxRecDepth 20000
set_option maxHeartbeats 8000000
def yg (f:Fc) (k:Nat):List Edge:=(List.range k).map fun i:Nat=>(f.L.getD i 0,f.R.getD i 0)
theorem zm {f:Fc} {k:Nat} :(yg f k).length=k:=by simp [yg]
theorem xg {f:Fc} {k:Nat} :(yg f (k+1)).map rE=(yg f k).map rE++ [rE (f.L.getD k 0,f.R.getD k 0)]:=by simp [yg,List.range_succ]
theorem xh (f:Fc) (h1:f.L.length≤100000) (h2:f.R.length=f.L.length):Spec Tryz.prog 23 (Args [b8 f]) [] (eG ⟨f.lo.length,yg f f.L.length⟩) []:=by
 have hmin:min (f.L.length:Int) (f.R.length:Int)=f.L.length:=by rw [h2];simp
 (refine Spec.intro (C:=T.cfg [] []) (rs:= [.c 2 24]) (T.aq _ _) Tryz.func23 rfl rfl Tryz.ntmps23 Tryz.results23 (by simp [AObj.isNest]) (by simp [AObj.isNest]) (by kernel_rfl) ?_;intro X hX hP hC aN aO vals hA;refine ⟨_,by simp,hA, ?_⟩;have af:X.P.follows .mixedOrders=true:=(by rw [hP];exact T.mixed);clear aN aO)
 repeat' (first|fail|((first|((with_reducible (first|apply oA|apply oB));exact rfl;intro K hK)|(refine hK _ ?_;clear hK K)|((with_reducible (first|apply oG|apply oH));iterate 3 exact rfl)|((with_reducible apply oI);(iterate 2 exact rfl);intro K hK)|(with_reducible (first|apply wI|apply wJ|apply wK)));try simp only [go_sem,simprocAttr,b8,hmin])|(show cH _ (.seq (.region 2 _ _) _) _ _;(refine qT hX 3 1 200 (.tip 58 2 []) rfl rfl rfl (by simp only [go_sem,simprocAttr,b8,hmin]) (by decide) (by simp [go_sem,simprocAttr,b8,hmin]) ⟨58,2,by decide, .inr rfl⟩ ?_;simp only [LA.app,ASt.put,ASt.kill,subT,rmk,putM,rml,kl,AV.sub,AV.subs,AObj.sub,List.set_cons_zero,List.set_cons_succ,go_sem,simprocAttr,b8,hmin]))|(with_reducible (first|apply oC|apply oJ|exact oK|apply wA|apply wB|apply wC hX hC|apply wD hX hC|apply wE hX hC af|apply wF hX hC af|apply wG|apply wH|apply And.intro))|((with_reducible refine oD ?_ ?_);first|fail|kernel_rfl)|((with_reducible (first|apply oE|apply oF));(iterate 3 exact rfl);all_goals (intro h;first|(exact absurd h (by decide))|((try simp only [go_sem,simprocAttr,b8,hmin] at h);(try with_reducible intro K hK);simp only [go_sem,simprocAttr,b8,hmin])))|((first|((with_reducible apply wL);exact rfl)|((with_reducible apply wM);exact rfl));all_goals (try ((with_reducible intro h);first|(exact absurd h (by decide))|(try simp only [go_sem,simprocAttr,b8,hmin] at h))))|omega|((first|fail);try simp only [go_sem,simprocAttr,b8,hmin])|(intro h))
 refine ak (fun k:Nat=>k≤f.L.length) (fun k=>⟨[(1, .ptr 1 0),(2, .ptr 2 0),(3, .ptr 3 0),(15,eN f.L.length),(16,eN k)], [(1, .box [.d (sI f.L), .d (sI f.R), .d (sI f.lo), .d (sI f.hi)]),(2, .box [eN 0, .nil 58]),(3, .box [eN f.lo.length, .ref 200]),(200, .tip 58 2 ((yg f k).map rE))]⟩) (fun k=>f.L.length - k) 0 (by omega) ?_ ?_
 ·refine Le.of ?_ ?_<;>simp [go_sem,simprocAttr,b8,hmin,yg]
 rintro k hk
 rcases Nat.lt_or_ge k f.L.length with hlt|hge
 ·have hb:decide ((k:Int)<(f.L.length:Int))=true:=decide_eq_true (by omega)
  have dQ:=xg (f:=f) (k:=k)
  have sG:=zm (f:=f) (k:=k)
  generalize yg f k=G at dQ sG
  repeat' (first|fail|((first|((with_reducible (first|apply oA|apply oB));exact rfl;intro K hK)|(refine hK _ ?_;clear hK K)|((with_reducible (first|apply oG|apply oH));iterate 3 exact rfl)|((with_reducible apply oI);(iterate 2 exact rfl);intro K hK)|(with_reducible (first|apply wI|apply wJ|apply wK)));try simp only [go_sem,simprocAttr,hb,sG])|(show cH _ (.region 6 _ _) _ _;(refine gS hX 3 1 33 200 rfl rfl rfl (by first|exact .inl rfl|exact .inr rfl) (by decide) (by decide) ?_;simp only [LA.app,ASt.put,ASt.kill,subT,rmk,putM,rml,kl,AV.sub,AV.subs,AObj.sub,List.set_cons_zero,List.set_cons_succ,go_sem,simprocAttr,hb,sG]))|(with_reducible (first|apply oC|apply oJ|exact oK|apply wA|apply wB|apply wC hX hC|apply wD hX hC|apply wE hX hC af|apply wF hX hC af|apply wG|apply wH|apply And.intro))|((with_reducible refine oD ?_ ?_);first|fail|kernel_rfl)|((with_reducible (first|apply oE|apply oF));(iterate 3 exact rfl);all_goals (intro h;first|(exact absurd h (by decide))|((try simp only [go_sem,simprocAttr,hb,sG] at h);(try with_reducible intro K hK);simp only [go_sem,simprocAttr,hb,sG])))|((first|((with_reducible apply wL);exact rfl)|((with_reducible apply wM);exact rfl));all_goals (try ((with_reducible intro h);first|(exact absurd h (by decide))|(try simp only [go_sem,simprocAttr,hb,sG] at h))))|omega|((first|fail);try simp only [go_sem,simprocAttr,hb,sG])|(intro h))
  refine ⟨k+1,by omega, ?_,by omega⟩
  rw [dQ]
  refine Le.of ?_ ?_<;>simp [go_sem,simprocAttr,hb,sG,rE]
 ·have hb:decide ((k:Int)<(f.L.length:Int))=false:=decide_eq_false (by omega)
  obtain rfl:k=f.L.length:=by omega
  repeat' (first|fail|((first|((with_reducible (first|apply oA|apply oB));exact rfl;intro K hK)|(refine hK _ ?_;clear hK K)|((with_reducible (first|apply oG|apply oH));iterate 3 exact rfl)|((with_reducible apply oI);(iterate 2 exact rfl);intro K hK)|(with_reducible (first|apply wI|apply wJ|apply wK)));try simp only [go_sem,simprocAttr,hb])|fail|(with_reducible (first|apply oC|apply oJ|exact oK|apply wA|apply wB|apply wC hX hC|apply wD hX hC|apply wE hX hC af|apply wF hX hC af|apply wG|apply wH|apply And.intro))|((with_reducible refine oD ?_ ?_);first|fail|kernel_rfl)|((with_reducible (first|apply oE|apply oF));(iterate 3 exact rfl);all_goals (intro h;first|(exact absurd h (by decide))|((try simp only [go_sem,simprocAttr,hb] at h);(try with_reducible intro K hK);simp only [go_sem,simprocAttr,hb])))|((first|((with_reducible apply wL);exact rfl)|((with_reducible apply wM);exact rfl));all_goals (try ((with_reducible intro h);first|(exact absurd h (by decide))|(try simp only [go_sem,simprocAttr,hb] at h))))|omega|((first|fail);try simp only [go_sem,simprocAttr,hb])|(intro h))
def O5 (b:Bool) (g:Gr) (p:Pl):Bool:= !oO g p&&kE g&&decide ((bK b g p).2.1=0)&&decide (0<(g.es.length:Int))&&decide ((g.es.length:Int)≤60)
theorem C7 {b:Bool} {g:Gr} {p:Pl} (hr:b=true↔(cr g).1=0∧bF g p) (hrun:cA g p) (hI:kE g=true) (h0:0<g.es.length):yc b g p=(⟨arr (Lf g p) g.es.length,arr (Rf g p) g.es.length,w8 g p,ye g p⟩,0):=by
 have:yc b g p=(Em g p,0):=if_pos ⟨⟨by rw [mP hr hrun],hI⟩,h0⟩
 rw [this,FX hrun hI]
theorem Es {g:Gr} {p:Pl} :(⟨((w8 g p).length:Nat),yg ⟨arr (Lf g p) g.es.length,arr (Rf g p) g.es.length,w8 g p,ye g p⟩ (arr (Lf g p) g.es.length).length⟩:Gr)=FY g p:=by
 unfold FY yg
 rw [zj,cq]
 congr 1
 refine List.map_congr_left fun i hi=> ?_
 have hi:=List.mem_range.1 hi
 rw [u9 hi,u9 hi]
def EX:Gr:=⟨4, [(0,1),(1,3),(0,2),(2,3)]⟩
def F0:Pl:=⟨[0,1,2,3], [[0,2], [1], [3], []]⟩
theorem Mq:(true=true)↔(cr EX).1=0∧bF EX F0:=⟨fun _=>⟨by decide,⟨rfl,by decide,by decide⟩⟩,fun _=>rfl⟩
theorem Mr:yc true EX F0=(⟨[0,0,1,1], [1,1,2,2], [0,0,0], [3,3,3]⟩,0):=by
 have:yc true EX F0=(Em EX F0,0):=if_pos ⟨⟨rfl,by decide⟩,by decide⟩
 rw [this]
 rfl
theorem jm:Spec Tryz.prog 15 (Args []) [] (eB true) []:=by
 have FP:=pN EX (by decide) F0 ⟨by decide,by decide,by decide⟩ true Mq
 rw [Mr] at FP
 simp only at FP
 have e1:EX.es.map rE= [[.sc (.int .i64 0), .sc (.int .i64 1)], [.sc (.int .i64 1), .sc (.int .i64 3)], [.sc (.int .i64 0), .sc (.int .i64 2)], [.sc (.int .i64 2), .sc (.int .i64 3)]]:=rfl
 have e2:F0.ord.map rI= [[.sc (.int .i64 0)], [.sc (.int .i64 1)], [.sc (.int .i64 2)], [.sc (.int .i64 3)]]:=rfl
 have e3:vI F0.outs= [[.sl 1 [[.sc (.int .i64 0)], [.sc (.int .i64 2)]]], [.sl 1 [[.sc (.int .i64 1)]]], [.sl 1 [[.sc (.int .i64 3)]]], [.sl 1 []]]:=rfl
 have e4:EX.n=4:=rfl
 (refine Spec.intro (C:=T.cfg [] []) (rs:= [.t 0]) (T.aq _ _) Tryz.func15 rfl rfl Tryz.ntmps15 Tryz.results15 (by simp [AObj.isNest]) (by simp [AObj.isNest]) (by kernel_rfl) ?_;intro X hX hP hC aN aO vals hA;refine ⟨_,by simp,hA, ?_⟩;have af:X.P.follows .mixedOrders=true:=(by rw [hP];exact T.mixed);clear aN aO)
 repeat' (first|fail|((first|((with_reducible (first|apply oA|apply oB));exact rfl;intro K hK)|(refine hK _ ?_;clear hK K)|((with_reducible (first|apply oG|apply oH));iterate 3 exact rfl)|((with_reducible apply oI);(iterate 2 exact rfl);intro K hK)|(with_reducible (first|apply wI|apply wJ|apply wK)));try simp only [go_sem,simprocAttr,b8,e1,e2,e3,e4,List.map_cons,List.map_nil,rI,decide_true])|fail|(with_reducible (first|apply oC|apply oJ|exact oK|apply wA|apply wB|apply wC hX hC|apply wD hX hC|apply wE hX hC af|apply wF hX hC af|apply wG|apply wH|apply And.intro))|((with_reducible refine oD ?_ ?_);first|fail|kernel_rfl)|((with_reducible (first|apply oE|apply oF));(iterate 3 exact rfl);all_goals (intro h;first|(exact absurd h (by decide))|((try simp only [go_sem,simprocAttr,b8,e1,e2,e3,e4,List.map_cons,List.map_nil,rI,decide_true] at h);(try with_reducible intro K hK);simp only [go_sem,simprocAttr,b8,e1,e2,e3,e4,List.map_cons,List.map_nil,rI,decide_true])))|((first|((with_reducible apply wL);exact rfl)|((with_reducible apply wM);exact rfl));all_goals (try ((with_reducible intro h);first|(exact absurd h (by decide))|(try simp only [go_sem,simprocAttr,b8,e1,e2,e3,e4,List.map_cons,List.map_nil,rI,decide_true] at h))))|omega|((first|first|(refine bM hX hC hP (FP) rfl rfl rfl ?_ ?_ rfl ?_;iterate 2 (focus (simp only [go_sem,simprocAttr,b8,e1,e2,e3,e4,List.map_cons,List.map_nil,rI,decide_true];done)))|(refine bM hX hC hP (dP [0,0,1,1] [0,0,1,1] (by decide)) rfl rfl rfl ?_ ?_ rfl ?_;iterate 2 (focus (simp only [go_sem,simprocAttr,b8,e1,e2,e3,e4,List.map_cons,List.map_nil,rI,decide_true];done)))|(refine bM hX hC hP (dP [1,1,2,2] [1,1,2,2] (by decide)) rfl rfl rfl ?_ ?_ rfl ?_;iterate 2 (focus (simp only [go_sem,simprocAttr,b8,e1,e2,e3,e4,List.map_cons,List.map_nil,rI,decide_true];done))));try simp only [go_sem,simprocAttr,b8,e1,e2,e3,e4,List.map_cons,List.map_nil,rI,decide_true])|(intro h))
end Go.Ab
end
section
namespace Go.Ab
open Go.Proofs
attribute [local congr] ACall.congr
set_option maxRecDepth 20000
set_option maxHeartbeats 32000000
theorem vf {l:List Int} {i:Nat} (h:i<l.length):l.take (i+1)=l.take i++ [l.getD i 0]:=by
 rw [List.take_add_one,List.getD_eq_getElem?_getD,List.getElem?_eq_getElem h];rfl
theorem Et {i:Nat} :Int.tmod (i:Int) 2=((i % 2:Nat):Int):=by
 rw [Int.tmod_eq_emod_of_nonneg (by omega)];omega
theorem gG {l:List Int} {i:Nat} (h:i≤l.length):(l.take i).length=i:=by rw [List.length_take];omega
theorem xj {l:List Int} {i k:Nat} (h:k<i):(l.take i).getD k 0=l.getD k 0:=by
 rw [List.getD_eq_getElem?_getD,List.getElem?_take,if_pos h, ← List.getD_eq_getElem?_getD]
structure Jy (g:Gr) (p:Pl) (n:Nat) (row A I C:List Int):Prop where
 len:row.length=2*(A.length+I.length+C.length)+1
 Ms:A.length+I.length+C.length≤g.es.length
 O6:∀q,q<A.length+I.length+C.length→(0≤row.getD (2*q+1) 0∧row.getD (2*q+1) 0<g.es.length)∧(Aw g (row.getD (2*q+1) 0)=au p n↔A.length≤q∧q<A.length+I.length)
 lf:row.getD (2*A.length) 0=LK g p n (ek g p (au p n))
 cl:∀j,j+1<I.length→row.getD (2*(A.length+j)+2) 0=(eX g p n).getD j 0
 rf:row.getD (2*(A.length+I.length)) 0=RK g p (cN g p) n (kF g p (au p n))
 O7:(eX g p n).length+1=I.length
 O8:∀j,j<(eX g p n).length→1≤(eX g p n).getD j 0∧(eX g p n).getD j 0<cN g p
 JV:sk g p (n+1)=(if aW p (au p n)= [] then row.take (2*A.length+1)++row.drop (2*(A.length+I.length)+1) else row.take (2*A.length+1)++ku (cK p n) (aW p (au p n)) (aW p (au p n)).length++row.drop (2*(A.length+I.length)))
theorem Eu {g:Gr} {p:Pl} (h:cA g p) (hI:kE g=true) {n:Nat} (h0:n≠0) (hn:n<g.n.toNat):∃A I C,0<I.length∧Jy g p n (sk g p n) A I C:=by
 have hm:=aE h.1
 have hok:=EV h hI
 have F:=CZ h hI
 obtain ⟨A,C,e1,hne,e2⟩:=jb h h0 hn
 have cg:=zh h (k:=n) (by omega)
 have hx:=aG h.2.1 hn
 have hin:=(iJ h hx).2
 obtain ⟨u,a,hu⟩:=cG hne
 obtain ⟨a0,u0,AO⟩:=iR hne
 have hrow:sk g p n=eY (Rf g p) (WK g p n):=if_neg h0
 have Jz:sk g p (n+1)=eY (Rf g p) (WK g p (n+1)):=if_neg (by omega)
 have Mt:(WK g p n).length=A.length+(bw g p (au p n)).length+C.length:=by rw [e1];simp;omega
 have Mu:∀e∈WK g p n,(0≤e∧e<g.es.length):=fun e he=>by
  have hi:=c9 hm h.2.1 (k:=n) (by omega) fun i hi=>h.2.2 i (by omega)
  obtain ⟨t,ht,rfl⟩:=List.mem_map.1 he
  exact (lT hm hi.1.togP ht).1
 have O9:A.length+(bw g p (au p n)).length+C.length≤g.es.length:=by
  rw [← Mt]
  have:=eu (m:=(List.range g.es.length).map Int.ofNat) cg fun e he=>by
   have:=Mu e he
   exact List.mem_map.2 ⟨e.toNat,List.mem_range.2 (by omega),by simp;omega⟩
  simpa using this
 have yh:∀e∈WK g p n,RK g p (cN g p) n e=Rf g p e:=fun e he=>by
  obtain ⟨j,hj,et⟩:=lV h (by omega) he
  unfold Rf
  rw [dS h (by omega) et (j:=g.n.toNat) (by omega) (by omega),dS h (by omega) et (j:=n) (by omega) (by omega)]
 have Mv:∀e∈WK g p n,LK g p n e=Lf g p e:=fun e he=>by
  obtain ⟨j,hj,et⟩:=lV h (by omega) he
  unfold Lf
  rw [jj h (by omega) et (j:=g.n.toNat) (by omega) (by omega),jj h (by omega) et (j:=n) (by omega) (by omega)]
 have dL:(eX g p n)=u.map (Rf g p):=by
  unfold eX
  rw [hu,List.dropLast_concat]
  refine List.map_congr_left fun e he=> ?_
  have Nh:e∈bw g p (au p n):=by rw [hu];simp [he]
  have Pa:=((hin e).1 Nh).1
  rw [← C0 h hI Pa]
  obtain ⟨j,hj,et⟩:=nT h hn (a:=e) Nh
  have h1:RK g p (-1) n e=RK g p (-1) g.n.toNat e:=by
   rw [dS h (by omega) et (j:=g.n.toNat) (by omega) (by omega),dS h (by omega) et (j:=n) (by omega) (by omega)]
  have hd:e∈(bw g p (au p n)).dropLast:=by rw [hu,List.dropLast_concat];exact he
  have h2:=(qf h hI hn (f:=RK g p (-1) n e) (List.mem_map_of_mem hd)).1
  rw [← h1]
  unfold kL
  rw [if_neg (by omega)]
 have Pb:(bw g p (au p n)).length=u.length+1:=by rw [hu];simp
 have F1:(∀e:Int,aW p (au p n)≠ []→e=(aW p (au p n)).getD ((aW p (au p n)).length - 1) 0→Rf g p e=RK g p (cN g p) n a):=fun e hO he=>by
  obtain ⟨v,b,hv⟩:=cG hO
  have:e=b:=by rw [he,hv];simp [List.getD_eq_getElem?_getD]
  rw [this]
  unfold Rf
  rw [mN h hn hv (by omega) (Nat.le_refl _),if_neg h0,iL h hu]
 refine ⟨A,bw g p (au p n),C,by omega, ?_⟩
 refine {len:=by rw [hrow,si,Mt],Ms:=O9,O6:=fun q hq=> ?_,lf:= ?_,cl:=fun j hj=> ?_,rf:= ?_,O7:=by rw [dL,List.length_map,Pb],O8:=fun j hj=> ?_,JV:= ?_}
 ·have hq:q<(WK g p n).length:=by omega
  have hmem:=aK (d:=0) hq
  rw [hrow,C3 hq]
  refine ⟨Mu _ hmem, ?_⟩
  have hE:=Mu _ hmem
  have hiff:Aw g ((WK g p n).getD q 0)=au p n↔(WK g p n).getD q 0∈bw g p (au p n):=by rw [hin];exact ⟨fun e=>⟨hE,e⟩,fun e=>e.2⟩
  rw [hiff,e1,List.getD_eq_getElem?_getD]
  rw [e1,List.nodup_append,List.nodup_append] at cg
  obtain ⟨⟨n1,n2,n3⟩,n4,n5⟩:=cg
  rcases Nat.lt_or_ge q A.length with Gp|Gp
  ·rw [List.append_assoc,List.getElem?_append_left Gp,List.getElem?_eq_getElem Gp]
   exact ⟨fun hm=>absurd rfl (n3 _ (List.getElem_mem Gp) _ hm),fun hc=>by omega⟩
  ·rcases Nat.lt_or_ge q (A.length+(bw g p (au p n)).length) with hqi|hqi
   ·rw [List.getElem?_append_left (by simp;omega),List.getElem?_append_right Gp,List.getElem?_eq_getElem (by omega)]
    exact ⟨fun _=>⟨Gp,hqi⟩,fun _=>List.getElem_mem _⟩
   ·rw [List.getElem?_append_right (by simp;omega),List.getElem?_eq_getElem (by simp;omega)]
    exact ⟨fun hm=>absurd rfl (n5 _ (List.mem_append.2 (.inr hm)) _ (List.getElem_mem _)),fun hc=>by omega⟩
 ·
  have hlk:=(u6 (r:=cN g p) h hI (k:=n) (by omega) hn (by rw [e1];simp [hne])).1
  rw [lU h AO]
  rw [e1,cj,cj] at hlk
  have h1:=hlk.1.2
  rw [AO] at h1
  rw [h1.1,hrow]
  rcases List.eq_nil_or_concat A with hA|⟨A',t,hA⟩
  ·subst hA;rfl
  ·rw [List.concat_eq_append] at hA
   subst hA
   rw [gY]
   have ht:t∈WK g p n:=by rw [e1];simp
   rw [yh t ht,show 2*(A'++ [t]).length=2*A'.length+2 by simp;omega,jS (by rw [Mt];simp;omega)]
   congr 1
   rw [e1,show A'++ [t]++bw g p (au p n)++C=A'++t::(bw g p (au p n)++C) by simp]
   exact fR
 ·rw [hrow,jS (by omega),dL]
  have Ga:j<u.length:=by omega
  rw [List.getD_eq_getElem?_getD (l:=u.map _),List.getElem?_map,List.getElem?_eq_getElem Ga]
  show _=Rf g p u[j]
  congr 1
  rw [e1,hu,List.getD_eq_getElem?_getD,List.getElem?_append_left (by simp;omega),List.getElem?_append_right (by omega),show A.length+j - A.length=j by omega,List.getElem?_append_left Ga,List.getElem?_eq_getElem Ga];rfl
 ·rw [hrow,iL h hu,show 2*(A.length+(bw g p (au p n)).length)=2*(A.length+u.length)+2 by omega,jS (by omega)]
  have ha:a∈WK g p n:=by rw [e1,hu];simp
  rw [yh a ha]
  congr 1
  rw [e1,hu,show A++(u++ [a])++C=(A++u)++a::C by simp,show A.length+u.length=(A++u).length by simp]
  exact fR
 ·have h1:=(qf h hI hn (f:=(eX g p n).getD j 0) (aK hj)).1
  have h2:=ve h hI hn _ (aK (d:=0) hj)
  rw [fc] at h2
  have h3:=sn (g:=g) (p:=p) (show n≤g.n.toNat by omega)
  omega
 ·have ht:(eY (Rf g p) (A++(bw g p (au p n)++C))).take (2*A.length+1)=eY (Rf g p) A:=C4
  have hd:(eY (Rf g p) (A++bw g p (au p n)++C)).drop (2*(A++bw g p (au p n)).length+1)=jl (Rf g p) C:=AE
  rw [← List.append_assoc] at ht
  rw [List.length_append] at hd
  rw [hrow,Jz,e2,e1,ht,hd]
  by_cases hO:aW p (au p n)= []
  ·rw [if_pos hO,hO,List.append_nil]
   unfold eY
   rw [fT];rfl
  ·rw [if_neg hO]
   have hlen:2*(A.length+(bw g p (au p n)).length)<(eY (Rf g p) (A++bw g p (au p n)++C)).length:=by rw [si];simp;omega
   have sK:(eY (Rf g p) (A++bw g p (au p n)++C)).drop (2*(A.length+(bw g p (au p n)).length))=(eY (Rf g p) (A++bw g p (au p n)++C)).getD (2*(A.length+(bw g p (au p n)).length)) 0::jl (Rf g p) C:=by
    rw [List.drop_eq_getElem_cons hlen,hd,List.getD_eq_getElem?_getD,List.getElem?_eq_getElem hlen];rfl
   have hval:(eY (Rf g p) (A++bw g p (au p n)++C)).getD (2*(A.length+(bw g p (au p n)).length)) 0=Rf g p ((aW p (au p n)).getD ((aW p (au p n)).length - 1) 0):=by
    rw [F1 _ hO rfl,show 2*(A.length+(bw g p (au p n)).length)=2*(A.length+u.length)+2 by omega,jS (by simp;omega)]
    have ha:a∈WK g p n:=by rw [e1,hu];simp
    rw [yh a ha]
    congr 1
    rw [hu,show A++(u++ [a])++C=(A++u)++a::C by simp,show A.length+u.length=(A++u).length by simp]
    exact fR
   have hmid:=C5 (R:=Rf g p) (c:=cK p n) (o:=aW p (au p n)) (fun k hk=>by
    have hs:aW p (au p n)=(aW p (au p n)).take k++(aW p (au p n)).getD k 0::(aW p (au p n))[k+1]::(aW p (au p n)).drop (k+2):=by
     rw [List.getD_eq_getElem?_getD,List.getElem?_eq_getElem (by omega),Option.getD_some, ← List.drop_eq_getElem_cons hk, ← List.drop_eq_getElem_cons (by omega),List.take_append_drop]
    unfold Rf
    rw [gB h hn hs (by omega) (Nat.le_refl _),gG (by omega)];omega) hO
   rw [sK,hval]
   unfold eY
   rw [fT,fT, ← hmid]
   simp
end Go.Ab
end
section
namespace Go.Ab
open Go.Proofs
attribute [local congr] ACall.congr
set_option maxRecDepth 20000
set_option maxHeartbeats 32000000
structure Hid (p:Prop):Prop where
 out:p
theorem Ev {q p:Prop} (f:Hid q→p) (h:q):p:=f ⟨h⟩
theorem yj (g:Gr) (p:Pl) (hB:oO g p=false) (hrun:cA g p) (hI:kE g=true) (h0:0<g.es.length) (b:Bool) (hr:b=true↔(cr g).1=0∧bF g p):
 Spec Tryz.prog 20 (Args [eG g,ePl p]) [] (.tup [b8 ⟨arr (Lf g p) g.es.length,arr (Rf g p) g.es.length,w8 g p,ye g p⟩,eB true]) []:=by
 have hm:=aE hrun.1
 have hn:=aZ hm
 have hle:=bW hrun.2.1
 have xq:=rY g (by have:=(lP hB).1;omega)
 have kN:=tM g (by omega) p (rW hB) b hr
 rw [mP hr hrun] at kN
 rw [hI] at xq
 have kN:Spec Tryz.prog 47 (Args [eG g,ePl p]) [] (eB true) []:=by simpa using kN
 have hb0:decide ((g.es.length:Int)=0)=false:=decide_eq_false (by omega)
 have Qc:=Ju hrun hI
 have hc1:(g.es.length:Int) - g.n+2=(cN g p:Int):=by omega
 have hcb:cN g p≤130:=by omega
 have As:∀f:Int→Int,(∀e,f e=0)→List.replicate g.es.length [D.sc (.int .i64 0)]=(arr f g.es.length).map rI:=fun f hf=>by
  refine List.ext_getElem? fun i=> ?_
  simp only [arr,List.getElem?_replicate,List.getElem?_map]
  by_cases hi:i<g.es.length
  ·rw [if_pos hi,List.getElem?_range hi];simp [hf,rI]
  ·rw [if_neg hi,List.getElem?_eq_none (by simpa using hi)];rfl
 have dA:=As (LK g p 0) fun _=>rfl
 have Mi:RK g p (cN g p) 0=LK g p 0:=by funext e;rfl
 have pO:List.replicate (cN g p+1) [D.sc (.int .i64 0)]=(lC g p 0).map rI:=by
  have:lC g p 0=List.replicate (cN g p+1) 0:=by
   unfold lC
   rw [show cN g p+1 - cK p 0=cN g p by simp [cK],dx]
   simp [List.replicate_succ]
  rw [this,List.map_replicate];rfl
 have Pc:yf g p 0=lC g p 0:=by unfold yf lC;rfl
 have htn:((cN g p:Int)+1).toNat=cN g p+1:=by omega
 have Kg:sk g p 0= [0,(cN g p:Int)]:=rfl
 (refine Spec.intro (C:=T.cfg [48,52,55,58] []) (rs:= [.c 4 37, .t 5]) (T.aq _ _) Tryz.func20 rfl rfl Tryz.ntmps20 Tryz.results20 (by simp [AObj.isNest]) (by simp [AObj.isNest]) (by kernel_rfl) ?_;intro X hX hP hC aN aO vals hA;refine ⟨_,by simp,hA, ?_⟩;have af:X.P.follows .mixedOrders=true:=(by rw [hP];exact T.mixed);clear aN aO)
 repeat' (first|fail|((first|((with_reducible (first|apply oA|apply oB));exact rfl;intro K hK)|(refine hK _ ?_;clear hK K)|((with_reducible (first|apply oG|apply oH));iterate 3 exact rfl)|((with_reducible apply oI);(iterate 2 exact rfl);intro K hK)|(with_reducible (first|apply wI|apply wJ|apply wK)));try simp only [go_sem,simprocAttr,hb0,hc1,htn,dA,pO,rI,List.map_cons,List.map_nil])|(show cH _ (.seq (.region 7 _ _) _) _ _;(refine bT hX 61 rfl ?_;simp only [go_sem,simprocAttr,hb0,hc1,htn,dA,pO,rI,List.map_cons,List.map_nil]))|(with_reducible (first|apply oC|apply oJ|exact oK|apply wA|apply wB|apply wC hX hC|apply wD hX hC|apply wE hX hC af|apply wF hX hC af|apply wG|apply wH|apply And.intro))|((with_reducible refine oD ?_ ?_);first|fail|kernel_rfl)|((with_reducible (first|apply oE|apply oF));(iterate 3 exact rfl);all_goals (intro h;first|(exact absurd h (by decide))|((try simp only [go_sem,simprocAttr,hb0,hc1,htn,dA,pO,rI,List.map_cons,List.map_nil] at h);(try with_reducible intro K hK);simp only [go_sem,simprocAttr,hb0,hc1,htn,dA,pO,rI,List.map_cons,List.map_nil])))|((first|((with_reducible apply wL);exact rfl)|((with_reducible apply wM);exact rfl));all_goals (try ((with_reducible intro h);first|(exact absurd h (by decide))|(try simp only [go_sem,simprocAttr,hb0,hc1,htn,dA,pO,rI,List.map_cons,List.map_nil] at h))))|omega|((first|first|refine aa hX hC hP (xq) rfl rfl rfl (by simp only [go_sem,simprocAttr,hb0,hc1,htn,dA,pO,rI,List.map_cons,List.map_nil]) rfl ?_|refine aa hX hC hP (kN) rfl rfl rfl (by simp only [go_sem,simprocAttr,hb0,hc1,htn,dA,pO,rI,List.map_cons,List.map_nil]) rfl ?_);try simp only [go_sem,simprocAttr,hb0,hc1,htn,dA,pO,rI,List.map_cons,List.map_nil])|(intro h))
 refine ak (fun n:Nat=>n≤g.n.toNat) (fun n=>⟨[(2, .ptr 2 0),(3, .ptr 3 0),(4, .ptr 4 0),(6,eN (cN g p)),(7, .ptr 7 0),(8,eN (cK p n)),(9, .d (sI (sk g p n))),(10,eN n)], [(2, .box [eN g.n, .d (sE g.es)]),(3, .box [.d (sI p.ord), .d (.sl 1 (vI p.outs))]),(4, .box [.nil 3, .nil 3, .nil 3, .nil 3]),(7, .box [.ref 48, .ref 52, .ref 55, .ref 58]),(48, .own 3 1 ((arr (LK g p n) g.es.length).map rI)),(52, .own 3 1 ((arr (RK g p (cN g p) n) g.es.length).map rI)),(55, .own 3 1 ((lC g p n).map rI)),(58, .own 3 1 ((yf g p n).map rI))]⟩) (fun n=>g.n.toNat - n) 0 (by omega) ?_ ?_
 ·refine Le.of ?_ ?_<;>simp [go_sem,simprocAttr,Mi,Pc,Kg,cK,rI]
 rintro n Qd
 rcases Nat.lt_or_ge n g.n.toNat with hnl|Qe
 rotate_left
 ·have qA:decide ((n:Int)<(p.ord.length:Int))=false:=decide_eq_false (by omega)
  obtain rfl:n=g.n.toNat:=by omega
  have hlz:=C6 (g:=g) (p:=p) (Nat.le_refl g.n.toNat)
  have C8:=zk (g:=g) (p:=p) (Nat.le_refl g.n.toNat)
  have D5:=Er hrun hI
  have EL:=FZ hrun hI
  have JA:p.ord.getD 0 0=au p 0:=rfl
  have oc:p.ord.getD (g.n.toNat - 1) 0=au p (g.n.toNat - 1):=rfl
  have fU:((g.n.toNat:Nat):Int) - 1=((g.n.toNat - 1:Nat):Int):=by omega
  have e1:arr (LK g p g.n.toNat) g.es.length=arr (Lf g p) g.es.length:=rfl
  have e2:arr (RK g p (cN g p) g.n.toNat) g.es.length=arr (Rf g p) g.es.length:=rfl
  rw [e1,e2]
  generalize arr (Lf g p) g.es.length=LA
  generalize arr (Rf g p) g.es.length=RA
  generalize lC g p g.n.toNat=Z1 at*
  generalize yf g p g.n.toNat=Z2 at*
  generalize w8 g p=lo at*
  generalize ye g p=hi at*
  repeat' (first|fail|((first|((with_reducible (first|apply oA|apply oB));exact rfl;intro K hK)|(refine hK _ ?_;clear hK K)|((with_reducible (first|apply oG|apply oH));iterate 3 exact rfl)|((with_reducible apply oI);(iterate 2 exact rfl);intro K hK)|(with_reducible (first|apply wI|apply wJ|apply wK)));try simp only [go_sem,simprocAttr,qA,hle,hlz,C8,JA,oc,fU,aY,List.length_set,D5,EL,b8])|fail|(with_reducible (first|apply oC|apply oJ|exact oK|apply wA|apply wB|apply wC hX hC|apply wD hX hC|apply wE hX hC af|apply wF hX hC af|apply wG|apply wH|apply And.intro))|((with_reducible refine oD ?_ ?_);first|fail|kernel_rfl)|((with_reducible (first|apply oE|apply oF));(iterate 3 exact rfl);all_goals (intro h;first|(exact absurd h (by decide))|((try simp only [go_sem,simprocAttr,qA,hle,hlz,C8,JA,oc,fU,aY,List.length_set,D5,EL,b8] at h);(try with_reducible intro K hK);simp only [go_sem,simprocAttr,qA,hle,hlz,C8,JA,oc,fU,aY,List.length_set,D5,EL,b8])))|((first|((with_reducible apply wL);exact rfl)|((with_reducible apply wM);exact rfl));all_goals (try ((with_reducible intro h);first|(exact absurd h (by decide))|(try simp only [go_sem,simprocAttr,qA,hle,hlz,C8,JA,oc,fU,aY,List.length_set,D5,EL,b8] at h))))|omega|((first|fail);try simp only [go_sem,simprocAttr,qA,hle,hlz,C8,JA,oc,fU,aY,List.length_set,D5,EL,b8])|(intro h))
 have qA:decide ((n:Int)<(p.ord.length:Int))=true:=decide_eq_true (by omega)
 have hx:=aG hrun.2.1 hnl
 have Dn:p.ord.getD n 0=au p n:=rfl
 obtain ⟨x,FW⟩:∃x:Nat,au p n=x:=⟨(au p n).toNat,by omega⟩
 have hxl:x<p.outs.length:=by have:=hrun.2.1.1;omega
 have iM:=iV hxl
 have Pd:p.outs.getD x []=aW p (au p n):=by unfold aW;rw [FW,Int.toNat_natCast]
 rw [Pd] at iM
 have jc:=fun i hi=>(gW hrun hnl (e:=i) hi).1
 have zB:=iX hrun.2.1 hx.1 hx.2
 have qG:lC g p n=dO (0::(dx p n).tail) (cN g p+1) (au p n) 0:=AH
 have C9:lC g p (n+1)=dO (0::(dx p n).tail) (cN g p+1) (au p n) ((aW p (au p n)).length - 1):=AI
 have hlb:(0::(dx p n).tail:List Int).length=cK p n:=lW
 have En:cK p (n+1)=cK p n+((aW p (au p n)).length - 1):=rfl
 have F2:=sn (g:=g) (p:=p) (show n+1≤g.n.toNat by omega)
 have JB:=FU hrun hnl
 have JC:=FV (r:=(cN g p:Int)) hrun hnl
 have nZ:(arr (LK g p n) g.es.length).length=g.es.length:=cq
 have n0:(arr (RK g p (cN g p) n) g.es.length).length=g.es.length:=cq
 have Mw:=xe hrun hI hnl
 have C8:=zk (g:=g) (p:=p) (show n≤g.n.toNat by omega)
 have o5:=fun j (hj:cK p n+j≤cN g p+1)=>AF (A:=(0::(dx p n).tail)) (T:=cN g p+1) (x:=au p n) (j:=j) (by rw [hlb];exact hj)
 have Mx:=fun j (hj:cK p n+j<cN g p+1)=>AG (A:=(0::(dx p n).tail)) (T:=cN g p+1) (x:=au p n) (j:=j) (by rw [hlb];exact hj)
 rw [hlb] at Mx
 rw [qG]
 by_cases hz:n=0
 ·subst hz
  rw [if_pos rfl] at JB JC
  have Mm:∀k,k+1=(aW p (au p 0)).length→Rf g p ((aW p (au p 0)).getD k 0)=cN g p:=fun k hk=>by
   obtain ⟨v,e,hv⟩:=cG (l:=aW p (au p 0)) (fun h0=>by rw [h0] at hk;simp at hk)
   have:k=v.length:=by rw [hv] at hk;simp at hk;omega
   rw [this]
   have e1:(aW p (au p 0)).getD v.length 0=e:=by rw [hv];exact fR (v:= [])
   rw [e1]
   unfold Rf
   rw [mN hrun hnl hv (by omega) (Nat.le_refl _),if_pos rfl]
  have JD:sk g p (0+1)=eY (Rf g p) (aW p (au p 0)):=by rw [← oU hrun (by omega)];exact if_neg (by omega)
  have Ni:∀k,k+1<(aW p (au p 0)).length→Rf g p ((aW p (au p 0)).getD k 0)=((cK p 0+k:Nat):Int):=fun k hk=>by
   have hs:aW p (au p 0)=(aW p (au p 0)).take k++(aW p (au p 0)).getD k 0::(aW p (au p 0))[k+1]::(aW p (au p 0)).drop (k+2):=by
    rw [List.getD_eq_getElem?_getD,List.getElem?_eq_getElem (by omega),Option.getD_some, ← List.drop_eq_getElem_cons hk, ← List.drop_eq_getElem_cons (by omega),List.take_append_drop]
   unfold Rf
   rw [gB hrun hnl hs (by omega) (Nat.le_refl _),gG (by omega)];omega
  have uR:∀k,k<(aW p (au p 0)).length→eY (Rf g p) ((aW p (au p 0)).take (k+1))=eY (Rf g p) ((aW p (au p 0)).take k)++ [(aW p (au p 0)).getD k 0,Rf g p ((aW p (au p 0)).getD k 0)]:=fun k hk=>by
   have e:(aW p (au p 0)).take (k+1)=(aW p (au p 0)).take k++ [(aW p (au p 0)).getD k 0]:=by
    rw [List.take_add_one,List.getD_eq_getElem?_getD,List.getElem?_eq_getElem (by omega)];rfl
   rw [e]
   unfold eY
   rw [fT];rfl
  have ff:∀k,k≤(aW p (au p 0)).length→(eY (Rf g p) ((aW p (au p 0)).take k)).length=2*k+1:=fun k hk=>by rw [si,gG hk]
  have hte:∀k,k<(aW p (au p 0)).length→(eY (Rf g p) ((aW p (au p 0)).take k)).getD (2*k) 0=if k=0 then 0 else ((cK p 0:Nat):Int)+k - 1:=fun k hk=>by
   cases k with
   |zero=>rfl
   |succ k=>
    rw [show 2*(k+1)=2*k+2 by omega,jS (by rw [gG (by omega)];omega),xj (by omega),if_neg (by omega),Ni k hk];omega
  have Qf:(sk g p 0).length=2:=rfl
  have jd:eY (Rf g p) []= [0]:=rfl
  have iO:∀k,k<(aW p (au p 0)).length→decide ((k:Int)+1<((aW p (au p 0)).length:Int))=decide (k+1<(aW p (au p 0)).length):=fun k hk=>by rw [decide_eq_decide];omega
  have hsh:yf g p (0+1)=yf g p 0:=by
   rw [xe hrun hI hnl,show eX g p 0= [] by
    unfold eX
    have:=iK hrun (aG hrun.2.1 hnl)
    rw [fG hrun] at this
    rw [List.eq_nil_of_length_eq_zero this];rfl]
   rfl
  rw [Nat.zero_add] at JD hsh C9 En JB JC F2
  rw [En] at F2
  generalize Qg:aW p (au p 0)=O at*
  generalize wX:au p 0=xv at*
  subst FW
  generalize sk g p 0=RW at*
  generalize yf g p 0=HZ at*
  generalize Qh:arr (LK g p 0) g.es.length=LA at*
  generalize L8:arr (RK g p (cN g p) 0) g.es.length=RA at*
  generalize Pe:cK p 0=c at*
  have Pf:c=1:=Pe.symm
  generalize (0::(dx p 0).tail:List Int)=LB at*
  repeat' (first|fail|((first|((with_reducible (first|apply oA|apply oB));exact rfl;intro K hK)|(refine hK _ ?_;clear hK K)|((with_reducible (first|apply oG|apply oH));iterate 3 exact rfl)|((with_reducible apply oI);(iterate 2 exact rfl);intro K hK)|(with_reducible (first|apply wI|apply wJ|apply wK)));try simp only [go_sem,simprocAttr,qA,Dn,wX])|fail|(with_reducible (first|apply oC|apply oJ|exact oK|apply wA|apply wB|apply wC hX hC|apply wD hX hC|apply wE hX hC af|apply wF hX hC af|apply wG|apply wH|apply And.intro))|((with_reducible refine oD ?_ ?_);first|fail|kernel_rfl)|((with_reducible (first|apply oE|apply oF));(iterate 3 exact rfl);all_goals (intro h;first|(exact absurd h (by decide))|((try simp only [go_sem,simprocAttr,qA,Dn,wX] at h);(try with_reducible intro K hK);simp only [go_sem,simprocAttr,qA,Dn,wX])))|((first|((with_reducible apply wL);exact rfl)|((with_reducible apply wM);exact rfl));all_goals (try ((with_reducible intro h);first|(exact absurd h (by decide))|(try simp only [go_sem,simprocAttr,qA,Dn,wX] at h))))|omega|((first|fail);try simp only [go_sem,simprocAttr,qA,Dn,wX])|(intro h))
  refine ak (fun i:Nat=>i≤2) (fun i=>⟨[(2, .ptr 2 0),(3, .ptr 3 0),(4, .ptr 4 0),(6,eN (cN g p)),(7, .ptr 7 0),(8,eN (c)),(9, .d (sI (RW))),(10,eN (0)),(11,eN x),(12, .ref 74),(13,eB false),(14,eN 0),(15,eN i)], [(2, .box [eN g.n, .d (sE g.es)]),(3, .box [.d (sI p.ord), .d (.sl 1 (vI p.outs))]),(4, .box [.nil 3, .nil 3, .nil 3, .nil 3]),(7, .box [.ref 48, .ref 52, .ref 55, .ref 58]),(48, .own 3 1 ((LA).map rI)),(52, .own 3 1 ((RA).map rI)),(55, .own 3 1 ((dO LB (cN g p+1) (x:Int) 0).map rI)),(58, .own 3 1 ((HZ).map rI)),(74, .tip 3 1 ((RW.take i).map rI))]⟩) (fun i=>2 - i) 0 (by omega) ?_ ?_
  ·refine Le.of ?_ ?_<;>simp [go_sem,simprocAttr]
  rintro i hi2
  rcases Nat.lt_or_ge i 2 with hil|Ja
  ·have cF:decide ((i:Int)<(RW.length:Int))=true:=decide_eq_true (by omega)
   have dQ:=vf (l:=RW) (i:=i) (by omega)
   have ff:=gG (l:=RW) (i:=i) (by omega)
   generalize RW.take i=T1 at dQ ff
   have hrm:=Et (i:=i)
   rcases Nat.mod_two_eq_zero_or_one i with AJ|AJ
   ·rw [AJ] at hrm
    repeat' (first|fail|((first|((with_reducible (first|apply oA|apply oB));exact rfl;intro K hK)|(refine hK _ ?_;clear hK K)|((with_reducible (first|apply oG|apply oH));iterate 3 exact rfl)|((with_reducible apply oI);(iterate 2 exact rfl);intro K hK)|(with_reducible (first|apply wI|apply wJ|apply wK)));try simp only [go_sem,simprocAttr,cF,hrm,ff])|(show cH _ (.region 16 _ _) _ _;(refine dZ hX 12 212 74 (by simp only [go_sem,simprocAttr,cF,hrm,ff]) rfl (by first|exact .inl rfl|exact .inr rfl) (by decide) ?_;simp only [go_sem,simprocAttr,cF,hrm,ff]))|(with_reducible (first|apply oC|apply oJ|exact oK|apply wA|apply wB|apply wC hX hC|apply wD hX hC|apply wE hX hC af|apply wF hX hC af|apply wG|apply wH|apply And.intro))|((with_reducible refine oD ?_ ?_);first|fail|kernel_rfl)|((with_reducible (first|apply oE|apply oF));(iterate 3 exact rfl);all_goals (intro h;first|(exact absurd h (by decide))|((try simp only [go_sem,simprocAttr,cF,hrm,ff] at h);(try with_reducible intro K hK);simp only [go_sem,simprocAttr,cF,hrm,ff])))|((first|((with_reducible apply wL);exact rfl)|((with_reducible apply wM);exact rfl));all_goals (try ((with_reducible intro h);first|(exact absurd h (by decide))|(try simp only [go_sem,simprocAttr,cF,hrm,ff] at h))))|omega|((first|fail);try simp only [go_sem,simprocAttr,cF,hrm,ff])|(intro h))
    refine ⟨i+1,by omega, ?_,by omega⟩
    rw [dQ]
    refine Le.of ?_ ?_<;>simp [go_sem,simprocAttr,cF,hrm,ff,rI]
   ·rw [AJ] at hrm
    repeat' (first|fail|((first|((with_reducible (first|apply oA|apply oB));exact rfl;intro K hK)|(refine hK _ ?_;clear hK K)|((with_reducible (first|apply oG|apply oH));iterate 3 exact rfl)|((with_reducible apply oI);(iterate 2 exact rfl);intro K hK)|(with_reducible (first|apply wI|apply wJ|apply wK)));try simp only [go_sem,simprocAttr,cF,hrm,ff])|(show cH _ (.region 16 _ _) _ _;(refine dZ hX 12 212 74 (by simp only [go_sem,simprocAttr,cF,hrm,ff]) rfl (by first|exact .inl rfl|exact .inr rfl) (by decide) ?_;simp only [go_sem,simprocAttr,cF,hrm,ff]))|(with_reducible (first|apply oC|apply oJ|exact oK|apply wA|apply wB|apply wC hX hC|apply wD hX hC|apply wE hX hC af|apply wF hX hC af|apply wG|apply wH|apply And.intro))|((with_reducible refine oD ?_ ?_);first|fail|kernel_rfl)|((with_reducible (first|apply oE|apply oF));(iterate 3 exact rfl);all_goals (intro h;first|(exact absurd h (by decide))|((try simp only [go_sem,simprocAttr,cF,hrm,ff] at h);(try with_reducible intro K hK);simp only [go_sem,simprocAttr,cF,hrm,ff])))|((first|((with_reducible apply wL);exact rfl)|((with_reducible apply wM);exact rfl));all_goals (try ((with_reducible intro h);first|(exact absurd h (by decide))|(try simp only [go_sem,simprocAttr,cF,hrm,ff] at h))))|omega|((first|fail);try simp only [go_sem,simprocAttr,cF,hrm,ff])|(intro h))
    refine ⟨i+1,by omega, ?_,by omega⟩
    rw [dQ]
    refine Le.of ?_ ?_<;>simp [go_sem,simprocAttr,cF,hrm,ff,rI]
  have cF:decide ((i:Int)<(RW.length:Int))=false:=decide_eq_false (by omega)
  obtain rfl:i=2:=by omega
  repeat' (first|fail|((first|((with_reducible (first|apply oA|apply oB));exact rfl;intro K hK)|(refine hK _ ?_;clear hK K)|((with_reducible (first|apply oG|apply oH));iterate 3 exact rfl)|((with_reducible apply oI);(iterate 2 exact rfl);intro K hK)|(with_reducible (first|apply wI|apply wJ|apply wK)));try simp only [go_sem,simprocAttr,cF])|fail|(with_reducible (first|apply oC|apply oJ|exact oK|apply wA|apply wB|apply wC hX hC|apply wD hX hC|apply wE hX hC af|apply wF hX hC af|apply wG|apply wH|apply And.intro))|((with_reducible refine oD ?_ ?_);first|fail|kernel_rfl)|((with_reducible (first|apply oE|apply oF));(iterate 3 exact rfl);all_goals (intro h;first|(exact absurd h (by decide))|((try simp only [go_sem,simprocAttr,cF] at h);(try with_reducible intro K hK);simp only [go_sem,simprocAttr,cF])))|((first|((with_reducible apply wL);exact rfl)|((with_reducible apply wM);exact rfl));all_goals (try ((with_reducible intro h);first|(exact absurd h (by decide))|(try simp only [go_sem,simprocAttr,cF] at h))))|omega|((first|fail);try simp only [go_sem,simprocAttr,cF])|(intro h))
  refine ak (fun k:Nat=>k≤O.length) (fun k=>⟨[(2, .ptr 2 0),(3, .ptr 3 0),(4, .ptr 4 0),(6,eN (cN g p)),(7, .ptr 7 0),(8,eN (c+(min k (O.length - 1):Nat))),(9, .d (sI (RW))),(10,eN (0)),(11,eN x),(12, .ref 215),(18,eN k)], [(2, .box [eN g.n, .d (sE g.es)]),(3, .box [.d (sI p.ord), .d (.sl 1 (vI p.outs))]),(4, .box [.nil 3, .nil 3, .nil 3, .nil 3]),(7, .box [.ref 48, .ref 52, .ref 55, .ref 58]),(48, .own 3 1 ((eo LA O 0 c k).map rI)),(52, .own 3 1 ((er RA O (cN g p) c k).map rI)),(55, .own 3 1 ((dO LB (cN g p+1) (x:Int) (min k (O.length - 1))).map rI)),(58, .own 3 1 ((HZ).map rI)),(215, .tip 3 1 ((eY (Rf g p) (O.take k)).map rI))]⟩) (fun k=>O.length - k) 0 (by omega) ?_ ?_
  ·refine Le.of ?_ ?_<;>simp [go_sem,simprocAttr,jd,eo,er,dz,rI]
  rintro k xA
  rcases Nat.lt_or_ge k O.length with cu|EB
  rotate_left
  ·have bP:decide ((k:Int)<(O.length:Int))=false:=decide_eq_false (by omega)
   obtain rfl:k=O.length:=by omega
   rw [show min O.length (O.length - 1)=O.length - 1 by omega,List.take_length]
   repeat' (first|fail|((first|((with_reducible (first|apply oA|apply oB));exact rfl;intro K hK)|(refine hK _ ?_;clear hK K)|((with_reducible (first|apply oG|apply oH));iterate 3 exact rfl)|((with_reducible apply oI);(iterate 2 exact rfl);intro K hK)|(with_reducible (first|apply wI|apply wJ|apply wK)));try simp only [go_sem,simprocAttr,bP,iM])|(show cH _ (.seq (.region 53 _ _) _) _ _;(refine bT hX 215 rfl ?_;simp only [go_sem,simprocAttr,bP,iM]))|(show cH _ (.region 53 _ _) _ _;(refine bT hX 215 rfl ?_;simp only [go_sem,simprocAttr,bP,iM]))|(with_reducible (first|apply oC|apply oJ|exact oK|apply wA|apply wB|apply wC hX hC|apply wD hX hC|apply wE hX hC af|apply wF hX hC af|apply wG|apply wH|apply And.intro))|((with_reducible refine oD ?_ ?_);first|fail|kernel_rfl)|((with_reducible (first|apply oE|apply oF));(iterate 3 exact rfl);all_goals (intro h;first|(exact absurd h (by decide))|((try simp only [go_sem,simprocAttr,bP,iM] at h);(try with_reducible intro K hK);simp only [go_sem,simprocAttr,bP,iM])))|((first|((with_reducible apply wL);exact rfl)|((with_reducible apply wM);exact rfl));all_goals (try ((with_reducible intro h);first|(exact absurd h (by decide))|(try simp only [go_sem,simprocAttr,bP,iM] at h))))|omega|((first|fail);try simp only [go_sem,simprocAttr,bP,iM])|(intro h))
   refine ⟨1,by omega, ?_,by omega⟩
   rw [← JB, ← JC,C9,hsh,JD,En]
   refine Le.of ?_ ?_<;>simp [go_sem,simprocAttr,bP,iM]
  have bP:decide ((k:Int)<(O.length:Int))=true:=decide_eq_true (by omega)
  have hin:=jc _ (aK (d:=0) cu)
  have gA:=oV (A:=LA) (o:=O) (left:=0) (c:=c) (j:=k)
  have dK:=oW (A:=RA) (o:=O) (left:=(cN g p:Int)) (c:=c) (j:=k)
  have sJ:eo LA O 0 c (k+1)=(eo LA O 0 c k).set (O.getD k 0).toNat (if k=0 then 0 else (c:Int)+k - 1):=rfl
  have kN:er RA O (cN g p) c (k+1)=(er RA O (cN g p) c k).set (O.getD k 0).toNat (if k+1<O.length then (c:Int)+k else (cN g p:Int)):=rfl
  have t1:=uR k cu
  have t2:=ff k (by omega)
  have t3:=hte k cu
  have t4:=Ni k
  have t5:=Mm k
  generalize eY (Rf g p) (O.take k)=T1 at t1 t2 t3
  generalize nV:O.getD k 0=ev at hin sJ kN t1 t4 t5
  obtain ⟨e,rfl⟩:∃e:Nat,ev=e:=⟨ev.toNat,by omega⟩
  rw [Int.toNat_natCast] at sJ kN
  generalize eo LA O 0 c k=L1 at gA sJ
  generalize er RA O (cN g p) c k=R1 at dK kN
  have pq:min k (O.length - 1)=k:=by omega
  have hi1:((2*k+1:Nat):Int) - 1=((2*k:Nat):Int):=by omega
  rw [pq]
  generalize (if k=0 then (0:Int) else (c:Int)+k - 1)=lv at t3 sJ
  have gH:=o5 k (by omega)
  by_cases hk2:k+1<O.length
  ·have aj:decide ((k:Int)+1<(O.length:Int))=true:=decide_eq_true (by omega)
   have hm2:min (k+1) (O.length - 1)=k+1:=by omega
   rw [if_pos hk2] at kN
   rw [t4 hk2] at t1
   have yl:=Mx k (by omega)
   have Pg:((c+k:Nat):Int)=(c:Int)+k:=by omega
   generalize JE:dO LB (cN g p+1) (x:Int) k=Z1 at gH yl
   obtain ⟨ck,F3⟩:∃ck:Nat,ck=c+k:=⟨_,rfl⟩
   have sM:(c:Int)+(k:Int)=(ck:Int):=by omega
   rw [← F3] at yl t1
   rw [sM] at kN
   have xu:((R1.set e (cN g p)).set e (ck:Int)).getD e 0=ck:=by rw [List.getD_eq_getElem?_getD,List.getElem?_set_self (by rw [List.length_set];omega)];rfl
   have Dj:((R1.set e (cN g p)).set e (ck:Int))=R1.set e (ck:Int):=List.set_set ..
   rw [Dj] at xu
   repeat' (first|fail|((first|((with_reducible (first|apply oA|apply oB));exact rfl;intro K hK)|(refine hK _ ?_;clear hK K)|((with_reducible (first|apply oG|apply oH));iterate 3 exact rfl)|((with_reducible apply oI);(iterate 2 exact rfl);intro K hK)|(with_reducible (first|apply wI|apply wJ|apply wK)));try simp only [go_sem,simprocAttr,bP,aj,iM,nV,gA,dK,nZ,n0,t2,hi1,t3,sM,gH,aY,List.length_set,Dj,xu])|(show cH _ (.region 44 _ _) _ _;(refine dZ hX 12 278 215 (by simp only [go_sem,simprocAttr,bP,aj,iM,nV,gA,dK,nZ,n0,t2,hi1,t3,sM,gH,aY,List.length_set,Dj,xu]) rfl (by first|exact .inl rfl|exact .inr rfl) (by decide) ?_;simp only [go_sem,simprocAttr,bP,aj,iM,nV,gA,dK,nZ,n0,t2,hi1,t3,sM,gH,aY,List.length_set,Dj,xu]))|(with_reducible (first|apply oC|apply oJ|exact oK|apply wA|apply wB|apply wC hX hC|apply wD hX hC|apply wE hX hC af|apply wF hX hC af|apply wG|apply wH|apply And.intro))|((with_reducible refine oD ?_ ?_);first|fail|kernel_rfl)|((with_reducible (first|apply oE|apply oF));(iterate 3 exact rfl);all_goals (intro h;first|(exact absurd h (by decide))|((try simp only [go_sem,simprocAttr,bP,aj,iM,nV,gA,dK,nZ,n0,t2,hi1,t3,sM,gH,aY,List.length_set,Dj,xu] at h);(try with_reducible intro K hK);simp only [go_sem,simprocAttr,bP,aj,iM,nV,gA,dK,nZ,n0,t2,hi1,t3,sM,gH,aY,List.length_set,Dj,xu])))|((first|((with_reducible apply wL);exact rfl)|((with_reducible apply wM);exact rfl));all_goals (try ((with_reducible intro h);first|(exact absurd h (by decide))|(try simp only [go_sem,simprocAttr,bP,aj,iM,nV,gA,dK,nZ,n0,t2,hi1,t3,sM,gH,aY,List.length_set,Dj,xu] at h))))|omega|((first|fail);try simp only [go_sem,simprocAttr,bP,aj,iM,nV,gA,dK,nZ,n0,t2,hi1,t3,sM,gH,aY,List.length_set,Dj,xu])|(intro h))
   refine ⟨k+1,by omega, ?_,by omega⟩
   rw [sJ,kN,hm2, ← yl,t1]
   refine Le.of ?_ ?_<;>simp [go_sem,rI]
   all_goals omega
  ·have aj:decide ((k:Int)+1<(O.length:Int))=false:=decide_eq_false (by omega)
   have hm2:min (k+1) (O.length - 1)=k:=by omega
   rw [if_neg hk2] at kN
   rw [t5 (by omega)] at t1
   generalize JE:dO LB (cN g p+1) (x:Int) k=Z1 at gH
   have xu:(R1.set e (cN g p:Int)).getD e 0=cN g p:=by rw [List.getD_eq_getElem?_getD,List.getElem?_set_self (by omega)];rfl
   repeat' (first|fail|((first|((with_reducible (first|apply oA|apply oB));exact rfl;intro K hK)|(refine hK _ ?_;clear hK K)|((with_reducible (first|apply oG|apply oH));iterate 3 exact rfl)|((with_reducible apply oI);(iterate 2 exact rfl);intro K hK)|(with_reducible (first|apply wI|apply wJ|apply wK)));try simp only [go_sem,simprocAttr,bP,aj,iM,nV,gA,dK,nZ,n0,t2,hi1,t3,gH,aY,List.length_set,xu])|(show cH _ (.region 44 _ _) _ _;(refine dZ hX 12 278 215 (by simp only [go_sem,simprocAttr,bP,aj,iM,nV,gA,dK,nZ,n0,t2,hi1,t3,gH,aY,List.length_set,xu]) rfl (by first|exact .inl rfl|exact .inr rfl) (by decide) ?_;simp only [go_sem,simprocAttr,bP,aj,iM,nV,gA,dK,nZ,n0,t2,hi1,t3,gH,aY,List.length_set,xu]))|(with_reducible (first|apply oC|apply oJ|exact oK|apply wA|apply wB|apply wC hX hC|apply wD hX hC|apply wE hX hC af|apply wF hX hC af|apply wG|apply wH|apply And.intro))|((with_reducible refine oD ?_ ?_);first|fail|kernel_rfl)|((with_reducible (first|apply oE|apply oF));(iterate 3 exact rfl);all_goals (intro h;first|(exact absurd h (by decide))|((try simp only [go_sem,simprocAttr,bP,aj,iM,nV,gA,dK,nZ,n0,t2,hi1,t3,gH,aY,List.length_set,xu] at h);(try with_reducible intro K hK);simp only [go_sem,simprocAttr,bP,aj,iM,nV,gA,dK,nZ,n0,t2,hi1,t3,gH,aY,List.length_set,xu])))|((first|((with_reducible apply wL);exact rfl)|((with_reducible apply wM);exact rfl));all_goals (try ((with_reducible intro h);first|(exact absurd h (by decide))|(try simp only [go_sem,simprocAttr,bP,aj,iM,nV,gA,dK,nZ,n0,t2,hi1,t3,gH,aY,List.length_set,xu] at h))))|omega|((first|fail);try simp only [go_sem,simprocAttr,bP,aj,iM,nV,gA,dK,nZ,n0,t2,hi1,t3,gH,aY,List.length_set,xu])|(intro h))
   refine ⟨k+1,by omega, ?_,by omega⟩
   rw [sJ,kN,hm2,t1]
   refine Le.of ?_ ?_<;>simp [go_sem,rI,JE]
 obtain ⟨A,I,C,Ph,hst⟩:=Eu hrun hI hz hnl
 rw [if_neg hz] at JB JC
 obtain ⟨h1,Pj,h2,h3,h4,h5,h6,h7,h8⟩:=hst
 have CM:decide ((n:Int)=0)=false:=decide_eq_false (by omega)
 have hn2:decide (0<(n:Int))=true:=decide_eq_true (by omega)
 generalize A.length=a at*
 generalize I.length=bI at*
 generalize C.length=cC at*
 generalize sk g p n=RW at*
 generalize aW p (au p n)=O at*
 generalize LK g p n (ek g p (au p n))=vj at*
 generalize RK g p (cN g p) n (kF g p (au p n))=zn at*
 generalize eX g p n=CL at*
 generalize yf g p n=HZ at*
 generalize arr (LK g p n) g.es.length=LA at*
 generalize arr (RK g p (cN g p) n) g.es.length=RA at*
 generalize cK p n=c at*
 generalize (0::(dx p n).tail:List Int)=LB at*
 generalize wX:au p n=xv at*
 subst FW
 rw [En] at F2
 have My:=h8
 obtain ⟨s0,hs0⟩:∃s0,s0=if O= [] then 2*(a+bI)+1 else 2*(a+bI):=⟨_,rfl⟩
 obtain ⟨base,hbase⟩:∃base,base=if O= [] then RW.take (2*a+1) else RW.take (2*a+1)++ku c O O.length:=⟨_,rfl⟩
 have h9:sk g p (n+1)=base++RW.drop s0:=by rw [h8,hs0,hbase];split<;>rfl
 have hs1:2*(a+bI)≤s0∧s0≤2*(a+bI)+1:=by rw [hs0];split<;>omega
 clear h8 My
 have Pk:RW.length≤2000:=by omega
 repeat' (first|fail|((first|((with_reducible (first|apply oA|apply oB));exact rfl;intro K hK)|(refine hK _ ?_;clear hK K)|((with_reducible (first|apply oG|apply oH));iterate 3 exact rfl)|((with_reducible apply oI);(iterate 2 exact rfl);intro K hK)|(with_reducible (first|apply wI|apply wJ|apply wK)));try simp only [go_sem,simprocAttr,qA,Dn,wX])|fail|(with_reducible (first|apply oC|apply oJ|exact oK|apply wA|apply wB|apply wC hX hC|apply wD hX hC|apply wE hX hC af|apply wF hX hC af|apply wG|apply wH|apply And.intro))|((with_reducible refine oD ?_ ?_);first|fail|kernel_rfl)|((with_reducible (first|apply oE|apply oF));(iterate 3 exact rfl);all_goals (intro h;first|(exact absurd h (by decide))|((try simp only [go_sem,simprocAttr,qA,Dn,wX] at h);(try with_reducible intro K hK);simp only [go_sem,simprocAttr,qA,Dn,wX])))|((first|((with_reducible apply wL);exact rfl)|((with_reducible apply wM);exact rfl));all_goals (try ((with_reducible intro h);first|(exact absurd h (by decide))|(try simp only [go_sem,simprocAttr,qA,Dn,wX] at h))))|omega|((first|fail);try simp only [go_sem,simprocAttr,qA,Dn,wX])|(intro h))
 refine ak (fun s:Nat × Nat=>match s.1 with|0=>s.2≤2*a|1=>s.2<bI|_=>s0≤s.2∧s.2≤RW.length) (fun s=>match s.1 with|0=>⟨[(2, .ptr 2 0),(3, .ptr 3 0),(4, .ptr 4 0),(6,eN (cN g p)),(7, .ptr 7 0),(8,eN (c)),(9, .d (sI (RW))),(10,eN (n)),(11,eN x),(12, .ref 74),(13,eB false),(14,eN 0),(15,eN (s.2))], [(2, .box [eN g.n, .d (sE g.es)]),(3, .box [.d (sI p.ord), .d (.sl 1 (vI p.outs))]),(4, .box [.nil 3, .nil 3, .nil 3, .nil 3]),(7, .box [.ref 48, .ref 52, .ref 55, .ref 58]),(48, .own 3 1 ((LA).map rI)),(52, .own 3 1 ((RA).map rI)),(55, .own 3 1 ((dO LB (cN g p+1) x 0).map rI)),(58, .own 3 1 ((HZ).map rI)),(74, .tip 3 1 ((RW.take (s.2)).map rI))]⟩|1=>⟨[(2, .ptr 2 0),(3, .ptr 3 0),(4, .ptr 4 0),(6,eN (cN g p)),(7, .ptr 7 0),(8,eN (c)),(9, .d (sI (RW))),(10,eN (n)),(11,eN x),(12, .ref 74),(13,eB (decide (0<(s.2)))),(14,eN (if (s.2)=0 then 0 else vj)),(15,eN ((2*(a+(s.2))+1:Nat):Int))], [(2, .box [eN g.n, .d (sE g.es)]),(3, .box [.d (sI p.ord), .d (.sl 1 (vI p.outs))]),(4, .box [.nil 3, .nil 3, .nil 3, .nil 3]),(7, .box [.ref 48, .ref 52, .ref 55, .ref 58]),(48, .own 3 1 ((LA).map rI)),(52, .own 3 1 ((RA).map rI)),(55, .own 3 1 ((dO LB (cN g p+1) x 0).map rI)),(58, .own 3 1 ((dN HZ CL x (s.2)).map rI)),(74, .tip 3 1 ((RW.take (2*a+1)).map rI))]⟩|_=>⟨[(2, .ptr 2 0),(3, .ptr 3 0),(4, .ptr 4 0),(6,eN (cN g p)),(7, .ptr 7 0),(8,eN ((c+(O.length - 1):Nat))),(9, .d (sI (RW))),(10,eN (n)),(11,eN x),(12, .ref 74),(13,eB true),(15,eN (s.2))], [(2, .box [eN g.n, .d (sE g.es)]),(3, .box [.d (sI p.ord), .d (.sl 1 (vI p.outs))]),(4, .box [.nil 3, .nil 3, .nil 3, .nil 3]),(7, .box [.ref 48, .ref 52, .ref 55, .ref 58]),(48, .own 3 1 ((eo LA O vj c O.length).map rI)),(52, .own 3 1 ((er RA O zn c O.length).map rI)),(55, .own 3 1 ((dO LB (cN g p+1) x (O.length - 1)).map rI)),(58, .own 3 1 ((dN HZ CL x CL.length).map rI)),(74, .tip 3 1 ((base++(RW.take (s.2)).drop s0).map rI))]⟩) (fun s=>match s.1 with|0=>3*RW.length+6 - s.2|1=>2*RW.length+4 - s.2|_=>RW.length+2 - s.2) (0,0) (by show (0:Nat)≤2*a;omega) ?_ ?_
 ·refine Le.of ?_ ?_<;>simp [go_sem,simprocAttr]
 have Da:∀i,i<RW.length→i % 2=1→∃e:Nat,RW.getD i 0=e∧e<g.es.length∧((g.es.getD e (0,0)).2=(x:Int)↔2*a+1≤i∧i<2*(a+bI)):=fun i hi hm=>by
  obtain ⟨g1,g2⟩:=h2 (i / 2) (by omega)
  rw [show 2*(i / 2)+1=i by omega] at g1 g2
  refine ⟨(RW.getD i 0).toNat,by omega,by omega, ?_⟩
  have:(g.es.getD (RW.getD i 0).toNat (0,0)).2=Aw g (RW.getD i 0):=rfl
  rw [this,g2];omega
 rintro ⟨ph,i⟩ hs
 match ph,hs with
 |0,hs=>
  have hs:i≤2*a:=hs
  dsimp only
  have cF:decide ((i:Int)<(RW.length:Int))=true:=decide_eq_true (by omega)
  have dQ:=vf (l:=RW) (i:=i) (by omega)
  have ff:=gG (l:=RW) (i:=i) (by omega)
  have hrm:=Et (i:=i)
  have hend:∀T:List Int,RW.take i++ [RW.getD i 0]=T→∃j:Nat × Nat,(match j.1 with|0=>j.2≤2*a|1=>j.2<bI|_=>s0≤j.2∧j.2≤RW.length)∧(∀s:ASt,Le s (⟨[(2, .ptr 2 0),(3, .ptr 3 0),(4, .ptr 4 0),(6,eN (cN g p)),(7, .ptr 7 0),(8,eN (c)),(9, .d (sI (RW))),(10,eN (n)),(11,eN x),(12, .ref 74),(13,eB false),(14,eN 0),(15,eN ((i+1:Nat)))], [(2, .box [eN g.n, .d (sE g.es)]),(3, .box [.d (sI p.ord), .d (.sl 1 (vI p.outs))]),(4, .box [.nil 3, .nil 3, .nil 3, .nil 3]),(7, .box [.ref 48, .ref 52, .ref 55, .ref 58]),(48, .own 3 1 ((LA).map rI)),(52, .own 3 1 ((RA).map rI)),(55, .own 3 1 ((dO LB (cN g p+1) x 0).map rI)),(58, .own 3 1 ((HZ).map rI)),(74, .tip 3 1 ((RW.take ((i+1:Nat))).map rI))]⟩)→Le s (match j.1 with|0=>⟨[(2, .ptr 2 0),(3, .ptr 3 0),(4, .ptr 4 0),(6,eN (cN g p)),(7, .ptr 7 0),(8,eN (c)),(9, .d (sI (RW))),(10,eN (n)),(11,eN x),(12, .ref 74),(13,eB false),(14,eN 0),(15,eN (j.2))], [(2, .box [eN g.n, .d (sE g.es)]),(3, .box [.d (sI p.ord), .d (.sl 1 (vI p.outs))]),(4, .box [.nil 3, .nil 3, .nil 3, .nil 3]),(7, .box [.ref 48, .ref 52, .ref 55, .ref 58]),(48, .own 3 1 ((LA).map rI)),(52, .own 3 1 ((RA).map rI)),(55, .own 3 1 ((dO LB (cN g p+1) x 0).map rI)),(58, .own 3 1 ((HZ).map rI)),(74, .tip 3 1 ((RW.take (j.2)).map rI))]⟩|1=>⟨[(2, .ptr 2 0),(3, .ptr 3 0),(4, .ptr 4 0),(6,eN (cN g p)),(7, .ptr 7 0),(8,eN (c)),(9, .d (sI (RW))),(10,eN (n)),(11,eN x),(12, .ref 74),(13,eB (decide (0<(j.2)))),(14,eN (if (j.2)=0 then 0 else vj)),(15,eN ((2*(a+(j.2))+1:Nat):Int))], [(2, .box [eN g.n, .d (sE g.es)]),(3, .box [.d (sI p.ord), .d (.sl 1 (vI p.outs))]),(4, .box [.nil 3, .nil 3, .nil 3, .nil 3]),(7, .box [.ref 48, .ref 52, .ref 55, .ref 58]),(48, .own 3 1 ((LA).map rI)),(52, .own 3 1 ((RA).map rI)),(55, .own 3 1 ((dO LB (cN g p+1) x 0).map rI)),(58, .own 3 1 ((dN HZ CL x (j.2)).map rI)),(74, .tip 3 1 ((RW.take (2*a+1)).map rI))]⟩|_=>⟨[(2, .ptr 2 0),(3, .ptr 3 0),(4, .ptr 4 0),(6,eN (cN g p)),(7, .ptr 7 0),(8,eN ((c+(O.length - 1):Nat))),(9, .d (sI (RW))),(10,eN (n)),(11,eN x),(12, .ref 74),(13,eB true),(15,eN (j.2))], [(2, .box [eN g.n, .d (sE g.es)]),(3, .box [.d (sI p.ord), .d (.sl 1 (vI p.outs))]),(4, .box [.nil 3, .nil 3, .nil 3, .nil 3]),(7, .box [.ref 48, .ref 52, .ref 55, .ref 58]),(48, .own 3 1 ((eo LA O vj c O.length).map rI)),(52, .own 3 1 ((er RA O zn c O.length).map rI)),(55, .own 3 1 ((dO LB (cN g p+1) x (O.length - 1)).map rI)),(58, .own 3 1 ((dN HZ CL x CL.length).map rI)),(74, .tip 3 1 ((base++(RW.take (j.2)).drop s0).map rI))]⟩))∧(match j.1 with|0=>3*RW.length+6 - j.2|1=>2*RW.length+4 - j.2|_=>RW.length+2 - j.2)<3*RW.length+6 - i:=fun T hT=>by
   by_cases hi2:i<2*a
   ·exact ⟨(0,i+1),(by show i+1≤2*a;omega),fun s h=>(by dsimp only;exact h),(by show 3*RW.length+6 - (i+1)<_;omega)⟩
   ·obtain rfl:i=2*a:=by omega
    exact ⟨(1,0),Ph,fun s h=>(by dsimp only;exact h),(by show 2*RW.length+4 - 0<_;omega)⟩
  obtain ⟨jn,Jn,hj2,Nj⟩:=hend _ rfl
  clear hend
  generalize RW.take i=T1 at dQ ff
  rcases Nat.mod_two_eq_zero_or_one i with AJ|AJ
  ·rw [AJ] at hrm
   repeat' (first|fail|((first|((with_reducible (first|apply oA|apply oB));exact rfl;intro K hK)|(refine hK _ ?_;clear hK K)|((with_reducible (first|apply oG|apply oH));iterate 3 exact rfl)|((with_reducible apply oI);(iterate 2 exact rfl);intro K hK)|(with_reducible (first|apply wI|apply wJ|apply wK)));try simp only [go_sem,simprocAttr,cF,hrm,ff])|(show cH _ (.region 16 _ _) _ _;(refine dZ hX 12 212 74 (by simp only [go_sem,simprocAttr,cF,hrm,ff]) rfl (by first|exact .inl rfl|exact .inr rfl) (by decide) ?_;simp only [go_sem,simprocAttr,cF,hrm,ff]))|(with_reducible (first|apply oC|apply oJ|exact oK|apply wA|apply wB|apply wC hX hC|apply wD hX hC|apply wE hX hC af|apply wF hX hC af|apply wG|apply wH|apply And.intro))|((with_reducible refine oD ?_ ?_);first|fail|kernel_rfl)|((with_reducible (first|apply oE|apply oF));(iterate 3 exact rfl);all_goals (intro h;first|(exact absurd h (by decide))|((try simp only [go_sem,simprocAttr,cF,hrm,ff] at h);(try with_reducible intro K hK);simp only [go_sem,simprocAttr,cF,hrm,ff])))|((first|((with_reducible apply wL);exact rfl)|((with_reducible apply wM);exact rfl));all_goals (try ((with_reducible intro h);first|(exact absurd h (by decide))|(try simp only [go_sem,simprocAttr,cF,hrm,ff] at h))))|omega|((first|fail);try simp only [go_sem,simprocAttr,cF,hrm,ff])|(intro h))
   refine ⟨jn,Jn,hj2 _ ?_,Nj⟩
   rw [dQ]
   refine Le.of ?_ ?_<;>simp [go_sem,simprocAttr,cF,hrm,ff,rI]
  ·rw [AJ] at hrm
   obtain ⟨e,e1,e2,e3⟩:=Da i (by omega) AJ
   have hh:decide ((g.es.getD e (0,0)).2=(x:Int))=false:=decide_eq_false (by rw [e3];omega)
   repeat' (first|fail|((first|((with_reducible (first|apply oA|apply oB));exact rfl;intro K hK)|(refine hK _ ?_;clear hK K)|((with_reducible (first|apply oG|apply oH));iterate 3 exact rfl)|((with_reducible apply oI);(iterate 2 exact rfl);intro K hK)|(with_reducible (first|apply wI|apply wJ|apply wK)));try simp only [go_sem,simprocAttr,cF,hrm,ff,hn2,e1,hh])|(show cH _ (.region 16 _ _) _ _;(refine dZ hX 12 212 74 (by simp only [go_sem,simprocAttr,cF,hrm,ff,hn2,e1,hh]) rfl (by first|exact .inl rfl|exact .inr rfl) (by decide) ?_;simp only [go_sem,simprocAttr,cF,hrm,ff,hn2,e1,hh]))|(with_reducible (first|apply oC|apply oJ|exact oK|apply wA|apply wB|apply wC hX hC|apply wD hX hC|apply wE hX hC af|apply wF hX hC af|apply wG|apply wH|apply And.intro))|((with_reducible refine oD ?_ ?_);first|fail|kernel_rfl)|((with_reducible (first|apply oE|apply oF));(iterate 3 exact rfl);all_goals (intro h;first|(exact absurd h (by decide))|((try simp only [go_sem,simprocAttr,cF,hrm,ff,hn2,e1,hh] at h);(try with_reducible intro K hK);simp only [go_sem,simprocAttr,cF,hrm,ff,hn2,e1,hh])))|((first|((with_reducible apply wL);exact rfl)|((with_reducible apply wM);exact rfl));all_goals (try ((with_reducible intro h);first|(exact absurd h (by decide))|(try simp only [go_sem,simprocAttr,cF,hrm,ff,hn2,e1,hh] at h))))|omega|((first|fail);try simp only [go_sem,simprocAttr,cF,hrm,ff,hn2,e1,hh])|(intro h))
   refine ⟨jn,Jn,hj2 _ ?_,Nj⟩
   rw [dQ,e1]
   refine Le.of ?_ ?_<;>simp [go_sem,simprocAttr,cF,hrm,ff,hn2,e1,hh,rI]
 |1,hs=>
  have hs:i<bI:=hs
  dsimp only
  obtain ⟨i0,Pm⟩:∃i0,i0=2*(a+i)+1:=⟨_,rfl⟩
  obtain ⟨i1,hi1⟩:∃i1,i1=i0+1:=⟨_,rfl⟩
  obtain ⟨i2,hi2⟩:∃i2,i2=i0+2:=⟨_,rfl⟩
  have z1:(i0:Int)+1=(i1:Int):=by omega
  have z2:(i0:Int)+2=(i2:Int):=by omega
  have z3:(i1:Int)+1=(i2:Int):=by omega
  rw [← Pm]
  have cF:decide ((i0:Int)<(RW.length:Int))=true:=decide_eq_true (by omega)
  have hrm:=Et (i:=i0)
  rw [show i0 % 2=1 by omega] at hrm
  obtain ⟨e,e1,e2,e3⟩:=Da i0 (by omega) (by omega)
  have hh:decide ((g.es.getD e (0,0)).2=(x:Int))=true:=decide_eq_true (e3.2 (by omega))
  have ff:=gG (l:=RW) (i:=2*a+1) (by omega)
  have AX:=xj (l:=RW) (i:=2*a+1) (k:=2*a) (by omega)
  rw [h3] at AX
  have Dp:((2*a+1:Nat):Int) - 1=((2*a:Nat):Int):=by omega
  obtain ⟨T0,vg⟩:∃T0,T0=RW.take (2*a+1):=⟨_,rfl⟩
  rw [← vg] at ff AX ⊢
  generalize Pn:decide (0<i)=dn
  generalize hlv:(if i=0 then (0:Int) else vj)=lv
  have JF:dn=true→lv=vj:=fun h1=>by rw [← hlv,if_neg (by have:=of_decide_eq_true (Pn.trans h1);omega)]
  rcases Nat.lt_or_ge (i+1) bI with hjl|I9
  ·have aj:decide ((i2:Int)<(RW.length:Int))=true:=decide_eq_true (by omega)
   obtain ⟨f,f1,f2,f3⟩:=Da i2 (by omega) (by omega)
   have AY:decide ((g.es.getD f (0,0)).2=(x:Int))=true:=decide_eq_true (f3.2 (by omega))
   have hc:=h4 i hjl
   have Po:=h7 i (by omega)
   rw [show 2*(a+i)+2=i1 by omega] at hc
   obtain ⟨cl,dL⟩:∃cl:Nat,CL.getD i 0=cl:=⟨(CL.getD i 0).toNat,by omega⟩
   have El:dN HZ CL (x:Int) (i+1)=(dN HZ CL (x:Int) i).set (CL.getD i 0).toNat (x:Int):=rfl
   have Gq:=jR (A:=HZ) (fs:=CL) (x:=(x:Int)) (j:=i)
   rw [dL] at hc El Po
   rw [Int.toNat_natCast] at El
   generalize dN HZ CL (x:Int) i=H1 at El Gq
   repeat' (first|fail|((first|((with_reducible (first|apply oA|apply oB));exact rfl;intro K hK)|(refine hK _ ?_;clear hK K)|((with_reducible (first|apply oG|apply oH));iterate 3 exact rfl)|((with_reducible apply oI);(iterate 2 exact rfl);intro K hK)|(with_reducible (first|apply wI|apply wJ|apply wK)));try simp only [go_sem,simprocAttr,cF,hrm,hn2,e1,hh,aj,z1,z2,z3,f1,AY,hc,ff,Dp,AX,Gq,C8,aY,List.length_set])|fail|(with_reducible (first|apply oC|apply oJ|exact oK|apply wA|apply wB|apply wC hX hC|apply wD hX hC|apply wE hX hC af|apply wF hX hC af|apply wG|apply wH|apply And.intro))|((with_reducible refine oD ?_ ?_);first|fail|kernel_rfl)|((with_reducible (first|apply oE|apply oF));(iterate 3 exact rfl);all_goals (intro h;first|(exact absurd h (by decide))|((try simp only [go_sem,simprocAttr,cF,hrm,hn2,e1,hh,aj,z1,z2,z3,f1,AY,hc,ff,Dp,AX,Gq,C8,aY,List.length_set] at h);(try with_reducible intro K hK);simp only [go_sem,simprocAttr,cF,hrm,hn2,e1,hh,aj,z1,z2,z3,f1,AY,hc,ff,Dp,AX,Gq,C8,aY,List.length_set])))|((first|((with_reducible apply wL);exact rfl)|((with_reducible apply wM);exact rfl));all_goals (try ((with_reducible intro h);first|(exact absurd h (by decide))|(try simp only [go_sem,simprocAttr,cF,hrm,hn2,e1,hh,aj,z1,z2,z3,f1,AY,hc,ff,Dp,AX,Gq,C8,aY,List.length_set] at h))))|omega|((first|fail);try simp only [go_sem,simprocAttr,cF,hrm,hn2,e1,hh,aj,z1,z2,z3,f1,AY,hc,ff,Dp,AX,Gq,C8,aY,List.length_set])|(intro h))
   all_goals (refine ⟨(1,i+1),hjl, ?_,by show 2*RW.length+4 - (i+1)<2*RW.length+4 - i;omega⟩)
   all_goals (dsimp only)
   all_goals (rw [El,show 2*(a+(i+1))+1=i2 by omega,vg])
   ·refine Le.of ?_ ?_<;>simp [go_sem,rI]
   ·rw [JF (by first|assumption|simp_all)]
    refine Le.of ?_ ?_<;>simp [go_sem,rI]
  obtain rfl:bI=i+1:=by omega
  have Pp:i=CL.length:=by omega
  have hrf:RW.getD i1 0=zn:=by rw [show i1=2*(a+(i+1)) by omega];exact h5
  obtain ⟨f,f1,f4⟩:∃f:Nat,RW.getD i2 0=f∧(i2<RW.length→f<g.es.length∧decide ((g.es.getD f (0,0)).2=(x:Int))=false):=by
   rcases Nat.lt_or_ge i2 RW.length with h1|h1
   ·obtain ⟨f,f1,f2,f3⟩:=Da i2 h1 (by omega)
    exact ⟨f,f1,fun _=>⟨f2,decide_eq_false (by rw [f3];omega)⟩⟩
   ·exact ⟨0,by rw [List.getD_eq_getElem?_getD,List.getElem?_eq_none (by omega)];rfl,fun h2=>by omega⟩
  have Pq:dN HZ CL (x:Int) i=dN HZ CL (x:Int) CL.length:=by rw [Pp]
  rw [Pq]
  generalize dN HZ CL (x:Int) CL.length=H1
  have pX:(O= []→s0=i2)∧(O≠ []→s0=i1):=by
   constructor<;>intro h1
   ·rw [hs0,if_pos h1];omega
   ·rw [hs0,if_neg h1];omega
  have Nk:(O= []→base=T0)∧(O≠ []→base=T0++ku c O O.length):=by
   constructor<;>intro h1
   ·rw [hbase,if_pos h1,vg]
   ·rw [hbase,if_neg h1,vg]
  apply Ev
  ·intro hB
   by_cases Pr:i2<RW.length
   have aj:decide ((i2:Int)<(RW.length:Int))=true:=decide_eq_true (by omega)
   obtain ⟨f2,AY⟩:=f4 Pr
   rotate_left
   have aj:decide ((i2:Int)<(RW.length:Int))=false:=decide_eq_false (by omega)
   have AY:decide ((5:Int)=6)=false:=rfl
   all_goals (
   repeat' (first|fail|((first|((with_reducible (first|apply oA|apply oB));exact rfl;intro K hK)|(refine hK _ ?_;clear hK K)|((with_reducible (first|apply oG|apply oH));iterate 3 exact rfl)|((with_reducible apply oI);(iterate 2 exact rfl);intro K hK)|(with_reducible (first|apply wI|apply wJ|apply wK)));try simp only [go_sem,simprocAttr,cF,hrm,hn2,e1,hh,aj,z1,z2,z3,f1,AY,ff,Dp,AX])|fail|(with_reducible (first|apply oC|apply oJ|exact oK|apply wA|apply wB|apply wC hX hC|apply wD hX hC|apply wE hX hC af|apply wF hX hC af|apply wG|apply wH|apply And.intro))|((with_reducible refine oD ?_ ?_);first|fail|kernel_rfl)|((with_reducible (first|apply oE|apply oF));(iterate 3 exact rfl);all_goals (intro h;first|(exact absurd h (by decide))|((try simp only [go_sem,simprocAttr,cF,hrm,hn2,e1,hh,aj,z1,z2,z3,f1,AY,ff,Dp,AX] at h);(try with_reducible intro K hK);simp only [go_sem,simprocAttr,cF,hrm,hn2,e1,hh,aj,z1,z2,z3,f1,AY,ff,Dp,AX])))|((first|((with_reducible apply wL);exact rfl)|((with_reducible apply wM);exact rfl));all_goals (try ((with_reducible intro h);first|(exact absurd h (by decide))|(try simp only [go_sem,simprocAttr,cF,hrm,hn2,e1,hh,aj,z1,z2,z3,f1,AY,ff,Dp,AX] at h))))|omega|((first|fail);try simp only [go_sem,simprocAttr,cF,hrm,hn2,e1,hh,aj,z1,z2,z3,f1,AY,ff,Dp,AX])|(intro h)))
   all_goals (refine ak (fun k:Nat=>k≤O.length) (fun k=>⟨[(2, .ptr 2 0),(3, .ptr 3 0),(4, .ptr 4 0),(6,eN (cN g p)),(7, .ptr 7 0),(8,eN ((c+(min k (O.length - 1)):Nat))),(9, .d (sI (RW))),(10,eN (n)),(11,eN x),(12, .ref 74),(13,eB true),(14,eN (if k=0 then vj else if k<O.length then (c:Int)+k - 1 else zn)),(15,eN i0),(16,eN k)], [(2, .box [eN g.n, .d (sE g.es)]),(3, .box [.d (sI p.ord), .d (.sl 1 (vI p.outs))]),(4, .box [.nil 3, .nil 3, .nil 3, .nil 3]),(7, .box [.ref 48, .ref 52, .ref 55, .ref 58]),(48, .own 3 1 ((eo LA O vj c k).map rI)),(52, .own 3 1 ((er RA O zn c k).map rI)),(55, .own 3 1 ((dO LB (cN g p+1) x (min k (O.length - 1))).map rI)),(58, .own 3 1 ((H1).map rI)),(74, .tip 3 1 ((T0++ku c O k).map rI))]⟩) (fun k=>O.length - k) 0 (by omega) ?_ hB.out)
   all_goals (first|(refine Le.of ?_ ?_<;>simp [go_sem,ku,eo,er,dz];done)|(rw [JF (by first|assumption|simp_all)];refine Le.of ?_ ?_<;>simp [go_sem,ku,eo,er,dz];done))
  rintro k xA
  rcases Nat.lt_or_ge k O.length with cu|EB
  rotate_left
  ·have bP:decide ((k:Int)<(O.length:Int))=false:=decide_eq_false (by omega)
   obtain rfl:k=O.length:=by omega
   rw [show min O.length (O.length - 1)=O.length - 1 by omega]
   by_cases hO:O= []
   ·have Db:decide ((O.length:Int)=0)=true:=decide_eq_true (by rw [hO];rfl)
    repeat' (first|fail|((first|((with_reducible (first|apply oA|apply oB));exact rfl;intro K hK)|(refine hK _ ?_;clear hK K)|((with_reducible (first|apply oG|apply oH));iterate 3 exact rfl)|((with_reducible apply oI);(iterate 2 exact rfl);intro K hK)|(with_reducible (first|apply wI|apply wJ|apply wK)));try simp only [go_sem,simprocAttr,bP,iM,Db,z1,z3])|fail|(with_reducible (first|apply oC|apply oJ|exact oK|apply wA|apply wB|apply wC hX hC|apply wD hX hC|apply wE hX hC af|apply wF hX hC af|apply wG|apply wH|apply And.intro))|((with_reducible refine oD ?_ ?_);first|fail|kernel_rfl)|((with_reducible (first|apply oE|apply oF));(iterate 3 exact rfl);all_goals (intro h;first|(exact absurd h (by decide))|((try simp only [go_sem,simprocAttr,bP,iM,Db,z1,z3] at h);(try with_reducible intro K hK);simp only [go_sem,simprocAttr,bP,iM,Db,z1,z3])))|((first|((with_reducible apply wL);exact rfl)|((with_reducible apply wM);exact rfl));all_goals (try ((with_reducible intro h);first|(exact absurd h (by decide))|(try simp only [go_sem,simprocAttr,bP,iM,Db,z1,z3] at h))))|omega|((first|fail);try simp only [go_sem,simprocAttr,bP,iM,Db,z1,z3])|(intro h))
    refine ⟨(2,i2),⟨by have:=pX.1 hO;omega,by omega⟩, ?_,by show RW.length+2 - i2<2*RW.length+4 - i;omega⟩
    dsimp only
    rw [Nk.1 hO,pX.1 hO,List.drop_eq_nil_of_le (by rw [List.length_take];omega)]
    have hmn:ku c O O.length= []:=by rw [hO];rfl
    rw [hmn]
    refine Le.of ?_ ?_<;>simp [go_sem]
   ·have Db:decide ((O.length:Int)=0)=false:=decide_eq_false (by have:=List.length_pos_iff.2 hO;omega)
    repeat' (first|fail|((first|((with_reducible (first|apply oA|apply oB));exact rfl;intro K hK)|(refine hK _ ?_;clear hK K)|((with_reducible (first|apply oG|apply oH));iterate 3 exact rfl)|((with_reducible apply oI);(iterate 2 exact rfl);intro K hK)|(with_reducible (first|apply wI|apply wJ|apply wK)));try simp only [go_sem,simprocAttr,bP,iM,Db,z1,z3])|fail|(with_reducible (first|apply oC|apply oJ|exact oK|apply wA|apply wB|apply wC hX hC|apply wD hX hC|apply wE hX hC af|apply wF hX hC af|apply wG|apply wH|apply And.intro))|((with_reducible refine oD ?_ ?_);first|fail|kernel_rfl)|((with_reducible (first|apply oE|apply oF));(iterate 3 exact rfl);all_goals (intro h;first|(exact absurd h (by decide))|((try simp only [go_sem,simprocAttr,bP,iM,Db,z1,z3] at h);(try with_reducible intro K hK);simp only [go_sem,simprocAttr,bP,iM,Db,z1,z3])))|((first|((with_reducible apply wL);exact rfl)|((with_reducible apply wM);exact rfl));all_goals (try ((with_reducible intro h);first|(exact absurd h (by decide))|(try simp only [go_sem,simprocAttr,bP,iM,Db,z1,z3] at h))))|omega|((first|fail);try simp only [go_sem,simprocAttr,bP,iM,Db,z1,z3])|(intro h))
    refine ⟨(2,i1),⟨by have:=pX.2 hO;omega,by omega⟩, ?_,by show RW.length+2 - i1<2*RW.length+4 - i;omega⟩
    dsimp only
    rw [Nk.2 hO,pX.2 hO,List.drop_eq_nil_of_le (by rw [List.length_take];omega)]
    refine Le.of ?_ ?_<;>simp [go_sem]
  have bP:decide ((k:Int)<(O.length:Int))=true:=decide_eq_true (by omega)
  have hin:=jc _ (aK (d:=0) cu)
  have gA:=oV (A:=LA) (o:=O) (left:=vj) (c:=c) (j:=k)
  have dK:=oW (A:=RA) (o:=O) (left:=zn) (c:=c) (j:=k)
  have sJ:eo LA O vj c (k+1)=(eo LA O vj c k).set (O.getD k 0).toNat (if k=0 then vj else (c:Int)+k - 1):=rfl
  have kN:er RA O zn c (k+1)=(er RA O zn c k).set (O.getD k 0).toNat (if k+1<O.length then (c:Int)+k else zn):=rfl
  have F4:ku c O (k+1)=ku c O k++if k+1<O.length then [O.getD k 0,((c+k:Nat):Int)] else [O.getD k 0]:=rfl
  have Pt:=sj (c:=c) (o:=O) (k:=k)
  have Mz:(if k=0 then vj else if k<O.length then (c:Int)+k - 1 else zn)=if k=0 then vj else (c:Int)+k - 1:=by rw [if_pos cu]
  have pq:min k (O.length - 1)=k:=by omega
  rw [Mz,pq]
  generalize (if k=0 then vj else (c:Int)+k - 1)=Qi at sJ
  generalize nV:O.getD k 0=ev at hin sJ kN F4
  obtain ⟨e',rfl⟩:∃e':Nat,ev=e':=⟨ev.toNat,by omega⟩
  rw [Int.toNat_natCast] at sJ kN
  generalize eo LA O vj c k=L1 at gA sJ
  generalize er RA O zn c k=R1 at dK kN
  generalize ku c O k=M1 at F4 Pt
  have gH:=o5 k (by omega)
  have JG:(T0++M1).length≤6000:=by rw [List.length_append,ff];omega
  by_cases hk2:k+1<O.length
  ·have aj:decide ((k:Int)+1<(O.length:Int))=true:=decide_eq_true (by omega)
   have hm2:min (k+1) (O.length - 1)=k+1:=by omega
   rw [if_pos hk2] at kN F4
   have Ew:(if k+1=0 then vj else if k+1<O.length then (c:Int)+(k+1:Nat) - 1 else zn)=((c+k:Nat):Int):=by rw [if_neg (by omega),if_pos hk2];omega
   have yl:=Mx k (by omega)
   generalize JE:dO LB (cN g p+1) (x:Int) k=Z1 at gH yl
   obtain ⟨ck,F3⟩:∃ck:Nat,ck=c+k:=⟨_,rfl⟩
   have sM:(c:Int)+(k:Int)=(ck:Int):=by omega
   have Pu:(ck:Int)+1=((c+(k+1):Nat):Int):=by omega
   rw [← F3] at yl F4 Ew ⊢
   rw [sM] at kN
   have Dc:T0++ku c O (k+1)=(T0++M1)++ [(e':Int),(ck:Int)]:=by rw [F4,List.append_assoc]
   generalize T0++M1=T1 at Dc JG
   repeat' (first|fail|((first|((with_reducible (first|apply oA|apply oB));exact rfl;intro K hK)|(refine hK _ ?_;clear hK K)|((with_reducible (first|apply oG|apply oH));iterate 3 exact rfl)|((with_reducible apply oI);(iterate 2 exact rfl);intro K hK)|(with_reducible (first|apply wI|apply wJ|apply wK)));try simp only [go_sem,simprocAttr,bP,aj,iM,nV,gA,dK,nZ,n0,z1,hrf,gH,aY,List.length_set,List.length_append,List.length_cons,List.length_nil])|(show cH _ (.region 26 _ _) _ _;(refine dZ hX 12 191 74 (by simp only [go_sem,simprocAttr,bP,aj,iM,nV,gA,dK,nZ,n0,z1,hrf,gH,aY,List.length_set,List.length_append,List.length_cons,List.length_nil]) rfl (by first|exact .inl rfl|exact .inr rfl) (by decide) ?_;simp only [go_sem,simprocAttr,bP,aj,iM,nV,gA,dK,nZ,n0,z1,hrf,gH,aY,List.length_set,List.length_append,List.length_cons,List.length_nil]))|(with_reducible (first|apply oC|apply oJ|exact oK|apply wA|apply wB|apply wC hX hC|apply wD hX hC|apply wE hX hC af|apply wF hX hC af|apply wG|apply wH|apply And.intro))|((with_reducible refine oD ?_ ?_);first|fail|kernel_rfl)|((with_reducible (first|apply oE|apply oF));(iterate 3 exact rfl);all_goals (intro h;first|(exact absurd h (by decide))|((try simp only [go_sem,simprocAttr,bP,aj,iM,nV,gA,dK,nZ,n0,z1,hrf,gH,aY,List.length_set,List.length_append,List.length_cons,List.length_nil] at h);(try with_reducible intro K hK);simp only [go_sem,simprocAttr,bP,aj,iM,nV,gA,dK,nZ,n0,z1,hrf,gH,aY,List.length_set,List.length_append,List.length_cons,List.length_nil])))|((first|((with_reducible apply wL);exact rfl)|((with_reducible apply wM);exact rfl));all_goals (try ((with_reducible intro h);first|(exact absurd h (by decide))|(try simp only [go_sem,simprocAttr,bP,aj,iM,nV,gA,dK,nZ,n0,z1,hrf,gH,aY,List.length_set,List.length_append,List.length_cons,List.length_nil] at h))))|omega|((first|fail);try simp only [go_sem,simprocAttr,bP,aj,iM,nV,gA,dK,nZ,n0,z1,hrf,gH,aY,List.length_set,List.length_append,List.length_cons,List.length_nil])|(intro h))
   refine ⟨k+1,by omega, ?_,by omega⟩
   rw [sJ,kN,hm2, ← yl,Dc,Ew]
   refine Le.of ?_ ?_<;>simp [go_sem,rI]
   all_goals omega
  ·have aj:decide ((k:Int)+1<(O.length:Int))=false:=decide_eq_false (by omega)
   have hm2:min (k+1) (O.length - 1)=k:=by omega
   rw [if_neg hk2] at kN F4
   have Ew:(if k+1=0 then vj else if k+1<O.length then (c:Int)+(k+1:Nat) - 1 else zn)=zn:=by rw [if_neg (by omega),if_neg hk2]
   have Dc:T0++ku c O (k+1)=(T0++M1)++ [(e':Int)]:=by rw [F4,List.append_assoc]
   generalize T0++M1=T1 at Dc JG
   generalize JE:dO LB (cN g p+1) (x:Int) k=Z1 at gH
   repeat' (first|fail|((first|((with_reducible (first|apply oA|apply oB));exact rfl;intro K hK)|(refine hK _ ?_;clear hK K)|((with_reducible (first|apply oG|apply oH));iterate 3 exact rfl)|((with_reducible apply oI);(iterate 2 exact rfl);intro K hK)|(with_reducible (first|apply wI|apply wJ|apply wK)));try simp only [go_sem,simprocAttr,bP,aj,iM,nV,gA,dK,nZ,n0,z1,hrf,aY,List.length_set])|(show cH _ (.region 26 _ _) _ _;(refine dZ hX 12 165 74 (by simp only [go_sem,simprocAttr,bP,aj,iM,nV,gA,dK,nZ,n0,z1,hrf,aY,List.length_set]) rfl (by first|exact .inl rfl|exact .inr rfl) (by decide) ?_;simp only [go_sem,simprocAttr,bP,aj,iM,nV,gA,dK,nZ,n0,z1,hrf,aY,List.length_set]))|(with_reducible (first|apply oC|apply oJ|exact oK|apply wA|apply wB|apply wC hX hC|apply wD hX hC|apply wE hX hC af|apply wF hX hC af|apply wG|apply wH|apply And.intro))|((with_reducible refine oD ?_ ?_);first|fail|kernel_rfl)|((with_reducible (first|apply oE|apply oF));(iterate 3 exact rfl);all_goals (intro h;first|(exact absurd h (by decide))|((try simp only [go_sem,simprocAttr,bP,aj,iM,nV,gA,dK,nZ,n0,z1,hrf,aY,List.length_set] at h);(try with_reducible intro K hK);simp only [go_sem,simprocAttr,bP,aj,iM,nV,gA,dK,nZ,n0,z1,hrf,aY,List.length_set])))|((first|((with_reducible apply wL);exact rfl)|((with_reducible apply wM);exact rfl));all_goals (try ((with_reducible intro h);first|(exact absurd h (by decide))|(try simp only [go_sem,simprocAttr,bP,aj,iM,nV,gA,dK,nZ,n0,z1,hrf,aY,List.length_set] at h))))|omega|((first|fail);try simp only [go_sem,simprocAttr,bP,aj,iM,nV,gA,dK,nZ,n0,z1,hrf,aY,List.length_set])|(intro h))
   refine ⟨k+1,by omega, ?_,by omega⟩
   rw [sJ,kN,hm2,JE,Dc,Ew]
   refine Le.of ?_ ?_<;>simp [go_sem,rI]
 |(ph+2),hs=>
  have hs:s0≤i∧i≤RW.length:=hs
  dsimp only
  rcases Nat.lt_or_ge i RW.length with hil|Ja
  rotate_left
  ·have cF:decide ((i:Int)<(RW.length:Int))=false:=decide_eq_false (by omega)
   obtain rfl:i=RW.length:=by omega
   rw [List.take_length, ← h9,JB,JC, ← C9, ← Mw, ← En]
   repeat' (first|fail|((first|((with_reducible (first|apply oA|apply oB));exact rfl;intro K hK)|(refine hK _ ?_;clear hK K)|((with_reducible (first|apply oG|apply oH));iterate 3 exact rfl)|((with_reducible apply oI);(iterate 2 exact rfl);intro K hK)|(with_reducible (first|apply wI|apply wJ|apply wK)));try simp only [go_sem,simprocAttr,cF,CM])|(show cH _ (.seq (.region 53 _ _) _) _ _;(refine bT hX 74 rfl ?_;simp only [go_sem,simprocAttr,cF,CM]))|(show cH _ (.region 53 _ _) _ _;(refine bT hX 74 rfl ?_;simp only [go_sem,simprocAttr,cF,CM]))|(with_reducible (first|apply oC|apply oJ|exact oK|apply wA|apply wB|apply wC hX hC|apply wD hX hC|apply wE hX hC af|apply wF hX hC af|apply wG|apply wH|apply And.intro))|((with_reducible refine oD ?_ ?_);first|fail|kernel_rfl)|((with_reducible (first|apply oE|apply oF));(iterate 3 exact rfl);all_goals (intro h;first|(exact absurd h (by decide))|((try simp only [go_sem,simprocAttr,cF,CM] at h);(try with_reducible intro K hK);simp only [go_sem,simprocAttr,cF,CM])))|((first|((with_reducible apply wL);exact rfl)|((with_reducible apply wM);exact rfl));all_goals (try ((with_reducible intro h);first|(exact absurd h (by decide))|(try simp only [go_sem,simprocAttr,cF,CM] at h))))|omega|((first|fail);try simp only [go_sem,simprocAttr,cF,CM])|(intro h))
   refine ⟨n+1,by omega, ?_,by omega⟩
   refine Le.of ?_ ?_<;>simp [go_sem,simprocAttr,cF,CM]
  have cF:decide ((i:Int)<(RW.length:Int))=true:=decide_eq_true (by omega)
  have dQ:=vf (l:=RW) (i:=i) (by omega)
  have ff:=gG (l:=RW) (i:=i) (by omega)
  have hrm:=Et (i:=i)
  have sK:(RW.take (i+1)).drop s0=(RW.take i).drop s0++ [RW.getD i 0]:=by
   rw [dQ,List.drop_append_of_le_length (by omega)]
  have dK:(base++(RW.take i).drop s0).length≤4*RW.length+2*O.length+10:=by
   rw [List.length_append,List.length_drop,ff,hbase]
   have:=sj (c:=c) (o:=O) (k:=O.length)
   split<;>simp<;>omega
  have E7:base++(RW.take (i+1)).drop s0=(base++(RW.take i).drop s0)++ [RW.getD i 0]:=by rw [sK,List.append_assoc]
  generalize base++(RW.take i).drop s0=T1 at E7 dK
  rcases Nat.mod_two_eq_zero_or_one i with AJ|AJ
  ·rw [AJ] at hrm
   repeat' (first|fail|((first|((with_reducible (first|apply oA|apply oB));exact rfl;intro K hK)|(refine hK _ ?_;clear hK K)|((with_reducible (first|apply oG|apply oH));iterate 3 exact rfl)|((with_reducible apply oI);(iterate 2 exact rfl);intro K hK)|(with_reducible (first|apply wI|apply wJ|apply wK)));try simp only [go_sem,simprocAttr,cF,hrm])|(show cH _ (.region 16 _ _) _ _;(refine dZ hX 12 212 74 (by simp only [go_sem,simprocAttr,cF,hrm]) rfl (by first|exact .inl rfl|exact .inr rfl) (by decide) ?_;simp only [go_sem,simprocAttr,cF,hrm]))|(with_reducible (first|apply oC|apply oJ|exact oK|apply wA|apply wB|apply wC hX hC|apply wD hX hC|apply wE hX hC af|apply wF hX hC af|apply wG|apply wH|apply And.intro))|((with_reducible refine oD ?_ ?_);first|fail|kernel_rfl)|((with_reducible (first|apply oE|apply oF));(iterate 3 exact rfl);all_goals (intro h;first|(exact absurd h (by decide))|((try simp only [go_sem,simprocAttr,cF,hrm] at h);(try with_reducible intro K hK);simp only [go_sem,simprocAttr,cF,hrm])))|((first|((with_reducible apply wL);exact rfl)|((with_reducible apply wM);exact rfl));all_goals (try ((with_reducible intro h);first|(exact absurd h (by decide))|(try simp only [go_sem,simprocAttr,cF,hrm] at h))))|omega|((first|fail);try simp only [go_sem,simprocAttr,cF,hrm])|(intro h))
   refine ⟨(2,i+1),⟨by omega,by omega⟩, ?_,by show RW.length+2 - (i+1)<RW.length+2 - i;omega⟩
   dsimp only
   rw [E7]
   refine Le.of ?_ ?_<;>simp [go_sem,simprocAttr,cF,hrm,rI]
  ·rw [AJ] at hrm
   obtain ⟨e,e1,e2,e3⟩:=Da i (by omega) AJ
   have hh:decide ((g.es.getD e (0,0)).2=(x:Int))=false:=decide_eq_false (by rw [e3];omega)
   repeat' (first|fail|((first|((with_reducible (first|apply oA|apply oB));exact rfl;intro K hK)|(refine hK _ ?_;clear hK K)|((with_reducible (first|apply oG|apply oH));iterate 3 exact rfl)|((with_reducible apply oI);(iterate 2 exact rfl);intro K hK)|(with_reducible (first|apply wI|apply wJ|apply wK)));try simp only [go_sem,simprocAttr,cF,hrm,hn2,e1,hh])|(show cH _ (.region 16 _ _) _ _;(refine dZ hX 12 212 74 (by simp only [go_sem,simprocAttr,cF,hrm,hn2,e1,hh]) rfl (by first|exact .inl rfl|exact .inr rfl) (by decide) ?_;simp only [go_sem,simprocAttr,cF,hrm,hn2,e1,hh]))|(with_reducible (first|apply oC|apply oJ|exact oK|apply wA|apply wB|apply wC hX hC|apply wD hX hC|apply wE hX hC af|apply wF hX hC af|apply wG|apply wH|apply And.intro))|((with_reducible refine oD ?_ ?_);first|fail|kernel_rfl)|((with_reducible (first|apply oE|apply oF));(iterate 3 exact rfl);all_goals (intro h;first|(exact absurd h (by decide))|((try simp only [go_sem,simprocAttr,cF,hrm,hn2,e1,hh] at h);(try with_reducible intro K hK);simp only [go_sem,simprocAttr,cF,hrm,hn2,e1,hh])))|((first|((with_reducible apply wL);exact rfl)|((with_reducible apply wM);exact rfl));all_goals (try ((with_reducible intro h);first|(exact absurd h (by decide))|(try simp only [go_sem,simprocAttr,cF,hrm,hn2,e1,hh] at h))))|omega|((first|fail);try simp only [go_sem,simprocAttr,cF,hrm,hn2,e1,hh])|(intro h))
   refine ⟨(2,i+1),⟨by omega,by omega⟩, ?_,by show RW.length+2 - (i+1)<RW.length+2 - i;omega⟩
   dsimp only
   rw [E7,e1]
   refine Le.of ?_ ?_<;>simp [go_sem,simprocAttr,cF,hrm,hn2,e1,hh,rI]
end Go.Ab
end
section
namespace Go.Ab
open Go.Proofs
attribute [local congr] ACall.congr
set_option maxRecDepth 20000
set_option maxHeartbeats 16000000
def Qj (b:Bool) (g:Gr) (p:Pl):Bool:=decide ((yc b g p).2=0)
theorem vh (g:Gr) (p:Pl) (hB:oO g p=false) (b:Bool) (hr:b=true↔(cr g).1=0∧bF g p):
 Spec Tryz.prog 20 (Args [eG g,ePl p]) [] (.tup [b8 (yc b g p).1,eB (decide ((yc b g p).2=0))]) []:=by
 have xq:=rY g (by have:=(lP hB).1;omega)
 have kN:=tM g (by have:=(lP hB).1;omega) p (rW hB) b hr
 by_cases hK:((bK b g p).2.1=0∧kE g=true)∧0<g.es.length
 ·obtain ⟨⟨k1,k2⟩,k3⟩:=hK
  have hrun:=(oN hr k1).1
  rw [C7 hr hrun k2 k3]
  exact yj g p hB hrun k2 k3 b hr
 ·have hF:yc b g p=(gv,1):=if_neg hK
  rw [hF]
  cases hi:kE g with
  |false=>
   rw [hi] at xq
   (refine Spec.intro (C:=T.cfg [48,52,55,58] []) (rs:= [.c 4 37, .t 5]) (T.aq _ _) Tryz.func20 rfl rfl Tryz.ntmps20 Tryz.results20 (by simp [AObj.isNest]) (by simp [AObj.isNest]) (by kernel_rfl) ?_;intro X hX hP hC aN aO vals hA;refine ⟨_,by simp,hA, ?_⟩;have af:X.P.follows .mixedOrders=true:=(by rw [hP];exact T.mixed);clear aN aO)
   repeat' (first|fail|((first|((with_reducible (first|apply oA|apply oB));exact rfl;intro K hK)|(refine hK _ ?_;clear hK K)|((with_reducible (first|apply oG|apply oH));iterate 3 exact rfl)|((with_reducible apply oI);(iterate 2 exact rfl);intro K hK)|(with_reducible (first|apply wI|apply wJ|apply wK)));try simp only [go_sem,simprocAttr,b8,gv,List.map_nil])|fail|(with_reducible (first|apply oC|apply oJ|exact oK|apply wA|apply wB|apply wC hX hC|apply wD hX hC|apply wE hX hC af|apply wF hX hC af|apply wG|apply wH|apply And.intro))|((with_reducible refine oD ?_ ?_);first|fail|kernel_rfl)|((with_reducible (first|apply oE|apply oF));(iterate 3 exact rfl);all_goals (intro h;first|(exact absurd h (by decide))|((try simp only [go_sem,simprocAttr,b8,gv,List.map_nil] at h);(try with_reducible intro K hK);simp only [go_sem,simprocAttr,b8,gv,List.map_nil])))|((first|((with_reducible apply wL);exact rfl)|((with_reducible apply wM);exact rfl));all_goals (try ((with_reducible intro h);first|(exact absurd h (by decide))|(try simp only [go_sem,simprocAttr,b8,gv,List.map_nil] at h))))|omega|((first|first|refine aa hX hC hP (xq) rfl rfl rfl (by simp only [go_sem,simprocAttr,b8,gv,List.map_nil]) rfl ?_);try simp only [go_sem,simprocAttr,b8,gv,List.map_nil])|(intro h))
  |true=>
   rw [hi] at xq
   by_cases hk:(bK b g p).2.1=0
   ·rw [decide_eq_true hk] at kN
    have hb:decide ((g.es.length:Int)=0)=true:=decide_eq_true (by
     refine Decidable.byContradiction fun h1=>hK ⟨⟨hk,hi⟩,by omega⟩)
    (refine Spec.intro (C:=T.cfg [48,52,55,58] []) (rs:= [.c 4 37, .t 5]) (T.aq _ _) Tryz.func20 rfl rfl Tryz.ntmps20 Tryz.results20 (by simp [AObj.isNest]) (by simp [AObj.isNest]) (by kernel_rfl) ?_;intro X hX hP hC aN aO vals hA;refine ⟨_,by simp,hA, ?_⟩;have af:X.P.follows .mixedOrders=true:=(by rw [hP];exact T.mixed);clear aN aO)
    repeat' (first|fail|((first|((with_reducible (first|apply oA|apply oB));exact rfl;intro K hK)|(refine hK _ ?_;clear hK K)|((with_reducible (first|apply oG|apply oH));iterate 3 exact rfl)|((with_reducible apply oI);(iterate 2 exact rfl);intro K hK)|(with_reducible (first|apply wI|apply wJ|apply wK)));try simp only [go_sem,simprocAttr,hb,b8,gv,List.map_nil])|fail|(with_reducible (first|apply oC|apply oJ|exact oK|apply wA|apply wB|apply wC hX hC|apply wD hX hC|apply wE hX hC af|apply wF hX hC af|apply wG|apply wH|apply And.intro))|((with_reducible refine oD ?_ ?_);first|fail|kernel_rfl)|((with_reducible (first|apply oE|apply oF));(iterate 3 exact rfl);all_goals (intro h;first|(exact absurd h (by decide))|((try simp only [go_sem,simprocAttr,hb,b8,gv,List.map_nil] at h);(try with_reducible intro K hK);simp only [go_sem,simprocAttr,hb,b8,gv,List.map_nil])))|((first|((with_reducible apply wL);exact rfl)|((with_reducible apply wM);exact rfl));all_goals (try ((with_reducible intro h);first|(exact absurd h (by decide))|(try simp only [go_sem,simprocAttr,hb,b8,gv,List.map_nil] at h))))|omega|((first|first|refine aa hX hC hP (xq) rfl rfl rfl (by simp only [go_sem,simprocAttr,hb,b8,gv,List.map_nil]) rfl ?_|refine aa hX hC hP (kN) rfl rfl rfl (by simp only [go_sem,simprocAttr,hb,b8,gv,List.map_nil]) rfl ?_);try simp only [go_sem,simprocAttr,hb,b8,gv,List.map_nil])|(intro h))
   ·rw [decide_eq_false hk] at kN
    (refine Spec.intro (C:=T.cfg [48,52,55,58] []) (rs:= [.c 4 37, .t 5]) (T.aq _ _) Tryz.func20 rfl rfl Tryz.ntmps20 Tryz.results20 (by simp [AObj.isNest]) (by simp [AObj.isNest]) (by kernel_rfl) ?_;intro X hX hP hC aN aO vals hA;refine ⟨_,by simp,hA, ?_⟩;have af:X.P.follows .mixedOrders=true:=(by rw [hP];exact T.mixed);clear aN aO)
    repeat' (first|fail|((first|((with_reducible (first|apply oA|apply oB));exact rfl;intro K hK)|(refine hK _ ?_;clear hK K)|((with_reducible (first|apply oG|apply oH));iterate 3 exact rfl)|((with_reducible apply oI);(iterate 2 exact rfl);intro K hK)|(with_reducible (first|apply wI|apply wJ|apply wK)));try simp only [go_sem,simprocAttr,b8,gv,List.map_nil])|fail|(with_reducible (first|apply oC|apply oJ|exact oK|apply wA|apply wB|apply wC hX hC|apply wD hX hC|apply wE hX hC af|apply wF hX hC af|apply wG|apply wH|apply And.intro))|((with_reducible refine oD ?_ ?_);first|fail|kernel_rfl)|((with_reducible (first|apply oE|apply oF));(iterate 3 exact rfl);all_goals (intro h;first|(exact absurd h (by decide))|((try simp only [go_sem,simprocAttr,b8,gv,List.map_nil] at h);(try with_reducible intro K hK);simp only [go_sem,simprocAttr,b8,gv,List.map_nil])))|((first|((with_reducible apply wL);exact rfl)|((with_reducible apply wM);exact rfl));all_goals (try ((with_reducible intro h);first|(exact absurd h (by decide))|(try simp only [go_sem,simprocAttr,b8,gv,List.map_nil] at h))))|omega|((first|first|refine aa hX hC hP (xq) rfl rfl rfl (by simp only [go_sem,simprocAttr,b8,gv,List.map_nil]) rfl ?_|refine aa hX hC hP (kN) rfl rfl rfl (by simp only [go_sem,simprocAttr,b8,gv,List.map_nil]) rfl ?_);try simp only [go_sem,simprocAttr,b8,gv,List.map_nil])|(intro h))
theorem sN (f:Fc) (h1:f.L.length≤100000) (h2:f.R.length=f.L.length):Spec Tryz.prog 24 (Args [b8 f]) [] (eG ⟨f.lo.length,yg f f.L.length⟩) []:=by
 (refine Spec.intro (C:=T.cfg [] []) (rs:= [.c 2 24]) (T.aq _ _) Tryz.func24 rfl rfl Tryz.ntmps24 Tryz.results24 (by simp [AObj.isNest]) (by simp [AObj.isNest]) (by kernel_rfl) ?_;intro X hX hP hC aN aO vals hA;refine ⟨_,by simp,hA, ?_⟩;have af:X.P.follows .mixedOrders=true:=(by rw [hP];exact T.mixed);clear aN aO)
 repeat' (first|fail|((first|((with_reducible (first|apply oA|apply oB));exact rfl;intro K hK)|(refine hK _ ?_;clear hK K)|((with_reducible (first|apply oG|apply oH));iterate 3 exact rfl)|((with_reducible apply oI);(iterate 2 exact rfl);intro K hK)|(with_reducible (first|apply wI|apply wJ|apply wK)));try simp only [go_sem,simprocAttr,b8])|(show cH _ (.seq (.region 2 _ _) _) _ _;(refine qT hX 3 1 200 (.tip 58 2 []) rfl rfl rfl (by simp only [go_sem,simprocAttr,b8]) (by decide) (by simp [go_sem,simprocAttr,b8]) ⟨58,2,by decide, .inr rfl⟩ ?_;simp only [LA.app,ASt.put,ASt.kill,subT,rmk,putM,rml,kl,AV.sub,AV.subs,AObj.sub,List.set_cons_zero,List.set_cons_succ,go_sem,simprocAttr,b8]))|(with_reducible (first|apply oC|apply oJ|exact oK|apply wA|apply wB|apply wC hX hC|apply wD hX hC|apply wE hX hC af|apply wF hX hC af|apply wG|apply wH|apply And.intro))|((with_reducible refine oD ?_ ?_);first|fail|kernel_rfl)|((with_reducible (first|apply oE|apply oF));(iterate 3 exact rfl);all_goals (intro h;first|(exact absurd h (by decide))|((try simp only [go_sem,simprocAttr,b8] at h);(try with_reducible intro K hK);simp only [go_sem,simprocAttr,b8])))|((first|((with_reducible apply wL);exact rfl)|((with_reducible apply wM);exact rfl));all_goals (try ((with_reducible intro h);first|(exact absurd h (by decide))|(try simp only [go_sem,simprocAttr,b8] at h))))|omega|((first|fail);try simp only [go_sem,simprocAttr,b8])|(intro h))
 refine ak (fun k:Nat=>k≤f.L.length) (fun k=>⟨[(1, .ptr 1 0),(2, .ptr 2 0),(3, .ptr 3 0),(4,eN k)], [(1, .box [.d (sI f.L), .d (sI f.R), .d (sI f.lo), .d (sI f.hi)]),(2, .box [eN 0, .nil 58]),(3, .box [eN f.lo.length, .ref 200]),(200, .tip 58 2 ((yg f k).map rE))]⟩) (fun k=>f.L.length - k) 0 (by omega) ?_ ?_
 ·refine Le.of ?_ ?_<;>simp [go_sem,simprocAttr,b8,yg]
 rintro k hk
 rcases Nat.lt_or_ge k f.L.length with hlt|hge
 ·have hb:decide ((k:Int)<(f.L.length:Int))=true:=decide_eq_true (by omega)
  have dQ:=xg (f:=f) (k:=k)
  have sG:=zm (f:=f) (k:=k)
  generalize yg f k=G at dQ sG
  repeat' (first|fail|((first|((with_reducible (first|apply oA|apply oB));exact rfl;intro K hK)|(refine hK _ ?_;clear hK K)|((with_reducible (first|apply oG|apply oH));iterate 3 exact rfl)|((with_reducible apply oI);(iterate 2 exact rfl);intro K hK)|(with_reducible (first|apply wI|apply wJ|apply wK)));try simp only [go_sem,simprocAttr,hb,sG])|(show cH _ (.region 4 _ _) _ _;(refine gS hX 3 1 30 200 rfl rfl rfl (by first|exact .inl rfl|exact .inr rfl) (by decide) (by decide) ?_;simp only [LA.app,ASt.put,ASt.kill,subT,rmk,putM,rml,kl,AV.sub,AV.subs,AObj.sub,List.set_cons_zero,List.set_cons_succ,go_sem,simprocAttr,hb,sG]))|(with_reducible (first|apply oC|apply oJ|exact oK|apply wA|apply wB|apply wC hX hC|apply wD hX hC|apply wE hX hC af|apply wF hX hC af|apply wG|apply wH|apply And.intro))|((with_reducible refine oD ?_ ?_);first|fail|kernel_rfl)|((with_reducible (first|apply oE|apply oF));(iterate 3 exact rfl);all_goals (intro h;first|(exact absurd h (by decide))|((try simp only [go_sem,simprocAttr,hb,sG] at h);(try with_reducible intro K hK);simp only [go_sem,simprocAttr,hb,sG])))|((first|((with_reducible apply wL);exact rfl)|((with_reducible apply wM);exact rfl));all_goals (try ((with_reducible intro h);first|(exact absurd h (by decide))|(try simp only [go_sem,simprocAttr,hb,sG] at h))))|omega|((first|fail);try simp only [go_sem,simprocAttr,hb,sG])|(intro h))
  refine ⟨k+1,by omega, ?_,by omega⟩
  rw [dQ]
  refine Le.of ?_ ?_<;>simp [go_sem,simprocAttr,hb,sG,rE]
 ·have hb:decide ((k:Int)<(f.L.length:Int))=false:=decide_eq_false (by omega)
  obtain rfl:k=f.L.length:=by omega
  repeat' (first|fail|((first|((with_reducible (first|apply oA|apply oB));exact rfl;intro K hK)|(refine hK _ ?_;clear hK K)|((with_reducible (first|apply oG|apply oH));iterate 3 exact rfl)|((with_reducible apply oI);(iterate 2 exact rfl);intro K hK)|(with_reducible (first|apply wI|apply wJ|apply wK)));try simp only [go_sem,simprocAttr,hb])|fail|(with_reducible (first|apply oC|apply oJ|exact oK|apply wA|apply wB|apply wC hX hC|apply wD hX hC|apply wE hX hC af|apply wF hX hC af|apply wG|apply wH|apply And.intro))|((with_reducible refine oD ?_ ?_);first|fail|kernel_rfl)|((with_reducible (first|apply oE|apply oF));(iterate 3 exact rfl);all_goals (intro h;first|(exact absurd h (by decide))|((try simp only [go_sem,simprocAttr,hb] at h);(try with_reducible intro K hK);simp only [go_sem,simprocAttr,hb])))|((first|((with_reducible apply wL);exact rfl)|((with_reducible apply wM);exact rfl));all_goals (try ((with_reducible intro h);first|(exact absurd h (by decide))|(try simp only [go_sem,simprocAttr,hb] at h))))|omega|((first|fail);try simp only [go_sem,simprocAttr,hb])|(intro h))
theorem sr (g:Gr) (p:Pl) (hl:g.es.length≤9223372036854775807) (hp:CE p):Spec Tryz.prog 4 (Args [eG g,ePl p]) [] (eB true) []:=by
 have hG:=uW g p hl hp
 (refine Spec.intro (C:=T.cfg [] []) (rs:= [.t 4]) (T.aq _ _) Tryz.func4 rfl rfl Tryz.ntmps4 Tryz.results4 (by simp [AObj.isNest]) (by simp [AObj.isNest]) (by kernel_rfl) ?_;intro X hX hP hC aN aO vals hA;refine ⟨_,by simp,hA, ?_⟩;have af:X.P.follows .mixedOrders=true:=(by rw [hP];exact T.mixed);clear aN aO)
 cases hB:oO g p with
 |true=>
  rw [hB] at hG
  repeat' (first|fail|((first|((with_reducible (first|apply oA|apply oB));exact rfl;intro K hK)|(refine hK _ ?_;clear hK K)|((with_reducible (first|apply oG|apply oH));iterate 3 exact rfl)|((with_reducible apply oI);(iterate 2 exact rfl);intro K hK)|(with_reducible (first|apply wI|apply wJ|apply wK)));try simp only [go_sem,simprocAttr])|fail|(with_reducible (first|apply oC|apply oJ|exact oK|apply wA|apply wB|apply wC hX hC|apply wD hX hC|apply wE hX hC af|apply wF hX hC af|apply wG|apply wH|apply And.intro))|((with_reducible refine oD ?_ ?_);first|fail|kernel_rfl)|((with_reducible (first|apply oE|apply oF));(iterate 3 exact rfl);all_goals (intro h;first|(exact absurd h (by decide))|((try simp only [go_sem,simprocAttr] at h);(try with_reducible intro K hK);simp only [go_sem,simprocAttr])))|((first|((with_reducible apply wL);exact rfl)|((with_reducible apply wM);exact rfl));all_goals (try ((with_reducible intro h);first|(exact absurd h (by decide))|(try simp only [go_sem,simprocAttr] at h))))|omega|((first|first|refine aa hX hC hP (jm) rfl rfl rfl (by simp only [go_sem,simprocAttr]) rfl ?_|refine aa hX hC hP (hG) rfl rfl rfl (by simp only [go_sem,simprocAttr]) rfl ?_);try simp only [go_sem,simprocAttr])|(intro h))
 |false=>
 rw [hB] at hG
 obtain ⟨b,hr⟩:=OP g p
 have hD:=pN g (by have:=(lP hB).1;omega) p (rW hB) b hr
 have JH:=vh g p hB b hr
 by_cases hK:((bK b g p).2.1=0∧kE g=true)∧0<g.es.length
 rotate_left
 ·have hF:yc b g p=(gv,1):=if_neg hK
  rw [hF] at hD JH
  repeat' (first|fail|((first|((with_reducible (first|apply oA|apply oB));exact rfl;intro K hK)|(refine hK _ ?_;clear hK K)|((with_reducible (first|apply oG|apply oH));iterate 3 exact rfl)|((with_reducible apply oI);(iterate 2 exact rfl);intro K hK)|(with_reducible (first|apply wI|apply wJ|apply wK)));try simp only [go_sem,simprocAttr,b8,gv,List.map_nil,decide_true,decide_false])|fail|(with_reducible (first|apply oC|apply oJ|exact oK|apply wA|apply wB|apply wC hX hC|apply wD hX hC|apply wE hX hC af|apply wF hX hC af|apply wG|apply wH|apply And.intro))|((with_reducible refine oD ?_ ?_);first|fail|kernel_rfl)|((with_reducible (first|apply oE|apply oF));(iterate 3 exact rfl);all_goals (intro h;first|(exact absurd h (by decide))|((try simp only [go_sem,simprocAttr,b8,gv,List.map_nil,decide_true,decide_false] at h);(try with_reducible intro K hK);simp only [go_sem,simprocAttr,b8,gv,List.map_nil,decide_true,decide_false])))|((first|((with_reducible apply wL);exact rfl)|((with_reducible apply wM);exact rfl));all_goals (try ((with_reducible intro h);first|(exact absurd h (by decide))|(try simp only [go_sem,simprocAttr,b8,gv,List.map_nil,decide_true,decide_false] at h))))|omega|((first|first|refine aa hX hC hP (jm) rfl rfl rfl (by simp only [go_sem,simprocAttr,b8,gv,List.map_nil,decide_true,decide_false]) rfl ?_|refine aa hX hC hP (hG) rfl rfl rfl (by simp only [go_sem,simprocAttr,b8,gv,List.map_nil,decide_true,decide_false]) rfl ?_|refine aa hX hC hP (hD) rfl rfl rfl (by simp only [go_sem,simprocAttr,b8,gv,List.map_nil,decide_true,decide_false]) rfl ?_|refine aa hX hC hP (JH) rfl rfl rfl (by simp only [go_sem,simprocAttr,b8,gv,List.map_nil,decide_true,decide_false]) rfl ?_);try simp only [go_sem,simprocAttr,b8,gv,List.map_nil,decide_true,decide_false])|(intro h))
 obtain ⟨⟨k1,k2⟩,k3⟩:=hK
 have hrun:=(oN hr k1).1
 rw [C7 hr hrun k2 k3] at hD JH
 have EL:=(lP hB).1
 have Nl:=xh ⟨arr (Lf g p) g.es.length,arr (Rf g p) g.es.length,w8 g p,ye g p⟩ (by simp only [cq];omega) (by simp only [cq])
 have Nm:=sN ⟨arr (Lf g p) g.es.length,arr (Rf g p) g.es.length,w8 g p,ye g p⟩ (by simp only [cq];omega) (by simp only [cq])
 have Nn:=dP (arr (Lf g p) g.es.length) (arr (Lf g p) g.es.length) (by rw [cq];omega)
 have No:=dP (arr (Rf g p) g.es.length) (arr (Rf g p) g.es.length) (by rw [cq];omega)
 have hbd:=CY hrun (Nat.le_refl g.n.toNat)
 have hmn:=aZ (aE hrun.1)
 have hmul:g.n.toNat*g.es.length≤64*128:=Nat.mul_le_mul (by omega) (by omega)
 have Np:=dP (w8 g p) (w8 g p) (by rw [zj];unfold cN;omega)
 have Nq:=dP (ye g p) (ye g p) (by rw [Eo];unfold cN;omega)
 rw [decide_eq_true rfl] at Nn No Np Nq
 simp only [Es] at Nl Nm
 have MA:=Ap (FY g p) (FY g p) (by rw [Ep];omega)
 rw [decide_eq_true rfl,decide_eq_true rfl] at MA
 simp only [Bool.and_self] at MA
 generalize arr (Lf g p) g.es.length=LA at*
 generalize arr (Rf g p) g.es.length=RA at*
 generalize w8 g p=lo at*
 generalize ye g p=hi at*
 generalize FY g p=G2 at*
 simp only [decide_true] at hD JH
 repeat' (first|fail|((first|((with_reducible (first|apply oA|apply oB));exact rfl;intro K hK)|(refine hK _ ?_;clear hK K)|((with_reducible (first|apply oG|apply oH));iterate 3 exact rfl)|((with_reducible apply oI);(iterate 2 exact rfl);intro K hK)|(with_reducible (first|apply wI|apply wJ|apply wK)));try simp only [go_sem,simprocAttr,b8,decide_true,decide_false])|fail|(with_reducible (first|apply oC|apply oJ|exact oK|apply wA|apply wB|apply wC hX hC|apply wD hX hC|apply wE hX hC af|apply wF hX hC af|apply wG|apply wH|apply And.intro))|((with_reducible refine oD ?_ ?_);first|fail|kernel_rfl)|((with_reducible (first|apply oE|apply oF));(iterate 3 exact rfl);all_goals (intro h;first|(exact absurd h (by decide))|((try simp only [go_sem,simprocAttr,b8,decide_true,decide_false] at h);(try with_reducible intro K hK);simp only [go_sem,simprocAttr,b8,decide_true,decide_false])))|((first|((with_reducible apply wL);exact rfl)|((with_reducible apply wM);exact rfl));all_goals (try ((with_reducible intro h);first|(exact absurd h (by decide))|(try simp only [go_sem,simprocAttr,b8,decide_true,decide_false] at h))))|omega|((first|first|refine aa hX hC hP (jm) rfl rfl rfl (by simp only [go_sem,simprocAttr,b8,decide_true,decide_false]) rfl ?_|refine aa hX hC hP (hG) rfl rfl rfl (by simp only [go_sem,simprocAttr,b8,decide_true,decide_false]) rfl ?_|refine aa hX hC hP (hD) rfl rfl rfl (by simp only [go_sem,simprocAttr,b8,decide_true,decide_false]) rfl ?_|refine aa hX hC hP (JH) rfl rfl rfl (by simp only [go_sem,simprocAttr,b8,decide_true,decide_false]) rfl ?_|refine aa hX hC hP (Nn) rfl rfl rfl (by simp only [go_sem,simprocAttr,b8,decide_true,decide_false]) rfl ?_|refine aa hX hC hP (No) rfl rfl rfl (by simp only [go_sem,simprocAttr,b8,decide_true,decide_false]) rfl ?_|refine aa hX hC hP (Np) rfl rfl rfl (by simp only [go_sem,simprocAttr,b8,decide_true,decide_false]) rfl ?_|refine aa hX hC hP (Nq) rfl rfl rfl (by simp only [go_sem,simprocAttr,b8,decide_true,decide_false]) rfl ?_|refine aa hX hC hP (Nl) rfl rfl rfl (by simp only [go_sem,simprocAttr,b8,decide_true,decide_false]) rfl ?_|refine aa hX hC hP (Nm) rfl rfl rfl (by simp only [go_sem,simprocAttr,b8,decide_true,decide_false]) rfl ?_|refine aa hX hC hP (MA) rfl rfl rfl (by simp only [go_sem,simprocAttr,b8,decide_true,decide_false]) rfl ?_);try simp only [go_sem,simprocAttr,b8,decide_true,decide_false])|(intro h))
end Go.Ab
end
