/- A part of the proof. -/
import Derived.Test.YtameldglfobjkaaL1P15
set_option linter.unusedSimpArgs false
set_option linter.unusedVariables false
section
namespace Go.Ab
open Go.Proofs
set_option maxRecDepth 10000
variable {g:Gr} {p:Pl}
theorem lU (h:bE g p) {k:Nat} :∀ {K:Nat},K≤g.n.toNat→k<g.n.toNat→(bQ g p K).filter (fun e=>decide (e.2=bz p k))=if k<K then (loose (bL g p k)).map fun v=>(v,bz p k) else []
 |0,_,_=>by simp [bQ]
 |K+1,hK,hk=>by
  rw [bQ,List.filter_append,lU h (by omega) hk]
  by_cases e:k=K
  ·subst e
   rw [if_neg (by omega),if_pos (by omega),List.nil_append,List.filter_eq_self.2]
   intro e he
   obtain ⟨v,_,rfl⟩:=List.mem_map.1 he
   simp
  ·have:((loose (bL g p K)).map fun v=>(v,bz p K)).filter (fun e=>decide (e.2=bz p k))= []:=List.filter_eq_nil_iff.2 fun e' he=>by
    obtain ⟨v,_,rfl⟩:=List.mem_map.1 he
    simp only [decide_eq_true_eq]
    intro h2
    exact e (jl h hk (by omega) h2.symm)
   rw [this,List.append_nil]
   by_cases h3:k<K
   ·rw [if_pos h3,if_pos (by omega)]
   ·rw [if_neg h3,if_neg (by omega)]
theorem lV (hr:cJ g p) {k:Nat} (hk:k<g.n.toNat):((aD g p).filter fun e=>decide (e.2=bz p k)).length=(loose (bL g p k)).length:=by
 have hx:=b9 hr.2.1 hk
 rw [aD,List.filter_append,lU hr.2.1 (Nat.le_refl _) hk,if_pos hk]
 have:(newL g p).filter (fun e=>decide (e.2=bz p k))= []:=List.filter_eq_nil_iff.2 fun e' he=>by
  unfold newL at he
  split at he
  ·obtain ⟨v,_,rfl⟩:=List.mem_map.1 he
   simp only [decide_eq_true_eq];omega
  ·cases he
 rw [this];simp
theorem oa {l:List Int} (h:l.Nodup) {k:Nat} (hk:k<l.length):l.getD k 0∉l.take k:=by
 intro hm
 obtain ⟨j,hj,e⟩:=List.mem_iff_getElem.1 hm
 simp only [List.length_take] at hj
 have e2:l.getD j 0=l.getD k 0:=by
  rw [← e,List.getD_eq_getElem?_getD,List.getElem?_eq_getElem (by omega)]
  simp
 have:=hM h (by omega) hk e2
 omega
theorem zK {p:Pl} {k:Nat} {v:Int} (hk:k≤p.ord.length) (h:v∈p.ord.take k):∃j,j<k∧bz p j=v:=by
 obtain ⟨j,hj,e⟩:=List.mem_iff_getElem.1 h
 simp only [List.length_take] at hj
 refine ⟨j,by omega, ?_⟩
 rw [← e,bz,List.getD_eq_getElem?_getD,List.getElem?_eq_getElem (by omega)]
 simp
theorem lW {x:Int} {X:List It} (h:∀t∈X,(t.1<0↔¬t.2.2=x)):X.countP (jj x)+(loose X).length=X.length:=by
 rw [List.length_eq_countP_add_countP (jj x)]
 congr 1
 unfold loose
 rw [List.length_map, ← List.countP_eq_length_filter]
 refine List.countP_congr fun t ht=> ?_
 have:=h t ht
 simp only [jj,decide_eq_true_eq,Bool.not_eq_true,decide_eq_false_iff_not]
 exact this
theorem DH (h:kL g p):∀ {k:Nat},k≤g.n.toNat→(∀j,j<k→oZ (aA g p) (bg g p) j=true)∧(fK (aA g p) (bg g p) k).row=(fK g p k).row.map (fe g.es.length (aD g p))
 |0,_=>⟨fun j hj=>by omega,rfl⟩
 |k+1,hk=>by
  have hr:=h.run
  have gj:=hr.2.1
  have hm:=aW hr.1
  have rR:=kM h
  have hQ:=gK hr
  obtain ⟨kR,ug⟩:=dP hr
  have GI:=fM (g:=g) (p:=p)
  obtain ⟨BD,hrow⟩:=DH h (k:=k) (by omega)
  obtain ⟨hi,_,_⟩:=bS hm gj (k:=k) (by omega) fun j hj=>hr.2.2 j (by omega)
  obtain ⟨zL,tf,_⟩:=bS rR hQ (k:=k) (by omega) BD
  have hR:bn g (fK g p k) (bz p k)=true:=hr.2.2 k (by omega)
  have gL:=qm hr (k:=k) (by omega)
  have hx:=b9 gj (k:=k) (by omega)
  obtain ⟨uW,Bu⟩:=gH hm gj (k:=k) (by omega) fun j hj=>hr.2.2 j (by omega)
  have hlr:(loose (fK g p k).row).Nodup:=(List.nodup_append.1 uW).2.1
  have hnot:bz p k∉(fK (aA g p) (bg g p) k).pl:=by
   rw [tf, ← gL]
   exact oa (ic hQ) (by rw [bB hQ];omega)
  have tg:=lV hr (k:=k) (by omega)
  have eD:=kP (g:=g) (p:=p) (x:=bz p k)
  have Bc:=o7 hr hx
  have hin:∀v,(v,bz p k)∈aD g p→v∈loose (bL g p k):=fun v hv=>by
   rcases n0 hv with ⟨i,h1,h2,h3⟩|⟨_,h2,_⟩
   ·have:=jl gj (by omega) h1 h2
    subst this;exact h3
   ·omega
  have hout:∀v,v∈loose (bL g p k)→(v,bz p k)∈aD g p:=fun v hv=>List.mem_append_left _ (nZ (by omega) hv)
  suffices hs:oZ (aA g p) (bg g p) k=true∧(fK (aA g p) (bg g p) (k+1)).row=(fK g p (k+1)).row.map (fe g.es.length (aD g p)) by
   refine ⟨fun j hj=> ?_,hs.2⟩
   by_cases e:j=k
   ·subst e;exact hs.1
   ·exact BD j (by omega)
  have Ij:(fK (aA g p) (bg g p) (k+1))=(bF (aA g p) (fK (aA g p) (bg g p) k) (bz p k) (eL (bg g p) (bz p k))).2:=by
   rw [← gL];rfl
  have hfg:(fK g p (k+1))=(bF g (fK g p k) (bz p k) (eL p (bz p k))).2:=rfl
  have hok:oZ (aA g p) (bg g p) k=bn (aA g p) (fK (aA g p) (bg g p) k) (bz p k):=by unfold oZ;rw [gL]
  rw [Ij,hfg,hok]
  have vE:bL g p k=(bF g (fK g p k) (bz p k) (eL p (bz p k))).1.1:=rfl
  generalize bz p k=x at*
  by_cases hn:bJ g x=0
  ·have hno:=dm hm hi.toiV hx.1 hn
   rw [dG _ hno] at vE
   have zM:bJ (aA g p) x=0:=by rw [eD,hn,tg,vE];rfl
   have Bd:=dm rR zL.toiV hx.1 zM
   refine ⟨?_, ?_⟩
   ·unfold bn
    rw [if_neg (by rintro (h|h|h);omega;omega;exact hnot h),if_pos zM]
   ·rw [dG _ hno,dG _ Bd]
    simp only [List.map_append]
    rw [Bc,hrow]
  ·obtain ⟨A,X,C,hrw,nA,nC,hX,cX⟩:=cD hm hi.toiV hR hn
   rw [fc _ hrw nA nC hX] at vE
   simp only at vE
   rw [vE] at hin hout tg
   have F5:∀t∈X,t∈(fK g p k).row:=fun t ht=>by rw [hrw];simp [ht]
   have Ik:∀t∈A,t∈(fK g p k).row:=fun t ht=>by rw [hrw];simp [ht]
   have Il:∀t∈C,t∈(fK g p k).row:=fun t ht=>by rw [hrw];simp [ht]
   have hit:∀t∈X,(t.1<0↔¬t.2.2=x):=fun t ht=>by
    have h1:=(hi.it t (F5 t ht)).head hm
    have h2:=hX.al t ht
    omega
   rw [hrw,cy,cy,List.nodup_append,List.nodup_append] at hlr
   have DI:jt x (A.map (fe g.es.length (aD g p))):=fun t' ht'=>by
    obtain ⟨t,ht,rfl⟩:=List.mem_map.1 ht'
    by_cases h0:0≤t.1
    ·rw [eC h0];exact nA t ht
    ·rcases gI (m:=g.es.length) kR t.2.1 with ⟨h1,_⟩|⟨y,h1⟩
     ·rw [gJ h1];exact nA t ht
     ·obtain ⟨j,_,h2,_⟩:=fY (m:=g.es.length) kR h1
      rw [cZ (by omega) h2]
      intro e
      have e:y=x:=e
      subst e
      exact hlr.1.2.2 _ (eo ht (by omega)) _ (hin _ h1) rfl
   have DJ:jt x (C.map (fe g.es.length (aD g p))):=fun t' ht'=>by
    obtain ⟨t,ht,rfl⟩:=List.mem_map.1 ht'
    by_cases h0:0≤t.1
    ·rw [eC h0];exact nC t ht
    ·rcases gI (m:=g.es.length) kR t.2.1 with ⟨h1,_⟩|⟨y,h1⟩
     ·rw [gJ h1];exact nC t ht
     ·obtain ⟨j,_,h2,_⟩:=fY (m:=g.es.length) kR h1
      rw [cZ (by omega) h2]
      intro e
      have e:y=x:=e
      subst e
      exact hlr.2.2 _ (List.mem_append_right _ (hin _ h1)) _ (eo ht (by omega)) rfl
   have um:∀t∈X,(fe g.es.length (aD g p) t).2.2=x:=fun t ht=>by
    by_cases h0:0≤t.1
    ·rw [eC h0]
     have:=hit t ht
     omega
    ·obtain ⟨j,_,h2,_⟩:=fY (m:=g.es.length) kR (hout _ (eo ht (by omega)))
     rw [cZ (by omega) h2]
   have s8:x8 x (X.map (fe g.es.length (aD g p))):=by
    obtain ⟨q,X0,e1,_⟩:=hX.fst
    obtain ⟨X1,q',e2,_⟩:=hX.FJ
    refine ⟨⟨fe g.es.length (aD g p) q,X0.map (fe g.es.length (aD g p)),by rw [e1];rfl,um q (by rw [e1];simp)⟩,⟨X1.map (fe g.es.length (aD g p)),fe g.es.length (aD g p) q',by rw [e2];simp,um q' (by rw [e2];simp)⟩,fun t' ht'=> ?_⟩
    obtain ⟨t,ht,rfl⟩:=List.mem_map.1 ht'
    exact .inl (um t ht)
   have pW:(X.map (fe g.es.length (aD g p))).countP (jj x)=bJ (aA g p) x:=by
    have h1:(X.map (fe g.es.length (aD g p))).countP (jj x)=(X.map (fe g.es.length (aD g p))).length:=List.countP_eq_length.2 fun t' ht'=>by
     obtain ⟨t,ht,rfl⟩:=List.mem_map.1 ht'
     simp [jj,um t ht]
    rw [h1,List.length_map,eD,tg, ← cX,lW hit]
   have Be:(fK (aA g p) (bg g p) k).row=A.map (fe g.es.length (aD g p))++X.map (fe g.es.length (aD g p))++C.map (fe g.es.length (aD g p)):=by rw [hrow,hrw];simp
   refine ⟨nP rR zL.toiV hx.1 (by omega) hnot Be DI DJ s8 pW, ?_⟩
   rw [fc _ hrw nA nC hX,fc _ Be DI DJ s8]
   simp only [List.map_append]
   rw [Bc]
end Go.Ab
end
section
namespace Go.Ab
open Go.Proofs
set_option maxRecDepth 10000
variable {g:Gr} {p:Pl}
theorem yq (h:kL g p) {k:Nat} (hk:k<g.n.toNat):bL (aA g p) (bg g p) k=(bL g p k).map (fe g.es.length (aD g p)):=by
 have hr:=h.run
 have gj:=hr.2.1
 have hm:=aW hr.1
 have rR:=kM h
 have hQ:=gK hr
 obtain ⟨kR,ug⟩:=dP hr
 have GI:=fM (g:=g) (p:=p)
 obtain ⟨BD,hrow⟩:=DH h (k:=k) (by omega)
 obtain ⟨hi,_,_⟩:=bS hm gj (k:=k) (by omega) fun j hj=>hr.2.2 j (by omega)
 obtain ⟨zL,tf,_⟩:=bS rR hQ (k:=k) (by omega) BD
 have hR:bn g (fK g p k) (bz p k)=true:=hr.2.2 k (by omega)
 have gL:=qm hr (k:=k) (by omega)
 have hx:=b9 gj (k:=k) (by omega)
 obtain ⟨uW,Bu⟩:=gH hm gj (k:=k) (by omega) fun j hj=>hr.2.2 j (by omega)
 have hlr:(loose (fK g p k).row).Nodup:=(List.nodup_append.1 uW).2.1
 have hnot:bz p k∉(fK (aA g p) (bg g p) k).pl:=by
  rw [tf, ← gL]
  exact oa (ic hQ) (by rw [bB hQ];omega)
 have tg:=lV hr (k:=k) (by omega)
 have eD:=kP (g:=g) (p:=p) (x:=bz p k)
 have Bc:=o7 hr hx
 have hin:∀v,(v,bz p k)∈aD g p→v∈loose (bL g p k):=fun v hv=>by
  rcases n0 hv with ⟨i,h1,h2,h3⟩|⟨_,h2,_⟩
  ·have:=jl gj (by omega) h1 h2
   subst this;exact h3
  ·omega
 have hout:∀v,v∈loose (bL g p k)→(v,bz p k)∈aD g p:=fun v hv=>List.mem_append_left _ (nZ (by omega) hv)
 have vE:bL g p k=(bF g (fK g p k) (bz p k) (eL p (bz p k))).1.1:=rfl
 have Im:bL (aA g p) (bg g p) k=(bF (aA g p) (fK (aA g p) (bg g p) k) (bz p k) (eL (bg g p) (bz p k))).1.1:=by
  rw [← gL];rfl
 rw [Im]
 generalize bz p k=x at*
 by_cases hn:bJ g x=0
 ·have hno:=dm hm hi.toiV hx.1 hn
  rw [dG _ hno] at vE
  have zM:bJ (aA g p) x=0:=by rw [eD,hn,tg,vE];rfl
  have Bd:=dm rR zL.toiV hx.1 zM
  rw [dG _ Bd,vE]
  rfl
 ·obtain ⟨A,X,C,hrw,nA,nC,hX,cX⟩:=cD hm hi.toiV hR hn
  rw [fc _ hrw nA nC hX] at vE
  simp only at vE
  rw [vE] at hin hout tg
  have F5:∀t∈X,t∈(fK g p k).row:=fun t ht=>by rw [hrw];simp [ht]
  have Ik:∀t∈A,t∈(fK g p k).row:=fun t ht=>by rw [hrw];simp [ht]
  have Il:∀t∈C,t∈(fK g p k).row:=fun t ht=>by rw [hrw];simp [ht]
  have hit:∀t∈X,(t.1<0↔¬t.2.2=x):=fun t ht=>by
   have h1:=(hi.it t (F5 t ht)).head hm
   have h2:=hX.al t ht
   omega
  rw [hrw,cy,cy,List.nodup_append,List.nodup_append] at hlr
  have DI:jt x (A.map (fe g.es.length (aD g p))):=fun t' ht'=>by
   obtain ⟨t,ht,rfl⟩:=List.mem_map.1 ht'
   by_cases h0:0≤t.1
   ·rw [eC h0];exact nA t ht
   ·rcases gI (m:=g.es.length) kR t.2.1 with ⟨h1,_⟩|⟨y,h1⟩
    ·rw [gJ h1];exact nA t ht
    ·obtain ⟨j,_,h2,_⟩:=fY (m:=g.es.length) kR h1
     rw [cZ (by omega) h2]
     intro e
     have e:y=x:=e
     subst e
     exact hlr.1.2.2 _ (eo ht (by omega)) _ (hin _ h1) rfl
  have DJ:jt x (C.map (fe g.es.length (aD g p))):=fun t' ht'=>by
   obtain ⟨t,ht,rfl⟩:=List.mem_map.1 ht'
   by_cases h0:0≤t.1
   ·rw [eC h0];exact nC t ht
   ·rcases gI (m:=g.es.length) kR t.2.1 with ⟨h1,_⟩|⟨y,h1⟩
    ·rw [gJ h1];exact nC t ht
    ·obtain ⟨j,_,h2,_⟩:=fY (m:=g.es.length) kR h1
     rw [cZ (by omega) h2]
     intro e
     have e:y=x:=e
     subst e
     exact hlr.2.2 _ (List.mem_append_right _ (hin _ h1)) _ (eo ht (by omega)) rfl
  have um:∀t∈X,(fe g.es.length (aD g p) t).2.2=x:=fun t ht=>by
   by_cases h0:0≤t.1
   ·rw [eC h0]
    have:=hit t ht
    omega
   ·obtain ⟨j,_,h2,_⟩:=fY (m:=g.es.length) kR (hout _ (eo ht (by omega)))
    rw [cZ (by omega) h2]
  have s8:x8 x (X.map (fe g.es.length (aD g p))):=by
   obtain ⟨q,X0,e1,_⟩:=hX.fst
   obtain ⟨X1,q',e2,_⟩:=hX.FJ
   refine ⟨⟨fe g.es.length (aD g p) q,X0.map (fe g.es.length (aD g p)),by rw [e1];rfl,um q (by rw [e1];simp)⟩,⟨X1.map (fe g.es.length (aD g p)),fe g.es.length (aD g p) q',by rw [e2];simp,um q' (by rw [e2];simp)⟩,fun t' ht'=> ?_⟩
   obtain ⟨t,ht,rfl⟩:=List.mem_map.1 ht'
   exact .inl (um t ht)
  have pW:(X.map (fe g.es.length (aD g p))).countP (jj x)=bJ (aA g p) x:=by
   have h1:(X.map (fe g.es.length (aD g p))).countP (jj x)=(X.map (fe g.es.length (aD g p))).length:=List.countP_eq_length.2 fun t' ht'=>by
    obtain ⟨t,ht,rfl⟩:=List.mem_map.1 ht'
    simp [jj,um t ht]
   rw [h1,List.length_map,eD,tg, ← cX,lW hit]
  have Be:(fK (aA g p) (bg g p) k).row=A.map (fe g.es.length (aD g p))++X.map (fe g.es.length (aD g p))++C.map (fe g.es.length (aD g p)):=by rw [hrow,hrw];simp
  rw [fc _ Be DI DJ s8,vE]
def ja (g:Gr) (p:Pl) (v:Nat):List Int:=(p.outs.getD v []).map (fun i=>2*i)++(((c8 g p g.n.toNat).getD v []).reverse.filter fun t=> !decide (t.1= -1)).map fun t=>2*t.1+1
def bR (g:Gr) (p:Pl):List (List Int):=(List.range p.outs.length).map (ja g p)
theorem uo (hr:cJ g p) {k:Nat} (hk:k<g.n.toNat):∀t∈bL g p k,vl g t:=by
 have gj:=hr.2.1
 have hm:=aW hr.1
 obtain ⟨hi,_,_⟩:=bS hm gj (k:=k) (by omega) fun j hj=>hr.2.2 j (by omega)
 have hR:bn g (fK g p k) (bz p k)=true:=hr.2.2 k (by omega)
 have hx:=b9 gj (k:=k) (by omega)
 unfold bL
 by_cases hn:bJ g (bz p k)=0
 ·rw [dG _ (dm hm hi.toiV hx.1 hn)]
  intro t ht;cases ht
 ·obtain ⟨A,X,C,hrw,nA,nC,hX,cX⟩:=cD hm hi.toiV hR hn
  rw [fc _ hrw nA nC hX]
  intro t ht
  exact hi.it t (by rw [hrw];simp [show t∈X from ht])
theorem yu {v:Int} :∀ {m:Nat} {N:List Edge} {i h:Int},tc m N v=some (i,h)→(m:Int)≤i
 |m, [],i,h,e=>by cases e
 |m,e'::N,i,h,e=>by
  rw [tc] at e
  split at e
  ·cases e;omega
  ·have:=yu e;omega
theorem uq {m:Nat} {f:It→It} :∀ {L:List It},(∀t∈L,(0≤t.1∧t.1<m∧f t=t)∨(t.1= -1∧((f t).1= -1∨(m:Int)≤(f t).1)))→
 (((L.map f).filter fun t=> !decide (t.1= -1)).map fun t=>2*t.1+1).filter (fun k=>decide (k<2*(m:Int)))=(L.filter fun t=> !decide (t.1= -1)).map fun t=>2*t.1+1
 | [],_=>rfl
 |t::L,h=>by
  have ih:=uq (L:=L) fun t ht=>h t (by simp [ht])
  rcases h t (by simp) with ⟨h0,h1,h2⟩|⟨h0,h1|h1⟩
  ·rw [List.map_cons,List.filter_cons,h2,if_pos (by simp;omega),List.map_cons,List.filter_cons,if_pos (by simp;omega),ih,List.filter_cons,if_pos (by simp;omega),List.map_cons]
  ·rw [List.map_cons,List.filter_cons,if_neg (by simp;omega),ih,List.filter_cons,if_neg (by simp;omega)]
  ·rw [List.map_cons,List.filter_cons,if_pos (by simp;omega),List.map_cons,List.filter_cons,if_neg (by simp;omega),ih,List.filter_cons,if_neg (by simp;omega)]
theorem yw (h:kL g p) {v:Nat} (hv:v<g.n.toNat):(ja (aA g p) (bg g p) v).filter (fun k=>decide (k<2*(g.es.length:Int)))=ja g p v:=by
 have hr:=h.run
 have gj:=hr.2.1
 have hm:=aW hr.1
 have hn:=fM (g:=g) (p:=p)
 have hpa:=gK hr
 obtain ⟨k,hk,ek⟩:=qf gj (x:=(v:Int)) (by omega) (by omega)
 have e1:=kH gj (k:=g.n.toNat) (Nat.le_refl _) hk
 have e2:=kH hpa (k:=(aA g p).n.toNat) (Nat.le_refl _) (i:=k) (by omega)
 rw [ek,Int.toNat_natCast] at e1
 rw [qm hr hk,ek,Int.toNat_natCast,yq h hk] at e2
 have ho:=qk hr (v:=(v:Int)) ⟨by omega,by omega⟩
 unfold eL at ho
 rw [Int.toNat_natCast] at ho
 have hg:∀t∈bL g p k,(0≤t.1∧t.1<g.es.length∧fe g.es.length (aD g p) t=t)∨(t.1= -1∧((fe g.es.length (aD g p) t).1= -1∨(g.es.length:Int)≤(fe g.es.length (aD g p) t).1)):=fun t ht=>by
  rcases uo hr hk t ht with ⟨h0,_⟩|⟨h0,h1,_⟩
  ·refine .inr ⟨h0, ?_⟩
   cases hx:tc g.es.length (aD g p) t.2.1 with
   |none=>rw [gJ hx];exact .inl h0
   |some q=>
    obtain ⟨i,x⟩:=q
    rw [cZ (by omega) hx]
    exact .inr (yu hx)
  ·exact .inl ⟨h0,h1,eC h0⟩
 unfold ja
 rw [e1,e2,ho,List.filter_append]
 congr 1
 ·have hl:=c9 gj (x:=(v:Int)) (by omega) (by omega)
  unfold eL at hl
  rw [Int.toNat_natCast] at hl
  split
  ·rw [List.filter_eq_self.2]
   intro i hi
   obtain ⟨j,hj,rfl⟩:=List.mem_map.1 hi
   have:=(dD (hl.mem_iff.1 hj)).1
   simp only [decide_eq_true_eq];omega
  ·rename_i hne
   rw [Decidable.not_not] at hne
   have hz:cn g (v:Int)= []:=(iZ gj (by omega) (by omega)).2 (by unfold eL;rw [Int.toNat_natCast];exact hne)
   rw [hne,List.map_nil,List.filter_eq_nil_iff]
   intro i hi
   obtain ⟨j,hj,rfl⟩:=List.mem_map.1 hi
   have hj':j∈aS (·.1) (g.es++aD g p) (g.es++aD g p).length (v:Int):=hj
   rw [jm] at hj'
   have Io:aS (·.1) g.es g.es.length (v:Int)= []:=hz
   rw [Io,List.nil_append] at hj'
   obtain ⟨q,hq,rfl⟩:=List.mem_map.1 hj'
   have:=(dD hq).1
   simp only [decide_eq_true_eq];omega
 ·rw [← List.map_reverse,uq (m:=g.es.length) fun t ht=>hg t (List.mem_reverse.1 ht)]
end Go.Ab
end
section
namespace Go.Ab
open Go.Proofs
set_option maxRecDepth 10000
variable {g:Gr} {p:Pl}
theorem zN (hr:cJ g p):aN g p≠ []:=by
 have hm:=aW hr.1
 have hn:=bf hm
 obtain ⟨k,hk⟩:∃k,g.n.toNat=k+1:=⟨g.n.toNat - 1,by omega⟩
 obtain ⟨hi,_,_⟩:=bS hm hr.2.1 (k:=k) (by omega) fun j hj=>hr.2.2 j (by omega)
 obtain ⟨A,X,C,hrw,_,_,_,hs⟩:=ia hm hi.toiV (hr.2.2 k (by omega))
 unfold aN
 rw [hk]
 show (bF _ _ _ _).2.row≠ []
 rw [hs]
 have:=(jS (g:=g) (x:=bz p k) (outs:=eL p (bz p k))).1
 intro e
 have h2:=congrArg List.length e
 simp at h2
 rw [h2.2.1] at this
 simp at this
theorem vF (hr:cJ g p):eL p (bz p (g.n.toNat - 1))= []∧bz p (g.n.toNat - 1)∈loose (aN g p):=by
 have hm:=aW hr.1
 have hn:=bf hm
 obtain ⟨k,hk⟩:∃k,g.n.toNat=k+1:=⟨g.n.toNat - 1,by omega⟩
 obtain ⟨hi,_,_⟩:=bS hm hr.2.1 (k:=k) (by omega) fun j hj=>hr.2.2 j (by omega)
 obtain ⟨A,X,C,hrw,_,_,_,hs⟩:=ia hm hi.toiV (hr.2.2 k (by omega))
 have hL:aN g p=A++aV g (bz p k) (eL p (bz p k))++C:=by
  unfold aN;rw [hk]
  show (bF _ _ _ _).2.row=_
  rw [hs]
 have vV:g.n.toNat - 1=k:=by omega
 rw [vV]
 have rz:=nU hr
 have hx:=b9 hr.2.1 (k:=k) (by omega)
 have h0:eL p (bz p k)= []:=by
  refine Decidable.byContradiction fun h0=> ?_
  have ha:aV g (bz p k) (eL p (bz p k))=(eL p (bz p k)).map (fV g (bz p k)):=if_neg h0
  obtain ⟨i,hi'⟩:=List.exists_mem_of_ne_nil _ h0
  have h1:=rz (fV g (bz p k) i) (by rw [hL,ha];simp;exact .inr (.inl ⟨i,hi',rfl⟩))
  obtain ⟨e,rfl,_⟩:=kG ((c9 hr.2.1 hx.1 hx.2).mem_iff.1 hi')
  simp [fV] at h1
  omega
 refine ⟨h0, ?_⟩
 have ha:aV g (bz p k) (eL p (bz p k))= [(-1,bz p k, -1)]:=if_pos h0
 rw [hL,ha,cy,cy]
 simp [loose]
theorem yx (h:kL g p) (hl:1<(aN g p).length):oZ (aA g p) (bg g p) g.n.toNat=true∧(fK (aA g p) (bg g p) (g.n.toNat+1)).row= [(-1,g.n, -1)]:=by
 have hr:=h.run
 have hm:=aW hr.1
 have hn:=bf hm
 have rR:=kM h
 have hQ:=gK hr
 obtain ⟨kR,ug⟩:=dP hr
 obtain ⟨BD,hrow⟩:=DH h (k:=g.n.toNat) (Nat.le_refl _)
 have hG:(aA g p).n=g.n+1:=if_pos hl
 obtain ⟨zL,tf,_⟩:=bS rR hQ (k:=g.n.toNat) (by omega) BD
 have hx:=zJ hr hl
 have hnot:g.n∉(fK (aA g p) (bg g p) g.n.toNat).pl:=by
  rw [tf]
  have:=oa (ic hQ) (k:=g.n.toNat) (by rw [bB hQ];omega)
  rw [show (bg g p).ord.getD g.n.toNat 0=g.n from hx] at this
  exact this
 have rz:=nU hr
 have hrow:(fK (aA g p) (bg g p) g.n.toNat).row=(aN g p).map (fe g.es.length (aD g p)):=hrow
 have hmem:∀v∈loose (aN g p),(v,g.n)∈aD g p:=fun v hv=>by
  refine List.mem_append_right _ ?_
  unfold newL
  rw [if_pos hl]
  exact List.mem_map.2 ⟨v,hv,rfl⟩
 have um:∀t∈aN g p,(fe g.es.length (aD g p) t).2.2=g.n:=fun t ht=>by
  obtain ⟨j,_,h2,_⟩:=fY (m:=g.es.length) kR (hmem _ (eo ht (rz t ht)))
  rw [cZ (rz t ht) h2]
 have s8:x8 g.n ((aN g p).map (fe g.es.length (aD g p))):=by
  have hne:=zN hr
  refine ⟨?_, ?_,fun t' ht'=> ?_⟩
  ·match hL:aN g p,hne with
   |t::l,_=>exact ⟨_,_,rfl,um t (by rw [hL];simp)⟩
  ·have e:=List.dropLast_concat_getLast hne
   refine ⟨(aN g p).dropLast.map (fe g.es.length (aD g p)),fe g.es.length (aD g p) ((aN g p).getLast hne), ?_,um _ (List.getLast_mem hne)⟩
   conv=>lhs;rw [← e]
   simp
  ·obtain ⟨t,ht,rfl⟩:=List.mem_map.1 ht'
   exact .inl (um t ht)
 have hno:bJ g g.n=0:=by
  have:¬0<bJ g g.n:=fun h0=>by
   obtain ⟨i,hi⟩:=List.exists_mem_of_length_pos h0
   obtain ⟨⟨h1,h2⟩,h3⟩:=dD hi
   have:=(dM hm (k:=i.toNat) (by omega)).2
   have h3:(g.es.getD i.toNat (0,0)).2=g.n:=h3
   omega
  omega
 have pW:((aN g p).map (fe g.es.length (aD g p))).countP (jj g.n)=bJ (aA g p) g.n:=by
  have h1:((aN g p).map (fe g.es.length (aD g p))).countP (jj g.n)=((aN g p).map (fe g.es.length (aD g p))).length:=List.countP_eq_length.2 fun t' ht'=>by
   obtain ⟨t,ht,rfl⟩:=List.mem_map.1 ht'
   simp [jj,um t ht]
  have h2:(bQ g p g.n.toNat).filter (fun e=>decide (e.2=g.n))= []:=List.filter_eq_nil_iff.2 fun e he=>by
   obtain ⟨i,hi,hx2,_⟩:=nW (v:=e.1) (x:=e.2) he
   have:=b9 hr.2.1 hi
   simp only [decide_eq_true_eq];omega
  have h3:(newL g p).filter (fun e=>decide (e.2=g.n))=newL g p:=List.filter_eq_self.2 fun e he=>by
   unfold newL at he
   rw [if_pos hl] at he
   obtain ⟨v,_,rfl⟩:=List.mem_map.1 he
   simp
  have h4:(loose (aN g p)).length=(aN g p).length:=by
   unfold loose
   rw [List.length_map,List.filter_eq_self.2]
   intro t ht
   exact decide_eq_true (rz t ht)
  rw [h1,List.length_map,kP,hno,aD,List.filter_append,h2,h3]
  unfold newL
  rw [if_pos hl]
  simp [h4]
 have Be:(fK (aA g p) (bg g p) g.n.toNat).row= []++(aN g p).map (fe g.es.length (aD g p))++ []:=by rw [hrow];simp
 have nil:jt g.n ([]:List It):=fun t ht=>by cases ht
 refine ⟨?_, ?_⟩
 ·unfold oZ
  rw [hx]
  exact nP rR zL.toiV (by omega) (by omega) hnot Be nil nil s8 pW
 ·show (bF _ _ _ _).2.row=_
  rw [hx,fc _ Be nil nil s8,(ql hr hl).1]
  rfl
theorem ur (h:kL g p):∀k,k<(aA g p).n.toNat→oZ (aA g p) (bg g p) k=true:=by
 have hn:=bf (aW h.run.1)
 intro k hk
 by_cases hkn:k<g.n.toNat
 ·exact (DH h (k:=g.n.toNat) (Nat.le_refl _)).1 k hkn
 ·by_cases hl:1<(aN g p).length
  ·have hG:(aA g p).n=g.n+1:=if_pos hl
   obtain rfl:k=g.n.toNat:=by omega
   exact (yx h hl).1
  ·have hG:(aA g p).n=g.n:=if_neg hl
   omega
theorem Bf {l:List Int} (hd:l.Nodup) {s:Int} (h:∀y∈l,y=s):l.length≤1:=by
 match l,hd,h with
 | [],_,_=>simp
 | [_],_,_=>simp
 |a::b::l,hd,h=>
  rw [List.nodup_cons] at hd
  exact absurd (by rw [h a (by simp),h b (by simp)];simp) hd.1
theorem yy (h:kL g p):(cK (aA g p)).1=0:=by
 have hr:=h.run
 have hm:=aW hr.1
 have hn:=bf hm
 have rR:=kM h
 have hQ:=gK hr
 have C8:=ur h
 have hna:=fM (g:=g) (p:=p)
 obtain ⟨kR,ug⟩:=dP hr
 have GJ:∀i,i<(aA g p).es.length→∃j k,j<k∧k<(aA g p).n.toNat∧tl (aA g p) i=bz (bg g p) j∧hd (aA g p) i=bz (bg g p) k:=fun i hi=>by
  have hh:=(dM rR hi).2
  obtain ⟨k,hk,e⟩:=qf hQ hh.1 hh.2
  obtain ⟨zL,tf,_⟩:=bS rR hQ (k:=k) (by omega) fun j hj=>C8 j (by omega)
  obtain ⟨t,ht,e1,e2,_⟩:=s7 rR zL (C8 k hk) hi e.symm
  have hin:=zL.tail t ht (by omega)
  rw [tf] at hin
  obtain ⟨j,hj,e3⟩:=zK (by rw [bB hQ];omega) hin
  exact ⟨j,k,hj,hk,by rw [← e2,e3],e.symm⟩
 have C9:vb (aA g p)=true:=(qj rR).2 ⟨fun v=>(bw (fun y=>decide (y=v)) (bg g p).ord).toNat,fun i hi=>by
  obtain ⟨j,k,hjk,hk,e1,e2⟩:=GJ i hi
  have DA:∀q,q<(aA g p).n.toNat→bw (fun y=>decide (y=bz (bg g p) q)) (bg g p).ord=q:=fun q hq=>
   ew (d:=0) (by rw [bB hQ];exact hq) (fun i' hi'=>decide_eq_false fun e=>by
    have:=jl hQ (by omega) hq e
    omega) (decide_eq_true rfl)
  simp only
  rw [e1,e2,DA j (by omega),DA k hk]
  omega⟩
 have Da:¬0≤jz (aA g p):=fun hl=>by
  have h1:=dX (fun e:Edge=>decide (e.1=e.2)) (aA g p).es
  have h0:decide (0≤bw (fun e:Edge=>decide (e.1=e.2)) (aA g p).es)=true:=decide_eq_true hl
  rw [h0] at h1
  obtain ⟨e,he,h2⟩:=List.any_eq_true.1 h1.symm
  obtain ⟨i,hi,rfl⟩:=List.mem_iff_getElem.1 he
  obtain ⟨j,k,hjk,hk,e1,e2⟩:=GJ i hi
  have h3:tl (aA g p) i=hd (aA g p) i:=by simpa [tl,hd,List.getD_eq_getElem?_getD,List.getElem?_eq_getElem hi] using h2
  have:=jl hQ (by omega) hk (e1.symm.trans (h3.trans e2))
  omega
 have CK:¬0≤dY (aA g p):=fun ht=>by
  obtain ⟨i,k,hi,hk,hik,e⟩:=(jo _).1 ht
  have hgt:¬0≤dY g:=by
   have:=hr.1
   unfold cK iS at this
   intro h2
   split at this
   ·cases this
   split at this
   ·cases this
   cases this
  have hel:(aA g p).es.length=g.es.length+(aD g p).length:=List.length_append
  have mixed:∀a b,a<g.es.length→b<(aD g p).length→g.es.getD a (0,0)≠(aD g p).getD b (0,0):=fun a b ha hb e=>by
   obtain ⟨q0,q1⟩:=ug _ (bq (d:=(0,0)) hb)
   have hz:=(iZ hr.2.1 q0.1 q0.2).2 q1
   have:(a:Int)∈cn g ((aD g p).getD b (0,0)).1:=ye.2 ⟨⟨by omega,by omega⟩,by rw [Int.toNat_natCast,e]⟩
   rw [hz] at this
   cases this
  by_cases h1:i<g.es.length
  ·by_cases h2:k<g.es.length
   ·rw [n4 i h1,n4 k h2] at e
    exact hgt ((jo g).2 ⟨i,k,h1,h2,hik,e⟩)
   ·obtain ⟨b,rfl⟩:∃b,k=g.es.length+b:=⟨k - g.es.length,by omega⟩
    rw [n4 i h1,kO] at e
    exact mixed i b h1 (by omega) e
  ·obtain ⟨a,rfl⟩:∃a,i=g.es.length+a:=⟨i - g.es.length,by omega⟩
   by_cases h2:k<g.es.length
   ·rw [n4 k h2,kO] at e
    exact mixed k a h2 (by omega) e.symm
   ·obtain ⟨b,rfl⟩:∃b,k=g.es.length+b:=⟨k - g.es.length,by omega⟩
    rw [kO,kO] at e
    have e1:∀q,q<(aD g p).length→((aD g p).map (·.1)).getD q 0=((aD g p).getD q (0,0)).1:=fun q hq=>by
     simp [List.getD_eq_getElem?_getD,List.getElem?_eq_getElem hq]
    have:=hM kR (i:=a) (j:=b) (by simp;omega) (by simp;omega) (by rw [e1 a (by omega),e1 b (by omega),e])
    omega
 have Db:¬1<(cm (·.2) (aA g p)).length:=fun hb=>by
  obtain ⟨s,hs⟩:∃s,∀y∈cm (·.2) (aA g p),y=s:=by
   refine ⟨bz p 0,fun y hy=> ?_⟩
   obtain ⟨⟨y0,y1⟩,y2⟩:=lu.1 hy
   rw [kP] at y2
   have yn:y<g.n:=by
    refine Decidable.byContradiction fun Gz=> ?_
    have hl:1<(aN g p).length:=Decidable.byContradiction fun hl=>by
     have hG:(aA g p).n=g.n:=if_neg hl
     omega
    have e:y=g.n:=by have hG:(aA g p).n=g.n+1:=if_pos hl;omega
    have y9:=(vF hr).2
    have:(bz p (g.n.toNat - 1),y)∈(aD g p).filter fun e=>decide (e.2=y):=List.mem_filter.2 ⟨List.mem_append_right _ (by
     unfold newL
     rw [if_pos hl]
     exact List.mem_map.2 ⟨_,y9,by rw [e]⟩),by simp⟩
    have:=List.length_pos_of_mem this
    omega
   have h0:=b9 hr.2.1 (k:=0) (by omega)
   refine zD hr.1 ⟨y0,yn⟩ h0 (by omega) ?_
   refine Decidable.byContradiction fun hnz=> ?_
   obtain ⟨A,X,C,hrw,_,_,hX,_⟩:=cD hm (ud g).toiV (hr.2.2 0 (by omega)) hnz
   obtain ⟨q,X0,e1,_⟩:=hX.fst
   rw [e1] at hrw
   simp at hrw
  have:=Bf jU hs
  omega
 unfold cK iS
 rw [if_neg (by simp [rR]),if_neg Da,if_neg CK,if_neg (by rw [uk rR C9];simp),if_neg Db]
theorem yz (h:kL g p):cJ (aA g p) (bg g p):=⟨yy h,gK h.run,ur h⟩
end Go.Ab
end
section
namespace Go.Ab
open Go.Proofs
attribute [local congr] ACall.congr gd.congr Nx.congr
set_option maxRecDepth 10000
set_option maxHeartbeats 8000000
theorem th {b:Bool} {g:Gr} {p:Pl} (hr:b=true↔(cK g).1=0∧bE g p) (h:cJ g p):cT b g p=((c8 g p g.n.toNat,aN g p),(0,0)):=by
 obtain rfl:b=true:=hr.2 ⟨h.1,h.2.1⟩
 unfold cT
 rw [if_neg (by simp),ej.2 h.2.2]
 rfl
theorem zO {b:Bool} {g:Gr} {p:Pl} (hr:b=true↔(cK g).1=0∧bE g p) (h:(lB b g p).2.2=0):kL g p∧lB b g p=(aA g p,bg g p,0):=by
 unfold lB at h ⊢
 split at h
 ·cases h
 rename_i h0
 split at h
 ·cases h
 rename_i h1
 rw [if_neg h0,if_neg h1]
 exact ⟨⟨(o6 hr (by simpa using h0)).1,by omega,by omega⟩,rfl⟩
theorem Ip (g:Gr) (p:Pl):∃b:Bool,(b=true↔(cK g).1=0∧bE g p):=by
 by_cases h:(cK g).1=0∧bE g p
 ·exact ⟨true,by simp [h]⟩
 ·exact ⟨false,by simp [h]⟩
end Go.Ab
end
section
namespace Go.Ab
open Go.Proofs
attribute [local congr] ACall.congr gd.congr Nx.congr
set_option maxRecDepth 20000
set_option maxHeartbeats 16000000
theorem ow (dS:List It):Spec Try.prog 33 (Args [.d (sT dS)]) [] (.fn 63 [] [.d (.pt [.sl 3 (dS.map rT)])]) []:=by
 (refine Spec.hd (C:=T.cfg [] []) (rs:= [.t 2]) (T.aj _ _) Try.func33 rfl rfl Try.ntmps33 Try.results33 (by simp [AObj.isNest]) (by simp [AObj.isNest]) (by kernel_rfl) T.mixed fun X hX hP hC aR cL=> ?_)
 repeat' (first|refine Rn.p ?_|(with_reducible apply And.intro)|((first|(refine hK _ ?_;clear hK K)|with_reducible intro K hK|refine Rs.p ?_|((with_reducible first|apply oP|apply oQ);exact rfl));try simp only [go_sem,simprocAttr])|((with_reducible refine oD ?_ ?_);kernel_rfl)|((with_reducible intro h);try simp only [go_sem,simprocAttr] at h)|omega|intro h)
section
variable {g:Gr} {p:Pl}
theorem uu (hr:cJ g p) {x:Nat} (hx:x<g.n.toNat):((c8 g p g.n.toNat).getD x []).length≤10000∧∀t∈(c8 g p g.n.toNat).getD x [],t.1= -1∨(0≤t.1∧t.1<g.es.length):=by
 have gj:=hr.2.1
 have hm:=aW hr.1
 have hn:=bf hm
 obtain ⟨k,hk,ek⟩:=qf gj (x:=(x:Int)) (by omega) (by omega)
 have e1:=kH gj (k:=g.n.toNat) (Nat.le_refl _) hk
 rw [ek,Int.toNat_natCast] at e1
 rw [e1]
 refine ⟨?_,fun t ht=> ?_⟩
 ·obtain ⟨hi,_,hrl⟩:=bS hm gj (k:=k) (by omega) fun j hj=>hr.2.2 j (by omega)
  have hR:bn g (fK g p k) (bz p k)=true:=hr.2.2 k (by omega)
  have hmul:k*(g.es.length+1)≤64*129:=Nat.mul_le_mul (by omega) (by omega)
  have hx:=b9 gj (k:=k) (by omega)
  unfold bL
  by_cases hn0:bJ g (bz p k)=0
  ·rw [dG _ (dm hm hi.toiV hx.1 hn0)];simp
  ·obtain ⟨A,X,C,hrw,nA,nC,hX,cX⟩:=cD hm hi.toiV hR hn0
   rw [fc _ hrw nA nC hX]
   rw [hrw] at hrl
   simp only [List.length_append] at hrl
   show X.length≤_
   omega
 ·rcases uo hr hk t ht with ⟨h0,_⟩|⟨h0,h1,_⟩
  ·exact .inl h0
  ·exact .inr ⟨h0,h1⟩
theorem qn (hr:cJ g p) {x:Nat} (hx:x<g.n.toNat):(p.outs.getD x []).length≤g.es.length∧∀i∈p.outs.getD x [],0≤i∧i<g.es.length:=by
 have gj:=hr.2.1
 have hl:=qg gj (x:=(x:Int)) (by omega) (by omega)
 have hp:=c9 gj (x:=(x:Int)) (by omega) (by omega)
 unfold eL at hl hp
 rw [Int.toNat_natCast] at hl hp
 exact ⟨hl,fun i hi=>(dD (hp.mem_iff.1 hi)).1⟩
end
def tj (dS:List It) (k:Nat):List Int:=((dS.reverse.take k).filter fun t=> !decide (t.1= -1)).map fun t=>2*t.1+1
theorem zP {dS:List It} :tj dS dS.length=(dS.reverse.filter fun t=> !decide (t.1= -1)).map fun t=>2*t.1+1:=by
 unfold tj
 rw [List.take_of_length_le (by simp)]
theorem yA {dS:List It} {k:Nat} (hk:k<dS.length):tj dS (k+1)=tj dS k++(if (dS.getD (dS.length - 1 - k) (0,0,0)).1= -1 then [] else [2*(dS.getD (dS.length - 1 - k) (0,0,0)).1+1]):=by
 unfold tj
 have hk':k<dS.reverse.length:=by simpa using hk
 rw [List.take_add_one,List.getElem?_eq_getElem hk',List.filter_append,List.map_append]
 congr 1
 rw [List.getElem_reverse,List.getD_eq_getElem?_getD,List.getElem?_eq_getElem (by omega)]
 simp only [Option.toList_some,Option.getD_some,List.filter_cons,List.filter_nil]
 split<;>rename_i h
 ·rw [if_neg (by simpa using h)];rfl
 ·rw [if_pos (by simpa using h)];rfl
theorem uv {dS:List It} {k:Nat} :(tj dS k).length≤dS.length:=by
 unfold tj
 rw [List.length_map]
 have h1:=List.length_filter_le (fun t:It=> !decide (t.1= -1)) (dS.reverse.take k)
 have h2:(dS.reverse.take k).length≤dS.length:=by rw [List.length_take,List.length_reverse];omega
 omega
theorem fy {g:Gr} {p:Pl} :(bR g p).length=p.outs.length:=by simp [bR]
theorem tq {g:Gr} {p:Pl} {k:Nat} (hk:k<p.outs.length):(bR g p).take (k+1)=(bR g p).take k++ [ja g p k]:=by
 rw [List.take_add_one,List.getElem?_eq_getElem (by rw [fy];exact hk)]
 simp [bR]
theorem o8 (g:Gr) (hl:g.es.length≤1000) (p:Pl) (hr:cJ g p):Spec Try.prog 12 (Args [eG g,ePl p]) [] (.tup [.d (.sl 1 (vI (bR g p))),eN 0]) []:=by
 have hb:(true=true)↔(cK g).1=0∧bE g p:=⟨fun _=>⟨hr.1,hr.2.1⟩,fun _=>rfl⟩
 have gj:=hr.2.1
 have hm:=aW hr.1
 have hn:=bf hm
 have hlen:=gj.1
 have hall:∀l∈p.outs,l.length≤g.es.length:=fun l hm=>by
  obtain ⟨i,hi,rfl⟩:=List.getElem_of_mem hm
  have:=(qn hr (x:=i) (by omega)).1
  rwa [List.getD_eq_getElem?_getD,List.getElem?_eq_getElem hi] at this
 have Iq:rL p:=by
  have:=bB gj
  exact ⟨by omega,by omega,fun l hm=>by have:=hall l hm;omega⟩
 have BE:=jB g hl p Iq true hb
 rw [th hb hr] at BE
 simp only at BE
 have hel:=iY (g:=g) (p:=p) (k:=g.n.toNat)
 have GK:=fun x hx=>uu hr (x:=x) hx
 have Bo:=fun x hx=>qn hr (x:=x) hx
 have GL:∀x,ja g p x=(p.outs.getD x []).map (fun i=>2*i)++tj ((c8 g p g.n.toNat).getD x []) ((c8 g p g.n.toNat).getD x []).length:=fun x=>by rw [zP];rfl
 generalize c8 g p g.n.toNat=ends at BE hel GK GL
 (refine Spec.hd (C:=T.cfg [] []) (rs:= [.t 4, .t 5]) (T.aj _ _) Try.func12 rfl rfl Try.ntmps12 Try.results12 (by simp [AObj.isNest]) (by simp [AObj.isNest]) (by kernel_rfl) T.mixed fun X hX hP hC aR cL=> ?_)
 repeat' (first|(show bZ _ (.seq (.region 5 _ _) _) _ _;(refine eV hX 9 300 (.tip 25 1 []) ?_ ?_ (by decide) ⟨25,1,by decide, .inr rfl⟩ ?_;(iterate 2 (focus (simp only [go_sem,simprocAttr];done)));simp only [go_sem,simprocAttr]))|refine Rn.p ?_|(with_reducible apply And.intro)|((first|(refine hK _ ?_;clear hK K)|with_reducible intro K hK|refine Rs.p ?_|((with_reducible first|apply oP|apply oQ);exact rfl)|refine aa hX hC hP (BE) rfl rfl rfl (by simp only [go_sem,simprocAttr]) rfl ?_);try simp only [go_sem,simprocAttr])|((with_reducible refine oD ?_ ?_);kernel_rfl)|((with_reducible intro h);try simp only [go_sem,simprocAttr] at h)|omega|intro h)
 refine au (fun k:Nat=>k≤p.outs.length) (fun k=>⟨[(6, .d (.sl 1 (vT ends))),(9, .ref 300),(28, .d (.sl 1 (vI p.outs))),(29,eN p.outs.length),(30,eN k)], [(300, .tip 25 1 (vI ((bR g p).take k)))]⟩) (fun k=>p.outs.length - k) 0 (by omega) ?_ ?_
 ·refine Le.of ?_ ?_<;>simp [go_sem,simprocAttr,vI_length,vI]
 rintro k hk
 rcases Nat.lt_or_ge k p.outs.length with hlt|hge
 ·have ak:decide ((k:Int)<(p.outs.length:Int))=true:=decide_eq_true (by omega)
  have r8:=fun d=>fW (ls:=p.outs) hlt d
  have mu:=fun d=>kE (ls:=ends) (k:=k) (by omega) d
  have k7:=tq (g:=g) hlt
  have oI:((bR g p).take k).length=k:=by rw [List.length_take,fy];omega
  have Dc:=Bo k (by omega)
  have Dd:=GK k (by omega)
  have zQ:=GL k
  have rS:∀l1 l2,vI (l1++ [l2])=vI l1++ [[sI l2]]:=fun l1 l2=>by simp [vI]
  generalize p.outs.getD k []=o at r8 Dc zQ
  generalize ends.getD k []=dS at mu Dd zQ
  generalize vY:(bR g p).take (k+1)=T2 at k7
  generalize (bR g p).take k=T1 at k7 oI
  repeat' (first|(show bZ _ (.seq (.region 9 _ _) _) _ _;(refine ni hX 12 0 401 (.tip 3 1 []) rfl rfl rfl (by simp only [go_sem,simprocAttr,vI_length,vT_length,ak,r8,mu]) (by decide) (by simp [go_sem,simprocAttr,vI_length,vT_length,ak,r8,mu]) ⟨3,1,by decide, .inr rfl⟩ ?_;simp only [List.set_cons_zero,List.set_cons_succ,go_sem,simprocAttr,vI_length,vT_length,ak,r8,mu]))|refine Rn.p ?_|(with_reducible apply And.intro)|((first|(refine hK _ ?_;clear hK K)|with_reducible intro K hK|refine Rs.p ?_|((with_reducible first|apply oP|apply oQ);exact rfl)|refine aa hX hC hP (BE) rfl rfl rfl (by simp only [go_sem,simprocAttr,vI_length,vT_length,ak,r8,mu]) rfl ?_);try simp only [go_sem,simprocAttr,vI_length,vT_length,ak,r8,mu])|((with_reducible refine oD ?_ ?_);kernel_rfl)|((with_reducible intro h);try simp only [go_sem,simprocAttr,vI_length,vT_length,ak,r8,mu] at h)|omega|intro h)
  refine au (fun j:Nat=>j≤o.length) (fun j=>⟨[(6, .d (.sl 1 (vT ends))),(9, .ref 300),(28, .d (.sl 1 (vI p.outs))),(29,eN p.outs.length),(30,eN k),(10,eN k),(12, .ptr 12 0),(35, .d (sI o)),(36,eN o.length),(37,eN j)], [(300, .tip 25 1 (vI T1)),(12, .box [.ref 401]),(401, .tip 3 1 (((o.take j).map fun i=>2*i).map rI))]⟩) (fun j=>o.length - j) 0 (by omega) ?_ ?_
  ·refine Le.of ?_ ?_<;>simp [go_sem,simprocAttr,vI_length,vT_length,ak,r8,mu]
  rintro j hj
  rcases Nat.lt_or_ge j o.length with hjl|Ir
  ·have aE:decide ((j:Int)<(o.length:Int))=true:=decide_eq_true (by omega)
   have hq:=bq (d:=0) hjl
   have BF:(o.take j).length=j:=by rw [List.length_take];omega
   have tR:o.take (j+1)=o.take j++ [o.getD j 0]:=by
    rw [List.take_add_one,List.getElem?_eq_getElem hjl,List.getD_eq_getElem?_getD,List.getElem?_eq_getElem hjl];rfl
   have hi2:=Dc.2 _ hq
   generalize Is:o.take (j+1)=P2 at tR
   generalize o.take j=P1 at tR BF
   generalize kZ:o.getD j 0=i at tR hi2
   repeat' (first|(show bZ _ (.region 13 _ _) _ _;(refine gU hX 12 0 45 401 rfl rfl rfl (by first|exact .inl rfl|exact .inr rfl) (by decide) (by decide) ?_;simp only [List.set_cons_zero,List.set_cons_succ,go_sem,simprocAttr,vI_length,vT_length,ak,aE,r8,mu,kZ,BF,List.length_map]))|refine Rn.p ?_|(with_reducible apply And.intro)|((first|(refine hK _ ?_;clear hK K)|with_reducible intro K hK|refine Rs.p ?_|((with_reducible first|apply oP|apply oQ);exact rfl)|refine aa hX hC hP (BE) rfl rfl rfl (by simp only [go_sem,simprocAttr,vI_length,vT_length,ak,aE,r8,mu,kZ,BF,List.length_map]) rfl ?_);try simp only [go_sem,simprocAttr,vI_length,vT_length,ak,aE,r8,mu,kZ,BF,List.length_map])|((with_reducible refine oD ?_ ?_);kernel_rfl)|((with_reducible intro h);try simp only [go_sem,simprocAttr,vI_length,vT_length,ak,aE,r8,mu,kZ,BF,List.length_map] at h)|omega|intro h)
   refine ⟨j+1,by omega, ?_,by omega⟩
   rw [Is,tR]
   refine Le.of ?_ ?_<;>simp [go_sem,simprocAttr,vI_length,vT_length,ak,aE,r8,mu,kZ,BF,List.length_map,rI]
  have aE:decide ((j:Int)<(o.length:Int))=false:=decide_eq_false (by omega)
  obtain rfl:j=o.length:=by omega
  rw [List.take_length]
  have Iu:=ow dS
  repeat' (first|refine Rn.p ?_|(with_reducible apply And.intro)|((first|(refine hK _ ?_;clear hK K)|with_reducible intro K hK|refine Rs.p ?_|((with_reducible first|apply oP|apply oQ);exact rfl)|refine aa hX hC hP (Iu) rfl rfl rfl (by simp only [go_sem,simprocAttr,vI_length,vT_length,ak,aE,r8,mu]) rfl ?_);try simp only [go_sem,simprocAttr,vI_length,vT_length,ak,aE,r8,mu])|((with_reducible refine oD ?_ ?_);kernel_rfl)|((with_reducible intro h);try simp only [go_sem,simprocAttr,vI_length,vT_length,ak,aE,r8,mu] at h)|omega|intro h)
  have DF:∀j,(dS.map rT).getD j []=if j<dS.length then rT (dS.getD j (0,0,0)) else []:=fun j=>by
   simp only [List.getD_eq_getElem?_getD,List.getElem?_map]
   split
   ·rename_i h;rw [List.getElem?_eq_getElem h];rfl
   ·rename_i h;rw [List.getElem?_eq_none (by omega)];rfl
  have hrl:(dS.map rT).length=dS.length:=List.length_map ..
  refine xE hX (gf:=63) (sz:=3) (rows:=dS.map rT) (by rw [hP];exact zA _ (fun r hr=>by obtain ⟨t,_,rfl⟩:=List.mem_map.1 hr;rfl) (by rw [hrl];omega)) (by rw [hP];exact ⟨_,_,Try.func63,rfl,rfl⟩) rfl (fun r hr=>by obtain ⟨t,_,rfl⟩:=List.mem_map.1 hr;rfl)
   (asN [(10000,12),(10001,401)]) [(12, .box [.ref 401]),(401, .tip 3 1 ((o.map fun i=>2*i).map rI))] [(10000, .box [.ref 10001]),(10001, .tip 3 1 ((o.map fun i=>2*i).map rI))] [(12, .ptr 10000 0)]
   (fun j=> [(10000, .box [.ref 402]),(402, .tip 3 1 (((o.map fun i=>2*i)++tj dS j).map rI))])
   (fun j=>⟨[(16, .ptr 16 0),(12, .ptr 10000 0)], [(16, .box [eN (dS.getD (dS.length - 1 - j) (0,0,0)).1,eN (dS.getD (dS.length - 1 - j) (0,0,0)).2.1,eN (dS.getD (dS.length - 1 - j) (0,0,0)).2.2]),(10000, .box [.ref 402]),(402, .tip 3 1 (((o.map fun i=>2*i)++tj dS j).map rI))]⟩) ?_ ?_ ?_ ?_ ?_ ?_ ?_ ?_ ?_
  ·refine ⟨by simp [asN,AObj.ren,AV.rens,AV.ren],by simp [nodupM,look],by simp [nodupM,look],by simp [AObj.isNest],by simp [AObj.isNest],fun l l' h h' e=> ?_,by simp [look,asN],by simp [AObj.ro],by simp [AObj.ro],by simp [AV.ids,AV.idss],by simp [AObj.ids,AV.idss,AV.ids,look]⟩
   have mem:∀l,(look [(10000,AObj.box [AV.ref 10001]),(10001,AObj.tip 3 1 ((o.map fun i=>2*i).map rI))] l≠none∨look [(10000,AObj.box [AV.ref 402]),(402,AObj.tip 3 1 (((o.map fun i=>2*i)++tj dS (dS.map rT).length).map rI))] l≠none)→l=10000∨l=10001∨l=402:=fun l hl=>by
    simp only [look] at hl
    by_cases e1:10000=l
    ·exact .inl e1.symm
    ·by_cases e2:10001=l
     ·exact .inr (.inl e2.symm)
     ·by_cases e3:402=l
      ·exact .inr (.inr e3.symm)
      ·rw [if_neg e1,if_neg e2,if_neg e1,if_neg e3] at hl
       exact absurd rfl (hl.elim id id)
   rcases mem l h with rfl|rfl|rfl<;>rcases mem l' h' with rfl|rfl|rfl<;>first|rfl|(simp [asN] at e)
  ·simp [look]
  ·simp
  ·intro q
   simp only [get]
   by_cases e:12=q
   ·subst e;left;simp [AV.ren,asN]
   ·right;rw [if_neg e]
  ·intro q l hl
   simp only [get] at hl
   by_cases e:12=q
   ·rw [if_pos e] at hl
    simp only [AV.ids,List.mem_singleton] at hl
    subst hl
    rw [cE (by omega)];simp [look]
   ·rw [if_neg e] at hl;simp [AV.ids] at hl
  ·intro X' s8 a w hr
   refine Rel.le ?_ (Rel.EC s8 hr 10000 0 10001 402 rfl rfl rfl (.inr rfl) (by decide) (by decide))
   have hb0:tj dS 0= []:=by simp [tj]
   refine Le.of ?_ ?_<;>simp [go_sem,simprocAttr,hb0]
  ·intro j hj X' s8 Bz F6
   have F7:Xc X' (T.cfg [] []):=⟨s8,by rw [F6,hC],by rw [Bz,hP];exact hP ▸ aR⟩
   rw [hrl] at hj ⊢
   have pT:=DF (dS.length - 1 - j)
   rw [if_pos (by omega)] at pT
   rw [pT]
   generalize dS.getD (dS.length - 1 - j) (0,0,0)=t
   repeat' (first|refine Rn.p ?_|(with_reducible apply And.intro)|((first|(refine hK _ ?_;clear hK K)|with_reducible intro K hK|refine Rs.p ?_|((with_reducible first|apply oP|apply oQ);exact rfl));try simp only [go_sem,simprocAttr,rT])|((with_reducible refine oD ?_ ?_);kernel_rfl)|((with_reducible intro h);try simp only [go_sem,simprocAttr,rT] at h)|omega|intro h)
   refine ⟨fun Y hY a w hr=>Rel.le ?_ hr⟩
   refine Le.of ?_ ?_<;>simp [go_sem,simprocAttr,rT]
  ·intro j hj X' s8 Bz F6
   have F7:Xc X' (T.cfg [] []):=⟨s8,by rw [F6,hC],by rw [Bz,hP];exact hP ▸ aR⟩
   rw [hrl] at hj
   have DK:=yA hj
   have od:=uv (dS:=dS) (k:=j)
   have Jd:=Dd.2 _ (bq (d:=(0,0,0)) (show dS.length - 1 - j<dS.length by omega))
   generalize dS.getD (dS.length - 1 - j) (0,0,0)=t at*
   generalize tj dS (j+1)=B2 at*
   generalize tj dS j=B1 at*
   by_cases ht:t.1= -1
   ·have cC:decide (t.1= -1)=true:=decide_eq_true ht
    rw [if_pos ht,List.append_nil] at DK
    subst DK
    repeat' (first|refine Rn.p ?_|(with_reducible apply And.intro)|((first|(refine hK _ ?_;clear hK K)|with_reducible intro K hK|refine Rs.p ?_|((with_reducible first|apply oP|apply oQ);exact rfl));try simp only [go_sem,simprocAttr,List.length_map,List.length_append,cC])|((with_reducible refine oD ?_ ?_);kernel_rfl)|((with_reducible intro h);try simp only [go_sem,simprocAttr,List.length_map,List.length_append,cC] at h)|omega|intro h)
    refine ⟨fun Y hY a w hr=>Rel.le ?_ hr⟩
    refine Le.of ?_ ?_<;>simp [go_sem,simprocAttr,List.length_map,List.length_append,cC]
   ·have cC:decide (t.1= -1)=false:=decide_eq_false ht
    rw [if_neg ht] at DK
    subst DK
    repeat' (first|refine Rn.p ?_|(with_reducible apply And.intro)|((first|(refine hK _ ?_;clear hK K)|with_reducible intro K hK|refine Rs.p ?_|((with_reducible first|apply oP|apply oQ);exact rfl));try simp only [go_sem,simprocAttr,List.length_map,List.length_append,cC])|((with_reducible refine oD ?_ ?_);kernel_rfl)|((with_reducible intro h);try simp only [go_sem,simprocAttr,List.length_map,List.length_append,cC] at h)|omega|intro h)
    refine ⟨fun Y hY a w hr=>Rel.le ?_ (Rel.EC hY hr 10000 0 63 402 rfl rfl rfl (.inr rfl) (by decide) (by decide))⟩
    refine Le.of ?_ ?_<;>simp [go_sem,simprocAttr,List.length_map,List.length_append,cC,rI]
  ·rw [hrl, ← zQ]
   have Iv:(ja g p k).length≤20000:=by
    rw [zQ,List.length_append,List.length_map]
    have:=uv (dS:=dS) (k:=dS.length)
    omega
   generalize ja g p k=tv at*
   simp only [go_sem,simprocAttr,vI_length,vT_length,ak,killM,renM,asN,AObj.ren,AV.rens,AV.ren,rS]
   repeat' (first|(show bZ _ (.region 19 _ _) _ _;(refine nh hX 9 67 300 (by simp only [go_sem,simprocAttr,vI_length,vT_length,ak,killM,renM,asN,AObj.ren,AV.rens,AV.ren,rS]) rfl (by first|exact .inl rfl|exact .inr rfl) (by decide) ?_;simp only [go_sem,simprocAttr,vI_length,vT_length,ak,killM,renM,asN,AObj.ren,AV.rens,AV.ren,rS]))|refine Rn.p ?_|(with_reducible apply And.intro)|((first|(refine hK _ ?_;clear hK K)|with_reducible intro K hK|refine Rs.p ?_|((with_reducible first|apply oP|apply oQ);exact rfl));try simp only [go_sem,simprocAttr,vI_length,vT_length,ak,killM,renM,asN,AObj.ren,AV.rens,AV.ren,rS])|((with_reducible refine oD ?_ ?_);kernel_rfl)|((with_reducible intro h);try simp only [go_sem,simprocAttr,vI_length,vT_length,ak,killM,renM,asN,AObj.ren,AV.rens,AV.ren,rS] at h)|omega|intro h)
   refine ⟨k+1,by omega, ?_,by omega⟩
   rw [vY,k7]
   refine Le.of ?_ ?_<;>simp [go_sem,simprocAttr,vI_length,vT_length,ak,killM,renM,asN,AObj.ren,AV.rens,AV.ren,rS]
 ·have ak:decide ((k:Int)<(p.outs.length:Int))=false:=decide_eq_false (by omega)
  obtain rfl:k=p.outs.length:=by omega
  rw [List.take_of_length_le (Nat.le_of_eq fy)]
  repeat' (first|refine Rn.p ?_|(with_reducible apply And.intro)|((first|(refine hK _ ?_;clear hK K)|with_reducible intro K hK|refine Rs.p ?_|((with_reducible first|apply oP|apply oQ);exact rfl));try simp only [go_sem,simprocAttr,ak])|((with_reducible refine oD ?_ ?_);kernel_rfl)|((with_reducible intro h);try simp only [go_sem,simprocAttr,ak] at h)|omega|intro h)
end Go.Ab
end
section
namespace Go.Ab
open Go.Proofs
attribute [local congr] ACall.congr gd.congr Nx.congr
set_option maxRecDepth 20000
set_option maxHeartbeats 16000000
theorem rU (l:List Int) (hl:l.length≤100000):Spec Try.prog 35 (Args [.d (sI l), .d (sI l)]) [] (eB true) []:=by
 cases l with
 |nil=>
  (refine Spec.hd (C:=T.cfg [] []) (rs:= [.t 4]) (T.aj _ _) Try.func35 rfl rfl Try.ntmps35 Try.results35 (by simp [AObj.isNest]) (by simp [AObj.isNest]) (by kernel_rfl) T.mixed fun X hX hP hC aR cL=> ?_)
  repeat' (first|refine Rn.p ?_|(with_reducible apply And.intro)|((first|(refine hK _ ?_;clear hK K)|with_reducible intro K hK|refine Rs.p ?_|((with_reducible first|apply oP|apply oQ);exact rfl));try simp only [go_sem,simprocAttr])|((with_reducible refine oD ?_ ?_);kernel_rfl)|((with_reducible intro h);try simp only [go_sem,simprocAttr] at h)|omega|intro h)
  refine au (ι:=Unit) (fun _=>True) (fun _=>⟨[(0, .d (sI [])),(1, .d (sI [])),(7,eN (0:Nat)),(8,eN (0:Nat))], []⟩) (fun _=>0) () trivial ?_ ?_
  ·refine Le.of ?_ ?_<;>simp [go_sem,simprocAttr]
  rintro _ _
  repeat' (first|refine Rn.p ?_|(with_reducible apply And.intro)|((first|(refine hK _ ?_;clear hK K)|with_reducible intro K hK|refine Rs.p ?_|((with_reducible first|apply oP|apply oQ);exact rfl));try simp only [go_sem,simprocAttr])|((with_reducible refine oD ?_ ?_);kernel_rfl)|((with_reducible intro h);try simp only [go_sem,simprocAttr] at h)|omega|intro h)
 |cons a r=>
  have DL:=cP [a::r, []] (by simp) (by simp) (by simp at hl ⊢;omega)
  have hE:=cR (a::r) (a::r) (by simp at hl ⊢;omega)
  have e: [a::r, []].flatten=a::r:=by simp
  rw [e] at DL
  simp only [decide_true] at hE
  generalize hL:a::r=L at*
  have hb:decide ((0:Int)<(L.length:Int))=true:=decide_eq_true (by rw [← hL];simp)
  have oe:List.take L.length (L.map rI)=L.map rI:=List.take_of_length_le (by simp)
  simp only [vL,List.map_cons,List.map_nil,sI] at DL
  (refine Spec.hd (C:=T.cfg [] []) (rs:= [.t 4]) (T.aj _ _) Try.func35 rfl rfl Try.ntmps35 Try.results35 (by simp [AObj.isNest]) (by simp [AObj.isNest]) (by kernel_rfl) T.mixed fun X hX hP hC aR cL=> ?_)
  repeat' (first|refine Rn.p ?_|(with_reducible apply And.intro)|((first|(refine hK _ ?_;clear hK K)|with_reducible intro K hK|refine Rs.p ?_|((with_reducible first|apply oP|apply oQ);exact rfl)|(refine bD hX hC hP (DL) rfl rfl rfl ?_ ?_ rfl ?_;iterate 2 (focus (simp only [go_sem,simprocAttr,hb,oe];done)))|refine aa hX hC hP (hE) rfl rfl rfl (by simp only [go_sem,simprocAttr,hb,oe]) rfl ?_);try simp only [go_sem,simprocAttr,hb,oe])|((with_reducible refine oD ?_ ?_);kernel_rfl)|((with_reducible intro h);try simp only [go_sem,simprocAttr,hb,oe] at h)|omega|intro h)
  refine au (ι:=Unit) (fun _=>True) (fun _=>⟨[(0, .d (sI L)),(1, .d (sI L)),(7,eN L.length),(8,eN (0:Nat))], []⟩) (fun _=>0) () trivial ?_ ?_
  ·refine Le.of ?_ ?_<;>simp [go_sem,simprocAttr,hb,oe]
  rintro _ _
  repeat' (first|refine Rn.p ?_|(with_reducible apply And.intro)|((first|(refine hK _ ?_;clear hK K)|with_reducible intro K hK|refine Rs.p ?_|((with_reducible first|apply oP|apply oQ);exact rfl)|(refine bD hX hC hP (DL) rfl rfl rfl ?_ ?_ rfl ?_;iterate 2 (focus (simp only [go_sem,simprocAttr,hb,oe];done)))|refine aa hX hC hP (hE) rfl rfl rfl (by simp only [go_sem,simprocAttr,hb,oe]) rfl ?_);try simp only [go_sem,simprocAttr,hb,oe])|((with_reducible refine oD ?_ ?_);kernel_rfl)|((with_reducible intro h);try simp only [go_sem,simprocAttr,hb,oe] at h)|omega|intro h)
theorem rV (ls:List (List Int)) (hn:ls.length≤1000) (hl:∀l∈ls,l.length≤100000):Spec Try.prog 34 (Args [.d (.sl 1 (vI ls)), .d (.sl 1 (vI ls)), .fn 35 [] []]) [] (eB true) []:=by
 (refine Spec.hd (C:=T.cfg [] []) (rs:= [.t 6]) (T.aj _ _) Try.func34 rfl rfl Try.ntmps34 Try.results34 (by simp [AObj.isNest]) (by simp [AObj.isNest]) (by kernel_rfl) T.mixed fun X hX hP hC aR cL=> ?_)
 repeat' (first|refine Rn.p ?_|(with_reducible apply And.intro)|((first|(refine hK _ ?_;clear hK K)|with_reducible intro K hK|refine Rs.p ?_|((with_reducible first|apply oP|apply oQ);exact rfl));try simp only [go_sem,simprocAttr,vI_length])|((with_reducible refine oD ?_ ?_);kernel_rfl)|((with_reducible intro h);try simp only [go_sem,simprocAttr,vI_length] at h)|omega|intro h)
 refine au (fun k:Nat=>k≤ls.length) (fun k=>⟨[(1, .d (.sl 1 (vI ls))),(2, .fn 35 [] []),(15, .d (.sl 1 (vI ls))),(16,eN ls.length),(17,eN k)], []⟩) (fun k=>ls.length - k) 0 (by omega) ?_ ?_
 ·refine Le.of ?_ ?_<;>simp [go_sem,simprocAttr,vI_length]
 rintro k hk
 rcases Nat.lt_or_ge k ls.length with hlt|hge
 ·have hb:decide ((k:Int)<(ls.length:Int))=true:=decide_eq_true (by omega)
  have hv:=fW (ls:=ls) (k:=k) hlt
  have hT:=rU (ls.getD k []) (hl _ (bq hlt))
  repeat' (first|refine Rn.p ?_|(with_reducible apply And.intro)|((first|(refine hK _ ?_;clear hK K)|with_reducible intro K hK|refine Rs.p ?_|((with_reducible first|apply oP|apply oQ);exact rfl)|refine aa hX hC hP (hT) rfl rfl rfl (by simp only [go_sem,simprocAttr,vI_length,hb,hv]) rfl ?_);try simp only [go_sem,simprocAttr,vI_length,hb,hv])|((with_reducible refine oD ?_ ?_);kernel_rfl)|((with_reducible intro h);try simp only [go_sem,simprocAttr,vI_length,hb,hv] at h)|omega|intro h)
  refine ⟨k+1,by omega, ?_,by omega⟩
  refine Le.of ?_ ?_<;>simp [go_sem,simprocAttr,vI_length,hb,hv]
 ·have hb:decide ((k:Int)<(ls.length:Int))=false:=decide_eq_false (by omega)
  repeat' (first|refine Rn.p ?_|(with_reducible apply And.intro)|((first|(refine hK _ ?_;clear hK K)|with_reducible intro K hK|refine Rs.p ?_|((with_reducible first|apply oP|apply oQ);exact rfl));try simp only [go_sem,simprocAttr,hb])|((with_reducible refine oD ?_ ?_);kernel_rfl)|((with_reducible intro h);try simp only [go_sem,simprocAttr,hb] at h)|omega|intro h)
theorem tr (ls:List (List Int)) (hn:ls.length≤1000) (hl:∀l∈ls,l.length≤100000):Spec Try.prog 13 (Args [.d (.sl 1 (vI ls)), .d (.sl 1 (vI ls))]) [] (eB true) []:=by
 have hE:=rV ls hn hl
 (refine Spec.hd (C:=T.cfg [] []) (rs:= [.t 4]) (T.aj _ _) Try.func13 rfl rfl Try.ntmps13 Try.results13 (by simp [AObj.isNest]) (by simp [AObj.isNest]) (by kernel_rfl) T.mixed fun X hX hP hC aR cL=> ?_)
 repeat' (first|refine Rn.p ?_|(with_reducible apply And.intro)|((first|(refine hK _ ?_;clear hK K)|with_reducible intro K hK|refine Rs.p ?_|((with_reducible first|apply oP|apply oQ);exact rfl)|refine aa hX hC hP (hE) rfl rfl rfl (by simp only [go_sem,simprocAttr]) rfl ?_);try simp only [go_sem,simprocAttr])|((with_reducible refine oD ?_ ?_);kernel_rfl)|((with_reducible intro h);try simp only [go_sem,simprocAttr] at h)|omega|intro h)
end Go.Ab
end
section
namespace Go.Ab
open Go.Proofs
attribute [local congr] ACall.congr gd.congr Nx.congr
set_option maxRecDepth 20000
set_option maxHeartbeats 16000000
theorem o9 {g:Gr} {p:Pl} (hr:cJ g p) {x:Nat} (hx:x<g.n.toNat):(ja g p x).length≤20000:=by
 have hn:=bf (aW hr.1)
 have h1:=(qn hr hx).1
 have h2:=(uu hr hx).1
 unfold ja
 rw [List.length_append,List.length_map,List.length_map]
 have:=List.length_filter_le (fun t:It=> !decide (t.1= -1)) ((c8 g p g.n.toNat).getD x []).reverse
 rw [List.length_reverse] at this
 omega
theorem oc {g:Gr} {p:Pl} {x:Nat} (hx:x<p.outs.length):(bR g p).getD x []=ja g p x:=by
 rw [List.getD_eq_getElem?_getD,List.getElem?_eq_getElem (by rw [fy];exact hx)]
 simp [bR]
theorem rW {l:List Int} {f:Int→Bool} {j:Nat} (hj:j<l.length):(l.take (j+1)).filter f=(l.take j).filter f++if f (l.getD j 0)=true then [l.getD j 0] else []:=by
 rw [List.take_add_one,List.getElem?_eq_getElem hj,List.filter_append,List.getD_eq_getElem?_getD,List.getElem?_eq_getElem hj]
 congr 1
 simp only [Option.toList_some,Option.getD_some,List.filter_cons,List.filter_nil]
theorem lF (g:Gr) (p:Pl) (hl:g.es.length≤9223372036854775807) (hp:yl p):Spec Try.prog 3 (Args [eG g,ePl p]) [] (eB true) []:=by
 have zR:=qi g p hl hp
 (refine Spec.hd (C:=T.cfg [] []) (rs:= [.t 4]) (T.aj _ _) Try.func3 rfl rfl Try.ntmps3 Try.results3 (by simp [AObj.isNest]) (by simp [AObj.isNest]) (by kernel_rfl) T.mixed fun X hX hP hC aR cL=> ?_)
 cases hB:ou g p with
 |true=>
  rw [hB] at zR
  repeat' (first|refine Rn.p ?_|(with_reducible apply And.intro)|((first|(refine hK _ ?_;clear hK K)|with_reducible intro K hK|refine Rs.p ?_|((with_reducible first|apply oP|apply oQ);exact rfl)|refine aa hX hC hP (cl) rfl rfl rfl (by simp only [go_sem,simprocAttr]) rfl ?_|refine aa hX hC hP (zR) rfl rfl rfl (by simp only [go_sem,simprocAttr]) rfl ?_);try simp only [go_sem,simprocAttr])|((with_reducible refine oD ?_ ?_);kernel_rfl)|((with_reducible intro h);try simp only [go_sem,simprocAttr] at h)|omega|intro h)
 |false=>
  rw [hB] at zR
  obtain ⟨b1,b2,b3,b4⟩:=uj hB
  obtain ⟨b,hr⟩:=Ip g p
  have Aj:=kK g (by omega) p (yj hB) (by omega) (by omega) (fun l hl=>by have:=b4 l hl;omega) b hr
  by_cases h0:(lB b g p).2.2=0
  rotate_left
  ·have hb0:decide ((lB b g p).2.2=0)=false:=decide_eq_false h0
   repeat' (first|refine Rn.p ?_|(with_reducible apply And.intro)|((first|(refine hK _ ?_;clear hK K)|with_reducible intro K hK|refine Rs.p ?_|((with_reducible first|apply oP|apply oQ);exact rfl)|refine aa hX hC hP (cl) rfl rfl rfl (by simp only [go_sem,simprocAttr,hb0]) rfl ?_|refine aa hX hC hP (zR) rfl rfl rfl (by simp only [go_sem,simprocAttr,hb0]) rfl ?_|refine aa hX hC hP (Aj) rfl rfl rfl (by simp only [go_sem,simprocAttr,hb0]) rfl ?_);try simp only [go_sem,simprocAttr,hb0])|((with_reducible refine oD ?_ ?_);kernel_rfl)|((with_reducible intro h);try simp only [go_sem,simprocAttr,hb0] at h)|omega|intro h)
  obtain ⟨hok,Iw⟩:=zO hr h0
  rw [Iw] at Aj
  simp only at Aj
  have hrun:=hok.run
  have zB:=yz hok
  have De:=o8 g (by omega) p hrun
  have GI:=fM (g:=g) (p:=p)
  have rR:=bf (kM hok)
  have vY:=o8 (aA g p) (by omega) (bg g p) zB
  have Gm:(bR g p).length=g.n.toNat:=by rw [fy,hrun.2.1.1]
  have Je:(bR (aA g p) (bg g p)).length=(aA g p).n.toNat:=by rw [fy,zB.2.1.1]
  have tU:=fun x (hx:x<g.n.toNat)=>oc (g:=g) (p:=p) (x:=x) (by rw [hrun.2.1.1];exact hx)
  have qs:=fun x (hx:x<g.n.toNat)=>oc (g:=aA g p) (p:=bg g p) (x:=x) (by rw [zB.2.1.1];omega)
  have hfl:=fun x (hx:x<g.n.toNat)=>yw hok hx
  have uW:=fun x (hx:x<g.n.toNat)=>o9 hrun hx
  have Bu:=fun x (hx:x<g.n.toNat)=>o9 zB (x:=x) (by omega)
  have Iy:=tr (bR g p) (by have:=bf (aW hrun.1);omega) (fun l hlm=>by
   obtain ⟨i,hi,rfl⟩:=List.getElem_of_mem hlm
   have:=uW i (by omega)
   rw [← tU i (by omega),List.getD_eq_getElem?_getD,List.getElem?_eq_getElem hi] at this
   simp only [Option.getD_some] at this
   omega)
  have F8:∀x,x<g.n.toNat→((bR (aA g p) (bg g p)).getD x []).filter (fun k=>decide (k<2*(g.es.length:Int)))=(bR g p).getD x []:=fun x hx=>by rw [tU x hx,qs x hx];exact hfl x hx
  have Iz:∀x,x<g.n.toNat→((bR (aA g p) (bg g p)).getD x []).length≤20000:=fun x hx=>by rw [qs x hx];exact Bu x hx
  have oe:∀x,x<g.n.toNat→(bR g p).take (x+1)=(bR g p).take x++ [(bR g p).getD x []]:=fun x hx=>by
   rw [List.take_add_one,List.getElem?_eq_getElem (by omega),List.getD_eq_getElem?_getD,List.getElem?_eq_getElem (by omega)];rfl
  clear tU qs hfl uW Bu
  generalize bR g p=A at*
  generalize bR (aA g p) (bg g p)=B at*
  generalize aA g p=G at*
  generalize bg g p=Q at*
  have qo:decide ((B.length:Int)<(A.length:Int))=false:=decide_eq_false (by omega)
  repeat' (first|(show bZ _ (.seq (.region 13 _ _) _) _ _;(refine nh hX 12 56 300 (by simp only [go_sem,simprocAttr,vI_length,qo]) rfl (by first|exact .inl rfl|exact .inr rfl) (by decide) ?_;simp only [go_sem,simprocAttr,vI_length,qo]))|refine Rn.p ?_|(with_reducible apply And.intro)|((first|(refine hK _ ?_;clear hK K)|with_reducible intro K hK|refine Rs.p ?_|((with_reducible first|apply oP|apply oQ);exact rfl)|refine aa hX hC hP (cl) rfl rfl rfl (by simp only [go_sem,simprocAttr,vI_length,qo]) rfl ?_|refine aa hX hC hP (zR) rfl rfl rfl (by simp only [go_sem,simprocAttr,vI_length,qo]) rfl ?_|refine aa hX hC hP (Aj) rfl rfl rfl (by simp only [go_sem,simprocAttr,vI_length,qo]) rfl ?_|refine aa hX hC hP (De) rfl rfl rfl (by simp only [go_sem,simprocAttr,vI_length,qo]) rfl ?_|refine aa hX hC hP (vY) rfl rfl rfl (by simp only [go_sem,simprocAttr,vI_length,qo]) rfl ?_);try simp only [go_sem,simprocAttr,vI_length,qo])|((with_reducible refine oD ?_ ?_);kernel_rfl)|((with_reducible intro h);try simp only [go_sem,simprocAttr,vI_length,qo] at h)|omega|intro h)
  refine au (fun k:Nat=>k≤A.length) (fun k=>⟨[(2, .ptr 2 0),(8, .d (.sl 1 (vI A))),(10, .d (.sl 1 (vI B))),(12, .ref 300),(58,eN A.length),(59,eN k)], [(300, .tip 25 1 (vI (A.take k))),(2, .box [eN g.n, .d (sE g.es)])]⟩) (fun k=>A.length - k) 0 (by omega) ?_ ?_
  ·refine Le.of ?_ ?_<;>simp [go_sem,simprocAttr,vI_length,vI]
  rintro k hk
  rcases Nat.lt_or_ge k A.length with hlt|hge
  ·have ak:decide ((k:Int)<(A.length:Int))=true:=decide_eq_true (by omega)
   have kQ:=fun d=>fW (ls:=B) (k:=k) (by omega) d
   have k7:=oe k (by omega)
   have oI:(A.take k).length=k:=by rw [List.length_take];omega
   have hf:=F8 k (by omega)
   have od:=Iz k (by omega)
   have rS:∀l1 l2,vI (l1++ [l2])=vI l1++ [[sI l2]]:=fun l1 l2=>by simp [vI]
   generalize B.getD k []=l at kQ hf od
   generalize A.getD k []=la at k7 hf
   generalize yM:A.take (k+1)=A2 at k7
   generalize A.take k=IA at k7 oI
   repeat' (first|(show bZ _ (.seq (.region 17 _ _) _) _ _;(refine nh hX 14 62 401 (by simp only [go_sem,simprocAttr,vI_length,ak,kQ]) rfl (by first|exact .inl rfl|exact .inr rfl) (by decide) ?_;simp only [go_sem,simprocAttr,vI_length,ak,kQ]))|refine Rn.p ?_|(with_reducible apply And.intro)|((first|(refine hK _ ?_;clear hK K)|with_reducible intro K hK|refine Rs.p ?_|((with_reducible first|apply oP|apply oQ);exact rfl)|refine aa hX hC hP (cl) rfl rfl rfl (by simp only [go_sem,simprocAttr,vI_length,ak,kQ]) rfl ?_|refine aa hX hC hP (zR) rfl rfl rfl (by simp only [go_sem,simprocAttr,vI_length,ak,kQ]) rfl ?_|refine aa hX hC hP (Aj) rfl rfl rfl (by simp only [go_sem,simprocAttr,vI_length,ak,kQ]) rfl ?_|refine aa hX hC hP (De) rfl rfl rfl (by simp only [go_sem,simprocAttr,vI_length,ak,kQ]) rfl ?_|refine aa hX hC hP (vY) rfl rfl rfl (by simp only [go_sem,simprocAttr,vI_length,ak,kQ]) rfl ?_);try simp only [go_sem,simprocAttr,vI_length,ak,kQ])|((with_reducible refine oD ?_ ?_);kernel_rfl)|((with_reducible intro h);try simp only [go_sem,simprocAttr,vI_length,ak,kQ] at h)|omega|intro h)
   refine au (fun j:Nat=>j≤l.length) (fun j=>⟨[(2, .ptr 2 0),(8, .d (.sl 1 (vI A))),(10, .d (.sl 1 (vI B))),(12, .ref 300),(58,eN A.length),(59,eN k),(14, .ref 401),(66, .d (sI l)),(67,eN l.length),(68,eN j)], [(300, .tip 25 1 (vI IA)),(401, .tip 3 1 (((l.take j).filter fun k=>decide (k<2*(g.es.length:Int))).map rI)),(2, .box [eN g.n, .d (sE g.es)])]⟩) (fun j=>l.length - j) 0 (by omega) ?_ ?_
   ·refine Le.of ?_ ?_<;>simp [go_sem,simprocAttr,vI_length,ak,kQ]
   rintro j hj
   rcases Nat.lt_or_ge j l.length with hjl|Ir
   ·have aE:decide ((j:Int)<(l.length:Int))=true:=decide_eq_true (by omega)
    have tR:=rW (f:=fun k=>decide (k<2*(g.es.length:Int))) hjl
    have hfl:=List.length_filter_le (fun k=>decide (k<2*(g.es.length:Int))) (l.take j)
    rw [List.length_take] at hfl
    generalize GM:(l.take (j+1)).filter (fun k=>decide (k<2*(g.es.length:Int)))=F2 at tR
    generalize (l.take j).filter (fun k=>decide (k<2*(g.es.length:Int)))=F1 at tR hfl
    generalize kZ:l.getD j 0=i at tR
    cases pg:decide (i<2*(g.es.length:Int)) with
    |true=>
     rw [if_pos pg] at tR
     repeat' (first|(show bZ _ (.region 22 _ _) _ _;(refine nh hX 14 81 401 (by simp only [go_sem,simprocAttr,vI_length,ak,kQ,aE,kZ,pg]) rfl (by first|exact .inl rfl|exact .inr rfl) (by decide) ?_;simp only [go_sem,simprocAttr,vI_length,ak,kQ,aE,kZ,pg]))|refine Rn.p ?_|(with_reducible apply And.intro)|((first|(refine hK _ ?_;clear hK K)|with_reducible intro K hK|refine Rs.p ?_|((with_reducible first|apply oP|apply oQ);exact rfl)|refine aa hX hC hP (cl) rfl rfl rfl (by simp only [go_sem,simprocAttr,vI_length,ak,kQ,aE,kZ,pg]) rfl ?_|refine aa hX hC hP (zR) rfl rfl rfl (by simp only [go_sem,simprocAttr,vI_length,ak,kQ,aE,kZ,pg]) rfl ?_|refine aa hX hC hP (Aj) rfl rfl rfl (by simp only [go_sem,simprocAttr,vI_length,ak,kQ,aE,kZ,pg]) rfl ?_|refine aa hX hC hP (De) rfl rfl rfl (by simp only [go_sem,simprocAttr,vI_length,ak,kQ,aE,kZ,pg]) rfl ?_|refine aa hX hC hP (vY) rfl rfl rfl (by simp only [go_sem,simprocAttr,vI_length,ak,kQ,aE,kZ,pg]) rfl ?_);try simp only [go_sem,simprocAttr,vI_length,ak,kQ,aE,kZ,pg])|((with_reducible refine oD ?_ ?_);kernel_rfl)|((with_reducible intro h);try simp only [go_sem,simprocAttr,vI_length,ak,kQ,aE,kZ,pg] at h)|omega|intro h)
     refine ⟨j+1,by omega, ?_,by omega⟩
     rw [GM,tR]
     refine Le.of ?_ ?_<;>simp [go_sem,simprocAttr,vI_length,ak,kQ,aE,kZ,pg,rI]
    |false=>
     rw [if_neg (by simpa using pg),List.append_nil] at tR
     repeat' (first|refine Rn.p ?_|(with_reducible apply And.intro)|((first|(refine hK _ ?_;clear hK K)|with_reducible intro K hK|refine Rs.p ?_|((with_reducible first|apply oP|apply oQ);exact rfl)|refine aa hX hC hP (cl) rfl rfl rfl (by simp only [go_sem,simprocAttr,vI_length,ak,kQ,aE,kZ,pg]) rfl ?_|refine aa hX hC hP (zR) rfl rfl rfl (by simp only [go_sem,simprocAttr,vI_length,ak,kQ,aE,kZ,pg]) rfl ?_|refine aa hX hC hP (Aj) rfl rfl rfl (by simp only [go_sem,simprocAttr,vI_length,ak,kQ,aE,kZ,pg]) rfl ?_|refine aa hX hC hP (De) rfl rfl rfl (by simp only [go_sem,simprocAttr,vI_length,ak,kQ,aE,kZ,pg]) rfl ?_|refine aa hX hC hP (vY) rfl rfl rfl (by simp only [go_sem,simprocAttr,vI_length,ak,kQ,aE,kZ,pg]) rfl ?_);try simp only [go_sem,simprocAttr,vI_length,ak,kQ,aE,kZ,pg])|((with_reducible refine oD ?_ ?_);kernel_rfl)|((with_reducible intro h);try simp only [go_sem,simprocAttr,vI_length,ak,kQ,aE,kZ,pg] at h)|omega|intro h)
     refine ⟨j+1,by omega, ?_,by omega⟩
     rw [GM,tR]
     refine Le.of ?_ ?_<;>simp [go_sem,simprocAttr,vI_length,ak,kQ,aE,kZ,pg]
   have aE:decide ((j:Int)<(l.length:Int))=false:=decide_eq_false (by omega)
   obtain rfl:j=l.length:=by omega
   rw [List.take_length,hf]
   have hla:la.length≤20000:=by
    rw [← hf]
    have:=List.length_filter_le (fun k=>decide (k<2*(g.es.length:Int))) l
    omega
   repeat' (first|(show bZ _ (.region 24 _ _) _ _;(refine nh hX 12 86 300 (by simp only [go_sem,simprocAttr,vI_length,ak,aE,rS]) rfl (by first|exact .inl rfl|exact .inr rfl) (by decide) ?_;simp only [go_sem,simprocAttr,vI_length,ak,aE,rS]))|refine Rn.p ?_|(with_reducible apply And.intro)|((first|(refine hK _ ?_;clear hK K)|with_reducible intro K hK|refine Rs.p ?_|((with_reducible first|apply oP|apply oQ);exact rfl)|refine aa hX hC hP (cl) rfl rfl rfl (by simp only [go_sem,simprocAttr,vI_length,ak,aE,rS]) rfl ?_|refine aa hX hC hP (zR) rfl rfl rfl (by simp only [go_sem,simprocAttr,vI_length,ak,aE,rS]) rfl ?_|refine aa hX hC hP (Aj) rfl rfl rfl (by simp only [go_sem,simprocAttr,vI_length,ak,aE,rS]) rfl ?_|refine aa hX hC hP (De) rfl rfl rfl (by simp only [go_sem,simprocAttr,vI_length,ak,aE,rS]) rfl ?_|refine aa hX hC hP (vY) rfl rfl rfl (by simp only [go_sem,simprocAttr,vI_length,ak,aE,rS]) rfl ?_);try simp only [go_sem,simprocAttr,vI_length,ak,aE,rS])|((with_reducible refine oD ?_ ?_);kernel_rfl)|((with_reducible intro h);try simp only [go_sem,simprocAttr,vI_length,ak,aE,rS] at h)|omega|intro h)
   refine ⟨k+1,by omega, ?_,by omega⟩
   rw [yM,k7]
   refine Le.of ?_ ?_<;>simp [go_sem,simprocAttr,vI_length,ak,aE,rS]
  have ak:decide ((k:Int)<(A.length:Int))=false:=decide_eq_false (by omega)
  obtain rfl:k=A.length:=by omega
  rw [List.take_length]
  repeat' (first|refine Rn.p ?_|(with_reducible apply And.intro)|((first|(refine hK _ ?_;clear hK K)|with_reducible intro K hK|refine Rs.p ?_|((with_reducible first|apply oP|apply oQ);exact rfl)|(refine bD hX hC hP (Iy) rfl rfl rfl ?_ ?_ rfl ?_;iterate 2 (focus (simp only [go_sem,simprocAttr,vI_length,ak];done))));try simp only [go_sem,simprocAttr,vI_length,ak])|((with_reducible refine oD ?_ ?_);kernel_rfl)|((with_reducible intro h);try simp only [go_sem,simprocAttr,vI_length,ak] at h)|omega|intro h)
end Go.Ab
end
