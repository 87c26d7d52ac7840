/- A part of the proof. -/
import Derived.Test.YtchjjbfhlchpfaaGreatL3P17
set_option linter.unusedSimpArgs false
set_option linter.unusedVariables false
section
namespace Go.Ab
open Go.Proofs
set_option maxRecDepth 10000
variable {g:Gr} {p:Pl}
theorem sr (h:aU g p) {k:Nat} :∀ {K:Nat},K≤g.n.toNat→k<g.n.toNat→(ck g p K).filter (fun e=>decide (e.2=aE p k))=if k<K then (loose (cn g p k)).map fun v=>(v,aE p k) else []
 |0,_,_=>by simp [ck]
 |K+1,hK,hk=>by
  rw [ck,List.filter_append,sr h (by omega) hk]
  by_cases e:k=K
  ·subst e
   rw [if_neg (by omega),if_pos (by omega),List.nil_append,List.filter_eq_self.2]
   intro e he
   obtain ⟨v,_,rfl⟩:=List.mem_map.1 he
   simp
  ·have:((loose (cn g p K)).map fun v=>(v,aE p K)).filter (fun e=>decide (e.2=aE p k))= []:=List.filter_eq_nil_iff.2 fun e' he=>by
    obtain ⟨v,_,rfl⟩:=List.mem_map.1 he
    simp only [decide_eq_true_eq]
    intro h2
    exact e (nt h hk (by omega) h2.symm)
   rw [this,List.append_nil]
   by_cases h3:k<K
   ·rw [if_pos h3,if_pos (by omega)]
   ·rw [if_neg h3,if_neg (by omega)]
theorem AX (hr:aX g p) {k:Nat} (hk:k<g.n.toNat):((aV g p).filter fun e=>decide (e.2=aE p k)).length=(loose (cn g p k)).length:=by
 have hx:=bI hr.2.1 hk
 rw [aV,List.filter_append,sr hr.2.1 (Nat.le_refl _) hk,if_pos hk]
 have:(newL g p).filter (fun e=>decide (e.2=aE p k))= []:=List.filter_eq_nil_iff.2 fun e' he=>by
  unfold newL at he
  split at he
  ·obtain ⟨v,_,rfl⟩:=List.mem_map.1 he
   simp only [decide_eq_true_eq];omega
  ·cases he
 rw [this];simp
theorem AY {l:List Int} (h:l.Nodup) {k:Nat} (hk:k<l.length):l.getD k 0∉l.take k:=by
 intro hm
 obtain ⟨j,hj,e⟩:=List.mem_iff_getElem.1 hm
 simp only [List.length_take] at hj
 have e2:l.getD j 0=l.getD k 0:=by
  rw [← e,List.getD_eq_getElem?_getD,List.getElem?_eq_getElem (by omega)]
  simp
 have:=jv h (by omega) hk e2
 omega
theorem take_at {p:Pl} {k:Nat} {v:Int} (hk:k≤p.ord.length) (h:v∈p.ord.take k):∃j,j<k∧aE p j=v:=by
 obtain ⟨j,hj,e⟩:=List.mem_iff_getElem.1 h
 simp only [List.length_take] at hj
 refine ⟨j,by omega, ?_⟩
 rw [← e,aE,List.getD_eq_getElem?_getD,List.getElem?_eq_getElem (by omega)]
 simp
theorem AZ {x:Int} {X:List It} (h:∀t∈X,(t.1<0↔¬t.2.2=x)):X.countP (jM x)+(loose X).length=X.length:=by
 rw [List.length_eq_countP_add_countP (jM x)]
 congr 1
 unfold loose
 rw [List.length_map, ← List.countP_eq_length_filter]
 refine List.countP_congr fun t ht=> ?_
 have:=h t ht
 simp only [jM,decide_eq_true_eq,Bool.not_eq_true,decide_eq_false_iff_not]
 exact this
theorem Qy (h:jY g p):∀ {k:Nat},k≤g.n.toNat→(∀j,j<k→o5 (ah g p) (bB g p) j=true)∧(fK (ah g p) (bB g p) k).row=(fK g p k).row.map (oU g.es.length (aV g p))
 |0,_=>⟨fun j hj=>by omega,rfl⟩
 |k+1,hk=>by
  have hr:=h.run
  have mK:=hr.2.1
  have hm:=an hr.1
  have xO:=nG h
  have hQ:=qn hr
  obtain ⟨sJ,BA⟩:=eZ hr
  have UK:=jD (g:=g) (p:=p)
  obtain ⟨Oq,hrow⟩:=Qy h (k:=k) (by omega)
  obtain ⟨hi,_,_⟩:=bS hm mK (k:=k) (by omega) fun j hj=>hr.2.2 j (by omega)
  obtain ⟨Ls,HA,_⟩:=bS xO hQ (k:=k) (by omega) Oq
  have hR:ak g (fK g p k) (aE p k)=true:=hr.2.2 k (by omega)
  have eo:=Jn hr (k:=k) (by omega)
  have hx:=bI mK (k:=k) (by omega)
  obtain ⟨Ip,GL⟩:=kY hm mK (k:=k) (by omega) fun j hj=>hr.2.2 j (by omega)
  have hlr:(loose (fK g p k).row).Nodup:=(List.nodup_append.1 Ip).2.1
  have hnot:aE p k∉(fK (ah g p) (bB g p) k).pl:=by
   rw [HA, ← eo]
   exact AY (cV hQ) (by rw [aR hQ];omega)
  have Lt:=AX hr (k:=k) (by omega)
  have b9:=vJ (g:=g) (p:=p) (x:=aE p k)
  have NB:=EO hr hx
  have hin:∀v,(v,aE p k)∈aV g p→v∈loose (cn g p k):=fun v hv=>by
   rcases vG hv with ⟨i,h1,h2,h3⟩|⟨_,h2,_⟩
   ·have:=nt mK (by omega) h1 h2
    subst this;exact h3
   ·omega
  have hout:∀v,v∈loose (cn g p k)→(v,aE p k)∈aV g p:=fun v hv=>List.mem_append_left _ (ql (by omega) hv)
  suffices hs:o5 (ah g p) (bB g p) k=true∧(fK (ah g p) (bB g p) (k+1)).row=(fK g p (k+1)).row.map (oU g.es.length (aV g p)) by
   refine ⟨fun j hj=> ?_,hs.2⟩
   by_cases e:j=k
   ·subst e;exact hs.1
   ·exact Oq j (by omega)
  have Th:(fK (ah g p) (bB g p) (k+1))=(az (ah g p) (fK (ah g p) (bB g p) k) (aE p k) (cl (bB g p) (aE p k))).2:=by
   rw [← eo];rfl
  have hfg:(fK g p (k+1))=(az g (fK g p k) (aE p k) (cl p (aE p k))).2:=rfl
  have hok:o5 (ah g p) (bB g p) k=ak (ah g p) (fK (ah g p) (bB g p) k) (aE p k):=by unfold o5;rw [eo]
  rw [Th,hfg,hok]
  have Fu:cn g p k=(az g (fK g p k) (aE p k) (cl p (aE p k))).1.1:=rfl
  generalize aE p k=x at*
  by_cases hn:bf g x=0
  ·have hno:=gQ hm hi.toer hx.1 hn
   rw [eY _ hno] at Fu
   have NC:bf (ah g p) x=0:=by rw [b9,hn,Lt,Fu];rfl
   have Qz:=gQ xO Ls.toer hx.1 NC
   refine ⟨?_, ?_⟩
   ·unfold ak
    rw [if_neg (by rintro (h|h|h);omega;omega;exact hnot h),if_pos NC]
   ·rw [eY _ hno,eY _ Qz]
    simp only [List.map_append]
    rw [NB,hrow]
  ·obtain ⟨A,X,C,hrw,nA,nC,hX,cX⟩:=bV hm hi.toer hR hn
   rw [eX _ hrw nA nC hX] at Fu
   simp only at Fu
   rw [Fu] at hin hout Lt
   have Ti:∀t∈X,t∈(fK g p k).row:=fun t ht=>by rw [hrw];simp [ht]
   have UL:∀t∈A,t∈(fK g p k).row:=fun t ht=>by rw [hrw];simp [ht]
   have UM:∀t∈C,t∈(fK g p k).row:=fun t ht=>by rw [hrw];simp [ht]
   have hit:∀t∈X,(t.1<0↔¬t.2.2=x):=fun t ht=>by
    have h1:=(hi.it t (Ti t ht)).head hm
    have h2:=hX.al t ht
    omega
   rw [hrw,cg,cg,List.nodup_append,List.nodup_append] at hlr
   have Ru:fX x (A.map (oU g.es.length (aV g p))):=fun t' ht'=>by
    obtain ⟨t,ht,rfl⟩:=List.mem_map.1 ht'
    by_cases h0:0≤t.1
    ·rw [qk h0];exact nA t ht
    ·rcases q9 (m:=g.es.length) sJ t.2.1 with ⟨h1,_⟩|⟨y,h1⟩
     ·rw [vE h1];exact nA t ht
     ·obtain ⟨j,_,h2,_⟩:=qj (m:=g.es.length) sJ h1
      rw [k4 (by omega) h2]
      intro e
      have e:y=x:=e
      subst e
      exact hlr.1.2.2 _ (nF ht (by omega)) _ (hin _ h1) rfl
   have Rv:fX x (C.map (oU g.es.length (aV g p))):=fun t' ht'=>by
    obtain ⟨t,ht,rfl⟩:=List.mem_map.1 ht'
    by_cases h0:0≤t.1
    ·rw [qk h0];exact nC t ht
    ·rcases q9 (m:=g.es.length) sJ t.2.1 with ⟨h1,_⟩|⟨y,h1⟩
     ·rw [vE h1];exact nC t ht
     ·obtain ⟨j,_,h2,_⟩:=qj (m:=g.es.length) sJ h1
      rw [k4 (by omega) h2]
      intro e
      have e:y=x:=e
      subst e
      exact hlr.2.2 _ (List.mem_append_right _ (hin _ h1)) _ (nF ht (by omega)) rfl
   have Jp:∀t∈X,(oU g.es.length (aV g p) t).2.2=x:=fun t ht=>by
    by_cases h0:0≤t.1
    ·rw [qk h0]
     have:=hit t ht
     omega
    ·obtain ⟨j,_,h2,_⟩:=qj (m:=g.es.length) sJ (hout _ (nF ht (by omega)))
     rw [k4 (by omega) h2]
   have Lk:Mid x (X.map (oU g.es.length (aV g p))):=by
    obtain ⟨q,X0,e1,_⟩:=hX.fst
    obtain ⟨X1,q',e2,_⟩:=hX.K6
    refine ⟨⟨oU g.es.length (aV g p) q,X0.map (oU g.es.length (aV g p)),by rw [e1];rfl,Jp q (by rw [e1];simp)⟩,⟨X1.map (oU g.es.length (aV g p)),oU g.es.length (aV g p) q',by rw [e2];simp,Jp q' (by rw [e2];simp)⟩,fun t' ht'=> ?_⟩
    obtain ⟨t,ht,rfl⟩:=List.mem_map.1 ht'
    exact .inl (Jp t ht)
   have wR:(X.map (oU g.es.length (aV g p))).countP (jM x)=bf (ah g p) x:=by
    have h1:(X.map (oU g.es.length (aV g p))).countP (jM x)=(X.map (oU g.es.length (aV g p))).length:=List.countP_eq_length.2 fun t' ht'=>by
     obtain ⟨t,ht,rfl⟩:=List.mem_map.1 ht'
     simp [jM,Jp t ht]
    rw [h1,List.length_map,b9,Lt, ← cX,AZ hit]
   have ND:(fK (ah g p) (bB g p) k).row=A.map (oU g.es.length (aV g p))++X.map (oU g.es.length (aV g p))++C.map (oU g.es.length (aV g p)):=by rw [hrow,hrw];simp
   refine ⟨jA xO Ls.toer hx.1 (by omega) hnot ND Ru Rv Lk wR, ?_⟩
   rw [eX _ hrw nA nC hX,eX _ ND Ru Rv Lk]
   simp only [List.map_append]
   rw [NB]
theorem Ds (hr:aX g p) {v:Int} {k:Nat} :∀ {K:Nat},k≤K→K≤g.n.toNat→v∈loose (fK g p k).row→(∃i,i<K∧v∈loose (cn g p i))∨v∈loose (fK g p K).row
 |0,h1,_,hv=>by
  obtain rfl:k=0:=by omega
  exact .inr hv
 |K+1,h1,h2,hv=>by
  by_cases e:k=K+1
  ·subst e;exact .inr hv
  ·rcases Ds hr (K:=K) (by omega) (by omega) hv with ⟨i,h3,h4⟩|h3
   ·exact .inl ⟨i,by omega,h4⟩
   ·have hm:=an hr.1
    obtain ⟨hi,_,_⟩:=bS hm hr.2.1 (k:=K) (by omega) fun j hj=>hr.2.2 j (by omega)
    obtain ⟨A,X,C,hrw,_,_,_,hs⟩:=fG hm hi.toer (hr.2.2 K (by omega))
    have hg:cn g p K=X:=by unfold cn;rw [hs]
    have hrow:(fK g p (K+1)).row=A++aL g (aE p K) (cl p (aE p K))++C:=by show (az _ _ _ _).2.row=_;rw [hs]
    rw [hrw,cg,cg,List.mem_append,List.mem_append] at h3
    rcases h3 with (h3|h3)|h3
    ·refine .inr ?_
     rw [hrow,cg,cg];simp [h3]
    ·exact .inl ⟨K,by omega,by rw [hg];exact h3⟩
    ·refine .inr ?_
     rw [hrow,cg,cg];simp [h3]
end Go.Ab
end
section
namespace Go.Ab
open Go.Proofs
set_option maxRecDepth 10000
variable {g:Gr} {p:Pl}
theorem Jq (hr:aX g p):aS g p≠ []:=by
 have hm:=an hr.1
 have hn:=aC hm
 obtain ⟨k,hk⟩:∃k,g.n.toNat=k+1:=⟨g.n.toNat - 1,by omega⟩
 obtain ⟨hi,_,_⟩:=bS hm hr.2.1 (k:=k) (by omega) fun j hj=>hr.2.2 j (by omega)
 obtain ⟨A,X,C,hrw,_,_,_,hs⟩:=fG hm hi.toer (hr.2.2 k (by omega))
 unfold aS
 rw [hk]
 show (az _ _ _ _).2.row≠ []
 rw [hs]
 have:=(jy (g:=g) (x:=aE p k) (outs:=cl p (aE p k))).1
 intro e
 have h2:=congrArg List.length e
 simp at h2
 rw [h2.2.1] at this
 simp at this
theorem ru (hr:aX g p):cl p (aE p (g.n.toNat - 1))= []∧aE p (g.n.toNat - 1)∈loose (aS g p):=by
 have hm:=an hr.1
 have hn:=aC hm
 obtain ⟨k,hk⟩:∃k,g.n.toNat=k+1:=⟨g.n.toNat - 1,by omega⟩
 obtain ⟨hi,_,_⟩:=bS hm hr.2.1 (k:=k) (by omega) fun j hj=>hr.2.2 j (by omega)
 obtain ⟨A,X,C,hrw,_,_,_,hs⟩:=fG hm hi.toer (hr.2.2 k (by omega))
 have hL:aS g p=A++aL g (aE p k) (cl p (aE p k))++C:=by
  unfold aS;rw [hk]
  show (az _ _ _ _).2.row=_
  rw [hs]
 have wN:g.n.toNat - 1=k:=by omega
 rw [wN]
 have fO:=oR hr
 have hx:=bI hr.2.1 (k:=k) (by omega)
 have h0:cl p (aE p k)= []:=by
  refine Decidable.byContradiction fun h0=> ?_
  have ha:aL g (aE p k) (cl p (aE p k))=(cl p (aE p k)).map (eL g (aE p k)):=if_neg h0
  obtain ⟨i,hi'⟩:=List.exists_mem_of_ne_nil _ h0
  have h1:=fO (eL g (aE p k) i) (by rw [hL,ha];simp;exact .inr (.inl ⟨i,hi',rfl⟩))
  obtain ⟨e,rfl,_⟩:=iu ((bX hr.2.1 hx.1 hx.2).mem_iff.1 hi')
  simp [eL] at h1
  omega
 refine ⟨h0, ?_⟩
 have ha:aL g (aE p k) (cl p (aE p k))= [(-1,aE p k, -1)]:=if_pos h0
 rw [hL,ha,cg,cg]
 simp [loose]
theorem HB (hr:aX g p) (hl:¬1<(aS g p).length) {v:Int} (hv:v∈loose (aS g p)):v=aE p (g.n.toNat - 1):=by
 have h1:=(ru hr).2
 have h2:(loose (aS g p)).length≤1:=Nat.le_trans nw (by omega)
 match hL:loose (aS g p),h2 with
 | [],_=>rw [hL] at hv;cases hv
 | [w],_=>
   rw [hL,List.mem_singleton] at hv h1
   rw [hv,h1]
theorem HC (h:jY g p) (hl:1<(aS g p).length):o5 (ah g p) (bB g p) g.n.toNat=true∧(fK (ah g p) (bB g p) (g.n.toNat+1)).row= [(-1,g.n, -1)]:=by
 have hr:=h.run
 have hm:=an hr.1
 have hn:=aC hm
 have xO:=nG h
 have hQ:=qn hr
 obtain ⟨sJ,BA⟩:=eZ hr
 obtain ⟨Oq,hrow⟩:=Qy h (k:=g.n.toNat) (Nat.le_refl _)
 have hG:(ah g p).n=g.n+1:=if_pos hl
 obtain ⟨Ls,HA,_⟩:=bS xO hQ (k:=g.n.toNat) (by omega) Oq
 have hx:=Jo hr hl
 have hnot:g.n∉(fK (ah g p) (bB g p) g.n.toNat).pl:=by
  rw [HA]
  have:=AY (cV hQ) (k:=g.n.toNat) (by rw [aR hQ];omega)
  rw [show (bB g p).ord.getD g.n.toNat 0=g.n from hx] at this
  exact this
 have fO:=oR hr
 have hrow:(fK (ah g p) (bB g p) g.n.toNat).row=(aS g p).map (oU g.es.length (aV g p)):=hrow
 have hmem:∀v∈loose (aS g p),(v,g.n)∈aV g p:=fun v hv=>by
  refine List.mem_append_right _ ?_
  unfold newL
  rw [if_pos hl]
  exact List.mem_map.2 ⟨v,hv,rfl⟩
 have Jp:∀t∈aS g p,(oU g.es.length (aV g p) t).2.2=g.n:=fun t ht=>by
  obtain ⟨j,_,h2,_⟩:=qj (m:=g.es.length) sJ (hmem _ (nF ht (fO t ht)))
  rw [k4 (fO t ht) h2]
 have Lk:Mid g.n ((aS g p).map (oU g.es.length (aV g p))):=by
  have hne:=Jq hr
  refine ⟨?_, ?_,fun t' ht'=> ?_⟩
  ·match hL:aS g p,hne with
   |t::l,_=>exact ⟨_,_,rfl,Jp t (by rw [hL];simp)⟩
  ·have e:=List.dropLast_concat_getLast hne
   refine ⟨(aS g p).dropLast.map (oU g.es.length (aV g p)),oU g.es.length (aV g p) ((aS g p).getLast hne), ?_,Jp _ (List.getLast_mem hne)⟩
   conv=>lhs;rw [← e]
   simp
  ·obtain ⟨t,ht,rfl⟩:=List.mem_map.1 ht'
   exact .inl (Jp t ht)
 have hno:bf g g.n=0:=by
  have:¬0<bf g g.n:=fun h0=>by
   obtain ⟨i,hi⟩:=List.exists_mem_of_length_pos h0
   obtain ⟨⟨h1,h2⟩,h3⟩:=gO hi
   have:=(cM hm (k:=i.toNat) (by omega)).2
   have h3:(g.es.getD i.toNat (0,0)).2=g.n:=h3
   omega
  omega
 have wR:((aS g p).map (oU g.es.length (aV g p))).countP (jM g.n)=bf (ah g p) g.n:=by
  have h1:((aS g p).map (oU g.es.length (aV g p))).countP (jM g.n)=((aS g p).map (oU g.es.length (aV g p))).length:=List.countP_eq_length.2 fun t' ht'=>by
   obtain ⟨t,ht,rfl⟩:=List.mem_map.1 ht'
   simp [jM,Jp t ht]
  have h2:(ck g p g.n.toNat).filter (fun e=>decide (e.2=g.n))= []:=List.filter_eq_nil_iff.2 fun e he=>by
   obtain ⟨i,hi,hx2,_⟩:=vF (v:=e.1) (x:=e.2) he
   have:=bI hr.2.1 hi
   simp only [decide_eq_true_eq];omega
  have h3:(newL g p).filter (fun e=>decide (e.2=g.n))=newL g p:=List.filter_eq_self.2 fun e he=>by
   unfold newL at he
   rw [if_pos hl] at he
   obtain ⟨v,_,rfl⟩:=List.mem_map.1 he
   simp
  have h4:(loose (aS g p)).length=(aS g p).length:=by
   unfold loose
   rw [List.length_map,List.filter_eq_self.2]
   intro t ht
   exact decide_eq_true (fO t ht)
  rw [h1,List.length_map,vJ,hno,aV,List.filter_append,h2,h3]
  unfold newL
  rw [if_pos hl]
  simp [h4]
 have ND:(fK (ah g p) (bB g p) g.n.toNat).row= []++(aS g p).map (oU g.es.length (aV g p))++ []:=by rw [hrow];simp
 have nil:fX g.n ([]:List It):=fun t ht=>by cases ht
 refine ⟨?_, ?_⟩
 ·unfold o5
  rw [hx]
  exact jA xO Ls.toer (by omega) (by omega) hnot ND nil nil Lk wR
 ·show (az _ _ _ _).2.row=_
  rw [hx,eX _ ND nil nil Lk,(tG hr hl).1]
  rfl
theorem Dt (h:jY g p):∀k,k<(ah g p).n.toNat→o5 (ah g p) (bB g p) k=true:=by
 have hn:=aC (an h.run.1)
 intro k hk
 by_cases hkn:k<g.n.toNat
 ·exact (Qy h (k:=g.n.toNat) (Nat.le_refl _)).1 k hkn
 ·by_cases hl:1<(aS g p).length
  ·have hG:(ah g p).n=g.n+1:=if_pos hl
   obtain rfl:k=g.n.toNat:=by omega
   exact (HC h hl).1
  ·have hG:(ah g p).n=g.n:=if_neg hl
   omega
theorem jf {f:Edge→Int} {g:Gr} {y:Int} :y∈bQ f g↔(0≤y∧y<g.n)∧aM f g.es g.es.length y= []:=by
 simp only [bQ,jo,List.mem_map,List.mem_filter,List.mem_range,decide_eq_true_eq]
 have he:∀x:Nat,x<g.n.toNat→(((dG f g).getD x []).length=0↔aM f g.es g.es.length (x:Int)= []):=by
  intro x hx
  have e:(dG f g).getD x []=aM f g.es g.es.length (x:Int):=by
   simp [dG,List.getD_eq_getElem?_getD,List.getElem?_range hx,mH]
  rw [e,List.length_eq_zero_iff]
 constructor
 ·rintro ⟨x,⟨hx,h0⟩,rfl⟩
  exact ⟨by simp;omega,(he x hx).1 h0⟩
 ·rintro ⟨⟨h1,h2⟩,h3⟩
  have e:((y.toNat:Nat):Int)=y:=by omega
  exact ⟨y.toNat,⟨by omega,(he _ (by omega)).2 (by rw [e];exact h3)⟩,e⟩
theorem zh {l:List Int} (hd:l.Nodup) {s:Int} (h:∀y∈l,y=s):l.length≤1:=by
 match l,hd,h with
 | [],_,_=>simp
 | [_],_,_=>simp
 |a::b::l,hd,h=>
  rw [List.nodup_cons] at hd
  exact absurd (by rw [h a (by simp),h b (by simp)];simp) hd.1
theorem A0 (h:jY g p):(bL (ah g p)).1=0:=by
 have hr:=h.run
 have hm:=an hr.1
 have hn:=aC hm
 have xO:=nG h
 have hQ:=qn hr
 have NF:=Dt h
 have hna:=jD (g:=g) (p:=p)
 obtain ⟨sJ,BA⟩:=eZ hr
 have Rw:∀i,i<(ah g p).es.length→∃j k,j<k∧k<(ah g p).n.toNat∧tl (ah g p) i=aE (bB g p) j∧hd (ah g p) i=aE (bB g p) k:=fun i hi=>by
  have hh:=(cM xO hi).2
  obtain ⟨k,hk,e⟩:=gX hQ hh.1 hh.2
  obtain ⟨Ls,HA,_⟩:=bS xO hQ (k:=k) (by omega) fun j hj=>NF j (by omega)
  obtain ⟨t,ht,e1,e2,_⟩:=vl xO Ls (NF k hk) hi e.symm
  have hin:=Ls.tail t ht (by omega)
  rw [HA] at hin
  obtain ⟨j,hj,e3⟩:=take_at (by rw [aR hQ];omega) hin
  exact ⟨j,k,hj,hk,by rw [← e2,e3],e.symm⟩
 have HD:Dc (ah g p)=true:=(tF xO).2 ⟨fun v=>(b7 (fun y=>decide (y=v)) (bB g p).ord).toNat,fun i hi=>by
  obtain ⟨j,k,hjk,hk,e1,e2⟩:=Rw i hi
  have qD:∀q,q<(ah g p).n.toNat→b7 (fun y=>decide (y=aE (bB g p) q)) (bB g p).ord=q:=fun q hq=>
   di (d:=0) (by rw [aR hQ];exact hq) (fun i' hi'=>decide_eq_false fun e=>by
    have:=nt hQ (by omega) hq e
    omega) (decide_eq_true rfl)
  simp only
  rw [e1,e2,qD j (by omega),qD k hk]
  omega⟩
 have HE:¬0≤jt (ah g p):=fun hl=>by
  have h1:=fL (fun e:Edge=>decide (e.1=e.2)) (ah g p).es
  have h0:decide (0≤b7 (fun e:Edge=>decide (e.1=e.2)) (ah g p).es)=true:=decide_eq_true hl
  rw [h0] at h1
  obtain ⟨e,he,h2⟩:=List.any_eq_true.1 h1.symm
  obtain ⟨i,hi,rfl⟩:=List.mem_iff_getElem.1 he
  obtain ⟨j,k,hjk,hk,e1,e2⟩:=Rw i hi
  have h3:tl (ah g p) i=hd (ah g p) i:=by simpa [tl,hd,List.getD_eq_getElem?_getD,List.getElem?_eq_getElem hi] using h2
  have:=nt hQ (by omega) hk (e1.symm.trans (h3.trans e2))
  omega
 have GU:¬0≤dX (ah g p):=fun ht=>by
  obtain ⟨i,k,hi,hk,hik,e⟩:=(je _).1 ht
  have hgt:¬0≤dX g:=by
   have:=hr.1
   unfold bL fT at this
   intro h2
   split at this
   ·cases this
   split at this
   ·cases this
   cases this
  have hel:(ah g p).es.length=g.es.length+(aV g p).length:=List.length_append
  have mixed:∀a b,a<g.es.length→b<(aV g p).length→g.es.getD a (0,0)≠(aV g p).getD b (0,0):=fun a b ha hb e=>by
   obtain ⟨q0,q1⟩:=BA _ (aD (d:=(0,0)) hb)
   have hz:=(kZ hr.2.1 q0.1 q0.2).2 q1
   have:(a:Int)∈aY g ((aV g p).getD b (0,0)).1:=mJ.2 ⟨⟨by omega,by omega⟩,by rw [Int.toNat_natCast,e]⟩
   rw [hz] at this
   cases this
  by_cases h1:i<g.es.length
  ·by_cases h2:k<g.es.length
   ·rw [gU i h1,gU k h2] at e
    exact hgt ((je g).2 ⟨i,k,h1,h2,hik,e⟩)
   ·obtain ⟨b,rfl⟩:∃b,k=g.es.length+b:=⟨k - g.es.length,by omega⟩
    rw [gU i h1,iP] at e
    exact mixed i b h1 (by omega) e
  ·obtain ⟨a,rfl⟩:∃a,i=g.es.length+a:=⟨i - g.es.length,by omega⟩
   by_cases h2:k<g.es.length
   ·rw [gU k h2,iP] at e
    exact mixed k a h2 (by omega) e.symm
   ·obtain ⟨b,rfl⟩:∃b,k=g.es.length+b:=⟨k - g.es.length,by omega⟩
    rw [iP,iP] at e
    have e1:∀q,q<(aV g p).length→((aV g p).map (·.1)).getD q 0=((aV g p).getD q (0,0)).1:=fun q hq=>by
     simp [List.getD_eq_getElem?_getD,List.getElem?_eq_getElem hq]
    have:=jv sJ (i:=a) (j:=b) (by simp;omega) (by simp;omega) (by rw [e1 a (by omega),e1 b (by omega),e])
    omega
 have HF:¬1<(bQ (·.2) (ah g p)).length:=fun hb=>by
  obtain ⟨s,hs⟩:∃s,∀y∈bQ (·.2) (ah g p),y=s:=by
   refine ⟨aE p 0,fun y hy=> ?_⟩
   obtain ⟨⟨y0,y1⟩,y2⟩:=nk.1 hy
   rw [vJ] at y2
   have yn:y<g.n:=by
    refine Decidable.byContradiction fun Lc=> ?_
    have hl:1<(aS g p).length:=Decidable.byContradiction fun hl=>by
     have hG:(ah g p).n=g.n:=if_neg hl
     omega
    have e:y=g.n:=by have hG:(ah g p).n=g.n+1:=if_pos hl;omega
    have ue:=(ru hr).2
    have:(aE p (g.n.toNat - 1),y)∈(aV g p).filter fun e=>decide (e.2=y):=List.mem_filter.2 ⟨List.mem_append_right _ (by
     unfold newL
     rw [if_pos hl]
     exact List.mem_map.2 ⟨_,ue,by rw [e]⟩),by simp⟩
    have:=List.length_pos_of_mem this
    omega
   have h0:=bI hr.2.1 (k:=0) (by omega)
   refine jU hr.1 ⟨y0,yn⟩ h0 (by omega) ?_
   refine Decidable.byContradiction fun hnz=> ?_
   obtain ⟨A,X,C,hrw,_,_,hX,_⟩:=bV hm (qe g).toer (hr.2.2 0 (by omega)) hnz
   obtain ⟨q,X0,e1,_⟩:=hX.fst
   rw [e1] at hrw
   simp at hrw
  have:=zh eM hs
  omega
 unfold bL fT
 rw [if_neg (by simp [xO]),if_neg HE,if_neg GU,if_neg (by rw [zg xO HD];simp),if_neg HF]
theorem jE (h:jY g p):aX (ah g p) (bB g p):=⟨A0 h,qn h.run,Dt h⟩
theorem Cn (h:jY g p):o7 (ah g p)=true:=by
 have hr:=h.run
 have hm:=an hr.1
 have hn:=aC hm
 have hna:=jD (g:=g) (p:=p)
 obtain ⟨sJ,BA⟩:=eZ hr
 unfold o7
 rw [decide_eq_true (A0 h),Bool.true_and,decide_eq_true_eq]
 obtain ⟨Ip,GL⟩:=kY hm hr.2.1 (k:=g.n.toNat) (Nat.le_refl _) hr.2.2
 have key:∀y,0≤y∧y<g.n→aY (ah g p) y= []→¬1<(aS g p).length∧y∈loose (aS g p):=fun y hy hz=>by
  have hs:cl p y= []:=by
   refine Decidable.byContradiction fun hs=> ?_
   rw [vH hr hy hs] at hz
   exact hs ((kZ hr.2.1 hy.1 hy.2).1 hz)
  obtain ⟨s1,_⟩:=rq hr hy hs
  have hno:∀x,(y,x)∉aV g p:=fun x hx=>by
   obtain ⟨j,_,h2,_⟩:=s1 x hx
   rw [hz] at h2;cases h2
  obtain ⟨k,hk,e⟩:=gX hr.2.1 hy.1 hy.2
  obtain ⟨hi,_,_⟩:=bS hm hr.2.1 (k:=k) (by omega) fun j hj=>hr.2.2 j (by omega)
  obtain ⟨A,X,C,hrw,_,_,_,hs'⟩:=fG hm hi.toer (hr.2.2 k hk)
  have hin:y∈loose (fK g p (k+1)).row:=by
   have hrow:(fK g p (k+1)).row=A++aL g (aE p k) (cl p (aE p k))++C:=by show (az _ _ _ _).2.row=_;rw [hs']
   rw [hrow,e,hs,cg,cg]
   simp [aL,loose]
  rcases Ds hr (K:=g.n.toNat) (by omega) (Nat.le_refl _) hin with ⟨i,h1,h2⟩|h2
  ·exact absurd (List.mem_append_left _ (ql h1 h2)) (hno _)
  ·refine ⟨fun hl=>hno g.n (List.mem_append_right _ ?_),h2⟩
   unfold newL
   rw [if_pos hl]
   exact List.mem_map.2 ⟨_,h2,rfl⟩
 have UN:(bQ (·.1) (ah g p)).length≤1:=by
  by_cases hl:1<(aS g p).length
  ·refine zh (s:=g.n) eM fun y hy=> ?_
   obtain ⟨hy1,hy2⟩:=jf.1 hy
   refine Decidable.byContradiction fun hne=> ?_
   have hG:(ah g p).n=g.n+1:=if_pos hl
   exact (key y ⟨hy1.1,by omega⟩ hy2).1 hl
  ·refine zh (s:=aE p (g.n.toNat - 1)) eM fun y hy=> ?_
   obtain ⟨hy1,hy2⟩:=jf.1 hy
   have hG:(ah g p).n=g.n:=if_neg hl
   exact HB hr hl (key y ⟨hy1.1,by omega⟩ hy2).2
 have UO:0<(bQ (·.1) (ah g p)).length:=by
  by_cases hl:1<(aS g p).length
  ·have hG:(ah g p).n=g.n+1:=if_pos hl
   exact List.length_pos_of_mem (jf.2 ⟨⟨by omega,by omega⟩,(tG hr hl).2⟩:g.n∈bQ (·.1) (ah g p))
  ·have hw:=bI hr.2.1 (k:=g.n.toNat - 1) (by omega)
   obtain ⟨h1,h2⟩:=ru hr
   refine List.length_pos_of_mem (jf.2 ⟨⟨hw.1,by omega⟩,(rq hr hw h1).2 fun e he h3=> ?_⟩:aE p (g.n.toNat - 1)∈bQ (·.1) (ah g p))
   rcases vG (v:=e.1) (x:=e.2) he with ⟨i,h4,_,h5⟩|⟨h4,_⟩
   ·exact (List.nodup_append.1 Ip).2.2 e.1 (List.mem_map.2 ⟨_,ql h4 h5,rfl⟩) _ h2 h3
   ·exact hl h4
 omega
end Go.Ab
end
section
namespace Go.Ab
open Go.Proofs
set_option maxRecDepth 10000
def gj (l:List It):List It:=l.filter fun t=>decide (0≤t.1)
theorem nH {a b:List It} :gj (a++b)=gj a++gj b:=by simp [gj]
theorem e8 {l:List It} {t:It} :t∈gj l↔t∈l∧0≤t.1:=by simp [gj]
theorem tH {x:Int} {l:List It} (h:fX x l):fX x (gj l):=fun t ht=>h t (e8.1 ht).1
def wX (x:Int) (l:List It):Prop:=∀t∈l,t.2.2=x
theorem ry {g:Gr} {x:Int} {o:List Int} (ho:∀i∈o,0≤i):gj (aL g x o)=o.map (eL g x):=by
 unfold aL
 split
 ·rename_i h;subst h;rfl
 ·refine List.filter_eq_self.2 fun t ht=> ?_
  obtain ⟨i,hi,rfl⟩:=List.mem_map.1 ht
  exact decide_eq_true (ho i hi)
theorem xP {x:Int} :∀ {X Y c d:List It},wX x X→wX x Y→fX x c→fX x d→X++c=Y++d→X=Y∧c=d
 | [], [],c,d,_,_,_,_,e=>⟨rfl,e⟩
 | [],u::Y,c,d,_,hY,hc,_,e=>by
   simp only [List.nil_append] at e
   exact absurd (hY u (by simp)) (hc u (by rw [e];simp))
 |t::X, [],c,d,hX,_,_,hd,e=>by
  simp only [List.nil_append] at e
  exact absurd (hX t (by simp)) (hd t (by rw [← e];simp))
 |t::X,u::Y,c,d,hX,hY,hc,hd,e=>by
  simp only [List.cons_append,List.cons.injEq] at e
  obtain ⟨e1,e2⟩:=xP (fun s hs=>hX s (by simp [hs])) (fun s hs=>hY s (by simp [hs])) hc hd e.2
  exact ⟨by rw [e.1,e1],e2⟩
theorem A1 {x:Int} :∀ {a b X Y c d:List It},fX x a→fX x b→wX x X→wX x Y→fX x c→fX x d→X≠ []→Y≠ []→a++X++c=b++Y++d→a=b∧X=Y∧c=d
 |t::a, [],X,u::Y,c,d,ha,_,_,hY,_,_,_,_,e=>by
  simp only [List.cons_append,List.nil_append,List.cons.injEq] at e
  exact absurd (by rw [e.1];exact hY u (by simp)) (ha t (by simp))
 | [],t::b,u::X,Y,c,d,_,hb,hX,_,_,_,_,_,e=>by
   simp only [List.cons_append,List.nil_append,List.cons.injEq] at e
   exact absurd (by rw [← e.1];exact hX u (by simp)) (hb t (by simp))
 |t::a,u::b,X,Y,c,d,ha,hb,hX,hY,hc,hd,nX,nY,e=>by
  simp only [List.cons_append,List.cons.injEq] at e
  obtain ⟨e1,e2,e3⟩:=A1 (fun s hs=>ha s (by simp [hs])) (fun s hs=>hb s (by simp [hs])) hX hY hc hd nX nY e.2
  exact ⟨by rw [e.1,e1],e2,e3⟩
 | [], [],X,Y,c,d,_,_,hX,hY,hc,hd,_,_,e=>by
   refine ⟨rfl, ?_⟩
   simp only [List.nil_append] at e
   exact xP hX hY hc hd e
 | [],_::_, [],_,_,_,_,_,_,_,_,_,h,_,_=>absurd rfl h
 |_::_, [],_, [],_,_,_,_,_,_,_,_,_,h,_=>absurd rfl h
theorem A2 {g:Gr} (hm:aN g=true) {f:Fr} (hi:er g f) {x:Int} (hR:ak g f x=true) (hn:bf g x≠0):
 ∃a X c,gj f.row=a++X++c∧fX x a∧fX x c∧wX x X∧X.length=bf g x∧∀o,gj (az g f x o).2.row=a++gj (aL g x o)++c:=by
 obtain ⟨A,X,C,hr,hA,hC,hX,cX⟩:=bV hm hi hR hn
 have hx:=(aB hR).1
 have hmem:∀t∈X,t∈f.row:=fun t ht=>by rw [hr];simp [ht]
 have hiff:∀t∈X,(0≤t.1↔t.2.2=x):=fun t ht=>by
  have h1:=(hi.it t (hmem t ht)).head hm
  have h2:=hX.al t ht
  omega
 refine ⟨gj A,gj X,gj C,by rw [hr,nH,nH],tH hA,tH hC,fun t ht=> ?_, ?_,fun o=> ?_⟩
 ·obtain ⟨h1,h2⟩:=e8.1 ht
  exact (hiff t h1).1 h2
 ·rw [← cX,gj, ← List.countP_eq_length_filter]
  refine List.countP_congr fun t ht=> ?_
  simp only [jM,decide_eq_true_eq]
  exact hiff t ht
 ·rw [eX o hr hA hC hX]
  simp only [nH]
theorem Du {g:Gr} (hm:aN g=true) {f:Fr} (hi:er g f) {x:Int} (hR:ak g f x=true) (hn:bf g x≠0) {a X c:List It} (e:gj f.row=a++X++c) (ha:fX x a) (hc:fX x c) (hX:wX x X) (nX:X≠ []) (o:List Int):
 gj (az g f x o).2.row=a++gj (aL g x o)++c:=by
 obtain ⟨b,Y,d,e',hb,hd,hY,lY,hs⟩:=A2 hm hi hR hn
 have nY:Y≠ []:=fun h=>hn (by rw [← lY,h];rfl)
 obtain ⟨e1,_,e3⟩:=A1 hb ha hY hX hd hc nY nX (e'.symm.trans e)
 rw [hs o,e1,e3]
theorem A3 {g:Gr} (hm:aN g=true) {f:Fr} (hi:er g f) {x:Int} (h0:0≤x) (h1:x<g.n) (hp:x∉f.pl) {a X c:List It} (e:gj f.row=a++X++c) (ha:fX x a) (hc:fX x c) (hX:wX x X) (nX:X≠ []) (hl:X.length=bf g x):ak g f x=true:=by
 have hmem:∀j,j<f.row.length→Ch g (f.row.getD j (0,0,0)):=fun j hj=>hi.it _ (aD hj)
 have wR:f.row.countP (jM x)=X.length:=by
  have h2:f.row.countP (jM x)=(gj f.row).countP (jM x):=by
   rw [gj,List.countP_filter]
   refine List.countP_congr fun t ht=> ?_
   have:=(hi.it t ht).head hm
   simp only [jM,Bool.and_eq_true,decide_eq_true_eq]
   omega
  have c1:a.countP (jM x)=0:=List.countP_eq_zero.2 fun t ht=>by simp [jM,ha t ht]
  have c2:c.countP (jM x)=0:=List.countP_eq_zero.2 fun t ht=>by simp [jM,hc t ht]
  have c3:X.countP (jM x)=X.length:=List.countP_eq_length.2 fun t ht=>by simp [jM,hX t ht]
  rw [h2,e,List.countP_append,List.countP_append,c1,c2,c3]
  omega
 rw [← jz hm hi,fh,if_neg (by rintro (h|h|h);omega;omega;exact hp h),gP h0 h1,Bool.and_eq_true,decide_eq_true_eq]
 have hN:(aM (fun e=>e.2) g.es g.es.length x).length=bf g x:=rfl
 rw [hN]
 refine ⟨?_, ?_⟩
 ·unfold bu
  rw [kR,lR (Nat.le_refl _),List.take_length,wR,hl]
 ·rw [Bool.or_eq_true];right
  rcases dw (row:=f.row) (x:=x) f.row.length with ⟨hs,hno⟩|⟨p,q,n,hs,hab,pq,hc0,hcl,hpx,QA,hlo,hhi⟩
  ·have hs':bu f.row x=(-1,0,0):=hs
   rw [hs'];simp [r8]
  ·have hs':bu f.row x=((p:Int),(q:Int),(n:Int)):=hs
   rw [hs']
   simp only [Int.toNat_natCast,r8,Bool.not_eq_true']
   rw [← Bool.not_eq_true,xE pq]
   rintro ⟨j,h2,h3,h4⟩
   simp only [lQ,Bool.and_eq_true,decide_eq_true_eq] at h4
   have hja:p<j:=by
    refine Nat.lt_of_le_of_ne h2 fun e=> ?_
    subst e;exact h4.1 hpx
   have hjb:j<q - 1:=by
    refine Nat.lt_of_le_of_ne (by omega) fun e=> ?_
    subst e;exact h4.1 QA
   have hsub:=((vm (i:=j+1) (j:=q - 1) (vm (i:=p+1) (j:=j) (vm (i:=0) (j:=p) (List.nil_sublist _) (by omega) (by omega)) (by omega) (by omega)) (by omega) (by omega)).trans (List.take_sublist _ f.row)).filter fun t=>decide (0≤t.1)
   have hp1:=(hmem p (by omega)).head hm
   have Rx:=(hmem j (by omega)).head hm
   have hq1:=(hmem (q - 1) (by omega)).head hm
   generalize f.row.getD p (0,0,0)=s1 at hsub hp1 hpx
   generalize f.row.getD j (0,0,0)=s2 at hsub Rx h4
   generalize f.row.getD (q - 1) (0,0,0)=s3 at hsub hq1 QA
   have hf:([]++ [s1]++ [s2]++ [s3]).filter (fun t=>decide (0≤t.1))= [s1,s2,s3]:=List.filter_eq_self.2 fun t ht=>by
    simp only [List.nil_append,List.cons_append,List.mem_cons,List.not_mem_nil,or_false] at ht
    rcases ht with rfl|rfl|rfl
    ·exact decide_eq_true (hp1.1.2 (by omega))
    ·exact decide_eq_true (Rx.1.2 h4.2)
    ·exact decide_eq_true (hq1.1.2 (by omega))
   rw [hf] at hsub
   have hsub: [s1,s2,s3].Sublist (a++(X++c)):=by rw [← List.append_assoc, ← e];exact hsub
   rw [List.sublist_append_iff] at hsub
   obtain ⟨l1,l',el,k1,k'⟩:=hsub
   rw [List.sublist_append_iff] at k'
   obtain ⟨l2,l3,rfl,k2,k3⟩:=k'
   match l1,el,k1 with
   |t::l1,el,k1=>
    simp only [List.cons_append,List.cons.injEq] at el
    exact ha t (k1.subset (by simp)) (by rw [← el.1];exact hpx)
   | [],el,_=>
     match l2,el,k2 with
     | [],el,_=>
       simp only [List.nil_append] at el
       exact hc s1 (k3.subset (by rw [← el];simp)) hpx
     | [t],el,_=>
       simp only [List.nil_append,List.cons_append,List.cons.injEq] at el
       exact hc s3 (k3.subset (by rw [← el.2];simp)) QA
     |t::u::l2,el,k2=>
      simp only [List.nil_append,List.cons_append,List.cons.injEq] at el
      exact h4.1 (by rw [el.2.1];exact hX u (k2.subset (by simp)))
end Go.Ab
end
section
namespace Go.Ab
open Go.Proofs
set_option maxRecDepth 10000
def NG (gone:List Int) (i:Nat):Bool:= !decide ((i:Int)∈gone)
def LN (gone:List Int) (k:Nat):List Nat:=(List.range k).filter (NG gone)
def Tj (gone:List Int) (k:Nat):Nat:=(LN gone k).length
def QB (gone:List Int) (es:List Edge) (k:Nat):List Edge:=(LN gone k).map fun i=>es.getD i (0,0)
def Tk (g:Gr) (gone:List Int):Gr:=⟨g.n,QB gone g.es g.es.length⟩
def Ry (gone:List Int) (i:Int):Int:=if i∈gone then -1 else (Tj gone i.toNat:Int)
def QC (gone:List Int) (l:List Int):List Int:=(l.filter fun i=>decide (i∉gone)).map (Ry gone)
def Tl (p:Pl) (gone:List Int):Pl:=⟨p.ord,p.outs.map (QC gone)⟩
variable {g:Gr} {p:Pl} {gone:List Int}
def Tm (gone:List Int) (t:It):It:=(Ry gone t.1,t.2.1,t.2.2)
def Tn (gone:List Int) (l:List It):List It:=(l.filter fun t=>decide (t.1∉gone)).map (Tm gone)
theorem EP (hr:aX g p):bf g (aE p 0)=0:=by
 have hm:=an hr.1
 have hn:=aC hm
 refine Decidable.byContradiction fun hnz=> ?_
 obtain ⟨A,X,C,hrw,_,_,hX,_⟩:=bV hm (qe g).toer (hr.2.2 0 (by omega)) hnz
 obtain ⟨q,X0,e1,_⟩:=hX.fst
 rw [e1] at hrw
 simp at hrw
end Go.Ab
end
section
namespace Go.Ab
open Go.Proofs
set_option maxRecDepth 10000
theorem Dv {g:Gr} (hm:aN g=true) {f:Fr} (hi:er g f) {x:Int} (hR:ak g f x=true) (hn:bf g x≠0) (o:List Int):
 ∃a c,gj f.row=a++gj (az g f x o).1.1++c∧fX x a∧fX x c∧wX x (gj (az g f x o).1.1)∧(gj (az g f x o).1.1).length=bf g x∧gj (az g f x o).2.row=a++gj (aL g x o)++c:=by
 obtain ⟨A,X,C,hr,hA,hC,hX,hc⟩:=bV hm hi hR hn
 have hx:=(aB hR).1
 have hmem:∀t∈X,t∈f.row:=fun t ht=>by rw [hr];simp [ht]
 have hiff:∀t∈X,(0≤t.1↔t.2.2=x):=fun t ht=>by
  have h1:=(hi.it t (hmem t ht)).head hm
  have h2:=hX.al t ht
  constructor
  ·intro h;rcases h2 with h2|h2
   ·exact h2
   ·exact absurd h2 (h1.1.1 h)
  ·intro h;exact h1.1.2 (by omega)
 rw [eX o hr hA hC hX]
 refine ⟨gj A,gj C,by rw [hr,nH,nH],tH hA,tH hC,fun t ht=> ?_, ?_,by simp only [nH]⟩
 ·obtain ⟨h1,h2⟩:=e8.1 ht
  exact (hiff t h1).1 h2
 ·rw [← hc,gj, ← List.countP_eq_length_filter]
  refine List.countP_congr fun t ht=> ?_
  simp only [jM,decide_eq_true_eq]
  exact hiff t ht
def nM (g:Gr) (p:Pl) (x:Int):List Int:=(gj ((dY g p g.n.toNat).getD x.toNat [])).map (·.1)
def qo (g:Gr) (p:Pl) (f:Fr) (x:Int):List Int:=(gj (az g f x (cl p x)).1.1).map (·.1)
def vK (g:Gr) (p:Pl):Nat→Fr→Prop
 |0,f=>(f.pl.length:Int)=g.n
 |m+1,f=>∃x,ak g f x=true∧qo g p f x=nM g p x∧vK g p m (sj g p f x)
theorem vM {g:Gr} {p:Pl} :∀ {m:Nat} {f f':Fr},f.row=f'.row→f.pl.Perm f'.pl→vK g p m f→vK g p m f'
 |0,f,f',_,hp,h=>by
  have h:(f.pl.length:Int)=g.n:=h
  show (f'.pl.length:Int)=g.n
  rw [← hp.length_eq];exact h
 |m+1,f,f',hr,hp,⟨x,h1,h3,h2⟩=>by
  refine ⟨x,by rw [← si hr hp];exact h1, ?_,vM ?_ ?_ h2⟩
  ·simp only [qo,az,hr] at h3 ⊢;exact h3
  ·simp only [sj,az,hr]
  ·exact hp.append_right _
theorem xQ {g:Gr} (hc:(bL g).1=0) {p:Pl} (hp:aU g p):∀ {m:Nat} {f:Fr},xF g f→(f.pl.length:Int)+(m+1:Nat)=g.n→vK g p (m+1) f→∀ {x:Int},ak g f x=true→qo g p f x=nM g p x∧vK g p m (sj g p f x)
 |m,f,hi,hl,⟨y,sR,Ot,hcan⟩,x,hR=>by
  have hm:=an hc
  by_cases hxy:x=y
  ·subst hxy;exact ⟨Ot,hcan⟩
  have py:=bX hp (aB sR).1 (aB sR).2.1
  have px:=bX hp (aB hR).1 (aB hR).2.1
  have i2:=iw hm hi sR py
  match m,hl,hcan with
  |0,hl,hcan=>
   exfalso
   have h1:=kU i2.toer (by show ((f.pl++ [y]).length:Int)=g.n;simp;omega) (x:=x) ⟨(aB hR).1,(aB hR).2.1⟩
   have h2:x∈f.pl++ [y]:=h1
   simp [(aB hR).2.2,hxy] at h2
  |m+1,hl,hcan=>
   obtain ⟨h4,h5,h6,h7,h8⟩:=xG hc hi hxy hR sR px py
   obtain ⟨h9,h3⟩:=xQ hc hp i2 (by show (((f.pl++ [y]).length:Nat):Int)+_=_;simp;omega) hcan h5
   refine ⟨?_,y,h4, ?_,vM h6.symm ?_ h3⟩
   ·unfold qo at h9 ⊢;rw [h7];exact h9
   ·unfold qo at Ot ⊢;rw [h8] at Ot;exact Ot
   show (f.pl++ [y]++ [x]).Perm (f.pl++ [x]++ [y])
   rw [List.append_assoc,List.append_assoc]
   exact List.Perm.append_left _ (List.Perm.swap ..)
theorem Dw {g:Gr} (hc:(bL g).1=0) {p:Pl} (hp:aU g p):∀ {m:Nat} {f:Fr},xF g f→vK g p m f→∀ {i:Nat},i<g.es.length→tl g i∈f.pl→hd g i∉f.pl→∃t∈f.row,t.1=(i:Int)
 |0,f,hi,h,i,hil,_,hh=>by
  have hr:=bH (an hc) hil
  exact absurd (kU hi.toer h (x:=hd g i) hr) hh
 |m+1,f,hi,⟨x,hR,_,h⟩,i,hil,ht,hh=>by
  have hm:=an hc
  have px:=bX hp (aB hR).1 (aB hR).2.1
  by_cases hx:hd g i=x
  ·obtain ⟨t,h1,h2,_⟩:=vl hm hi hR hil hx
   exact ⟨t,h1,h2⟩
  ·obtain ⟨t,h1,h2⟩:=Dw hc hp (iw hm hi hR px) h hil (List.mem_append.2 (.inl ht)) (fun h1=>by
    rcases List.mem_append.1 h1 with h1|h1
    ·exact hh h1
    ·exact hx (by simpa using h1))
   obtain ⟨A,X,C,hr,_,_,_,hs⟩:=fG hm hi.toer hR
   rw [hs] at h1
   simp only [List.mem_append] at h1
   rcases h1 with (h1|h1)|h1
   ·exact ⟨t,by rw [hr];simp [h1],h2⟩
   ·rcases kT (fun i hi=>px.mem_iff.1 hi) h1 with ⟨h3,_⟩|⟨k,h3,h4,h5,_,h6,_⟩
    ·omega
    ·have:k=i:=by omega
     subst this
     exact absurd (h6 ▸ ht) (aB hR).2.2
   ·exact ⟨t,by rw [hr];simp [h1],h2⟩
def fe (g:Gr) (e:Int):Int:=(g.es.getD e.toNat (0,0)).1
def ez (g:Gr) (e:Int):Int:=(g.es.getD e.toNat (0,0)).2
def Iv (g:Gr) (x:Int):Prop:=0≤x∧x<g.n
instance {g:Gr} {x:Int} :Decidable (Iv g x):=inferInstanceAs (Decidable (0≤x∧x<g.n))
def vN (g:Gr) (p:Pl) (k:Nat) (W D:List Int):Prop:=∃f,xF g f∧f.pl=D∧W=(gj f.row).map (·.1)∧vK g p k f∧(D.length:Int)+k=g.n∧aE p 0∈D
def QD (g:Gr) (p:Pl) (x:Int):Nat:=((Bz g.n.toNat p.ord p.ord.length).getD x.toNat 0).toNat
def A4 (g:Gr) (p:Pl):PS:=
 {m:=g.es.length,src:=aE p 0,Nl:=aE p (g.n.toNat - 1),tl:=fe g,hd:=ez g,ins:=fun x=>if Iv g x then nM g p x else [],outs:=fun x=>if Iv g x then cl p x else [],Qa:=QD g p,Row:=vN g p,k0:=g.n.toNat - 1}
theorem Co {g:Gr} {p:Pl} {x:Int} (h:Iv g x):(A4 g p).ins x=nM g p x:=if_pos h
theorem Jr {g:Gr} {p:Pl} {x:Int} (h:¬Iv g x):(A4 g p).ins x= []:=if_neg h
theorem Js {g:Gr} {p:Pl} {x:Int} (h:Iv g x):(A4 g p).outs x=cl p x:=if_pos h
theorem bJ {f:Edge→Int} {es:List Edge} {x e:Int} :e∈aM f es es.length x↔(0≤e∧e<es.length)∧f (es.getD e.toNat (0,0))=x:=by
 refine ⟨gO,fun ⟨h1,h2⟩=> ?_⟩
 simp only [aM,List.mem_map,List.mem_filter,List.mem_range,decide_eq_true_eq]
 exact ⟨e.toNat,⟨by omega,h2⟩,by simp;omega⟩
section
variable {g:Gr} {p:Pl}
theorem zi (hm:aN g=true) {f:Fr} (hi:er g f) {t:It} (ht:t∈gj f.row):(0≤t.1∧t.1<g.es.length)∧t.2.1=fe g t.1∧t.2.2=ez g t.1:=by
 obtain ⟨h1,h2⟩:=e8.1 ht
 rcases hi.it t h1 with h3|h3
 ·omega
 ·exact ⟨⟨h3.1,h3.2.1⟩,h3.2.2.1,h3.2.2.2⟩
theorem Ke {f:Fr} (hi:xF g f):((gj f.row).map (·.1)).Nodup:=by
 refine List.pairwise_map.2 ?_
 have:=hi.once.filter (fun t:It=>decide (0≤t.1))
 refine List.Pairwise.imp_of_mem (fun {s t} hs ht h1=>h1 (e8.1 hs).2) this
theorem Jt (hm:aN g=true) {f:Fr} (hi:xF g f) {x:Int} (hR:ak g f x=true):(qo g p f x).Nodup∧∀e,e∈qo g p f x↔(0≤e∧e<g.es.length)∧ez g e=x:=by
 by_cases hn:bf g x=0
 ·have hno:=gQ hm hi.toer (aB hR).1 hn
  have e0:qo g p f x= []:=by unfold qo;rw [eY _ hno];rfl
  rw [e0]
  refine ⟨List.nodup_nil,fun e=>⟨fun h=>by (cases h),fun ⟨h1,h2⟩=> ?_⟩⟩
  have:=bJ.2 ⟨h1,h2⟩
  have h3:aM (·.2) g.es g.es.length x= []:=List.eq_nil_of_length_eq_zero hn
  rw [h3] at this;cases this
 ·obtain ⟨a,c,e1,ha,hc,hX,hl,_⟩:=Dv hm hi.toer hR hn (cl p x)
  have b9:=Ke hi
  have hmem:∀t∈gj (az g f x (cl p x)).1.1,t∈gj f.row:=fun t ht=>by rw [e1];simp [ht]
  rw [e1,List.map_append,List.map_append,List.nodup_append] at b9
  have Ou:(qo g p f x).Nodup:=(List.nodup_append.1 b9.1).2.1
  have hsub:∀e∈qo g p f x,e∈aM (·.2) g.es g.es.length x:=fun e he=>by
   obtain ⟨t,ht,rfl⟩:=List.mem_map.1 he
   obtain ⟨h1,_,h3⟩:=zi hm hi.toer (hmem t ht)
   exact bJ.2 ⟨h1,by rw [← hX t ht,h3];rfl⟩
  have hlen:(aM (·.2) g.es g.es.length x).length=(qo g p f x).length:=by
   unfold qo;rw [List.length_map,hl];rfl
  exact ⟨Ou,fun e=>⟨fun he=>bJ.1 (hsub e he),fun he=>y3 Ou hsub hlen e (bJ.2 he)⟩⟩
theorem Ju (h:aX g p) {k:Nat} (hk:k<g.n.toNat):nM g p (aE p k)=qo g p (fK g p k) (aE p k):=by
 unfold nM
 rw [tE h.2.1 (Nat.le_refl _) hk];rfl
theorem A5 (h:aX g p) {x:Int} (hx:Iv g x):(nM g p x).Nodup∧∀e,e∈nM g p x↔(0≤e∧e<g.es.length)∧ez g e=x:=by
 obtain ⟨k,hk,rfl⟩:=gX h.2.1 hx.1 hx.2
 have hm:=an h.1
 obtain ⟨hi,_,_⟩:=bS hm h.2.1 (k:=k) (by omega) fun j hj=>h.2.2 j (by omega)
 rw [Ju h hk]
 exact Jt hm hi (h.2.2 k hk)
theorem A6 (h:aX g p) {x:Int} (hx:Iv g x):(nM g p x).length=bf g x:=by
 obtain ⟨h1,h2⟩:=A5 h hx
 refine Nat.le_antisymm ?_ ?_
 ·exact nc h1 fun e he=>bJ.2 ((h2 e).1 he)
 ·exact nc cQ fun e he=>(h2 e).2 (bJ.1 he)
theorem vN.nd {k:Nat} {W D:List Int} (h:vN g p k W D):W.Nodup:=by
 obtain ⟨f,hi,_,rfl,_⟩:=h;exact Ke hi
theorem vN.mem (h:aX g p) {k:Nat} {W D:List Int} (hr:vN g p k W D) (e:Int):e∈W↔(0≤e∧e<g.es.length)∧fe g e∈D∧ez g e∉D:=by
 have hm:=an h.1
 obtain ⟨f,hi,rfl,rfl,hc,_⟩:=hr
 constructor
 ·intro he
  obtain ⟨t,ht,rfl⟩:=List.mem_map.1 he
  obtain ⟨h1,h2,h3⟩:=zi hm hi.toer ht
  obtain ⟨h4,h5⟩:=e8.1 ht
  exact ⟨h1,h2 ▸ hi.tail t h4 h5,h3 ▸ hi.head t h4 h5⟩
 ·rintro ⟨h1,h2,h3⟩
  obtain ⟨t,h4,h5⟩:=Dw h.1 h.2.1 hi hc (i:=e.toNat) (by omega) h2 h3
  exact List.mem_map.2 ⟨t,e8.2 ⟨h4,by omega⟩,by omega⟩
theorem vN.next (h:aX g p) {k:Nat} {W D:List Int} (hr:vN g p (k+1) W D):∃x A C,W=A++(A4 g p).ins x++C∧(A4 g p).ins x≠ []:=by
 have hm:=an h.1
 obtain ⟨f,hi,rfl,rfl,⟨x,hR,hg,_⟩,_,hs⟩:=hr
 obtain ⟨x0,x1,x2⟩:=aB hR
 have hx:Iv g x:=⟨x0,x1⟩
 have hn:bf g x≠0:=fun h0=>by
  have:=jU h.1 (x:=x) (y:=aE p 0) hx (hi.qd _ hs) h0 (EP h)
  exact x2 (this ▸ hs)
 obtain ⟨a,c,e1,_,_,_,hl,_⟩:=Dv hm hi.toer hR hn (cl p x)
 refine ⟨x,a.map (·.1),c.map (·.1), ?_, ?_⟩
 ·rw [Co hx, ← hg,e1,List.map_append,List.map_append];rfl
 ·rw [Co hx]
  intro h0
  have:=A6 h hx
  rw [h0] at this
  exact hn this.symm
theorem vN.step (h:aX g p) {k:Nat} {W D A C:List Int} {x:Int} (hr:vN g p k W D) (hW:W=A++(A4 g p).ins x++C) (hI:(A4 g p).ins x≠ []):∃k',k=k'+1∧vN g p k' (A++(A4 g p).outs x++C) (D++ [x]):=by
 have hm:=an h.1
 have hx:Iv g x:=Decidable.byContradiction fun h0=>hI (Jr h0)
 have b9:=hr.nd
 have hmem:=vN.mem h hr
 rw [Co hx] at hW hI
 rw [Js hx]
 obtain ⟨i1,i2⟩:=A5 h hx
 obtain ⟨e0,u0,K9⟩:=yO hI
 have Rz:x∉D:=by
  have h1:=(i2 e0).1 (by rw [K9];simp)
  have h2:=(hmem e0).1 (by rw [hW,K9];simp)
  rw [h1.2] at h2;exact h2.2.2
 obtain ⟨f,hi,rfl,To,hc,hD,hs⟩:=hr
 rw [To] at hW b9
 obtain ⟨l1,c,e1,e2,e3⟩:=List.map_eq_append_iff.1 hW
 obtain ⟨a,X,e4,e5,e6⟩:=List.map_eq_append_iff.1 e2
 have hrow:gj f.row=a++X++c:=by rw [e1,e4]
 rw [hrow,List.map_append,List.map_append,e5,e6,e3] at b9
 have hit:∀t∈a++X++c,(0≤t.1∧t.1<g.es.length)∧t.2.1=fe g t.1∧t.2.2=ez g t.1:=fun t ht=>zi hm hi.toer (by rw [hrow];exact ht)
 have hX:wX x X:=fun t ht=>by
  have h1:t.1∈nM g p x:=by rw [← e6];exact List.mem_map_of_mem ht
  rw [(hit t (by simp [ht])).2.2,((i2 _).1 h1).2]
 have hin:∀t∈a++X++c,t.2.2=x→t.1∈nM g p x:=fun t ht e=>by
  obtain ⟨h1,_,h3⟩:=hit t ht
  exact (i2 _).2 ⟨h1,by rw [← h3,e]⟩
 have ha:fX x a:=fun t ht e=>by
  have h1:=hin t (by simp [ht]) e
  have h2:t.1∈A:=by rw [← e5];exact List.mem_map_of_mem ht
  exact (List.nodup_append.1 (List.nodup_append.1 b9).1).2.2 _ h2 _ h1 rfl
 have RA:fX x c:=fun t ht e=>by
  have h1:=hin t (by simp [ht]) e
  have h2:t.1∈C:=by rw [← e3];exact List.mem_map_of_mem ht
  exact (List.nodup_append.1 b9).2.2 _ (List.mem_append.2 (.inr h1)) _ h2 rfl
 have Qf:X.length=bf g x:=by rw [← A6 h hx, ← e6,List.length_map]
 have nX:X≠ []:=fun h0=>hI (by rw [← e6,h0];rfl)
 have hR:=A3 hm hi.toer hx.1 hx.2 Rz hrow ha RA hX nX Qf
 have hn:bf g x≠0:=fun h0=>nX (List.eq_nil_of_length_eq_zero (Qf.trans h0))
 have px:=bX h.2.1 hx.1 hx.2
 cases k with
 |zero=>exact absurd (kU hi.toer (by omega) hx) Rz
 |succ k=>
  refine ⟨k,rfl,sj g p f x,iw hm hi hR px,rfl, ?_,(xQ h.1 h.2.1 hi (by omega) hc hR).2, ?_,List.mem_append.2 (.inl hs)⟩
  ·have:=Du hm hi.toer hR hn hrow ha RA hX nX (cl p x)
   show _=(gj (az g f x (cl p x)).2.row).map (·.1)
   rw [this,List.map_append,List.map_append,e5,e3,ry (fun i hi=>by
    have:=bJ.1 (px.mem_iff.1 hi);exact this.1.1),List.map_map]
   have e7:((fun t:It=>t.1) ∘ eL g x)=id:=rfl
   rw [e7,List.map_id]
  ·show (((f.pl++ [x]).length:Nat):Int)+_=_
   rw [List.length_append,List.length_singleton];omega
end
end Go.Ab
end
section
namespace Go.Ab
open Go.Proofs
set_option maxRecDepth 10000
structure k5 (g:Gr) (p:Pl) (k:Nat) (e:Int):Prop where
 e0:0≤e
 e1:e<g.es.length
 low:fe g e∈p.ord.take k
 top:ez g e∉p.ord.take k
structure HG (g:Gr) (p:Pl) (L:Nat→Int→Int→Prop):Prop where
 up:∀e:Int,0≤e→e<g.es.length→∀k,k<g.n.toNat→aE p k=ez g e→fe g e∈p.ord.take k
 Tp:∀k,k<g.n.toNat→∀a b c:Int,k5 g p k a→k5 g p k b→k5 g p k c→ez g a=aE p k→ez g c=aE p k→L k a b→L k b c→ez g b=aE p k
 keep:∀k,k<g.n.toNat→∀a b:Int,k5 g p k a→k5 g p k b→ez g a≠aE p k→ez g b≠aE p k→L k a b→L (k+1) a b
 left:∀k,k<g.n.toNat→∀a b c:Int,k5 g p k a→k5 g p k b→ez g a≠aE p k→ez g b=aE p k→c∈cl p (aE p k)→L k a b→L (k+1) a c
 right:∀k,k<g.n.toNat→∀a b c:Int,k5 g p k a→k5 g p k b→ez g a≠aE p k→ez g b=aE p k→c∈cl p (aE p k)→L k b a→L (k+1) c a
 outs:∀k,k<g.n.toNat→(cl p (aE p k)).Pairwise (L (k+1))
theorem xR {α:Type} (P:α→Prop) [DecidablePred P]:∀l:List α,∃X v,l=X++v∧(∀t∈X,P t)∧(v= []∨∃b v',v=b::v'∧¬P b)
 | []=>⟨[], [],rfl,by simp, .inl rfl⟩
 |a::l=>by
  by_cases h:P a
  ·obtain ⟨X,v,e,h1,h2⟩:=xR P l
   exact ⟨a::X,v,by simp [e],fun t ht=>(List.mem_cons.1 ht).elim (fun e=>e ▸ h) (h1 t),h2⟩
  ·exact ⟨[],a::l,rfl,by simp, .inr ⟨a,l,rfl,h⟩⟩
theorem xS {α:Type} {P:α→Prop} [DecidablePred P] {R:α→α→Prop} :∀ {l:List α},l.Pairwise R→(∀a b c,a∈l→b∈l→c∈l→P a→P c→R a b→R b c→P b)→(∃a∈l,P a)→
 ∃u X v,l=u++X++v∧(∀t∈u,¬P t)∧(∀t∈X,P t)∧X≠ []∧∀t∈v,¬P t
 | [],_,_,⟨a,ha,_⟩=>by cases ha
 |t::l,hp,hb,hex=>by
  obtain ⟨hp1,hp2⟩:=List.pairwise_cons.1 hp
  by_cases h:P t
  ·obtain ⟨X,v,e,h1,h2⟩:=xR P l
   refine ⟨[],t::X,v,by simp [e],by simp,fun s hs=>(List.mem_cons.1 hs).elim (fun e=>e ▸ h) (h1 s),by simp,fun c hc RB=> ?_⟩
   rcases h2 with rfl|⟨b,v',rfl,hnb⟩
   ·cases hc
   ·have hb1:b∈l:=by rw [e];simp
    rcases List.mem_cons.1 hc with rfl|sH
    ·exact hnb RB
    ·have hbc:R b c:=by
      rw [e] at hp2
      have:=(List.pairwise_append.1 hp2).2.1
      exact (List.pairwise_cons.1 this).1 c sH
     exact hnb (hb t b c (by simp) (by simp [hb1]) (by rw [e];simp [sH]) h RB (hp1 b hb1) hbc)
  ·obtain ⟨a,ha,hPa⟩:=hex
   have Nm:a∈l:=(List.mem_cons.1 ha).elim (fun e=>absurd (e ▸ hPa) h) id
   obtain ⟨u,X,v,e,h1,h2,h3,h4⟩:=xS hp2 (fun a b c ha hb' hc=>hb a b c (by simp [ha]) (by simp [hb']) (by simp [hc])) ⟨a,Nm,hPa⟩
   exact ⟨t::u,X,v,by simp [e],fun s hs=>(List.mem_cons.1 hs).elim (fun e=>e ▸ h) (h1 s),h2,h3,h4⟩
theorem k6 {p:Pl} {k:Nat} {y:Int} (h:y∈p.ord.take k):∃j,j<k∧j<p.ord.length∧aE p j=y:=by
 obtain ⟨j,hj,e⟩:=List.mem_iff_getElem.1 h
 simp only [List.length_take] at hj
 refine ⟨j,by omega,by omega, ?_⟩
 rw [aE,List.getD_eq_getElem?_getD,List.getElem?_eq_getElem (by omega),Option.getD_some, ← e,List.getElem_take]
theorem xT {p:Pl} {k j:Nat} (h1:j<k) (h2:j<p.ord.length):aE p j∈p.ord.take k:=by
 rw [aE,List.getD_eq_getElem?_getD,List.getElem?_eq_getElem h2,Option.getD_some]
 exact List.mem_iff_getElem.2 ⟨j,by simp;omega,by simp⟩
theorem xU {g:Gr} {p:Pl} (hp:aU g p) {k:Nat} (hk:k<g.n.toNat):aE p k∉p.ord.take k:=fun h=>by
 obtain ⟨j,h1,h2,h3⟩:=k6 h
 have:=nt hp (i:=j) (j:=k) (by omega) hk h3
 omega
theorem gV {g:Gr} {p:Pl} (hp:aU g p) {k:Nat} (hk:k<g.n.toNat):p.ord.take (k+1)=p.ord.take k++ [aE p k]:=by
 rw [List.take_add_one,List.getElem?_eq_getElem (by rw [aR hp];exact hk),aE,List.getD_eq_getElem?_getD,List.getElem?_eq_getElem (by rw [aR hp];exact hk)]
 rfl
section
variable {g:Gr} {p:Pl}
theorem jZ (hm:aN g=true) {f:Fr} (hi:xF g f) {k:Nat} (cJ:f.pl=p.ord.take k) {t:It} (ht:t∈gj f.row):k5 g p k t.1∧fe g t.1=t.2.1∧ez g t.1=t.2.2:=by
 obtain ⟨h1,h2⟩:=e8.1 ht
 rcases hi.it t h1 with h|⟨_,g2,g3,g4⟩
 ·omega
 ·refine ⟨⟨h2,g2, ?_, ?_⟩,g3.symm,g4.symm⟩
  ·rw [← cJ];unfold fe;rw [← g3];exact hi.tail t h1 h2
  ·rw [← cJ];unfold ez;rw [← g4];exact hi.head t h1 h2
theorem A7 (hc:(bL g).1=0) (hp:aU g p) {L:Nat→Int→Int→Prop} (hL:HG g p L):∀ {k:Nat},k≤g.n.toNat→
 (∀j,j<k→o5 g p j=true)∧((gj (fK g p k).row).Pairwise fun s t=>L k s.1 t.1)∧∀e,k5 g p k e→∃t∈(fK g p k).row,t.1=e
 |0,_=>⟨fun j hj=>by omega,by simp [fK,gj],fun e he=>by have:=he.low;simp at this⟩
 |k+1,hk=>by
  have hm:=an hc
  obtain ⟨ih1,ih2,ih3⟩:=A7 hc hp hL (k:=k) (by omega)
  obtain ⟨hi,cJ,_⟩:=bS hm hp (k:=k) (by omega) ih1
  obtain ⟨x0,x1⟩:=bI hp (k:=k) (by omega)
  have hnew:=xU hp (k:=k) (by omega)
  have hnext:=gV hp (k:=k) (by omega)
  have hpx:=bX hp x0 x1
  have hout:∀i∈cl p (aE p k),(0≤i∧i<g.es.length)∧fe g i=aE p k:=fun i hi=>bJ.1 (hpx.mem_iff.1 hi)
  have DQ:=hL.outs k (by omega)
  have A8:fK g p (k+1)=(az g (fK g p k) (aE p k) (cl p (aE p k))).2:=rfl
  have hab:=ry (g:=g) (x:=aE p k) (o:=cl p (aE p k)) fun i hi=>(hout i hi).1.1
  have fin:∀a X c:List It,o5 g p k=true→gj (fK g p k).row=a++X++c→fX (aE p k) a→fX (aE p k) c→wX (aE p k) X→(X≠ []∨a++c= [])→gj (fK g p (k+1)).row=a++gj (aL g (aE p k) (cl p (aE p k)))++c→
   (∀j,j<k+1→o5 g p j=true)∧((gj (fK g p (k+1)).row).Pairwise fun s t=>L (k+1) s.1 t.1)∧∀e,k5 g p (k+1) e→∃t∈(fK g p (k+1)).row,t.1=e:=by
   intro a X c hR e ha sH hX ER hs
   refine ⟨fun j hj=> ?_, ?_,fun q hq=> ?_⟩
   ·by_cases h:j=k
    ·subst h;exact hR
    ·exact ih1 j (by omega)
   ·have hma:∀t∈a,t∈gj (fK g p k).row:=fun t ht=>by rw [e];simp [ht]
    have Ov:∀t∈X,t∈gj (fK g p k).row:=fun t ht=>by rw [e];simp [ht]
    have Ka:∀t∈c,t∈gj (fK g p k).row:=fun t ht=>by rw [e];simp [ht]
    have Dx:=fun t ht=>jZ (p:=p) hm hi cJ (t:=t) ht
    rw [e,List.pairwise_append,List.pairwise_append] at ih2
    obtain ⟨⟨pa,pX,Tq⟩,pc,NH⟩:=ih2
    have hne:∀t,t∈a∨t∈c→ez g t.1≠aE p k:=fun t ht=>by
     rcases ht with ht|ht
     ·rw [(Dx t (hma t ht)).2.2];exact ha t ht
     ·rw [(Dx t (Ka t ht)).2.2];exact sH t ht
    rw [hs,hab,List.pairwise_append,List.pairwise_append]
    refine ⟨⟨?_, ?_, ?_⟩, ?_, ?_⟩
    ·exact pa.imp_of_mem fun {s t} hs' ht' h=>hL.keep k (by omega) _ _ (Dx s (hma s hs')).1 (Dx t (hma t ht')).1 (hne s (.inl hs')) (hne t (.inl ht')) h
    ·rw [List.pairwise_map];exact DQ
    ·intro s hs' t ht'
     obtain ⟨i,hi',rfl⟩:=List.mem_map.1 ht'
     rcases ER with ER|h0
     ·obtain ⟨y,Y,rfl⟩:∃y Y,X=y::Y:=by
       cases X with
       |nil=>exact absurd rfl ER
       |cons y Y=>exact ⟨y,Y,rfl⟩
      exact hL.left k (by omega) s.1 y.1 i (Dx s (hma s hs')).1 (Dx y (Ov y (by simp))).1 (hne s (.inl hs')) (by rw [(Dx y (Ov y (by simp))).2.2];exact hX y (by simp)) hi' (Tq s hs' y (by simp))
     ·rw [(List.append_eq_nil_iff.1 h0).1] at hs';cases hs'
    ·exact pc.imp_of_mem fun {s t} hs' ht' h=>hL.keep k (by omega) _ _ (Dx s (Ka s hs')).1 (Dx t (Ka t ht')).1 (hne s (.inr hs')) (hne t (.inr ht')) h
    ·intro s hs' t ht'
     rcases List.mem_append.1 hs' with hs1|hs1
     ·exact hL.keep k (by omega) _ _ (Dx s (hma s hs1)).1 (Dx t (Ka t ht')).1 (hne s (.inl hs1)) (hne t (.inr ht')) (NH s (by simp [hs1]) t ht')
     ·obtain ⟨i,hi',rfl⟩:=List.mem_map.1 hs1
      rcases ER with ER|h0
      ·obtain ⟨y,Y,rfl⟩:∃y Y,X=y::Y:=by
        cases X with
        |nil=>exact absurd rfl ER
        |cons y Y=>exact ⟨y,Y,rfl⟩
       exact hL.right k (by omega) t.1 y.1 i (Dx t (Ka t ht')).1 (Dx y (Ov y (by simp))).1 (hne t (.inr ht')) (by rw [(Dx y (Ov y (by simp))).2.2];exact hX y (by simp)) hi' (NH y (by simp) t ht')
      ·rw [(List.append_eq_nil_iff.1 h0).2] at ht';cases ht'
   ·have uD:∃t∈gj (fK g p (k+1)).row,t.1=q:=by
     have hl:=hq.low
     rw [hnext,List.mem_append,List.mem_singleton] at hl
     have ht:=hq.top
     rw [hnext,List.mem_append,List.mem_singleton] at ht
     rw [hs]
     rcases hl with hl|hl
     ·obtain ⟨t,ht1,ht2⟩:=ih3 q ⟨hq.e0,hq.e1,hl,fun h=>ht (.inl h)⟩
      have hte:t∈gj (fK g p k).row:=e8.2 ⟨ht1,by rw [ht2];exact hq.e0⟩
      have hh:=(jZ (p:=p) hm hi cJ hte).2.2
      have iK:=hte
      rw [e,List.mem_append,List.mem_append] at iK
      rcases iK with (h1|h1)|h1
      ·exact ⟨t,by simp [h1],ht2⟩
      ·exact absurd (by rw [← ht2,hh];exact hX t h1) fun h=>ht (.inr h)
      ·exact ⟨t,by simp [h1],ht2⟩
     ·refine ⟨eL g (aE p k) q, ?_,rfl⟩
      rw [hab,List.mem_append,List.mem_append]
      exact .inl (.inr (List.mem_map.2 ⟨q,hpx.mem_iff.2 (bJ.2 ⟨⟨hq.e0,hq.e1⟩,hl⟩),rfl⟩))
    obtain ⟨t,h1,h2⟩:=uD
    exact ⟨t,(e8.1 h1).1,h2⟩
  by_cases hn:bf g (aE p k)=0
  ·have hno:=gQ hm hi.toer x0 hn
   have hR:o5 g p k=true:=by
    show ak g (fK g p k) (aE p k)=true
    unfold ak
    rw [if_neg (by rintro (h|h|h);omega;omega;exact hnew (cJ ▸ h)),if_pos hn]
   have hrow:(fK g p k).row= []:=by
    rcases hi.src with h|⟨s,hs,hs0⟩
    ·exact h.2
    ·have:=jU hc (hi.qd s hs) ⟨x0,x1⟩ hs0 hn
     exact absurd (by rw [← cJ, ← this];exact hs) hnew
   refine fin [] [] [] hR (by rw [hrow];rfl) (fun t ht=>by cases ht) (fun t ht=>by cases ht) (fun t ht=>by cases ht) (.inr rfl) ?_
   rw [A8,eY _ hno,hrow]
   simp
  ·have hex:∃e,e∈aM (·.2) g.es g.es.length (aE p k):=by
    cases h:aM (·.2) g.es g.es.length (aE p k) with
    |nil=>exact absurd (by unfold bf;rw [h];rfl) hn
    |cons e l=>exact ⟨e,by simp⟩
   have NI:∀e,e∈aM (·.2) g.es g.es.length (aE p k)→∃t∈gj (fK g p k).row,t.1=e∧t.2.2=aE p k:=fun e he=>by
    obtain ⟨⟨e0,e1⟩,e2⟩:=bJ.1 he
    obtain ⟨t,ht1,ht2⟩:=ih3 e ⟨e0,e1,hL.up e e0 e1 k (by omega) e2.symm,by rw [show ez g e=aE p k from e2];exact hnew⟩
    have hte:t∈gj (fK g p k).row:=e8.2 ⟨ht1,by rw [ht2];exact e0⟩
    exact ⟨t,hte,ht2,by rw [← (jZ (p:=p) hm hi cJ hte).2.2,ht2];exact e2⟩
   obtain ⟨e,he⟩:=hex
   obtain ⟨t0,Jv,_,QE⟩:=NI e he
   obtain ⟨a,X,c,hE,ha,hX,nX,sH⟩:=xS (P:=fun t:It=>t.2.2=aE p k) ih2 (fun a b c ma mb mc ea ec r1 r2=>by
    have ca:=jZ (p:=p) hm hi cJ ma
    have cb:=jZ (p:=p) hm hi cJ mb
    have cc:=jZ (p:=p) hm hi cJ mc
    rw [← cb.2.2]
    exact hL.Tp k (by omega) a.1 b.1 c.1 ca.1 cb.1 cc.1 (by rw [ca.2.2];exact ea) (by rw [cc.2.2];exact ec) r1 r2) ⟨t0,Jv,QE⟩
   have hlen:X.length=bf g (aE p k):=by
    have b9:((gj (fK g p k).row).map (·.1)).Nodup:=by
     rw [List.Nodup,List.pairwise_map]
     exact (hi.once.filter _).imp_of_mem fun {s t} hs ht h=>h (e8.1 hs).2
    have QF:(X.map (·.1)).Nodup:=by
     rw [hE,List.map_append,List.map_append] at b9
     exact (List.nodup_append.1 (List.nodup_append.1 b9).1).2.1
    have Di:(X.map (·.1)).Perm (aM (·.2) g.es g.es.length (aE p k)):=by
     refine (List.perm_ext_iff_of_nodup QF cQ).2 fun e=>⟨fun h=> ?_,fun h=> ?_⟩
     ·obtain ⟨t,ht,rfl⟩:=List.mem_map.1 h
      have hte:t∈gj (fK g p k).row:=by rw [hE];simp [ht]
      have ct:=jZ (p:=p) hm hi cJ hte
      exact bJ.2 ⟨⟨ct.1.e0,ct.1.e1⟩,(show ez g t.1=_ by rw [ct.2.2];exact hX t ht)⟩
     ·obtain ⟨t,ht,h1,h2⟩:=NI e h
      rw [hE,List.mem_append,List.mem_append] at ht
      rcases ht with (h3|h3)|h3
      ·exact absurd h2 (ha t h3)
      ·exact List.mem_map.2 ⟨t,h3,h1⟩
      ·exact absurd h2 (sH t h3)
    have:=Di.length_eq
    rw [List.length_map] at this
    exact this
   have hR:o5 g p k=true:=A3 hm hi.toer x0 x1 (by rw [cJ];exact hnew) hE ha sH hX nX hlen
   exact fin a X c hR hE ha sH hX (.inl nX) (by rw [A8];exact Du hm hi.toer hR hn hE ha sH hX nX _)
theorem ES (hc:(bL g).1=0) (hp:aU g p) {L:Nat→Int→Int→Prop} (hL:HG g p L):aX g p:=
 ⟨hc,hp,fun k hk=>(A7 hc hp hL (k:=k+1) (by omega)).1 k (by omega)⟩
end
end Go.Ab
end
section
namespace Go.Ab
open Go.Proofs
set_option maxRecDepth 10000
set_option linter.unusedSectionVars false
def Dy (lt:Int→Int→Bool) (us:List Int):Nat→Int
 |0=> -1
 |k+1=>if (!decide ((k:Int)∈us))&&(decide (Dy lt us k<0)||lt k (Dy lt us k)) then k else Dy lt us k
def NJ (lt:Int→Int→Bool) (n:Nat):Nat→List Int
 |0=> []
 |j+1=>NJ lt n j++ [Dy lt (NJ lt n j) n]
def Tr (lt:Int→Int→Bool) (u v:Int):Prop:=lt u v=true∧lt v u=false
section
variable {lt:Int→Int→Bool} {n:Nat} {ord:List Int} (hp:ord.Perm (eu n)) (hs:ord.Pairwise (Tr lt))
include hp hs
end
def Kf (sw:Int→Int→Bool):Int→List Int→Int × List Int
 |a, []=>(a, [])
 |a,c::r=>if sw a c then ((Kf sw c r).1,a::(Kf sw c r).2) else ((Kf sw a r).1,c::(Kf sw a r).2)
def RC (sw:Int→Int→Bool):Nat→List Int→List Int
 |0,l=>l
 |_+1, []=> []
 |n+1,a::r=>(Kf sw a r).1::RC sw n (Kf sw a r).2
section
variable {sw:Int→Int→Bool} {R:Int→Int→Prop} {S:Int→Prop} (htr:∀a b c,S a→S b→S c→R a b→R b c→R a c) (hsw:∀a c,S a→S c→a≠c→if sw a c=true then R c a else R a c)
include htr hsw
end
theorem ET {R:Int→Int→Prop} {l m:List Int} (hp:l.Perm m) (ha:∀a b,R a b→R b a→False) (h1:l.Pairwise R) (h2:m.Pairwise R):l=m:=by
 induction l generalizing m with
 |nil=>exact hp.symm.eq_nil.symm
 |cons a l ih=>
  cases m with
  |nil=>exact absurd hp.length_eq (by simp)
  |cons b m=>
   obtain ⟨a1,a2⟩:=List.pairwise_cons.1 h1
   obtain ⟨b1,b2⟩:=List.pairwise_cons.1 h2
   have hab:a=b:=by
    refine Decidable.byContradiction fun hne=> ?_
    have ma:a∈b::m:=hp.mem_iff.1 (by simp)
    have mb:b∈a::l:=hp.mem_iff.2 (by simp)
    have ma:a∈m:=(List.mem_cons.1 ma).elim (fun e=>absurd e hne) id
    have mb:b∈l:=(List.mem_cons.1 mb).elim (fun e=>absurd e.symm hne) id
    exact ha a b (a1 b mb) (b1 a ma)
   subst hab
   rw [ih ((List.perm_cons a).1 hp) a2 b2]
def UP (sw:Int→Int→Bool) (a:Int) (done todo:List Int):List Int:=(Kf sw a todo).1::RC sw (done.length+todo.length) (done++(Kf sw a todo).2)
end Go.Ab
end
section
namespace Go.Ab
open Go.Proofs
set_option maxRecDepth 10000
set_option linter.unusedSectionVars false
theorem gq:∀ {l:List Int} {i:Nat},l.Nodup→i<l.length→l.idxOf (l.getD i 0)=i
 | [],i,_,h=>by simp at h
 |a::l,0,_,_=>by simp
 |a::l,i+1,hn,h=>by
  obtain ⟨h1,h2⟩:=List.nodup_cons.1 hn
  have hi:i<l.length:=by simpa using h
  have e:(a::l).getD (i+1) 0=l.getD i 0:=rfl
  have hm:l.getD i 0∈l:=aD hi
  have hne:(a==l.getD i 0)=false:=by
   rw [beq_eq_false_iff_ne];intro e2;exact h1 (e2 ▸ hm)
  rw [e,List.idxOf_cons,hne,cond_false,gq h2 hi]
theorem rz {l:List Int} {u:Int} (h:u∈l):l.idxOf u<l.length∧l.getD (l.idxOf u) 0=u:=by
 have h1:=List.idxOf_lt_length_iff.2 h
 refine ⟨h1, ?_⟩
 rw [List.getD_eq_getElem?_getD,List.getElem?_eq_getElem h1,Option.getD_some]
 exact List.getElem_idxOf h1
theorem zj {A B:List Int} {u:Int} :(A++B).idxOf u=if u∈A then A.idxOf u else A.length+B.idxOf u:=by
 rw [List.idxOf_append];split<;>omega
section
variable {g:Gr} {p:Pl}
def vO (g:Gr) (p:Pl) (c:Nat):List Int:=(gj (fK g p c).row).map (·.1)
theorem j0 (h:aX g p) {c:Nat} (hc:c≤g.n.toNat):(vO g p c).Nodup:=by
 obtain ⟨hi,_,_⟩:=bS (an h.1) h.2.1 hc fun j hj=>h.2.2 j (by omega)
 rw [vO,List.Nodup,List.pairwise_map]
 exact (hi.once.filter _).imp_of_mem fun {s t} hs ht h=>h (e8.1 hs).2
theorem jg (h:aX g p) {c:Nat} (hc:c<g.n.toNat):∃A X C,vO g p c=A++X++C∧(∀e∈A,ez g e≠aE p c)∧(∀e∈X,ez g e=aE p c)∧(∀e∈C,ez g e≠aE p c)∧vO g p (c+1)=A++cl p (aE p c)++C:=by
 have hm:=an h.1
 obtain ⟨hi,cJ,_⟩:=bS hm h.2.1 (k:=c) (by omega) fun j hj=>h.2.2 j (by omega)
 obtain ⟨x0,x1⟩:=bI h.2.1 hc
 have hR:ak g (fK g p c) (aE p c)=true:=h.2.2 c hc
 have hpx:=bX h.2.1 x0 x1
 have hab:=ry (g:=g) (x:=aE p c) (o:=cl p (aE p c)) fun i hi=>(bJ.1 (hpx.mem_iff.1 hi)).1.1
 have hmap:(gj (aL g (aE p c) (cl p (aE p c)))).map (·.1)=cl p (aE p c):=by
  rw [hab,List.map_map]
  have e7:((fun t:It=>t.1) ∘ eL g (aE p c))=id:=rfl
  rw [e7,List.map_id]
 have hd:∀t∈gj (fK g p c).row,ez g t.1=t.2.2:=fun t ht=>(jZ (p:=p) hm hi cJ ht).2.2
 have A8:fK g p (c+1)=(az g (fK g p c) (aE p c) (cl p (aE p c))).2:=rfl
 by_cases hn:bf g (aE p c)=0
 ·have hno:=gQ hm hi.toer x0 hn
  have hrow:(fK g p c).row= []:=by
   rcases hi.src with h|⟨s,hs,hs0⟩
   ·exact h.2
   ·have:=jU h.1 (hi.qd s hs) ⟨x0,x1⟩ hs0 hn
    exact absurd (by rw [← cJ, ← this];exact hs) (xU h.2.1 hc)
  refine ⟨[], [], [],by simp [vO,hrow,gj],by simp,by simp,by simp, ?_⟩
  rw [vO,A8,eY _ hno,hrow]
  simpa using hmap
 ·obtain ⟨a,X,b,e,ha,hb,hX,_,hs⟩:=A2 hm hi.toer hR hn
  refine ⟨a.map (·.1),X.map (·.1),b.map (·.1),by rw [vO,e,List.map_append,List.map_append], ?_, ?_, ?_, ?_⟩
  ·intro q hq
   obtain ⟨t,ht,rfl⟩:=List.mem_map.1 hq
   rw [hd t (by rw [e];simp [ht])];exact ha t ht
  ·intro q hq
   obtain ⟨t,ht,rfl⟩:=List.mem_map.1 hq
   rw [hd t (by rw [e];simp [ht])];exact hX t ht
  ·intro q hq
   obtain ⟨t,ht,rfl⟩:=List.mem_map.1 hq
   rw [hd t (by rw [e];simp [ht])];exact hb t ht
  ·rw [vO,A8,hs,List.map_append,List.map_append,hmap]
theorem A9 (h:aX g p):∀ {c:Nat},c≤g.n.toNat→∀e,k5 g p c e→e∈vO g p c
 |0,_,e,he=>by have:=he.low;simp at this
 |c+1,hc,e,he=>by
  obtain ⟨A,X,C,e1,hA,hX,hC,e2⟩:=jg h (c:=c) (by omega)
  have hnext:=gV h.2.1 (k:=c) (by omega)
  have hl:=he.low
  have ht:=he.top
  rw [hnext,List.mem_append,List.mem_singleton] at hl ht
  rw [e2]
  rcases hl with hl|hl
  ·have:=A9 h (c:=c) (by omega) e ⟨he.e0,he.e1,hl,fun h=>ht (.inl h)⟩
   rw [e1,List.mem_append,List.mem_append] at this
   rcases this with (h1|h1)|h1
   ·simp [h1]
   ·exact absurd (hX e h1) fun h=>ht (.inr h)
   ·simp [h1]
  ·obtain ⟨x0,x1⟩:=bI h.2.1 (k:=c) (by omega)
   have:e∈cl p (aE p c):=(bX h.2.1 x0 x1).mem_iff.2 (bJ.2 ⟨⟨he.e0,he.e1⟩,hl⟩)
   simp [this]
end
def wY (g:Gr) (bs:List Int) (i:Int):Int:=g.n+(bs.idxOf i:Nat)
def gi (g:Gr) (bs:List Int):List Edge:=
 ((List.range g.es.length).map fun i:Nat=>(tl g i,if (i:Int)∈bs then wY g bs i else hd g i))++(List.range bs.length).map fun k:Nat=>(g.n+(k:Int),ez g (bs.getD k 0))
def aQ (g:Gr) (bs:List Int):Gr:=⟨g.n+bs.length,gi g bs⟩
structure vQ (g:Gr) (bs:List Int):Prop where
 nd:bs.Nodup
 qd:∀i∈bs,0≤i∧i<g.es.length
section
variable {g:Gr} {bs:List Int}
theorem gr:(aQ g bs).es.length=g.es.length+bs.length:=by simp [aQ,gi]
theorem cZ {e:Int} (h0:0≤e) (h1:e<g.es.length):fe (aQ g bs) e=fe g e∧ez (aQ g bs) e=if e∈bs then wY g bs e else ez g e:=by
 have hl:e.toNat<g.es.length:=by omega
 have:(aQ g bs).es.getD e.toNat (0,0)=(tl g e.toNat,if ((e.toNat:Nat):Int)∈bs then wY g bs ((e.toNat:Nat):Int) else hd g e.toNat):=by
  simp only [aQ,gi]
  rw [List.getD_eq_getElem?_getD,List.getElem?_append_left (by simpa using hl),List.getElem?_map,List.getElem?_range hl]
  rfl
 rw [show ((e.toNat:Nat):Int)=e by omega] at this
 exact ⟨by unfold fe;rw [this];rfl,by unfold ez;rw [this];rfl⟩
theorem iQ {k:Nat} (h:k<bs.length):fe (aQ g bs) ((g.es.length+k:Nat):Int)=g.n+(k:Int)∧ez (aQ g bs) ((g.es.length+k:Nat):Int)=ez g (bs.getD k 0):=by
 have:(aQ g bs).es.getD (g.es.length+k) (0,0)=(g.n+(k:Int),ez g (bs.getD k 0)):=by
  simp only [aQ,gi]
  rw [List.getD_eq_getElem?_getD,List.getElem?_append_right (by simp),List.length_map,List.length_range,Nat.add_sub_cancel_left,List.getElem?_map,List.getElem?_range h]
  rfl
 exact ⟨by unfold fe;rw [Int.toNat_natCast,this],by unfold ez;rw [Int.toNat_natCast,this];rfl⟩
def Cp (g:Gr) (bs:List Int) (e:Int):Int:=if e<g.es.length then e else bs.getD (e - g.es.length).toNat 0
def EU (g:Gr) (bs:List Int) (u:Int):Int:=if u<g.n then u else fe g (bs.getD (u - g.n).toNat 0)
theorem dP (hb:vQ g bs) {i:Int} (hi:i∈bs):g.n≤wY g bs i∧wY g bs i<g.n+bs.length∧EU g bs (wY g bs i)=fe g i∧bs.getD (wY g bs i - g.n).toNat 0=i:=by
 obtain ⟨h1,h2⟩:=rz hi
 have e:(wY g bs i - g.n).toNat=bs.idxOf i:=by unfold wY;omega
 refine ⟨by unfold wY;omega,by unfold wY;omega, ?_,by rw [e,h2]⟩
 unfold EU
 rw [if_neg (by unfold wY;omega),e,h2]
end
structure HH (g:Gr) (p:Pl) (bs:List Int) (q:Pl):Prop where
 len:q.outs.length=(g.n+bs.length).toNat
 Kg:∀x:Nat,x<g.n.toNat→q.outs.getD x []=p.outs.getD x []
 HI:∀k:Nat,k<bs.length→q.outs.getD (g.n.toNat+k) []= [((g.es.length+k:Nat):Int)]
 perm:q.ord.Perm (eu (g.n+bs.length).toNat)
 sort:q.ord.Pairwise fun u v=>p.ord.idxOf (EU g bs u)<p.ord.idxOf (EU g bs v)∨EU g bs u=EU g bs v∧u<v
theorem sW {A B:List Int} {u:Int} (h:u∈A):(A++B).idxOf u=A.idxOf u∧A.idxOf u<A.length:=⟨by rw [zj,if_pos h],List.idxOf_lt_length_iff.2 h⟩
theorem iR {A B:List Int} {u:Int} (hn:(A++B).Nodup) (h:u∈B):(A++B).idxOf u=A.length+B.idxOf u∧B.idxOf u<B.length:=
 ⟨by rw [zj,if_neg fun ha=>(List.nodup_append.1 hn).2.2 u ha u h rfl],List.idxOf_lt_length_iff.2 h⟩
theorem vR {g:Gr} {p:Pl} (h:aX g p) {e:Int} (h0:0≤e) (h1:e<g.es.length):p.ord.idxOf (fe g e)<p.ord.idxOf (ez g e):=by
 have hm:=an h.1
 have b9:=cV h.2.1
 have hl:=aR h.2.1
 obtain ⟨k,hk,ek⟩:=gX h.2.1 (bH hm (i:=e.toNat) (by omega)).1 (bH hm (i:=e.toNat) (by omega)).2
 obtain ⟨hi,cJ,_⟩:=bS hm h.2.1 (k:=k) (by omega) fun j hj=>h.2.2 j (by omega)
 obtain ⟨t,ht,e1,e2,_⟩:=vl hm hi (h.2.2 k hk) (i:=e.toNat) (by omega) ek.symm
 have hin:=hi.tail t ht (by omega)
 rw [cJ,e2] at hin
 obtain ⟨j,j1,j2,j3⟩:=k6 hin
 have a1:p.ord.idxOf (tl g e.toNat)=j:=by rw [← j3];exact gq b9 j2
 have a2:p.ord.idxOf (hd g e.toNat)=k:=by rw [← ek];exact gq b9 (by omega)
 show p.ord.idxOf (tl g e.toNat)<p.ord.idxOf (hd g e.toNat)
 omega
def L3 (g:Gr) (p:Pl) (bs:List Int) (u v:Int):Prop:=p.ord.idxOf (EU g bs u)<p.ord.idxOf (EU g bs v)∨EU g bs u=EU g bs v∧u<v
def gu (g:Gr) (q:Pl) (k:Nat):Nat:=((q.ord.take k).filter fun u=>decide (u<g.n)).length
section
variable {g:Gr} {p:Pl} {bs:List Int} {q:Pl} (h:aX g p) (hb:vQ g bs) (hq:HH g p bs q)
include h hb hq
theorem HJ:(aQ g bs).n.toNat=g.n.toNat+bs.length:=by
 have hn:=aC (an h.1)
 show (g.n+(bs.length:Int)).toNat=_
 omega
theorem dg {e:Int} (h0:0≤e) (h1:e<(aQ g bs).es.length):(e<g.es.length∧Cp g bs e=e)∨∃k:Nat,k<bs.length∧e=((g.es.length+k:Nat):Int)∧Cp g bs e=bs.getD k 0∧bs.getD k 0∈bs∧fe (aQ g bs) e=wY g bs (bs.getD k 0):=by
 rw [gr] at h1
 by_cases hlt:e<g.es.length
 ·exact .inl ⟨hlt,if_pos hlt⟩
 ·refine .inr ⟨(e - g.es.length).toNat,by omega,by omega,by unfold Cp;rw [if_neg hlt],aD (by omega), ?_⟩
  have hk:(e - g.es.length).toNat<bs.length:=by omega
  have:=(iQ (g:=g) hk).1
  rw [show ((g.es.length+(e - g.es.length).toNat:Nat):Int)=e by omega] at this
  rw [this]
  unfold wY
  rw [gq hb.nd hk]
theorem iS {u:Int} (hu:u<g.n):EU g bs u=u:=if_pos hu
theorem jF:aU (aQ g bs) q:=by
 have hm:=an h.1
 have hn:=aC hm
 have hN:=HJ h hb hq
 refine ⟨by rw [hq.len];rfl,hq.perm,fun x hx=> ?_⟩
 rw [hN] at hx
 by_cases C8:x<g.n.toNat
 ·rw [hq.Kg x C8]
  have hp:=h.2.1.2.2 x C8
  refine (List.perm_ext_iff_of_nodup (hp.nodup_iff.2 cQ) cQ).2 fun e=> ?_
  rw [hp.mem_iff]
  show e∈aM (·.1) g.es g.es.length (x:Int)↔e∈aM (·.1) (aQ g bs).es (aQ g bs).es.length (x:Int)
  rw [bJ,bJ]
  constructor
  ·rintro ⟨⟨h0,h1⟩,h2⟩
   exact ⟨⟨h0,by rw [gr];omega⟩,(cZ h0 h1).1.trans h2⟩
  ·rintro ⟨⟨h0,h1⟩,h2⟩
   rcases dg h hb hq h0 h1 with ⟨h3,_⟩|⟨k,h3,_,_,h4,h5⟩
   ·exact ⟨⟨h0,h3⟩,(cZ h0 h3).1.symm.trans h2⟩
   ·have:=(dP hb h4).1
    have h2:fe (aQ g bs) e=x:=h2
    omega
 ·obtain ⟨k,rfl⟩:∃k,x=g.n.toNat+k:=⟨x - g.n.toNat,by omega⟩
  have hk:k<bs.length:=by omega
  rw [hq.HI k hk]
  refine (List.perm_ext_iff_of_nodup (by simp) cQ).2 fun e=> ?_
  rw [List.mem_singleton]
  show _↔e∈aM (·.1) (aQ g bs).es (aQ g bs).es.length ((g.n.toNat+k:Nat):Int)
  rw [bJ]
  have hnew:=iQ (g:=g) hk
  constructor
  ·rintro rfl
   exact ⟨⟨by omega,by rw [gr];omega⟩,by have:fe (aQ g bs) ((g.es.length+k:Nat):Int)=((g.n.toNat+k:Nat):Int):=by {rw [hnew.1];omega};exact this⟩
  ·rintro ⟨⟨h0,h1⟩,h2⟩
   have h2:fe (aQ g bs) e=((g.n.toNat+k:Nat):Int):=h2
   rcases dg h hb hq h0 h1 with ⟨h3,_⟩|⟨j,h3,h6,_,h4,h5⟩
   ·have:=(cZ (bs:=bs) h0 h3).1
    have:=bk hm (i:=e.toNat) (by omega)
    have e3:fe g e=tl g e.toNat:=rfl
    omega
   ·unfold wY at h5
    rw [gq hb.nd h3] at h5
    have:j=k:=by omega
    rw [h6,this]
theorem Kh {e:Int} (h0:0≤e) (h1:e<(aQ g bs).es.length):L3 g p bs (fe (aQ g bs) e) (ez (aQ g bs) e):=by
 have hm:=an h.1
 have tr:=fun (i:Int) (a:0≤i) (b:i<g.es.length)=>show 0≤fe g i∧fe g i<g.n from bk hm (i:=i.toNat) (by omega)
 have hr:=fun (i:Int) (a:0≤i) (b:i<g.es.length)=>show 0≤ez g i∧ez g i<g.n from bH hm (i:=i.toNat) (by omega)
 rcases dg h hb hq h0 h1 with ⟨h3,_⟩|⟨k,h3,h6,_,h4,h5⟩
 ·obtain ⟨r1,r2⟩:=cZ (g:=g) (bs:=bs) h0 h3
  rw [r1,r2]
  have t0:fe g e<g.n:=(tr e h0 h3).2
  by_cases hin:e∈bs
  ·rw [if_pos hin]
   obtain ⟨n1,_,n3,_⟩:=dP hb hin
   exact .inr ⟨by rw [n3];exact iS h hb hq t0,by omega⟩
  ·rw [if_neg hin]
   left
   rw [iS h hb hq t0,iS h hb hq (hr e h0 h3).2]
   exact vR h h0 h3
 ·rw [h5]
  obtain ⟨b0,b1⟩:=hb.qd _ h4
  obtain ⟨n1,_,n3,_⟩:=dP hb h4
  have:=(iQ (g:=g) h3).2
  rw [← h6] at this
  rw [this]
  left
  rw [n3,iS h hb hq (hr _ b0 b1).2]
  exact vR h b0 b1
theorem Lu {j k:Nat} (hj:j<k) (hk:k<(aQ g bs).n.toNat):L3 g p bs (aE q j) (aE q k):=by
 have hl:=aR (jF h hb hq)
 have:=List.pairwise_iff_getElem.1 hq.sort j k (by omega) (by omega) hj
 rw [aE,aE,List.getD_eq_getElem?_getD,List.getD_eq_getElem?_getD,List.getElem?_eq_getElem (by omega),List.getElem?_eq_getElem (by omega)]
 exact this
theorem qp {u:Int} (h0:0≤u) (h1:u<(aQ g bs).n) {k:Nat} (hk:k<(aQ g bs).n.toNat) (hR:L3 g p bs u (aE q k)):u∈q.ord.take k:=by
 obtain ⟨j,hj,rfl⟩:=gX (jF h hb hq) h0 h1
 refine xT (Decidable.byContradiction fun hn=> ?_) (by rw [aR (jF h hb hq)];exact hj)
 by_cases e:j=k
 ·subst e
  unfold L3 at hR;omega
 ·have h8:=Lu h hb hq (j:=k) (k:=j) (by omega) hj
  unfold L3 at hR h8
  rcases hR with h9|⟨h9,Rl⟩
  ·rcases h8 with Qd|⟨Qd,_⟩
   ·omega
   ·rw [Qd] at h9;omega
  ·rw [h9] at h8;omega
theorem xV {u v:Int} (h0:0≤u) (h1:u<(aQ g bs).n) {k:Nat} (hk:k≤(aQ g bs).n.toNat) (hv:v∈q.ord.take k) (hR:L3 g p bs u v):u∈q.ord.take k:=by
 obtain ⟨j,j1,j2,rfl⟩:=k6 hv
 obtain ⟨i,i1,i2,i3⟩:=k6 (qp h hb hq h0 h1 (k:=j) (by omega) hR)
 rw [← i3]
 exact xT (by omega) i2
theorem Cq:(q.ord.filter fun u=>decide (u<g.n))=p.ord:=by
 have hn:=aC (an h.1)
 have hN:=HJ h hb hq
 have b9:=cV h.2.1
 have hl:=aR h.2.1
 refine ET (R:=fun u v=>p.ord.idxOf u<p.ord.idxOf v) ?_ (fun a b h1 h2=>by omega) ?_ ?_
 ·refine (List.perm_ext_iff_of_nodup ((cV (jF h hb hq)).filter _) b9).2 fun u=> ?_
  rw [List.mem_filter,hq.perm.mem_iff,h.2.1.2.1.mem_iff,cU,cU,decide_eq_true_eq]
  have e:(g.n+(bs.length:Int)).toNat=g.n.toNat+bs.length:=hN
  omega
 ·refine (hq.sort.filter _).imp_of_mem fun {u v} hu hv hR=> ?_
  have hu:=of_decide_eq_true (List.mem_filter.1 hu).2
  have hv:=of_decide_eq_true (List.mem_filter.1 hv).2
  rw [iS h hb hq hu,iS h hb hq hv] at hR
  omega
 ·rw [List.pairwise_iff_getElem]
  intro i j hi hj hij
  have a1:=gq b9 hi
  have a2:=gq b9 hj
  rw [List.getD_eq_getElem?_getD,List.getElem?_eq_getElem hi,Option.getD_some] at a1
  rw [List.getD_eq_getElem?_getD,List.getElem?_eq_getElem hj,Option.getD_some] at a2
  omega
theorem tI (k:Nat):((q.ord.take k).filter fun u=>decide (u<g.n))=p.ord.take (gu g q k):=by
 have hpre:((q.ord.take k).filter fun u=>decide (u<g.n))<+:(q.ord.filter fun u=>decide (u<g.n)):=(List.take_prefix k q.ord).filter _
 rw [Cq h hb hq] at hpre
 exact List.prefix_iff_eq_take.1 hpre
theorem j5 {u:Int} (hu:u<g.n) (k:Nat):u∈q.ord.take k↔u∈p.ord.take (gu g q k):=by
 rw [← tI h hb hq k,List.mem_filter]
 simp [hu]
theorem Dz (k:Nat):gu g q k≤g.n.toNat:=by
 have h1:((q.ord.take k).filter fun u=>decide (u<g.n)).length=(p.ord.take (gu g q k)).length:=by rw [tI h hb hq k]
 have h2:gu g q k=((q.ord.take k).filter fun u=>decide (u<g.n)).length:=rfl
 have hl:=aR h.2.1
 rw [List.length_take] at h1
 omega
theorem vS {k:Nat} (hk:k<(aQ g bs).n.toNat) (hx:g.n≤aE q k):gu g q (k+1)=gu g q k:=by
 unfold gu
 rw [gV (jF h hb hq) hk,List.filter_append]
 simp [show ¬aE q k<g.n by omega]
theorem mL {k:Nat} (hk:k<(aQ g bs).n.toNat) (hx:aE q k<g.n):gu g q (k+1)=gu g q k+1∧gu g q k<g.n.toNat∧aE p (gu g q k)=aE q k:=by
 have e1:gu g q (k+1)=gu g q k+1:=by
  unfold gu
  rw [gV (jF h hb hq) hk,List.filter_append]
  simp [hx]
 have hc:=Dz h hb hq (k+1)
 refine ⟨e1,by omega, ?_⟩
 have e2:=tI h hb hq (k+1)
 rw [gV (jF h hb hq) hk,List.filter_append,tI h hb hq k,e1,gV h.2.1 (by omega)] at e2
 have:=List.append_cancel_left e2
 simpa [hx] using this.symm
theorem HK {k:Nat} (hk:k≤(aQ g bs).n.toNat) {e:Int} (he:k5 (aQ g bs) q k e):k5 g p (gu g q k) (Cp g bs e):=by
 have hm:=an h.1
 have hn:=aC hm
 have tr:=fun (i:Int) (a:0≤i) (b:i<g.es.length)=>show 0≤fe g i∧fe g i<g.n from bk hm (i:=i.toNat) (by omega)
 have hr:=fun (i:Int) (a:0≤i) (b:i<g.es.length)=>show 0≤ez g i∧ez g i<g.n from bH hm (i:=i.toNat) (by omega)
 have hGn:(aQ g bs).n=g.n+bs.length:=rfl
 have nK:=he.low
 have wZ:=he.top
 rcases dg h hb hq he.e0 he.e1 with ⟨h3,h4⟩|⟨j,h3,h6,h7,h4,h5⟩
 ·obtain ⟨r1,r2⟩:=cZ (g:=g) (bs:=bs) he.e0 h3
  rw [h4]
  rw [r1] at nK
  rw [r2] at wZ
  refine ⟨he.e0,h3,(j5 h hb hq (tr e he.e0 h3).2 k).1 nK,fun hc=> ?_⟩
  have hin:=(j5 h hb hq (hr e he.e0 h3).2 k).2 hc
  by_cases qC:e∈bs
  ·rw [if_pos qC] at wZ
   obtain ⟨n1,n2,n3,_⟩:=dP hb qC
   refine wZ (xV h hb hq (by omega) (by omega) hk hin (.inl ?_))
   rw [n3,iS h hb hq (hr e he.e0 h3).2]
   exact vR h he.e0 h3
  ·rw [if_neg qC] at wZ
   exact wZ hin
 ·rw [h7]
  obtain ⟨b0,b1⟩:=hb.qd _ h4
  obtain ⟨n1,n2,n3,_⟩:=dP hb h4
  have zk:=(iQ (g:=g) h3).2
  rw [← h6] at zk
  rw [zk] at wZ
  rw [h5] at nK
  have Jv:=tr _ b0 b1
  refine ⟨b0,b1,(j5 h hb hq Jv.2 k).1 (xV h hb hq Jv.1 (by have:=Jv.2;omega) hk nK (.inr ⟨?_, ?_⟩)),fun hc=>wZ ((j5 h hb hq (hr _ b0 b1).2 k).2 hc)⟩
  ·rw [n3];exact iS h hb hq Jv.2
  ·have:=Jv.2;omega
theorem e9 {k:Nat} (hk:k<(aQ g bs).n.toNat) (hx:aE q k<g.n) {e:Int} (he:k5 (aQ g bs) q k e):ez g (Cp g bs e)=aE q k↔ez (aQ g bs) e=aE q k:=by
 have hm:=an h.1
 have hn:=aC hm
 have hr:=fun (i:Int) (a:0≤i) (b:i<g.es.length)=>show 0≤ez g i∧ez g i<g.n from bH hm (i:=i.toNat) (by omega)
 have hGn:(aQ g bs).n=g.n+bs.length:=rfl
 rcases dg h hb hq he.e0 he.e1 with ⟨h3,h4⟩|⟨j,h3,h6,h7,h4,h5⟩
 ·obtain ⟨r1,r2⟩:=cZ (g:=g) (bs:=bs) he.e0 h3
  rw [h4,r2]
  by_cases qC:e∈bs
  ·rw [if_pos qC]
   obtain ⟨n1,n2,n3,_⟩:=dP hb qC
   constructor
   ·intro e2
    have wZ:=he.top
    rw [r2,if_pos qC] at wZ
    refine absurd (qp h hb hq (by omega) (by omega) hk (.inl ?_)) wZ
    rw [n3,iS h hb hq hx, ← e2]
    exact vR h he.e0 h3
   ·intro e2;omega
  ·rw [if_neg qC]
 ·have zk:=(iQ (g:=g) h3).2
  rw [← h6] at zk
  rw [h7,zk]
theorem HL:HG (aQ g bs) q fun k a b=>(vO g p (gu g q k)).idxOf (Cp g bs a)<(vO g p (gu g q k)).idxOf (Cp g bs b):=by
 have hm:=an h.1
 have hn:=aC hm
 have hGn:(aQ g bs).n=g.n+bs.length:=rfl
 have sX:=jF h hb hq
 have mem:=fun (k:Nat) (hk:k≤(aQ g bs).n.toNat) (e:Int) (he:k5 (aQ g bs) q k e)=>A9 h (Dz h hb hq k) _ (HK h hb hq hk he)
 have only:=fun (k:Nat) (hk:k<(aQ g bs).n.toNat) (hx:g.n≤aE q k) (e:Int) (he:k5 (aQ g bs) q k e) (hd:ez (aQ g bs) e=aE q k)=>show e∈bs∧wY g bs e=aE q k∧Cp g bs e=e by
  rcases dg h hb hq he.e0 he.e1 with ⟨h3,h4⟩|⟨j,h3,h6,h7,h4,h5⟩
  ·have r2:=(cZ (g:=g) (bs:=bs) he.e0 h3).2
   rw [hd] at r2
   by_cases qC:e∈bs
   ·rw [if_pos qC] at r2
    exact ⟨qC,r2.symm,h4⟩
   ·rw [if_neg qC] at r2
    have h8:ez g e<g.n:=(bH hm (i:=e.toNat) (by have:=he.e0;omega)).2
    omega
  ·have zk:=(iQ (g:=g) h3).2
   rw [← h6,hd] at zk
   obtain ⟨b0,b1⟩:=hb.qd _ h4
   have h8:ez g (bs.getD j 0)<g.n:=(bH hm (i:=(bs.getD j 0).toNat) (by omega)).2
   omega
 have same:=fun (k:Nat) (hk:k<(aQ g bs).n.toNat) (hx:g.n≤aE q k) (e e':Int) (he:k5 (aQ g bs) q k e) (he':k5 (aQ g bs) q k e') (hd:ez (aQ g bs) e=aE q k) (hd':ez (aQ g bs) e'=aE q k)=>show e=e' by
  obtain ⟨a1,a2,_⟩:=only k hk hx e he hd
  obtain ⟨b1,b2,_⟩:=only k hk hx e' he' hd'
  have a3:=(dP hb a1).2.2.2
  have b3:=(dP hb b1).2.2.2
  rw [a2] at a3
  rw [b2] at b3
  rw [← a3,b3]
 have Lv:=fun (k:Nat) (hk:k<(aQ g bs).n.toNat) (hx:aE q k<g.n)=>show cl q (aE q k)=cl p (aE q k) from hq.Kg _ (by have:=(bI sX hk).1;omega)
 have Ow:=fun (v e:Int) (h0:0≤v) (h1:v<g.n) (he:e∈cl p v)=>show Cp g bs e=e by
  have:=(bJ.1 ((bX h.2.1 h0 h1).mem_iff.1 he)).1.2
  exact if_pos this
 have eO:=fun (k:Nat) (hk:k<(aQ g bs).n.toNat) (hx:g.n≤aE q k) (c:Int) (hc:c∈cl q (aE q k))=>show Cp g bs c=bs.getD (aE q k - g.n).toNat 0 by
  obtain ⟨x0,x1⟩:=bI sX hk
  have hj:(aE q k - g.n).toNat<bs.length:=by omega
  have:=hq.HI _ hj
  have e:cl q (aE q k)= [((g.es.length+(aE q k - g.n).toNat:Nat):Int)]:=by
   rw [← this];unfold cl;congr 1;omega
  rw [e,List.mem_singleton] at hc
  subst hc
  unfold Cp
  rw [if_neg (by omega)]
  congr 1;omega
 refine ⟨fun e e0 e1 k hk ek=> ?_,fun k hk a b c ha hb' hc ea ec r1 r2=> ?_,fun k hk a b ha hb' na nb r=> ?_,fun k hk a b c ha hb' na eb hc r=> ?_,fun k hk a b c ha hb' na eb hc r=> ?_,fun k hk=> ?_⟩
 ·have tR:=Kh h hb hq e0 e1
  rw [← ek] at tR
  have xO:0≤fe (aQ g bs) e∧fe (aQ g bs) e<(aQ g bs).n:=by
   rcases dg h hb hq e0 e1 with ⟨h3,h4⟩|⟨j,h3,h6,h7,h4,h5⟩
   ·rw [(cZ (g:=g) (bs:=bs) e0 h3).1]
    have h8:0≤fe g e∧fe g e<g.n:=bk hm (i:=e.toNat) (by omega)
    omega
   ·obtain ⟨n1,n2,_⟩:=dP hb h4
    omega
  exact qp h hb hq xO.1 xO.2 hk tR
 ·by_cases hx:aE q k<g.n
  ·obtain ⟨c1,c2,c3⟩:=mL h hb hq hk hx
   obtain ⟨A,X,C,e1,hA,hX,hC,_⟩:=jg h c2
   have b9:=j0 h (c:=gu g q k) (by omega)
   have ma:=mem k (by omega) a ha
   have mb:=mem k (by omega) b hb'
   have mc:=mem k (by omega) c hc
   have da:=(e9 h hb hq hk hx ha).2 ea
   have dc:=(e9 h hb hq hk hx hc).2 ec
   refine (e9 h hb hq hk hx hb').1 ?_
   rw [c3] at hA hX hC
   rw [e1] at ma mb mc r1 r2 b9
   have Qg:Cp g bs a∈X:=by
    rcases List.mem_append.1 ma with h1|h1
    ·rcases List.mem_append.1 h1 with h1|h1
     ·exact absurd da (hA _ h1)
     ·exact h1
    ·exact absurd da (hC _ h1)
   have Da:Cp g bs c∈X:=by
    rcases List.mem_append.1 mc with h1|h1
    ·rcases List.mem_append.1 h1 with h1|h1
     ·exact absurd dc (hA _ h1)
     ·exact h1
    ·exact absurd dc (hC _ h1)
   rw [List.append_assoc] at r1 r2 mb b9
   have Ts:(X++C).Nodup:=(List.nodup_append.1 b9).2.1
   obtain ⟨i1,_⟩:=iR (A:=A) (B:=X++C) b9 (List.mem_append_left C Qg)
   obtain ⟨i2,_⟩:=iR (A:=A) (B:=X++C) b9 (List.mem_append_left C Da)
   obtain ⟨i3,i4⟩:=sW (A:=X) (B:=C) Da
   rcases List.mem_append.1 mb with h1|h1
   ·obtain ⟨i5,i6⟩:=sW (A:=A) (B:=X++C) h1
    omega
   ·rcases List.mem_append.1 h1 with h2|h2
    ·exact hX _ h2
    ·obtain ⟨i5,_⟩:=iR (A:=A) (B:=X++C) b9 h1
     obtain ⟨i7,_⟩:=iR (A:=X) (B:=C) Ts h2
     omega
  ·have:=same k hk (by omega) a c ha hc ea ec
   subst this
   omega
 ·by_cases hx:aE q k<g.n
  ·obtain ⟨c1,c2,c3⟩:=mL h hb hq hk hx
   obtain ⟨A,X,C,e1,hA,hX,hC,e2⟩:=jg h c2
   have b9:=j0 h (c:=gu g q k) (by omega)
   have ga:=j0 h (c:=gu g q k+1) (by omega)
   have ma:=mem k (by omega) a ha
   have mb:=mem k (by omega) b hb'
   have da:=fun e=>na ((e9 h hb hq hk hx ha).1 e)
   have db:=fun e=>nb ((e9 h hb hq hk hx hb').1 e)
   rw [c1,e2]
   rw [c3] at hA hX hC
   rw [e2] at ga
   rw [e1] at ma mb r b9
   rw [List.append_assoc] at r ma mb b9 ga ⊢
   have Ox:(X++C).Nodup:=(List.nodup_append.1 b9).2.1
   have L4:=(List.nodup_append.1 ga).2.1
   have sp:∀u,u∈A++(X++C)→ez g u≠aE q k→u∈A∨u∈C:=fun u hu hne=>by
    rcases List.mem_append.1 hu with h1|h1
    ·exact .inl h1
    ·rcases List.mem_append.1 h1 with h2|h2
     ·exact absurd (hX _ h2) hne
     ·exact .inr h2
   rcases sp _ ma da with h1|h1<;>rcases sp _ mb db with h2|h2
   ·rw [(sW h1).1,(sW h2).1] at r ⊢
    exact r
   ·have i1:=sW (B:=cl p (aE p (gu g q k))++C) h1
    have i2:=iR ga (List.mem_append_right _ h2)
    omega
   ·have i1:=sW (B:=X++C) h2
    have i2:=iR b9 (List.mem_append_right X h1)
    omega
   ·have i1:=iR b9 (List.mem_append_right X h1)
    have i2:=iR b9 (List.mem_append_right X h2)
    have i3:=iR Ox h1
    have i4:=iR Ox h2
    have j1:=iR ga (List.mem_append_right (cl p (aE p (gu g q k))) h1)
    have j2:=iR ga (List.mem_append_right (cl p (aE p (gu g q k))) h2)
    have j3:=iR L4 h1
    have j4:=iR L4 h2
    omega
  ·rw [vS h hb hq hk (by omega)];exact r
 ·by_cases hx:aE q k<g.n
  ·obtain ⟨c1,c2,c3⟩:=mL h hb hq hk hx
   obtain ⟨A,X,C,e1,hA,hX,hC,e2⟩:=jg h c2
   have b9:=j0 h (c:=gu g q k) (by omega)
   have ga:=j0 h (c:=gu g q k+1) (by omega)
   have ma:=mem k (by omega) a ha
   have mb:=mem k (by omega) b hb'
   have da:=fun e=>na ((e9 h hb hq hk hx ha).1 e)
   have db:=(e9 h hb hq hk hx hb').2 eb
   rw [Lv k hk hx] at hc
   rw [Ow _ c (bI sX hk).1 hx hc]
   rw [c1,e2]
   rw [c3] at hA hX hC ⊢
   rw [e2] at ga
   rw [e1] at ma mb r b9
   rw [List.append_assoc] at r ma mb b9 ga ⊢
   rw [c3] at ga
   have Ox:(X++C).Nodup:=(List.nodup_append.1 b9).2.1
   have hb2:Cp g bs b∈X:=by
    rcases List.mem_append.1 mb with h1|h1
    ·exact absurd db (hA _ h1)
    ·rcases List.mem_append.1 h1 with h1|h1
     ·exact h1
     ·exact absurd db (hC _ h1)
   have i2:=iR b9 (List.mem_append_left C hb2)
   have i3:=sW (B:=C) hb2
   have j2:=iR ga (List.mem_append_left C hc)
   rcases List.mem_append.1 ma with h1|h1
   ·have j1:=sW (B:=cl p (aE q k)++C) h1
    omega
   ·rcases List.mem_append.1 h1 with h2|h2
    ·exact absurd (hX _ h2) da
    ·have i1:=iR b9 h1
     have i4:=iR Ox h2
     omega
  ·have hx:g.n≤aE q k:=by omega
   obtain ⟨a1,a2,a3⟩:=only k hk hx b hb' eb
   have a4:=(dP hb a1).2.2.2
   rw [a2] at a4
   rw [vS h hb hq hk hx,eO k hk hx c hc,a4, ← a3]
   exact r
 ·by_cases hx:aE q k<g.n
  ·obtain ⟨c1,c2,c3⟩:=mL h hb hq hk hx
   obtain ⟨A,X,C,e1,hA,hX,hC,e2⟩:=jg h c2
   have b9:=j0 h (c:=gu g q k) (by omega)
   have ga:=j0 h (c:=gu g q k+1) (by omega)
   have ma:=mem k (by omega) a ha
   have mb:=mem k (by omega) b hb'
   have da:=fun e=>na ((e9 h hb hq hk hx ha).1 e)
   have db:=(e9 h hb hq hk hx hb').2 eb
   rw [Lv k hk hx] at hc
   rw [Ow _ c (bI sX hk).1 hx hc]
   rw [c1,e2]
   rw [c3] at hA hX hC ⊢
   rw [e2] at ga
   rw [e1] at ma mb r b9
   rw [List.append_assoc] at r ma mb b9 ga ⊢
   rw [c3] at ga
   have L4:=(List.nodup_append.1 ga).2.1
   have hb2:Cp g bs b∈X:=by
    rcases List.mem_append.1 mb with h1|h1
    ·exact absurd db (hA _ h1)
    ·rcases List.mem_append.1 h1 with h1|h1
     ·exact h1
     ·exact absurd db (hC _ h1)
   have i2:=iR b9 (List.mem_append_left C hb2)
   have j2:=iR ga (List.mem_append_left C hc)
   have j3:=sW (B:=C) hc
   rcases List.mem_append.1 ma with h1|h1
   ·have i1:=sW (B:=X++C) h1
    omega
   ·rcases List.mem_append.1 h1 with h2|h2
    ·exact absurd (hX _ h2) da
    ·have j1:=iR ga (List.mem_append_right (cl p (aE q k)) h2)
     have j4:=iR L4 h2
     omega
  ·have hx:g.n≤aE q k:=by omega
   obtain ⟨a1,a2,a3⟩:=only k hk hx b hb' eb
   have a4:=(dP hb a1).2.2.2
   rw [a2] at a4
   rw [vS h hb hq hk hx,eO k hk hx c hc,a4, ← a3]
   exact r
 ·by_cases hx:aE q k<g.n
  ·obtain ⟨c1,c2,c3⟩:=mL h hb hq hk hx
   obtain ⟨A,X,C,_,_,_,_,e2⟩:=jg h c2
   have ga:=j0 h (c:=gu g q k+1) (by omega)
   rw [Lv k hk hx,c1,e2]
   rw [e2,List.append_assoc] at ga
   rw [List.append_assoc]
   rw [c3] at ga ⊢
   have L4:=(List.nodup_append.1 ga).2.1
   have RD:=(List.nodup_append.1 L4).1
   rw [List.pairwise_iff_getElem]
   intro i j hi hj hij
   have m1:(cl p (aE q k))[i]∈cl p (aE q k):=List.getElem_mem hi
   have m2:(cl p (aE q k))[j]∈cl p (aE q k):=List.getElem_mem hj
   rw [Ow _ _ (bI sX hk).1 hx m1,Ow _ _ (bI sX hk).1 hx m2]
   have j1:=iR ga (List.mem_append_left C m1)
   have j2:=iR ga (List.mem_append_left C m2)
   have j3:=sW (B:=C) m1
   have j4:=sW (B:=C) m2
   have a1:=gq RD hi
   have a2:=gq RD hj
   rw [List.getD_eq_getElem?_getD,List.getElem?_eq_getElem hi,Option.getD_some] at a1
   rw [List.getD_eq_getElem?_getD,List.getElem?_eq_getElem hj,Option.getD_some] at a2
   omega
  ·have hx:g.n≤aE q k:=by omega
   obtain ⟨x0,x1⟩:=bI sX hk
   have hj:(aE q k - g.n).toNat<bs.length:=by omega
   have:=hq.HI _ hj
   have e:cl q (aE q k)= [((g.es.length+(aE q k - g.n).toNat:Nat):Int)]:=by
    rw [← this];unfold cl;congr 1;omega
   rw [e]
   exact List.pairwise_singleton ..
theorem HM (hG:(bL (aQ g bs)).1=0):aX (aQ g bs) q:=ES hG (jF h hb hq) (HL h hb hq)
end
end Go.Ab
end
section
namespace Go.Ab
open Go.Proofs
set_option maxRecDepth 10000
set_option linter.unusedSectionVars false
theorem Jw {G:Gr} (hm:aN G=true) (φ:Int→Nat) (up:∀i,i<G.es.length→φ (tl G i)<φ (hd G i)) (tw:∀i k,i<G.es.length→k<G.es.length→i≠k→G.es.getD i (0,0)≠G.es.getD k (0,0)) (s:Int)
 (src:∀y,0≤y→y<G.n→(∀i,i<G.es.length→hd G i≠y)→y=s):(bL G).1=0:=by
 have HD:Dc G=true:=(tF hm).2 ⟨φ,up⟩
 have HE:¬0≤jt G:=fun hl=>by
  have h1:=fL (fun e:Edge=>decide (e.1=e.2)) G.es
  have h0:decide (0≤b7 (fun e:Edge=>decide (e.1=e.2)) G.es)=true:=decide_eq_true hl
  rw [h0] at h1
  obtain ⟨e,he,h2⟩:=List.any_eq_true.1 h1.symm
  obtain ⟨i,hi,rfl⟩:=List.mem_iff_getElem.1 he
  have h3:tl G i=hd G i:=by simpa [tl,hd,List.getD_eq_getElem?_getD,List.getElem?_eq_getElem hi] using h2
  have:=up i hi
  rw [h3] at this
  omega
 have GU:¬0≤dX G:=fun ht=>by
  obtain ⟨i,k,hi,hk,hik,e⟩:=(je _).1 ht
  exact tw i k hi hk hik e
 have HF:¬1<(bQ (·.2) G).length:=fun hb=>by
  have hs:∀y∈bQ (·.2) G,y=s:=fun y hy=>by
   obtain ⟨⟨y0,y1⟩,y2⟩:=nk.1 hy
   refine src y y0 y1 fun i hi e=> ?_
   have:=nj (g:=G) (e:=(i:Int)) (by omega) (by omega)
   rw [Int.toNat_natCast,show (G.es.getD i (0,0)).2=y from e] at this
   omega
  have:=zh eM hs
  omega
 unfold bL fT
 rw [if_neg (by simp [hm]),if_neg HE,if_neg GU,if_neg (by rw [zg hm HD];simp),if_neg HF]
theorem Cr {g:Gr} (h:(bL g).1=0) {i k:Nat} (hi:i<g.es.length) (hk:k<g.es.length) (e:g.es.getD i (0,0)=g.es.getD k (0,0)):i=k:=by
 refine Decidable.byContradiction fun hik=> ?_
 have hgt:¬0≤dX g:=by
  unfold bL fT at h
  intro h2
  split at h
  ·cases h
  split at h
  ·cases h
  cases h
 exact hgt ((je g).2 ⟨i,k,hi,hk,hik,e⟩)
section
variable {g:Gr} {p:Pl} {bs:List Int} {q:Pl} (h:aX g p) (hb:vQ g bs) (hq:HH g p bs q) (hs1:g.n+bs.length≤64) (DP:g.es.length+bs.length≤128)
include h hb hq hs1 DP
theorem Jy:aN (aQ g bs)=true:=by
 have hm:=an h.1
 have hn:=aC hm
 have hGn:(aQ g bs).n=g.n+bs.length:=rfl
 simp only [aN,Bool.and_eq_true,decide_eq_true_eq,Bool.not_eq_true',List.any_eq_false]
 refine ⟨⟨⟨by omega,by omega⟩,by rw [gr];omega⟩,fun e he=> ?_⟩
 simp only [oo,uI,Bool.or_eq_true,decide_eq_true_eq,not_or]
 obtain ⟨i,hi,rfl⟩:=List.mem_iff_getElem.1 he
 have e0:(aQ g bs).es.getD i (0,0)=(aQ g bs).es[i]:=by rw [List.getD_eq_getElem?_getD,List.getElem?_eq_getElem hi];rfl
 have et:((aQ g bs).es[i]).1=fe (aQ g bs) (i:Int):=by unfold fe;rw [Int.toNat_natCast,e0]
 have eh:((aQ g bs).es[i]).2=ez (aQ g bs) (i:Int):=by unfold ez;rw [Int.toNat_natCast,e0]
 rw [et,eh]
 rcases dg h hb hq (e:=(i:Int)) (by omega) (by omega) with ⟨h3,h4⟩|⟨j,h3,h6,h7,h4,h5⟩
 ·obtain ⟨r1,r2⟩:=cZ (g:=g) (bs:=bs) (e:=(i:Int)) (by omega) h3
  have t0:0≤fe g i∧fe g i<g.n:=bk hm (i:=i) (by omega)
  have d0:0≤ez g i∧ez g i<g.n:=bH hm (i:=i) (by omega)
  rw [r1,r2]
  by_cases qC:(i:Int)∈bs
  ·rw [if_pos qC]
   obtain ⟨n1,n2,_⟩:=dP hb qC
   omega
  ·rw [if_neg qC];omega
 ·obtain ⟨b0,b1⟩:=hb.qd _ h4
  obtain ⟨n1,n2,_⟩:=dP hb h4
  have d0:0≤ez g (bs.getD j 0)∧ez g (bs.getD j 0)<g.n:=bH hm (i:=(bs.getD j 0).toNat) (by omega)
  have zk:=(iQ (g:=g) h3).2
  rw [← h6] at zk
  rw [h5,zk]
  omega
theorem Lw {i k:Int} (LV:0≤i) (hi1:i<(aQ g bs).es.length) (Bw:0≤k) (wN:k<(aQ g bs).es.length) (e1:fe (aQ g bs) i=fe (aQ g bs) k) (e2:ez (aQ g bs) i=ez (aQ g bs) k):i=k:=by
 have hm:=an h.1
 have tr:=fun (i:Int) (a:0≤i) (b:i<g.es.length)=>show 0≤fe g i∧fe g i<g.n from bk hm (i:=i.toNat) (by omega)
 have hr:=fun (i:Int) (a:0≤i) (b:i<g.es.length)=>show 0≤ez g i∧ez g i<g.n from bH hm (i:=i.toNat) (by omega)
 rcases dg h hb hq LV hi1 with ⟨h3,h4⟩|⟨j,h3,h6,h7,h4,h5⟩
 ·obtain ⟨r1,r2⟩:=cZ (g:=g) (bs:=bs) LV h3
  have t0:=tr i LV h3
  rcases dg h hb hq Bw wN with ⟨g3,g4⟩|⟨j',g3,g6,g7,g4,g5⟩
  ·obtain ⟨s1,s2⟩:=cZ (g:=g) (bs:=bs) Bw g3
   rw [r1,s1] at e1
   rw [r2,s2] at e2
   by_cases L5:i∈bs
   ·by_cases dn:k∈bs
    ·rw [if_pos L5,if_pos dn] at e2
     have a1:=(dP hb L5).2.2.2
     have a2:=(dP hb dn).2.2.2
     rw [e2] at a1
     rw [← a1,a2]
    ·rw [if_pos L5,if_neg dn] at e2
     have:=(dP hb L5).1
     have:=hr k Bw g3
     omega
   ·by_cases dn:k∈bs
    ·rw [if_neg L5,if_pos dn] at e2
     have:=(dP hb dn).1
     have:=hr i LV h3
     omega
    ·rw [if_neg L5,if_neg dn] at e2
     have:=Cr h.1 (i:=i.toNat) (k:=k.toNat) (by omega) (by omega) (Prod.ext e1 e2)
     omega
  ·have:=(dP hb g4).1
   omega
 ·rcases dg h hb hq Bw wN with ⟨g3,g4⟩|⟨j',g3,g6,g7,g4,g5⟩
  ·have:=(dP hb h4).1
   have:=(cZ (g:=g) (bs:=bs) Bw g3).1
   have:=tr k Bw g3
   omega
  ·rw [h5,g5] at e1
   have a1:=gq hb.nd h3
   have a2:=gq hb.nd g3
   unfold wY at e1
   have:j=j':=by omega
   rw [h6,g6,this]
theorem Ba:(bL (aQ g bs)).1=0:=by
 have hm:=an h.1
 have hn:=aC hm
 have xO:=Jy h hb hq hs1 DP
 have hGn:(aQ g bs).n=g.n+bs.length:=rfl
 have sX:=jF h hb hq
 have NK:=cV sX
 have DO:=aR sX
 refine Jw xO (fun v=>q.ord.idxOf v) (fun i hi=> ?_) (fun i k hi hk hik e=>hik ?_) (aE p 0) (fun y y0 y1 hy=> ?_)
 ·have hR:=Kh h hb hq (e:=(i:Int)) (by omega) (by omega)
  have e1:fe (aQ g bs) (i:Int)=tl (aQ g bs) i:=rfl
  have e2:ez (aQ g bs) (i:Int)=hd (aQ g bs) i:=rfl
  rw [e1,e2] at hR
  obtain ⟨t0,t1⟩:=bk xO hi
  obtain ⟨d0,d1⟩:=bH xO hi
  obtain ⟨k,hk,ek⟩:=gX sX d0 d1
  rw [← ek] at hR
  obtain ⟨j,j1,j2,j3⟩:=k6 (qp h hb hq t0 t1 hk hR)
  have a1:q.ord.idxOf (tl (aQ g bs) i)=j:=by rw [← j3];exact gq NK j2
  have a2:q.ord.idxOf (hd (aQ g bs) i)=k:=by rw [← ek];exact gq NK (by omega)
  omega
 ·have e1:fe (aQ g bs) (i:Int)=fe (aQ g bs) (k:Int):=by unfold fe;simp only [Int.toNat_natCast];rw [e]
  have e2:ez (aQ g bs) (i:Int)=ez (aQ g bs) (k:Int):=by unfold ez;simp only [Int.toNat_natCast];rw [e]
  have:=Lw h hb hq hs1 DP (i:=(i:Int)) (k:=(k:Int)) (by omega) (by omega) (by omega) (by omega) e1 e2
  omega
 ·have Lc:y<g.n:=by
   refine Decidable.byContradiction fun Lc=> ?_
   have hj:(y - g.n).toNat<bs.length:=by omega
   have hin:bs.getD (y - g.n).toNat 0∈bs:=aD hj
   obtain ⟨b0,b1⟩:=hb.qd _ hin
   have r2:=(cZ (g:=g) (bs:=bs) b0 b1).2
   rw [if_pos hin] at r2
   unfold wY at r2
   rw [gq hb.nd hj] at r2
   refine hy (bs.getD (y - g.n).toNat 0).toNat (by rw [gr];omega) ?_
   have:hd (aQ g bs) (bs.getD (y - g.n).toNat 0).toNat=ez (aQ g bs) (bs.getD (y - g.n).toNat 0):=rfl
   rw [this,r2];omega
  have h0:=bI h.2.1 (k:=0) (by omega)
  have hz:bf g y=0:=by
   refine Decidable.byContradiction fun hnz=> ?_
   obtain ⟨e,he⟩:∃e,e∈aM (·.2) g.es g.es.length y:=by
    cases hc:aM (·.2) g.es g.es.length y with
    |nil=>exact absurd (by unfold bf;rw [hc];rfl) hnz
    |cons e l=>exact ⟨e,by simp⟩
   obtain ⟨⟨e0,e1⟩,e2⟩:=bJ.1 he
   have e2:ez g e=y:=e2
   have r2:=(cZ (g:=g) (bs:=bs) e0 e1).2
   by_cases qC:e∈bs
   ·obtain ⟨i1,i2⟩:=rz qC
    have zk:=(iQ (g:=g) i1).2
    rw [i2,e2] at zk
    exact hy (g.es.length+bs.idxOf e) (by rw [gr];omega) zk
   ·rw [if_neg qC,e2] at r2
    exact hy e.toNat (by rw [gr];omega) r2
  refine jU h.1 ⟨y0,Lc⟩ h0 hz ?_
  refine Decidable.byContradiction fun hnz=> ?_
  obtain ⟨A,X,C,hrw,_,_,hX,_⟩:=bV hm (qe g).toer (h.2.2 0 (by omega)) hnz
  obtain ⟨q,X0,e1,_⟩:=hX.fst
  rw [e1] at hrw
  simp at hrw
theorem Jz:aX (aQ g bs) q:=HM h hb hq (Ba h hb hq hs1 DP)
theorem Lx (hI:o7 g=true):o7 (aQ g bs)=true:=by
 have hm:=an h.1
 have hn:=aC hm
 have hGn:(aQ g bs).n=g.n+bs.length:=rfl
 have hN:=HJ h hb hq
 have sX:=jF h hb hq
 unfold o7 at hI ⊢
 rw [Bool.and_eq_true,decide_eq_true_eq,decide_eq_true_eq] at hI
 rw [decide_eq_true (Ba h hb hq hs1 DP),Bool.true_and,decide_eq_true_eq]
 have key:∀y,y∈bQ (·.1) (aQ g bs)↔y∈bQ (·.1) g:=fun y=>by
  rw [jf,jf]
  constructor
  ·rintro ⟨⟨y0,y1⟩,y2⟩
   by_cases Lc:y<g.n
   ·refine ⟨⟨y0,Lc⟩,List.eq_nil_iff_forall_not_mem.2 fun e he=> ?_⟩
    obtain ⟨⟨e0,e1⟩,e2⟩:=bJ.1 he
    have:e∈aM (·.1) (aQ g bs).es (aQ g bs).es.length y:=bJ.2 ⟨⟨e0,by rw [gr];omega⟩,((cZ (g:=g) (bs:=bs) e0 e1).1.trans e2)⟩
    rw [y2] at this;cases this
   ·exfalso
    have hj:(y - g.n).toNat<bs.length:=by omega
    have Ou:=(iQ (g:=g) hj).1
    have:((g.es.length+(y - g.n).toNat:Nat):Int)∈aM (·.1) (aQ g bs).es (aQ g bs).es.length y:=bJ.2 ⟨⟨by omega,by rw [gr];omega⟩,by have:fe (aQ g bs) ((g.es.length+(y - g.n).toNat:Nat):Int)=y:=by {rw [Ou];omega};exact this⟩
    rw [y2] at this;cases this
  ·rintro ⟨⟨y0,y1⟩,y2⟩
   refine ⟨⟨y0,by omega⟩,List.eq_nil_iff_forall_not_mem.2 fun e he=> ?_⟩
   obtain ⟨⟨e0,e1⟩,e2⟩:=bJ.1 he
   have e2:fe (aQ g bs) e=y:=e2
   rcases dg h hb hq e0 e1 with ⟨h3,h4⟩|⟨j,h3,h6,h7,h4,h5⟩
   ·have:e∈aM (·.1) g.es g.es.length y:=bJ.2 ⟨⟨e0,h3⟩,((cZ (g:=g) (bs:=bs) e0 h3).1.symm.trans e2)⟩
    rw [y2] at this;cases this
   ·have:=(dP hb h4).1
    omega
 have hp:(bQ (·.1) (aQ g bs)).Perm (bQ (·.1) g):=(List.perm_ext_iff_of_nodup eM eM).2 key
 rw [hp.length_eq]
 exact hI.2
end
end Go.Ab
end
section
namespace Go.Ab
open Go.Proofs
set_option maxRecDepth 10000
set_option linter.unusedSectionVars false
def jN (g:Gr) (bs:List Int) (k:Nat) (v:Int):List Int:=((List.range k).filter fun j=>fe g (bs.getD j 0)=v).map fun j:Nat=>g.n+(j:Int)
def dy (g:Gr) (bs:List Int) (k:Nat) (ord:List Int):List Int:=ord.flatMap fun v=>v::jN g bs k v
def eO (g:Gr) (k:Nat):List (List Int):=(List.range k).map fun j:Nat=> [((g.es.length+j:Nat):Int)]
def qt (g:Gr) (p:Pl) (bs:List Int):Pl:=⟨dy g bs bs.length p.ord,p.outs++eO g bs.length⟩
theorem vU {g:Gr} {bs:List Int} {k:Nat} (v:Int):jN g bs (k+1) v=jN g bs k v++if fe g (bs.getD k 0)=v then [g.n+(k:Int)] else []:=by
 unfold jN
 rw [List.range_succ,List.filter_append,List.map_append]
 congr 1
 by_cases h:fe g (bs.getD k 0)=v
 ·rw [if_pos h,List.filter_cons,if_pos (decide_eq_true h)];rfl
 ·rw [if_neg h,List.filter_cons,if_neg (by rw [decide_eq_false h];decide)];rfl
theorem gZ {g:Gr} {bs:List Int} {k:Nat} {v u:Int} :u∈jN g bs k v↔∃j:Nat,j<k∧fe g (bs.getD j 0)=v∧u=g.n+(j:Int):=by
 simp only [jN,List.mem_map,List.mem_filter,List.mem_range,decide_eq_true_eq]
 constructor
 ·rintro ⟨j,⟨h1,h2⟩,rfl⟩;exact ⟨j,h1,h2,rfl⟩
 ·rintro ⟨j,h1,h2,rfl⟩;exact ⟨j,⟨h1,h2⟩,rfl⟩
theorem vV {g:Gr} {bs:List Int} {k:Nat} {a b:List Int} :dy g bs k (a++b)=dy g bs k a++dy g bs k b:=by simp [dy]
theorem gW {g:Gr} {bs:List Int} {k:Nat} {v:Int} {b:List Int} :dy g bs k (v::b)=v::(jN g bs k v++dy g bs k b):=by simp [dy]
theorem xW {g:Gr} {bs:List Int} {a:List Int} :dy g bs 0 a=a:=by
 induction a with
 |nil=>rfl
 |cons v a ih=>rw [gW,ih];rfl
theorem vW {g:Gr} {bs:List Int} {k:Nat} {a:List Int} (h:fe g (bs.getD k 0)∉a):dy g bs (k+1) a=dy g bs k a:=by
 induction a with
 |nil=>rfl
 |cons v a ih=>
  rw [gW,gW,ih fun e=>h (List.mem_cons.2 (.inr e)),vU,if_neg fun e=>h (List.mem_cons.2 (.inl e)),List.append_nil]
theorem Bb {g:Gr} {bs:List Int} {k:Nat} {a:List Int} {u:Int} :u∈dy g bs k a↔∃v∈a,u=v∨u∈jN g bs k v:=by simp [dy]
theorem xX {g:Gr} {bs:List Int} {k:Nat} {ord:List Int} (b9:ord.Nodup) (hr:∀u∈ord,u<g.n) (ht:fe g (bs.getD k 0)∈ord):
 ∃A B,dy g bs k ord=A++fe g (bs.getD k 0)::(jN g bs k (fe g (bs.getD k 0))++B)∧dy g bs (k+1) ord=A++fe g (bs.getD k 0)::(jN g bs k (fe g (bs.getD k 0))++(g.n+(k:Int))::B)∧fe g (bs.getD k 0)∉A∧∀u r,B=u::r→u<g.n:=by
 obtain ⟨o1,o2,e⟩:=List.append_of_mem ht
 have ga:=b9
 rw [e,List.nodup_append] at ga
 obtain ⟨_,n2,n3⟩:=ga
 obtain ⟨n4,_⟩:=List.nodup_cons.1 n2
 have n5:fe g (bs.getD k 0)∉o1:=fun h=>n3 _ h _ (by simp) rfl
 refine ⟨dy g bs k o1,dy g bs k o2, ?_, ?_,fun h=> ?_,fun u r hB=> ?_⟩
 ·rw [congrArg (dy g bs k) e,vV,gW]
 ·rw [congrArg (dy g bs (k+1)) e,vV,gW,vW n5,vW n4,vU,if_pos rfl];simp
 ·obtain ⟨v,hv,h1|h1⟩:=Bb.1 h
  ·exact n5 (h1 ▸ hv)
  ·obtain ⟨j,_,_,h2⟩:=gZ.1 h1
   have:=hr _ ht
   omega
 ·cases o2 with
  |nil=>simp [dy] at hB
  |cons w o2=>
   rw [gW] at hB
   cases hB
   exact hr _ (by rw [e];simp)
theorem vX {bs:List Int} {k j:Nat} (h:j<k):(bs.take k).getD j 0=bs.getD j 0:=by
 rw [List.getD_eq_getElem?_getD,List.getD_eq_getElem?_getD,List.getElem?_take_of_lt h]
theorem tJ {bs:List Int} {k:Nat} (h:k<bs.length):bs.take (k+1)=bs.take k++ [bs.getD k 0]:=by
 rw [List.take_add_one,List.getElem?_eq_getElem h,List.getD_eq_getElem?_getD,List.getElem?_eq_getElem h];rfl
theorem xY {g:Gr} {bs:List Int} (hb:vQ g bs) {k:Nat} (hk:k<bs.length) {i:Nat} (hi:bs.getD k 0=i):
 i<g.es.length∧(gi g (bs.take k)).getD i (0,0)=(tl g i,hd g i)∧gi g (bs.take (k+1))=(gi g (bs.take k)++ [(g.n+(k:Int),hd g i)]).set i (tl g i,g.n+(k:Int)):=by
 have hil:i<g.es.length:=by have:=hb.qd _ (aD (d:=0) hk);omega
 have hlt:(bs.take k).length=k:=by simp;omega
 have EV:(bs.take (k+1)).length=k+1:=by simp;omega
 have hni:(i:Int)∉bs.take k:=fun hm=>by
  have b9:=hb.nd
  rw [← List.take_append_drop (k+1) bs,tJ hk,hi] at b9
  have:=(List.nodup_append.1 (List.nodup_append.1 b9).1).2.2 _ hm _ (List.mem_singleton.2 rfl)
  exact this rfl
 refine ⟨hil, ?_, ?_⟩
 ·unfold gi
  rw [List.getD_eq_getElem?_getD,List.getElem?_append_left (by simpa using hil),List.getElem?_map,List.getElem?_range hil,Option.map_some,Option.getD_some,if_neg hni]
 ·unfold gi
  rw [hlt,EV,List.append_assoc,List.set_append_left _ _ (by simpa using hil),List.range_succ (n:=k),List.map_append,List.map_cons,List.map_nil]
  have zk:ez g ((bs.take (k+1)).getD k 0)=hd g i:=by rw [vX (by omega),hi];rfl
  rw [zk]
  congr 1
  ·refine List.ext_getElem? fun j=> ?_
   rw [List.getElem?_set]
   by_cases hj:j<g.es.length
   ·rw [List.getElem?_map,List.getElem?_range hj,List.getElem?_map,List.getElem?_range hj]
    simp only [Option.map_some,List.length_map,List.length_range]
    by_cases e:i=j
    ·subst e
     have hin:(i:Int)∈bs.take (k+1):=by rw [tJ hk,hi];simp
     rw [if_pos rfl,if_pos hj,if_pos hin]
     unfold wY
     rw [tJ hk,hi,zj,if_neg hni,hlt]
     simp
    ·rw [if_neg e,tJ hk,hi]
     by_cases hm:(j:Int)∈bs.take k
     ·rw [if_pos hm,if_pos (by simp [hm])]
      unfold wY
      rw [zj,if_pos hm]
     ·rw [if_neg hm,if_neg (by simp [hm];omega)]
   ·rw [if_neg (by omega),List.getElem?_eq_none (by simpa using hj),List.getElem?_eq_none (by simpa using hj)]
  ·congr 1
   refine List.map_congr_left fun j hj=> ?_
   rw [List.mem_range] at hj
   rw [vX hj,vX (by omega)]
theorem xZ {g:Gr} :gi g []=g.es:=by
 unfold gi
 simp only [List.length_nil,List.range_zero,List.map_nil,List.append_nil,List.not_mem_nil,if_false]
 refine List.ext_getElem? fun j=> ?_
 by_cases hj:j<g.es.length
 ·rw [List.getElem?_map,List.getElem?_range hj,Option.map_some,List.getElem?_eq_getElem hj]
  simp only [tl,hd,List.getD_eq_getElem?_getD,List.getElem?_eq_getElem hj,Option.getD_some]
 ·rw [List.getElem?_eq_none (by simpa using hj),List.getElem?_eq_none (by omega)]
section
variable {g:Gr} {p:Pl} {bs:List Int} (h:aX g p) (hb:vQ g bs)
include h hb
theorem JA:(dy g bs bs.length p.ord).Nodup∧∀u,u∈dy g bs bs.length p.ord↔0≤u∧u<g.n+bs.length:=by
 have hm:=an h.1
 have hn:=aC hm
 have b9:=cV h.2.1
 have hr:∀u∈p.ord,0≤u∧u<g.n:=fun u hu=>by
  have:=h.2.1.2.1.mem_iff.1 hu
  simp only [eu,List.mem_map,List.mem_range] at this
  obtain ⟨k,hk,e⟩:=this
  have e:(k:Int)=u:=e
  omega
 have hown:∀v,(jN g bs bs.length v).Nodup:=fun v=>by
  unfold jN
  refine List.Pairwise.map _ (fun a b hab=> ?_) ((List.nodup_range).filter _)
  intro e;apply hab;omega
 constructor
 ·unfold dy
  rw [List.Nodup,List.pairwise_flatMap]
  refine ⟨fun v hv=>List.nodup_cons.2 ⟨fun hh=> ?_,hown v⟩, ?_⟩
  ·obtain ⟨j,_,_,e⟩:=gZ.1 hh
   have:=(hr v hv).2
   omega
  ·refine List.Pairwise.imp_of_mem (fun {a b} ha hb' hne=> ?_) b9
   intro u hu u' wo Tt
   subst Tt
   rcases List.mem_cons.1 hu with rfl|hu
   ·rcases List.mem_cons.1 wo with rfl|wo
    ·exact hne rfl
    ·obtain ⟨j,_,_,e⟩:=gZ.1 wo
     have:=(hr u ha).2
     omega
   ·obtain ⟨j,_,j2,e⟩:=gZ.1 hu
    rcases List.mem_cons.1 wo with rfl|wo
    ·have:=(hr u hb').2
     omega
    ·obtain ⟨l,_,l2,e'⟩:=gZ.1 wo
     obtain rfl:j=l:=by omega
     exact hne (j2.symm.trans l2)
 ·intro u
  rw [Bb]
  constructor
  ·rintro ⟨v,hv,rfl|hu⟩
   ·have:=hr u hv;omega
   ·obtain ⟨j,j1,_,e⟩:=gZ.1 hu
    omega
  ·rintro ⟨h0,h1⟩
   by_cases hlt:u<g.n
   ·obtain ⟨l,hl,e⟩:=gX h.2.1 h0 hlt
    exact ⟨u,by rw [← e,aE,List.getD_eq_getElem?_getD,List.getElem?_eq_getElem (by rw [aR h.2.1];exact hl)];exact List.getElem_mem _, .inl rfl⟩
   ·have hk:(u - g.n).toNat<bs.length:=by omega
    have wq:=hb.qd _ (aD (d:=0) hk)
    have ht:=bk hm (i:=(bs.getD (u - g.n).toNat 0).toNat) (by omega)
    obtain ⟨l,hl,e⟩:=gX h.2.1 ht.1 ht.2
    refine ⟨fe g (bs.getD (u - g.n).toNat 0), ?_, .inr (gZ.2 ⟨(u - g.n).toNat,hk,rfl,by omega⟩)⟩
    show tl g (bs.getD (u - g.n).toNat 0).toNat∈p.ord
    rw [← e,aE,List.getD_eq_getElem?_getD,List.getElem?_eq_getElem (by rw [aR h.2.1];exact hl)];exact List.getElem_mem _
theorem DA:HH g p bs (qt g p bs):=by
 have hm:=an h.1
 have hn:=aC hm
 have cJ:=h.2.1.1
 have b9:=cV h.2.1
 obtain ⟨n1,n2⟩:=JA h hb
 refine ⟨?_,fun x hx=> ?_,fun k hk=> ?_, ?_, ?_⟩
 ·show (p.outs++eO g bs.length).length=_
  rw [List.length_append,cJ,eO,List.length_map,List.length_range];omega
 ·show (p.outs++eO g bs.length).getD x []=_
  rw [List.getD_eq_getElem?_getD,List.getElem?_append_left (by omega), ← List.getD_eq_getElem?_getD]
 ·show (p.outs++eO g bs.length).getD (g.n.toNat+k) []=_
  rw [List.getD_eq_getElem?_getD,List.getElem?_append_right (by omega),cJ,Nat.add_sub_cancel_left,eO,List.getElem?_map,List.getElem?_range hk];rfl
 ·refine (List.perm_ext_iff_of_nodup n1 ?_).2 fun u=> ?_
  ·unfold eu
   exact List.Pairwise.map _ (fun a b hab=>by intro e;apply hab;exact Int.ofNat.inj e) List.nodup_range
  ·show u∈dy g bs bs.length p.ord↔_
   rw [n2]
   simp only [eu,List.mem_map,List.mem_range]
   constructor
   ·rintro ⟨h0,h1⟩;exact ⟨u.toNat,by omega,by show ((u.toNat:Nat):Int)=u;omega⟩
   ·rintro ⟨k,hk,e⟩
    have e:(k:Int)=u:=e
    omega
 ·have hr:∀u∈p.ord,u<g.n:=fun u hu=>by
   have:=h.2.1.2.1.mem_iff.1 hu
   simp only [eu,List.mem_map,List.mem_range] at this
   obtain ⟨k,hk,e⟩:=this
   have e:(k:Int)=u:=e
   omega
  have fc:∀v∈p.ord,∀u∈v::jN g bs bs.length v,EU g bs u=v:=fun v hv u hu=>by
   rcases List.mem_cons.1 hu with rfl|hu
   ·exact if_pos (hr u hv)
   ·obtain ⟨j,j1,j2,rfl⟩:=gZ.1 hu
    unfold EU
    rw [if_neg (by omega),show (g.n+(j:Int) - g.n).toNat=j by omega]
    exact j2
  show (dy g bs bs.length p.ord).Pairwise _
  unfold dy
  rw [List.pairwise_flatMap]
  refine ⟨fun v hv=> ?_, ?_⟩
  ·refine List.Pairwise.imp_of_mem (R:=fun a b=>a<b) (fun {a b} ha hb' hab=> .inr ⟨(fc v hv a ha).trans (fc v hv b hb').symm,hab⟩) (List.pairwise_cons.2 ⟨fun u hu=> ?_, ?_⟩)
   ·obtain ⟨j,_,_,rfl⟩:=gZ.1 hu
    have:=hr v hv
    omega
   ·unfold jN
    refine List.Pairwise.map _ (fun a b hab=> ?_) (List.pairwise_lt_range.filter _)
    omega
  ·refine List.Pairwise.imp_of_mem (R:=fun a b=>p.ord.idxOf a<p.ord.idxOf b) (fun {a b} ha hb' hab=> ?_) ?_
   ·intro u hu v hv
    rw [fc a ha u hu,fc b hb' v hv]
    exact .inl hab
   ·rw [List.pairwise_iff_getElem]
    intro i j hi hj hij
    have e1:=gq b9 hi
    have e2:=gq b9 hj
    rw [List.getD_eq_getElem?_getD,List.getElem?_eq_getElem hi,Option.getD_some] at e1
    rw [List.getD_eq_getElem?_getD,List.getElem?_eq_getElem hj,Option.getD_some] at e2
    omega
end
end Go.Ab
end
section
namespace Go.Ab
open Go.Proofs Go.RowKit
attribute [local congr] ACall.congr gd.congr Nx.congr
set_option maxRecDepth 10000
theorem Spec.of_same {P:Program} {f:Nat} {A:Env→World→List Value→Prop} {m:List (Nat × AObj)} {res:AV} (hc:yz P f)
 (h:∀E w vals,Good m E w→A E w vals→Calls P f vals.toArray w fun e w'=>∃v,e= .returned v∧w'.os=w.os∧w'.tape=w.tape∧w'.output=w.output∧w.heap.size≤w'.heap.size∧(∀b,b<w.heap.size→w'.heap[b]? =w.heap[b]?)∧cA w' E res v):Spec P f A m res m:=by
 refine ⟨hc,fun E w vals hg hA=>(h E w vals hg hA).mono ?_⟩
 rintro e w' ⟨v,rfl,h1,h2,h3,h4,h5,h6⟩
 have hst:aP w E.z w' E.z:=fun b=>⟨Nat.le_refl _,fun o ho=>by
  by_cases hb:b<w.heap.size
  ·simp only [World.cell?,h5 b hb]
  ·have:=hg.fresh b (by omega);omega⟩
 refine ⟨v,E,rfl,⟨h1,h2,h3,h4,hst,fun b hb _=>⟨h5 b hb,rfl⟩,fun _ _=>⟨rfl,rfl⟩⟩,⟨hg.low,hg.inj,fun l o hl=> ?_,fun b hb=>hg.fresh b (by omega)⟩,fun l o b hl hro hb=> .inr ⟨l,o,hl,hro,hb⟩,h6⟩
 have h0:=hg.ia l o hl
 have:=bE.keep (k:= []) (E':=E) hst (fun _ _=>⟨rfl,rfl⟩) (fun l x hx=>by cases hx) rfl (fun _ _=>rfl) (fun b hb=>⟨h5 b (h0.lt hb),rfl⟩) h0
 rwa [AObj.lf] at this
theorem zm {au:List (List Int × Int)} {es:Array MapEntry} (h:ji 0 au es) {y:MapEntry} :y∈es.toList↔∃i p,au[i]? =some p∧y=⟨kV 0 p.1, .int .i64 p.2,i⟩:=by
 constructor
 ·intro hy
  obtain ⟨i,hi,e⟩:=List.mem_iff_getElem.1 hy
  have hi':i<es.size:=by simpa using hi
  have hp:=List.getElem?_eq_getElem (l:=au) (i:=i) (by rw [← h.size];exact hi')
  refine ⟨i,_,hp, ?_⟩
  have:=h.FB i _ hp
  rw [Array.getElem?_eq_getElem hi'] at this
  rw [← e]
  simpa using Option.some.inj this
 ·rintro ⟨i,p,hp,rfl⟩
  have:=h.FB i p hp
  obtain ⟨hi,e⟩:=Array.getElem?_eq_some_iff.1 this
  rw [← e]
  simp
theorem HN {au:List (List Int × Int)} {es:Array MapEntry} (h:ji 0 au es):es.toList.map (·.born)=List.range es.size:=by
 refine List.ext_getElem? fun i=> ?_
 rw [List.getElem?_map,Array.getElem?_toList]
 by_cases hi:i<es.size
 ·have hp:=List.getElem?_eq_getElem (l:=au) (i:=i) (by rw [← h.size];exact hi)
  rw [h.FB i _ hp,List.getElem?_range hi]
  rfl
 ·rw [Array.getElem?_eq_none (by omega),List.getElem?_eq_none (by simpa using hi)]
  rfl
def jO (n:Int) (es:List Edge) (ord:List Int) (outs:List (List Int)) (au:List (List Int × Int)):List (Nat × AObj):=
 [(10000, .box [eN n, .ref 10001, .ref 10002, .ref 10003, .mref 10004]),(10001, .own 73 2 (es.map rE)),(10002, .own 3 1 (ord.map rI)),(10003, .own 31 1 (vI outs)),(10004, .mp 0 au)]
def vY (es:List Edge) (au:List (List Int × Int)) (x:Int) (e:Nat):Bool:=au.any fun p=>fu (fun i=>(es.getD i (0,0)).1) x e (p.1.getD 0 0).toNat p.2
theorem EW (n:Int) (es:List Edge) (ord:List Int) (outs:List (List Int)) (au:List (List Int × Int)) (x:Int) (e:Nat) (he:e<es.length) (hne:es.length≤1000) (hE:∀p∈au,0≤p.1.getD 0 0∧p.1.getD 0 0<es.length):
 Spec Tryz.prog 167 (Args [.ptr 10000 0,eN x,eN e]) (jO n es ord outs au) (eB (vY es au x e)) (jO n es ord outs au):=by
 refine Spec.of_same ⟨Tryz.f167,_,Tryz.func167,by kernel_rfl,rfl⟩ fun E w vals hg hA=> ?_
 obtain ⟨v,vs,rfl,h0,h3⟩:=hA
 obtain ⟨v2,SJ,rfl,h1,h4⟩:=h3
 obtain ⟨v3,SK,rfl,h2,h5⟩:=h4
 simp only [AVrs] at h5
 subst h5
 have h1:=oq h1
 have h2:=oq h2
 subst h1 h2
 obtain ⟨B,hB,rfl⟩:=h0
 obtain ⟨B',cs,ty,g1,g2,g3,g4,g5⟩:=hg.ia 10000 (.box [eN n, .ref 10001, .ref 10002, .ref 10003, .mref 10004]) rfl
 obtain rfl:B'=B:=by rw [g1] at hB;exact Option.some.inj hB
 obtain ⟨_,_,o1⟩:=hg.ia 10001 (.own 73 2 (es.map rE)) rfl
 obtain ⟨bm,me,m1,m2,m3,m4⟩:=hg.ia 10004 (.mp 0 au) rfl
 obtain ⟨u0,r0,rfl,_,g4⟩:=g4
 obtain ⟨u1,r1,rfl,c1,g4⟩:=g4
 obtain ⟨u2,r2,rfl,_,g4⟩:=g4
 obtain ⟨u3,r3,rfl,_,g4⟩:=g4
 obtain ⟨u4,r4,rfl,c4,g4⟩:=g4
 obtain ⟨rfl,_⟩:=c1
 obtain ⟨QG,c5,rfl⟩:=c4
 obtain rfl:QG=bm:=by rw [m1] at c5;exact (Option.some.inj c5).symm
 obtain ⟨be,cur,ce,p1,p2,p3,p4,p5,p6,p7,p8⟩:∃b cur cap,E.ρ 10001=some b∧w.heap[b]? =some (.cells cur 73 (0,0))∧E.σ 10001= .slice (some ⟨b,0,none⟩) (es.map rE).length cap∧(es.map rE).length≤cap∧cap*2=cur.size∧cap≤maxLen∧
  E.z b=0∧∀(i j:Nat) (r:List D) (y:D),(es.map rE)[i]? =some r→r[j]? =some y→∃v,cur[i*2+j]? =some v∧Rd w E.z v y:=by
  rcases o1 with ⟨_,h,_⟩|h
  ·rw [List.map_eq_nil_iff] at h
   subst h
   simp at he
  ·exact h
 rw [List.length_map] at p3 p4
 have Tu:B'<w.heap.size:=(Array.getElem?_eq_some_iff.1 g2).1
 have pq:be<w.heap.size:=(Array.getElem?_eq_some_iff.1 p2).1
 have key:=BZ B' QG be es.length ce me (fun i=>(es.getD i (0,0)).1) x e w Tu pq ?_ ?_ m2 (fun i hi=> ?_) he hne ⟨fun y hy=> ?_, ?_⟩ (fun y hy=> ?_)
 ·refine key.mono ?_
  rintro en w' ⟨rfl,w1,seen,⟨sN,Ol⟩,rfl⟩
  refine ⟨_,rfl,sN.2.1,Ol,sN.2.2, ?_,fun b hb=> ?_, ?_⟩
  ·have:=ou w1 (.mapIter (some QG) me.size seen me.size)
   rw [sN.1] at this
   exact this
  ·rw [m9 _ _ (by rw [sN.1];exact hb),sN.1]
  ·have:(me.toList.any fun y=>fu (fun i=>(es.getD i (0,0)).1) x e (J5 y.key) (J6 y.val))=vY es au x e:=by
    rw [Bool.eq_iff_iff,vY,List.any_eq_true,List.any_eq_true]
    constructor
    ·rintro ⟨y,hy,hm⟩
     obtain ⟨i,p,hp,rfl⟩:=(zm m4).1 hy
     exact ⟨p,List.mem_of_getElem? hp,hm⟩
    ·rintro ⟨p,hp,hm⟩
     obtain ⟨i,hi⟩:=List.mem_iff_getElem?.1 hp
     exact ⟨_,(zm m4).2 ⟨i,p,hi,rfl⟩,hm⟩
   rw [this]
   exact .sc _ rfl
 ·simp [World.cell?,g2,p3]
 ·simp [World.cell?,g2]
 ·obtain ⟨v,q1,q2⟩:=p8 i 0 (rE es[i]) (.sc (.int .i64 es[i].1)) (by simp [List.getElem?_eq_getElem hi]) rfl
  rw [oq q2] at q1
  simp only [World.cell?,p2,Option.isSome_none,Bool.false_eq_true,if_false]
  rw [List.getD_eq_getElem?_getD,List.getElem?_eq_getElem hi]
  exact q1
 ·obtain ⟨i,p,hp,rfl⟩:=(zm m4).1 hy
  have:=(List.getElem?_eq_some_iff.1 hp).1
  have:=m4.size
  show i<me.size
  omega
 ·rw [HN m4];exact List.nodup_range
 ·obtain ⟨i,p,hp,rfl⟩:=(zm m4).1 hy
  obtain ⟨h1,h2⟩:=hE p (List.mem_of_getElem? hp)
  refine ⟨(p.1.getD 0 0).toNat,p.2, ?_,rfl,by omega⟩
  show Value.int .i64 (p.1.getD 0 0)=_
  rw [Int.toNat_of_nonneg h1]
end Go.Ab
end
section
namespace Go.Ab
open Go.Proofs
attribute [local congr] ACall.congr gd.congr Nx.congr
set_option maxRecDepth 20000
set_option maxHeartbeats 8000000
def HO (n:Int) (es:List Edge) (ord:List Int) (outs:List (List Int)) (au:List (List Int × Int)):List (Nat × AObj):=
 [(10000, .box [eN n, .ref 10011, .ref 10012, .ref 10013, .mref 10004]),(10011, .own 73 2 (es.map rE)),(10012, .own 3 1 (ord.map rI)),(10013, .own 31 1 (vI outs)),(10004, .mp 0 au)]
theorem HP {au:List (List Int × Int)} {k:List Int} {v:Int} (h:∀p∈au,k≠p.1):yd au k v=au++ [(k,v)]:=by
 have hf:cC au k=none:=by
  rw [cC,List.findIdx?_eq_none_iff]
  intro p hp
  exact decide_eq_false (h p hp)
 unfold yd fC j7
 rw [hf]
 simp only [sG]
 refine List.ext_getElem? fun i=> ?_
 rw [List.getElem?_modify]
 rcases Nat.lt_trichotomy i au.length with h1|h1|h1
 ·rw [List.getElem?_append_left h1,List.getElem?_append_left h1]
  simp [show ¬au.length=i by omega]
 ·subst h1;simp
 ·rw [List.getElem?_eq_none (by simp;omega),List.getElem?_eq_none (by simp;omega)];rfl
theorem Cs {a b:List (List Int)} :vI (a++b)=vI a++vI b:=by simp [vI]
theorem JB {A B:List Int} {t:Int} (h:t∉A):fq (A++t::B) t=A.length:=by
 refine di (d:=0) (by simp) (fun j hj=>decide_eq_false fun e=>h ?_) (decide_eq_true ?_)
 ·rw [e,List.getD_eq_getElem?_getD,List.getElem?_append_left hj,List.getElem?_eq_getElem hj];exact List.getElem_mem _
 ·rw [List.getD_eq_getElem?_getD,List.getElem?_append_right (by omega)];simp
theorem LB {A O B:List Int} {t:Int} {j:Nat} (hj:j<O.length):(A++t::(O++B)).getD (A.length+1+j) 0=O.getD j 0:=by
 rw [List.getD_eq_getElem?_getD,List.getElem?_append_right (by omega),show A.length+1+j - A.length=j+1 by omega,List.getElem?_cons_succ,List.getElem?_append_left hj, ← List.getD_eq_getElem?_getD]
theorem JC {A O B:List Int} {t u:Int} :(A++t::(O++u::B)).getD (A.length+1+O.length) 0=u:=by
 rw [List.getD_eq_getElem?_getD,List.getElem?_append_right (by omega),show A.length+1+O.length - A.length=O.length+1 by omega,List.getElem?_cons_succ,List.getElem?_append_right (by omega)]
 simp
theorem JD {A O B:List Int} {t x:Int} :sM (A++t::(O++B)) (A.length+1+O.length) x=A++t::(O++x::B):=by
 unfold sM
 rw [show A++t::(O++B)=(A++t::O)++B by simp,List.take_left' (by simp;omega),List.drop_left' (by simp;omega)]
 simp
theorem nI {es:List Edge} {a b:Int} :List.map rE es++ [[D.sc (.int .i64 a),D.sc (.int .i64 b)]]=List.map rE (es++ [(a,b)]):=by simp [rE]
theorem zn {es:List Edge} {e:Nat} {a b:Int} (h:es.getD e (0,0)=(a,b)):(List.map rE es).getD e [D.sc (.int .i64 0),D.sc (.int .i64 0)]= [D.sc (.int .i64 a),D.sc (.int .i64 b)]:=by
 rw [show [D.sc (.int .i64 0),D.sc (.int .i64 0)]=rE (0,0) from rfl,List.getD_eq_getElem?_getD,List.getElem?_map]
 rw [List.getD_eq_getElem?_getD] at h
 cases hq:es[e]? with
 |none=>rw [hq] at h;cases h;rfl
 |some q=>rw [hq] at h;cases h;rfl
theorem rC {es:List Edge} {e:Nat} {a b:Int} :(List.map rE es).set e [D.sc (.int .i64 a),D.sc (.int .i64 b)]=List.map rE (es.set e (a,b)):=by
 rw [List.map_set];rfl
theorem EX (n:Int) (es:List Edge) (outs:List (List Int)) (au:List (List Int × Int)) (e:Nat) (A O B:List Int) (t:Int) (hn:0≤n∧n<1000) (he:e<es.length) (hne:es.length<1000) (qz:outs.length<1000) (UQ:(A++t::(O++B)).length<1000)
 (hE:∀p∈au,0≤p.1.getD 0 0∧p.1.getD 0 0<es.length) (hnew:∀p∈au, [(e:Int)]≠p.1) (ht:(es.getD e (0,0)).1=t) (Tv:t∉A)
 (hO:∀u∈O,vY ((es++ [(n,(es.getD e (0,0)).2)]).set e (t,n)) (au++ [([(e:Int)],n)]) u e=true) (hB:∀u r,B=u::r→vY ((es++ [(n,(es.getD e (0,0)).2)]).set e (t,n)) (au++ [([(e:Int)],n)]) u e=false):
 Spec Tryz.prog 118 (Args [.ptr 10000 0,eN e]) (jO n es (A++t::(O++B)) outs au) (.tup []) (HO (n+1) ((es++ [(n,(es.getD e (0,0)).2)]).set e (t,n)) (A++t::(O++n::B)) (outs++ [[(es.length:Int)]]) (au++ [([(e:Int)],n)])):=by
 have hi:=aZ (A++t::(O++B)) t (by omega)
 rw [JB Tv] at hi
 have L6:=HP (v:=n) hnew
 obtain ⟨hd,Cm⟩:∃hd,(es.getD e (0,0)).2=hd:=⟨_,rfl⟩
 rw [Cm] at hO hB ⊢
 have JV:(List.map rE es).getD e [D.sc (.int .i64 0),D.sc (.int .i64 0)]= [D.sc (.int .i64 t),D.sc (.int .i64 hd)]:=zn (Prod.ext ht Cm)
 have iF:(List.map rE (es++ [(n,hd)])).getD e [D.sc (.int .i64 0),D.sc (.int .i64 0)]= [D.sc (.int .i64 t),D.sc (.int .i64 hd)]:=zn (by
  rw [List.getD_eq_getElem?_getD,List.getElem?_append_left he, ← List.getD_eq_getElem?_getD];exact Prod.ext ht Cm)
 have rS:(List.map rE ((es++ [(n,hd)]).set e (t,n))).getD e [D.sc (.int .i64 0),D.sc (.int .i64 0)]= [D.sc (.int .i64 t),D.sc (.int .i64 n)]:=zn (by
  rw [List.getD_eq_getElem?_getD,List.getElem?_set_self (by simp;omega)];rfl)
 have GL:((es++ [(n,hd)]).set e (t,n)).length=es.length+1:=by simp
 have Oy:∀p∈au++ [([(e:Int)],n)],0≤p.1.getD 0 0∧p.1.getD 0 0<((es++ [(n,hd)]).set e (t,n)).length:=fun p hp=>by
  rw [GL]
  rcases List.mem_append.1 hp with h|h
  ·have:=hE p h;omega
  ·rw [List.mem_singleton] at h
   subst h
   simp only [List.getD_cons_zero]
   omega
 have mA:=fun (outs:List (List Int)) (u:Int)=>EW (n+1) ((es++ [(n,hd)]).set e (t,n)) (A++t::(O++B)) outs (au++ [([(e:Int)],n)]) u e (by rw [GL];omega) (by rw [GL];omega) Oy
 have hins:=Ao (A++t::(O++B)) (A.length+1+O.length) n (by simp;omega) (by omega)
 rw [JD] at hins
 have hlen:(A++t::(O++B)).length=A.length+1+O.length+B.length:=by simp;omega
 generalize L7:(es++ [(n,hd)]).set e (t,n)=E2 at hO hB rS GL Oy mA ⊢
 have hv:vI outs++ [[D.sl 1 [[D.sc (.int .i64 (es.length:Int))]]]]=vI (outs++ [[(es.length:Int)]]):=by simp [vI,sI,rI]
 generalize Jl:A++t::(O++n::B)=Tw at hins ⊢
 unfold jO HO
 (refine Spec.tg (C:=T.cfg [51,73,125,126,72] []) (rs:= []) [(10011,51),(10013,73),(10012,126)] (T.ai _ _) Tryz.func118 rfl rfl Tryz.ntmps118 Tryz.results118 (by simp [AObj.isNest]) (by simp [AObj.isNest]) (by first|(simp [look];done)|(simp [asN];done)|(intro l hl;simp only [asN];repeat (rw [if_neg (fun e=>by subst e;simp [look] at hl)]))) (by first|(simp [look];done)|(simp [asN];done)|(intro l hl;simp only [asN];repeat (rw [if_neg (fun e=>by subst e;simp [look] at hl)]))) (by kernel_rfl) T.mixed fun X hX hP hC aH bU=> ?_)
 repeat' (first|refine Rn.p ?_|(with_reducible apply And.intro)|((first|(refine hK _ ?_;clear hK K)|with_reducible intro K hK|refine Rs.p ?_|((with_reducible first|apply oP|apply oQ);exact rfl)|(refine aj hX hC hP (hi) rfl rfl rfl ?_ ?_ ?_ ?_;iterate 3 (focus (simp only [go_sem,simprocAttr,L6,nI,rC,JV,iF,rS,L7,hv,List.length_append,List.length_cons,List.length_nil];done)))|(refine aq hX hC hP [(10000,10000),(10001,51),(10002,10002),(10003,73),(10004,10004)] (mA _ _) rfl rfl rfl ?_ ?_ ?_ ?_ ?_ ?_ ?_ ?_ ?_ ?_ ?_ ?_ ?_ ?_;(focus (simp only [go_sem,simprocAttr,L6,nI,rC,JV,iF,rS,L7,hv,List.length_append,List.length_cons,List.length_nil];done));(iterate 12 (focus (simp [go_sem,simprocAttr,L6,nI,rC,JV,iF,rS,L7,hv,List.length_append,List.length_cons,List.length_nil];done)));try simp only [List.map_cons,List.map_nil]));try simp only [go_sem,simprocAttr,L6,nI,rC,JV,iF,rS,L7,hv,List.length_append,List.length_cons,List.length_nil])|((with_reducible refine oD ?_ ?_);kernel_rfl)|((with_reducible intro h);try simp only [go_sem,simprocAttr,L6,nI,rC,JV,iF,rS,L7,hv,List.length_append,List.length_cons,List.length_nil] at h)|omega|intro h)
 refine ag (fun j:Nat=>j≤O.length) (fun j=>⟨[(0, .ptr 10000 0),(1,eN e),(4,eN n),(6,eN ((A.length+1+j:Nat):Int))], [(10000, .box [eN (n+1), .ref 51, .ref 10002, .ref 73, .mref 10004]),(51, .own 73 2 (E2.map rE)),(10002, .own 3 1 ((A++t::(O++B)).map rI)),(73, .own 31 1 (vI (outs++ [[(es.length:Int)]]))),(10004, .mp 0 (au++ [([(e:Int)],n)]))]⟩) (fun j=>O.length - j) 0 (by omega) ?_ ?_
 ·refine Le.of ?_ ?_<;>simp [go_sem,simprocAttr,L6,nI,rC,JV,iF,rS,L7,hv,List.length_append,List.length_cons,List.length_nil]
 rintro j hj
 obtain ⟨L,hL⟩:∃L,L=A++t::(O++B):=⟨_,rfl⟩
 rcases Nat.lt_or_ge j O.length with hlt|hge
 ·have hb:decide (((A.length+1+j:Nat):Int)<(L.length:Int))=true:=decide_eq_true (by rw [hL];omega)
  have qD:L.getD (A.length+1+j) 0=O.getD j 0:=by rw [hL];exact LB hlt
  have hm:=hO _ (aD (d:=0) hlt)
  have hm2:=mA (outs++ [[(es.length:Int)]]) (O.getD j 0)
  rw [hm] at hm2
  rw [← hL] at hm2 ⊢
  have hjl:A.length+1+j<L.length:=by rw [hL];omega
  repeat' (first|refine Rn.p ?_|(with_reducible apply And.intro)|((first|(refine hK _ ?_;clear hK K)|with_reducible intro K hK|refine Rs.p ?_|((with_reducible first|apply oP|apply oQ);exact rfl)|(refine aq hX hC hP [(10000,10000),(10001,51),(10002,10002),(10003,73),(10004,10004)] (hm2) rfl rfl rfl ?_ ?_ ?_ ?_ ?_ ?_ ?_ ?_ ?_ ?_ ?_ ?_ ?_ ?_;(focus (simp only [go_sem,simprocAttr,jO,hb,qD];done));(iterate 12 (focus (simp [go_sem,simprocAttr,jO,hb,qD];done)));try simp only [List.map_cons,List.map_nil]));try simp only [go_sem,simprocAttr,jO,hb,qD])|((with_reducible refine oD ?_ ?_);kernel_rfl)|((with_reducible intro h);try simp only [go_sem,simprocAttr,jO,hb,qD] at h)|omega|intro h)
  refine ⟨j+1,by omega, ?_,by omega⟩
  refine Le.of ?_ ?_<;>simp [go_sem,simprocAttr,jO,hb,qD]
  omega
 ·obtain rfl:j=O.length:=by omega
  have hm2:=mA (outs++ [[(es.length:Int)]])
  rw [← hL] at hm2 hins ⊢
  cases NL:B with
  |nil=>
   have hb:decide (((A.length+1+O.length:Nat):Int)<(L.length:Int))=false:=decide_eq_false (by rw [hL,hlen,NL];simp)
   repeat' (first|refine Rn.p ?_|(with_reducible apply And.intro)|((first|(refine hK _ ?_;clear hK K)|with_reducible intro K hK|refine Rs.p ?_|((with_reducible first|apply oP|apply oQ);exact rfl)|(refine aq hX hC hP [(10000,10002),(10002,125),(10001,126)] (hins) rfl rfl rfl ?_ ?_ ?_ ?_ ?_ ?_ ?_ ?_ ?_ ?_ ?_ ?_ ?_ ?_;(focus (simp only [go_sem,simprocAttr,jO,rI,hb];done));(iterate 12 (focus (simp [go_sem,simprocAttr,jO,rI,hb];done)));try simp only [List.map_cons,List.map_nil]));try simp only [go_sem,simprocAttr,jO,rI,hb])|((with_reducible refine oD ?_ ?_);kernel_rfl)|((with_reducible intro h);try simp only [go_sem,simprocAttr,jO,rI,hb] at h)|omega|intro h)
   all_goals rfl
  |cons u r=>
   have hb:decide (((A.length+1+O.length:Nat):Int)<(L.length:Int))=true:=decide_eq_true (by rw [hL,hlen,NL];simp;omega)
   have qD:L.getD (A.length+1+O.length) 0=u:=by rw [hL,NL];exact JC
   have Om:=hm2 u
   rw [hB u r NL] at Om
   have hjl:A.length+1+O.length<L.length:=by rw [hL,hlen,NL];simp
   repeat' (first|refine Rn.p ?_|(with_reducible apply And.intro)|((first|(refine hK _ ?_;clear hK K)|with_reducible intro K hK|refine Rs.p ?_|((with_reducible first|apply oP|apply oQ);exact rfl)|(refine aq hX hC hP [(10000,10002),(10002,125),(10001,126)] (hins) rfl rfl rfl ?_ ?_ ?_ ?_ ?_ ?_ ?_ ?_ ?_ ?_ ?_ ?_ ?_ ?_;(focus (simp only [go_sem,simprocAttr,jO,rI,hb,qD];done));(iterate 12 (focus (simp [go_sem,simprocAttr,jO,rI,hb,qD];done)));try simp only [List.map_cons,List.map_nil])|(refine aq hX hC hP [(10000,10000),(10001,51),(10002,10002),(10003,73),(10004,10004)] (Om) rfl rfl rfl ?_ ?_ ?_ ?_ ?_ ?_ ?_ ?_ ?_ ?_ ?_ ?_ ?_ ?_;(focus (simp only [go_sem,simprocAttr,jO,rI,hb,qD];done));(iterate 12 (focus (simp [go_sem,simprocAttr,jO,rI,hb,qD];done)));try simp only [List.map_cons,List.map_nil]));try simp only [go_sem,simprocAttr,jO,rI,hb,qD])|((with_reducible refine oD ?_ ?_);kernel_rfl)|((with_reducible intro h);try simp only [go_sem,simprocAttr,jO,rI,hb,qD] at h)|omega|intro h)
   all_goals rfl
end Go.Ab
end
section
namespace Go.Ab
open Go.Proofs
set_option maxRecDepth 10000
def EY (q:Nat→Bool):Nat→Nat
 |0=>0
 |n+1=>EY q n ||| (if q n then 2 ^ n else 0)
theorem lS {q:Nat→Bool} {y:Nat} :∀ {n:Nat},(EY q n).testBit y=(decide (y<n)&&q y)
 |0=>by simp [EY]
 |n+1=>by
  rw [EY,Nat.testBit_or,lS]
  by_cases h:y=n
  ·subst h
   cases hq:q y<;>simp [Nat.testBit_two_pow_self]
  ·have h2:(if q n then 2 ^ n else 0).testBit y=false:=by
    split
    ·rw [Nat.testBit_two_pow];exact decide_eq_false fun e=>h e.symm
    ·simp
   rw [h2,Bool.or_false]
   congr 1
   rw [decide_eq_decide];omega
theorem JE {q:Nat→Bool} {n:Nat} :EY q n<2 ^ n:=by
 refine Nat.lt_pow_two_of_testBit _ fun i hi=> ?_
 rw [lS,decide_eq_false (by omega)];rfl
inductive nT (g:Gr) (both:Bool) (c:Nat→Bool) (x:Nat):Nat→Prop
 |refl:nT g both c x x
 |fwd {i:Nat} :i<g.es.length→c i=true→nT g both c x (tl g i).toNat→nT g both c x (hd g i).toNat
 |Iw {i:Nat} :i<g.es.length→c i=true→both=true→nT g both c x (hd g i).toNat→nT g both c x (tl g i).toNat
theorem nT.trans {g:Gr} {both:Bool} {c:Nat→Bool} {x y z:Nat} (h1:nT g both c x y) (h2:nT g both c y z):nT g both c x z:=by
 induction h2 with
 |refl=>exact h1
 |fwd a b _ ih=>exact .fwd a b ih
 |Iw a b d _ ih=>exact .Iw a b d ih
open Classical in
noncomputable def Oz (g:Gr) (both:Bool) (c:Nat→Bool) (x:Nat):Nat:=EY (fun y=>decide (nT g both c x y)) g.n.toNat
noncomputable def Ct (g:Gr) (both:Bool) (c:Nat→Bool):List Nat:=(List.range g.n.toNat).map (Oz g both c)
theorem tK {g:Gr} {both:Bool} {c:Nat→Bool} :(Ct g both c).length=g.n.toNat:=by simp [Ct]
theorem zo {g:Gr} {both:Bool} {c:Nat→Bool} {x:Nat} (h:x<g.n.toNat):(Ct g both c).getD x 0=Oz g both c x:=by
 simp [Ct,List.getD_eq_getElem?_getD,List.getElem?_range h]
open Classical in
theorem zq {g:Gr} {both:Bool} {c:Nat→Bool} {x y:Nat} :(Oz g both c x).testBit y=true↔y<g.n.toNat∧nT g both c x y:=by
 unfold Oz
 rw [lS]
 simp
def bY (g:Gr) (both:Bool) (c:Nat→Bool) (a:List Nat):Nat→List Nat × Bool
 |0=>(a,false)
 |k+1=>
  let s:=bY g both c a k
  if c k=true then
   let t:=s.1.getD (tl g k).toNat 0 ||| s.1.getD (hd g k).toNat 0
   let h:=if both=true then t else s.1.getD (hd g k).toNat 0
   ((s.1.set (tl g k).toNat t).set (hd g k).toNat h,s.2||(decide (t≠s.1.getD (tl g k).toNat 0)||decide (h≠s.1.getD (hd g k).toNat 0)))
  else s
theorem rD {g:Gr} {both:Bool} {c:Nat→Bool} {a:List Nat} :∀ {k:Nat},(bY g both c a k).1.length=a.length
 |0=>rfl
 |k+1=>by
  simp only [bY]
  split
  ·simp [rD]
  ·exact rD
theorem nJ {l:List Nat} {i j:Nat} {a:Nat} (hi:i<l.length):(l.set i a).getD j 0=if j=i then a else l.getD j 0:=by
 rw [List.getD_eq_getElem?_getD,List.getElem?_set]
 by_cases h:i=j
 ·subst h;rw [if_pos rfl,if_pos hi,if_pos rfl];rfl
 ·rw [if_neg h,if_neg (Ne.symm h), ← List.getD_eq_getElem?_getD]
structure Fx (g:Gr) (both:Bool) (c:Nat→Bool) (a:List Nat):Prop where
 len:a.length=g.n.toNat
 own:∀x,x<g.n.toNat→(a.getD x 0).testBit x=true
 snd:∀x y,x<g.n.toNat→(a.getD x 0).testBit y=true→y<g.n.toNat∧nT g both c x y
theorem Fx.lt {g:Gr} {both:Bool} {c:Nat→Bool} {a:List Nat} (h:Fx g both c a) (hn:g.n.toNat≤64) (x:Nat):a.getD x 0<18446744073709551616:=by
 by_cases hx:x<g.n.toNat
 ·have:a.getD x 0<2 ^ 64:=Nat.lt_pow_two_of_testBit _ fun i hi=>by
   cases hb:(a.getD x 0).testBit i with
   |false=>rfl
   |true=>have:=(h.snd x i hx hb).1;omega
  simpa using this
 ·rw [List.getD_eq_getElem?_getD,List.getElem?_eq_none (by rw [h.len];omega)];simp
theorem grow_step {g:Gr} (hm:aN g=true) {both:Bool} {c:Nat→Bool} {a:List Nat} (h:Fx g both c a) {i:Nat} (hi:i<g.es.length) (hc:c i=true):
 Fx g both c ((a.set (tl g i).toNat (a.getD (tl g i).toNat 0 ||| a.getD (hd g i).toNat 0)).set (hd g i).toNat (if both=true then a.getD (tl g i).toNat 0 ||| a.getD (hd g i).toNat 0 else a.getD (hd g i).toNat 0))∧
 ∀x y,(a.getD x 0).testBit y=true→(((a.set (tl g i).toNat (a.getD (tl g i).toNat 0 ||| a.getD (hd g i).toNat 0)).set (hd g i).toNat (if both=true then a.getD (tl g i).toNat 0 ||| a.getD (hd g i).toNat 0 else a.getD (hd g i).toNat 0)).getD x 0).testBit y=true:=by
 obtain ⟨ht,hh⟩:=cM hm hi
 have ht:0≤tl g i∧tl g i<g.n:=ht
 have hh:0≤hd g i∧hd g i<g.n:=hh
 have hl:=h.len
 have tV:∀x,((a.set (tl g i).toNat (a.getD (tl g i).toNat 0 ||| a.getD (hd g i).toNat 0)).set (hd g i).toNat (if both=true then a.getD (tl g i).toNat 0 ||| a.getD (hd g i).toNat 0 else a.getD (hd g i).toNat 0)).getD x 0=
  if x=(hd g i).toNat then (if both=true then a.getD (tl g i).toNat 0 ||| a.getD (hd g i).toNat 0 else a.getD (hd g i).toNat 0) else if x=(tl g i).toNat then a.getD (tl g i).toNat 0 ||| a.getD (hd g i).toNat 0 else a.getD x 0:=fun x=>by
  rw [nJ (by rw [List.length_set];omega),nJ (by omega)]
 have mono:∀x y,(a.getD x 0).testBit y=true→(((a.set (tl g i).toNat (a.getD (tl g i).toNat 0 ||| a.getD (hd g i).toNat 0)).set (hd g i).toNat (if both=true then a.getD (tl g i).toNat 0 ||| a.getD (hd g i).toNat 0 else a.getD (hd g i).toNat 0)).getD x 0).testBit y=true:=fun x y hb=>by
  rw [tV]
  split
  ·rename_i e;subst e
   split
   ·rw [Nat.testBit_or,hb,Bool.or_true]
   ·exact hb
  ·split
   ·rename_i e;subst e
    rw [Nat.testBit_or,hb,Bool.true_or]
   ·exact hb
 refine ⟨⟨by simp [hl],fun x hx=>mono x x (h.own x hx),fun x y hx hb=> ?_⟩,mono⟩
 have e1:nT g both c (tl g i).toNat (hd g i).toNat:= .fwd hi hc .refl
 rw [tV] at hb
 split at hb
 ·rename_i e;subst e
  split at hb
  ·rename_i QH
   rw [Nat.testBit_or,Bool.or_eq_true] at hb
   rcases hb with hb|hb
   ·obtain ⟨g1,g2⟩:=h.snd _ _ (by omega) hb
    exact ⟨g1,(nT.Iw hi hc QH .refl).trans g2⟩
   ·exact h.snd _ _ hx hb
  ·exact h.snd _ _ hx hb
 ·split at hb
  ·rename_i e;subst e
   rw [Nat.testBit_or,Bool.or_eq_true] at hb
   rcases hb with hb|hb
   ·exact h.snd _ _ hx hb
   ·obtain ⟨g1,g2⟩:=h.snd _ _ (by omega) hb
    exact ⟨g1,e1.trans g2⟩
  ·exact h.snd _ _ hx hb
theorem jh {g:Gr} (hm:aN g=true) {both:Bool} {c:Nat→Bool} {a:List Nat} (h:Fx g both c a):∀ {k:Nat},k≤g.es.length→Fx g both c (bY g both c a k).1∧∀x y,(a.getD x 0).testBit y=true→((bY g both c a k).1.getD x 0).testBit y=true
 |0,_=>⟨h,fun x y hb=>hb⟩
 |k+1,hk=>by
  obtain ⟨i1,i2⟩:=jh hm h (k:=k) (by omega)
  simp only [bY]
  by_cases hc:c k=true
  ·rw [if_pos hc]
   obtain ⟨j1,j2⟩:=grow_step hm i1 (i:=k) (by omega) hc
   exact ⟨j1,fun x y hb=>j2 x y (i2 x y hb)⟩
  ·rw [if_neg hc];exact ⟨i1,i2⟩
def vZ (a:List Nat):Nat:=a.foldr (· + ·) 0
theorem DB:∀ {a b:List Nat},a.length=b.length→(∀x,a.getD x 0≤b.getD x 0)→a≠b→vZ a<vZ b
 | [], [],_,_,hne=>absurd rfl hne
 |x::a,y::b,hl,h,hne=>by
  have h0:=h 0
  have hr:∀i,a.getD i 0≤b.getD i 0:=fun i=>by simpa using h (i+1)
  simp only [List.getD_cons_zero] at h0
  show x+vZ a<y+vZ b
  by_cases hab:a=b
  ·subst hab
   have:x≠y:=fun e=>hne (by rw [e])
   omega
  ·have:=DB (a:=a) (b:=b) (by simpa using hl) hr hab
   omega
theorem Bc {m:Nat} :∀ {a:List Nat},(∀x,a.getD x 0<m)→vZ a≤a.length*m
 | [],_=>by simp [vZ]
 |x::a,h=>by
  have h0:=h 0
  have:=Bc (a:=a) fun i=>by simpa using h (i+1)
  simp only [List.getD_cons_zero] at h0
  show x+vZ a≤(a.length+1)*m
  rw [Nat.add_mul];omega
theorem oV {a b:Nat} (h:∀y,a.testBit y=true→b.testBit y=true):a≤b:=by
 have:a ||| b=b:=Nat.eq_of_testBit_eq fun y=>by
  rw [Nat.testBit_or]
  cases ha:a.testBit y with
  |false=>simp
  |true=>rw [h y ha];rfl
 rw [← this];exact Nat.left_le_or
theorem jG {g:Gr} {both:Bool} {c:Nat→Bool} {a:List Nat} :∀ {k:Nat},(bY g both c a k).2=false→(bY g both c a k).1=a∧∀i,i<k→c i=true→(a.getD (tl g i).toNat 0 ||| a.getD (hd g i).toNat 0=a.getD (tl g i).toNat 0)∧(both=true→a.getD (tl g i).toNat 0=a.getD (hd g i).toNat 0)
 |0,_=>⟨rfl,fun i hi=>by omega⟩
 |k+1,h=>by
  simp only [bY] at h ⊢
  by_cases hc:c k=true
  ·rw [if_pos hc] at h ⊢
   simp only [Bool.or_eq_false_iff,decide_eq_false_iff_not,Decidable.not_not] at h
   obtain ⟨h1,h2,h3⟩:=h
   obtain ⟨i1,i2⟩:=jG h1
   rw [i1] at h2 h3
   simp only [i1]
   have cI:∀ {l:List Nat} {i v:Nat},v=l.getD i 0→l.set i v=l:=fun {l i v} e=>by
    refine List.ext_getElem? fun j=> ?_
    rw [List.getElem?_set]
    split
    ·rename_i hj;subst hj
     split
     ·rename_i hl;rw [e,List.getD_eq_getElem?_getD,List.getElem?_eq_getElem hl];rfl
     ·rename_i hl;rw [List.getElem?_eq_none (by omega)]
    ·rfl
   refine ⟨by rw [cI h2,cI h3],fun i hi L8=> ?_⟩
   by_cases hik:i=k
   ·subst hik
    refine ⟨h2,fun hb=> ?_⟩
    rw [if_pos hb] at h3
    rw [← h2,h3]
   ·exact i2 i (by omega) L8
  ·rw [if_neg hc] at h ⊢
   obtain ⟨i1,i2⟩:=jG h
   refine ⟨i1,fun i hi L8=> ?_⟩
   by_cases hik:i=k
   ·subst hik;exact absurd L8 hc
   ·exact i2 i (by omega) L8
theorem Cu {g:Gr} (hm:aN g=true) {both:Bool} {c:Nat→Bool} {a:List Nat} (h:Fx g both c a) (hne:(bY g both c a g.es.length).2=true):vZ a<vZ (bY g both c a g.es.length).1:=by
 obtain ⟨_,i2⟩:=jh hm h (Nat.le_refl g.es.length)
 refine DB rD.symm (fun x=>oV (i2 x)) fun e=> ?_
 have key:∀k,k≤g.es.length→(bY g both c a k).2=false:=by
  intro k
  induction k with
  |zero=>intro _;rfl
  |succ k ih=>
   intro hk
   have ih:=ih (by omega)
   have RE:=(jG ih).1
   simp only [bY]
   by_cases hc:c k=true
   ·rw [if_pos hc]
    simp only [Bool.or_eq_false_iff,decide_eq_false_iff_not,Decidable.not_not,ih,RE,true_and]
    obtain ⟨j1,j2⟩:=jh hm h (k:=k) (by omega)
    have later:∀d,k+1+d≤g.es.length→∀x y,((bY g both c a (k+1)).1.getD x 0).testBit y=true→((bY g both c a (k+1+d)).1.getD x 0).testBit y=true:=by
     intro d
     induction d with
     |zero=>intro _ x y hb;exact hb
     |succ d Tx=>
      intro hd x y hb
      have hb:=Tx (by omega) x y hb
      show ((bY g both c a (k+1+d+1)).1.getD x 0).testBit y=true
      simp only [bY] at hb ⊢
      split
      ·rename_i Da
       exact (grow_step hm (jh hm h (k:=k+1+d) (by omega)).1 (i:=k+1+d) (by omega) Da).2 x y hb
      ·exact hb
    have pG:=later (g.es.length - (k+1)) (by omega)
    rw [show k+1+(g.es.length - (k+1))=g.es.length by omega, ← e] at pG
    have wN:(bY g both c a (k+1)).1=(a.set (tl g k).toNat (a.getD (tl g k).toNat 0 ||| a.getD (hd g k).toNat 0)).set (hd g k).toNat (if both=true then a.getD (tl g k).toNat 0 ||| a.getD (hd g k).toNat 0 else a.getD (hd g k).toNat 0):=by
     simp only [bY];rw [if_pos hc,RE]
    obtain ⟨ht,hh⟩:=cM hm (k:=k) (by omega)
    have ht:0≤tl g k∧tl g k<g.n:=ht
    have hh:0≤hd g k∧hd g k<g.n:=hh
    have hl:=h.len
    have tV:∀x,(bY g both c a (k+1)).1.getD x 0=if x=(hd g k).toNat then (if both=true then a.getD (tl g k).toNat 0 ||| a.getD (hd g k).toNat 0 else a.getD (hd g k).toNat 0) else if x=(tl g k).toNat then a.getD (tl g k).toNat 0 ||| a.getD (hd g k).toNat 0 else a.getD x 0:=fun x=>by
     rw [wN,nJ (by rw [List.length_set];omega),nJ (by omega)]
    have g1:(if both=true then a.getD (tl g k).toNat 0 ||| a.getD (hd g k).toNat 0 else a.getD (hd g k).toNat 0)=a.getD (hd g k).toNat 0:=by
     have:=oV (pG (hd g k).toNat)
     rw [tV,if_pos rfl] at this
     split at this
     ·rename_i hb
      rw [if_pos hb]
      exact Nat.le_antisymm this Nat.right_le_or
     ·rename_i hb;rw [if_neg hb]
    refine ⟨?_,g1⟩
    by_cases heq:(tl g k).toNat=(hd g k).toNat
    ·rw [heq,Nat.or_self]
    ·have:=oV (pG (tl g k).toNat)
     rw [tV,if_neg heq,if_pos rfl] at this
     exact Nat.le_antisymm this Nat.left_le_or
   ·rw [if_neg hc];exact ih
 rw [key _ (Nat.le_refl _)] at hne
 cases hne
theorem EZ {g:Gr} (hm:aN g=true) {both:Bool} {c:Nat→Bool} {a:List Nat} (h:Fx g both c a) (hne:(bY g both c a g.es.length).2=false):a=Ct g both c:=by
 obtain ⟨_,hcl⟩:=jG hne
 have comp:∀x y,x<g.n.toNat→nT g both c x y→∀w,w<g.n.toNat→nT g both c w x→True:=fun _ _ _ _ _ _ _=>trivial
 have key:∀ {x y:Nat},nT g both c x y→∀z,(a.getD y 0).testBit z=true→(a.getD x 0).testBit z=true:=by
  intro x y hR
  induction hR with
  |refl=>exact fun z hz=>hz
  | @fwd i hi hc _ ih=>
    intro z hz
    refine ih z ?_
    rw [← (hcl i hi hc).1,Nat.testBit_or,hz,Bool.or_true]
  | @Iw i hi hc hb _ ih=>
    intro z hz
    refine ih z ?_
    rw [← (hcl i hi hc).2 hb];exact hz
 refine List.ext_getElem? fun x=> ?_
 by_cases hx:x<g.n.toNat
 ·have e:a.getD x 0=(Ct g both c).getD x 0:=by
   rw [zo hx]
   refine Nat.eq_of_testBit_eq fun y=> ?_
   rw [Bool.eq_iff_iff,zq]
   refine ⟨h.snd x y hx,fun ⟨h1,h2⟩=>key h2 y (h.own y h1)⟩
  rw [List.getD_eq_getElem?_getD,List.getD_eq_getElem?_getD,List.getElem?_eq_getElem (by rw [h.len];exact hx),List.getElem?_eq_getElem (by rw [tK];exact hx)] at e
  rw [List.getElem?_eq_getElem (by rw [h.len];exact hx),List.getElem?_eq_getElem (by rw [tK];exact hx)]
  simpa using e
 ·rw [List.getElem?_eq_none (by rw [h.len];omega),List.getElem?_eq_none (by rw [tK];omega)]
end Go.Ab
end
section
namespace Go.Ab
open Go.Proofs
attribute [local congr] ACall.congr gd.congr Nx.congr
set_option maxRecDepth 20000
set_option maxHeartbeats 8000000
def rU (n:Nat):List D:= [.sc (.int .u64 (n:Int))]
def eU (n:Nat):AV:= .d (.sc (.int .u64 (n:Int)))
def sU (l:List Nat):D:= .sl 1 (l.map rU)
theorem getD_rU (ps:List Nat) (i:Nat):(ps.map rU).getD i [.sc (.int .u64 0)]= [.sc (.int .u64 ((ps.getD i 0:Nat):Int))]:=by
 rw [List.getD_eq_getElem?_getD,List.getElem?_map,List.getD_eq_getElem?_getD]
 cases ps[i]? <;>rfl
theorem kj (l:List Nat) (k:Nat) (v:Nat):(l.map rU).set k [.sc (.int .u64 (v:Int))]=(l.set k v).map rU:=by
 rw [List.map_set];rfl
attribute [go_sem] eU sU getD_rU InU
theorem JF {s x:Nat} :decide ((((s >>> x &&& 1:Nat)):Int)=1)=s.testBit x:=by
 rw [Bool.eq_iff_iff,decide_eq_true_eq,Nat.testBit,Nat.and_comm]
 have:1 &&& s >>> x=0∨1 &&& s >>> x=1:=by
  rw [Nat.and_comm,Nat.and_one_is_mod];omega
 rcases this with h|h<;>rw [h]<;>simp
theorem E3 (s:Nat) (hs:s<18446744073709551616) (x:Int):Spec Tryz.prog 26 (Args [eU s,eN x]) [] (eB (decide (0≤x)&&decide (x<64)&&s.testBit x.toNat)) []:=by
 by_cases h0:0≤x
 rotate_left
 ·have hb0:decide (0≤x)=false:=decide_eq_false h0
  (refine Spec.hd (C:=T.cfg [] []) (rs:= [.t 4]) (T.ai _ _) Tryz.func26 rfl rfl Tryz.ntmps26 Tryz.results26 (by simp [AObj.isNest]) (by simp [AObj.isNest]) (by kernel_rfl) T.mixed fun X hX hP hC aH bU=> ?_)
  repeat' (first|refine Rn.p ?_|(with_reducible apply And.intro)|((first|(refine hK _ ?_;clear hK K)|with_reducible intro K hK|refine Rs.p ?_|((with_reducible first|apply oP|apply oQ);exact rfl));try simp only [go_sem,simprocAttr,hb0])|((with_reducible refine oD ?_ ?_);kernel_rfl)|((with_reducible intro h);try simp only [go_sem,simprocAttr,hb0] at h)|omega|intro h)
 have hb0:decide (0≤x)=true:=decide_eq_true h0
 by_cases h1:x<64
 rotate_left
 ·have hb1:decide (x<64)=false:=decide_eq_false h1
  (refine Spec.hd (C:=T.cfg [] []) (rs:= [.t 4]) (T.ai _ _) Tryz.func26 rfl rfl Tryz.ntmps26 Tryz.results26 (by simp [AObj.isNest]) (by simp [AObj.isNest]) (by kernel_rfl) T.mixed fun X hX hP hC aH bU=> ?_)
  repeat' (first|refine Rn.p ?_|(with_reducible apply And.intro)|((first|(refine hK _ ?_;clear hK K)|with_reducible intro K hK|refine Rs.p ?_|((with_reducible first|apply oP|apply oQ);exact rfl));try simp only [go_sem,simprocAttr,hb0,hb1])|((with_reducible refine oD ?_ ?_);kernel_rfl)|((with_reducible intro h);try simp only [go_sem,simprocAttr,hb0,hb1] at h)|omega|intro h)
 have hb1:decide (x<64)=true:=decide_eq_true h1
 obtain ⟨i,rfl⟩:∃i:Nat,x=i:=⟨x.toNat,by omega⟩
 have hlt:s >>> i<18446744073709551616:=Nat.lt_of_le_of_lt (Nat.shiftRight_le s i) hs
 have ha:=JF (s:=s) (x:=i)
 generalize hq:s >>> i=q at hlt ha
 (refine Spec.hd (C:=T.cfg [] []) (rs:= [.t 4]) (T.ai _ _) Tryz.func26 rfl rfl Tryz.ntmps26 Tryz.results26 (by simp [AObj.isNest]) (by simp [AObj.isNest]) (by kernel_rfl) T.mixed fun X hX hP hC aH bU=> ?_)
 repeat' (first|refine Rn.p ?_|(with_reducible apply And.intro)|((first|(refine hK _ ?_;clear hK K)|with_reducible intro K hK|refine Rs.p ?_|((with_reducible first|apply oP|apply oQ);exact rfl));try simp only [go_sem,simprocAttr,hb0,hb1,hq,ha])|((with_reducible refine oD ?_ ?_);kernel_rfl)|((with_reducible intro h);try simp only [go_sem,simprocAttr,hb0,hb1,hq,ha] at h)|omega|intro h)
theorem HQ (x:Nat) (hx:x<64):Spec Tryz.prog 114 (Args [.d (.sl 1 [[.sc (.int .i64 (x:Int))]])]) [] (eU (2 ^ x)) []:=by
 have hsh:1 <<< x % 18446744073709551616=2 ^ x:=by
  rw [Nat.shiftLeft_eq,Nat.one_mul,Nat.mod_eq_of_lt]
  exact Nat.lt_of_lt_of_le (Nat.pow_lt_pow_right (by decide) hx) (by decide)
 have hlt:2 ^ x<18446744073709551616:=Nat.lt_of_lt_of_le (Nat.pow_lt_pow_right (by decide) hx) (by decide)
 have hb1:decide (0≤(x:Int))=true:=decide_eq_true (by omega)
 have hb2:decide ((x:Int)<64)=true:=decide_eq_true (by omega)
 (refine Spec.hd (C:=T.cfg [] []) (rs:= [.t 2]) (T.ai _ _) Tryz.func114 rfl rfl Tryz.ntmps114 Tryz.results114 (by simp [AObj.isNest]) (by simp [AObj.isNest]) (by kernel_rfl) T.mixed fun X hX hP hC aH bU=> ?_)
 repeat' (first|refine Rn.p ?_|(with_reducible apply And.intro)|((first|(refine hK _ ?_;clear hK K)|with_reducible intro K hK|refine Rs.p ?_|((with_reducible first|apply oP|apply oQ);exact rfl));try simp only [go_sem,simprocAttr])|((with_reducible refine oD ?_ ?_);kernel_rfl)|((with_reducible intro h);try simp only [go_sem,simprocAttr] at h)|omega|intro h)
 refine ag (fun k:Nat=>k≤1) (fun k=>⟨[(2,eU (if k=0 then 0 else 2 ^ x)),(5, .d (.sl 1 [[.sc (.int .i64 (x:Int))]])),(6,eN 1),(7,eN k)], []⟩) (fun k=>1 - k) 0 (by omega) ?_ ?_
 ·refine Le.of ?_ ?_<;>simp [go_sem,simprocAttr]
 rintro k hk
 match k,hk with
 |0,_=>
  repeat' (first|refine Rn.p ?_|(with_reducible apply And.intro)|((first|(refine hK _ ?_;clear hK K)|with_reducible intro K hK|refine Rs.p ?_|((with_reducible first|apply oP|apply oQ);exact rfl));try simp only [go_sem,simprocAttr,hsh,hb1,hb2,Nat.zero_or])|((with_reducible refine oD ?_ ?_);kernel_rfl)|((with_reducible intro h);try simp only [go_sem,simprocAttr,hsh,hb1,hb2,Nat.zero_or] at h)|omega|intro h)
  all_goals (refine ⟨1,by omega, ?_,by omega⟩)
  all_goals (refine Le.of ?_ ?_<;>simp [go_sem,simprocAttr,hsh,hb1,hb2,Nat.zero_or])
 |1,_=>
  repeat' (first|refine Rn.p ?_|(with_reducible apply And.intro)|((first|(refine hK _ ?_;clear hK K)|with_reducible intro K hK|refine Rs.p ?_|((with_reducible first|apply oP|apply oQ);exact rfl));try simp only [go_sem,simprocAttr])|((with_reducible refine oD ?_ ?_);kernel_rfl)|((with_reducible intro h);try simp only [go_sem,simprocAttr] at h)|omega|intro h)
end Go.Ab
end
section
namespace Go.Ab
open Go.Proofs
attribute [local congr] ACall.congr gd.congr Nx.congr
set_option maxRecDepth 20000
set_option maxHeartbeats 8000000
def rH (k:Nat):List Nat:=(List.range k).map fun x=>2 ^ x
theorem E4 {k:Nat} :rH (k+1)=rH k++ [2 ^ k]:=by simp [rH,List.range_succ]
theorem v7 {k:Nat} :(rH k).length=k:=by simp [rH]
def j6 (g:Gr):List Nat:=if aN g=true then rH g.n.toNat else []
theorem Cv (g:Gr) (hl:g.es.length≤9223372036854775807):Spec Tryz.prog 64 (Args [eG g]) [] (.ref 10000) [(10000, .own 49 1 ((j6 g).map rU))]:=by
 have hM:=gm g hl
 cases hm:aN g with
 |false=>
  rw [hm] at hM
  have he:j6 g= []:=by unfold j6;rw [hm];rfl
  rw [he]
  (refine Spec.tg (C:=T.cfg [200,17] []) (rs:= [.t 2]) [(10000,200)] (T.ai _ _) Tryz.func64 rfl rfl Tryz.ntmps64 Tryz.results64 (by simp [AObj.isNest]) (by simp [AObj.isNest]) (by first|(simp [look];done)|(simp [asN];done)|(intro l hl;simp only [asN];repeat (rw [if_neg (fun e=>by subst e;simp [look] at hl)]))) (by first|(simp [look];done)|(simp [asN];done)|(intro l hl;simp only [asN];repeat (rw [if_neg (fun e=>by subst e;simp [look] at hl)]))) (by kernel_rfl) T.mixed fun X hX hP hC aH bU=> ?_)
  repeat' (first|(show bM _ .ret _ _;(try simp only [go_sem,simprocAttr]);refine dW hX 2 200 (.own 49 1 []) ?_ ?_ (by decide) ⟨49,1,by decide, .inl rfl⟩ ?_;(iterate 2 (focus (simp only [go_sem,simprocAttr];done)));simp only [go_sem,simprocAttr])|refine Rn.p ?_|(with_reducible apply And.intro)|((first|(refine hK _ ?_;clear hK K)|with_reducible intro K hK|refine Rs.p ?_|((with_reducible first|apply oP|apply oQ);exact rfl)|refine aa hX hC hP (hM) rfl rfl rfl (by simp only [go_sem,simprocAttr]) rfl ?_);try simp only [go_sem,simprocAttr])|((with_reducible refine oD ?_ ?_);kernel_rfl)|((with_reducible intro h);try simp only [go_sem,simprocAttr] at h)|omega|intro h)
 |true=>
  rw [hm] at hM
  have hn:=aC hm
  have he:j6 g=rH g.n.toNat:=by unfold j6;rw [if_pos hm]
  rw [he]
  (refine Spec.tg (C:=T.cfg [200,17] []) (rs:= [.t 2]) [(10000,200)] (T.ai _ _) Tryz.func64 rfl rfl Tryz.ntmps64 Tryz.results64 (by simp [AObj.isNest]) (by simp [AObj.isNest]) (by first|(simp [look];done)|(simp [asN];done)|(intro l hl;simp only [asN];repeat (rw [if_neg (fun e=>by subst e;simp [look] at hl)]))) (by first|(simp [look];done)|(simp [asN];done)|(intro l hl;simp only [asN];repeat (rw [if_neg (fun e=>by subst e;simp [look] at hl)]))) (by kernel_rfl) T.mixed fun X hX hP hC aH bU=> ?_)
  repeat' (first|(show bM _ (.seq (.region 3 _ _) _) _ _;(refine dW hX 2 200 (.own 49 1 []) ?_ ?_ (by decide) ⟨49,1,by decide, .inl rfl⟩ ?_;(iterate 2 (focus (simp only [go_sem,simprocAttr];done)));simp only [go_sem,simprocAttr]))|refine Rn.p ?_|(with_reducible apply And.intro)|((first|(refine hK _ ?_;clear hK K)|with_reducible intro K hK|refine Rs.p ?_|((with_reducible first|apply oP|apply oQ);exact rfl)|refine aa hX hC hP (hM) rfl rfl rfl (by simp only [go_sem,simprocAttr]) rfl ?_);try simp only [go_sem,simprocAttr])|((with_reducible refine oD ?_ ?_);kernel_rfl)|((with_reducible intro h);try simp only [go_sem,simprocAttr] at h)|omega|intro h)
  refine ag (fun k:Nat=>k≤g.n.toNat) (fun k=>⟨[(2, .ref 200),(8,eN g.n),(9,eN k)], [(200, .own 49 1 ((rH k).map rU))]⟩) (fun k=>g.n.toNat - k) 0 (by omega) ?_ ?_
  ·refine Le.of ?_ ?_<;>simp [go_sem,simprocAttr,rH]
  rintro k hk
  rcases Nat.lt_or_ge k g.n.toNat with hlt|hge
  ·have hb:decide ((k:Int)<g.n)=true:=decide_eq_true (by omega)
   have qz:=v7 (k:=k)
   have bw:=E4 (k:=k)
   have Ty:=HQ k (by omega)
   generalize rH k=O1 at qz bw
   repeat' (first|(show bM _ (.region 7 _ _) _ _;(refine ke hX 2 17 200 (by simp only [go_sem,simprocAttr,hb,qz]) rfl (by first|exact .inl rfl|exact .inr rfl) (by decide) ?_;simp only [go_sem,simprocAttr,hb,qz]))|refine Rn.p ?_|(with_reducible apply And.intro)|((first|(refine hK _ ?_;clear hK K)|with_reducible intro K hK|refine Rs.p ?_|((with_reducible first|apply oP|apply oQ);exact rfl)|(refine b8 hX hC hP (Ty) rfl rfl rfl ?_ ?_ rfl ?_;iterate 2 (focus (simp only [go_sem,simprocAttr,hb,qz];done))));try simp only [go_sem,simprocAttr,hb,qz])|((with_reducible refine oD ?_ ?_);kernel_rfl)|((with_reducible intro h);try simp only [go_sem,simprocAttr,hb,qz] at h)|omega|intro h)
   refine ⟨k+1,by omega, ?_,by omega⟩
   rw [bw]
   refine Le.of ?_ ?_<;>simp [go_sem,simprocAttr,hb,qz,rU]
  ·have hb:decide ((k:Int)<g.n)=false:=decide_eq_false (by omega)
   obtain rfl:k=g.n.toNat:=by omega
   repeat' (first|refine Rn.p ?_|(with_reducible apply And.intro)|((first|(refine hK _ ?_;clear hK K)|with_reducible intro K hK|refine Rs.p ?_|((with_reducible first|apply oP|apply oQ);exact rfl));try simp only [go_sem,simprocAttr,hb])|((with_reducible refine oD ?_ ?_);kernel_rfl)|((with_reducible intro h);try simp only [go_sem,simprocAttr,hb] at h)|omega|intro h)
theorem RF {a b:Nat} :(!decide ((a:Int)=(b:Int)))=decide (a≠b):=by
 by_cases h:a=b
 ·simp [h]
 ·simp [h];omega
theorem JG {g:Gr} (hn:g.n.toNat≤64) (both:Bool) (c:Nat→Bool):∃M:Nat,∀b:List Nat,Fx g both c b→vZ b≤M:=
 ⟨_,fun b hb=>by have:=Bc (a:=b) fun x=>hb.lt hn x;rw [hb.len] at this;exact this⟩
theorem vf {l:List Nat} :∀r∈l.map rU,∀x∈r,∃v,x=D.sc v:=by
 intro r hr x hx
 obtain ⟨y,_,rfl⟩:=List.mem_map.1 hr
 simp only [rU,List.mem_singleton] at hx
 exact ⟨_,hx⟩
theorem E5 {g:Gr} (hm:aN g=true) {both:Bool} {c:Nat→Bool} :Fx g both c (j6 g):=by
 have he:j6 g=rH g.n.toNat:=by unfold j6;rw [if_pos hm]
 have qD:∀x,x<g.n.toNat→(rH g.n.toNat).getD x 0=2 ^ x:=fun x hx=>by simp [rH,List.getD_eq_getElem?_getD,List.getElem?_range hx]
 rw [he]
 refine ⟨v7,fun x hx=>by rw [qD x hx,Nat.testBit_two_pow_self],fun x y hx hb=> ?_⟩
 rw [qD x hx,Nat.testBit_two_pow] at hb
 have:x=y:=of_decide_eq_true hb
 subst this
 exact ⟨hx, .refl⟩
noncomputable def UR (g:Gr):List Nat:=if aN g=true then Ct g false (fun _=>true) else []
end Go.Ab
end
section
namespace Go.Ab
open Go.Proofs
attribute [local congr] ACall.congr gd.congr Nx.congr
set_option maxRecDepth 20000
set_option maxHeartbeats 8000000
theorem Cw (g:Gr) (hm:aN g=true) (both:Bool) (c:Nat→Bool) (F:Nat) (i0:Int) (hF:∀i:Nat,i<g.es.length→Spec Tryz.prog F (Args [eN i, .ptr 10001 0]) [(10001, .rob [eN i0])] (eB (c i)) [(10001, .rob [eN i0])]) (a0:List Nat) (h0:Fx g both c a0):
 Spec Tryz.prog 65 (Args [eG g, .ref 10000,eB both, .fn F [] [.ptr 10001 0]]) [(10000, .own 49 1 (a0.map rU)),(10001, .box [eN i0])] (.tup []) [(10000, .own 49 1 ((Ct g both c).map rU)),(10001, .box [eN i0])]:=by
 have hn:=aC hm
 obtain ⟨M,hM⟩:=JG (g:=g) (by omega) both c
 (refine Spec.hd (C:=T.cfg [] []) (rs:= []) (T.ai _ _) Tryz.func65 rfl rfl Tryz.ntmps65 Tryz.results65 (by simp [AObj.isNest]) (by simp [AObj.isNest]) (by kernel_rfl) T.mixed fun X hX hP hC aH bU=> ?_)
 repeat' (first|refine Rn.p ?_|(with_reducible apply And.intro)|((first|(refine hK _ ?_;clear hK K)|with_reducible intro K hK|refine Rs.p ?_|((with_reducible first|apply oP|apply oQ);exact rfl));try simp only [go_sem,simprocAttr])|((with_reducible refine oD ?_ ?_);kernel_rfl)|((with_reducible intro h);try simp only [go_sem,simprocAttr] at h)|omega|intro h)
 refine ag (fun s:List Nat × Bool=>Fx g both c s.1∧(s.2=false→s.1=Ct g both c)) (fun s=>⟨[(1, .ref 10000),(2,eB both),(3, .fn F [] [.ptr 10001 0]),(4, .ptr 4 0),(8,eB s.2)], [(10000, .own 49 1 (s.1.map rU)),(10001, .box [eN i0]),(4, .box [eN g.n, .d (sE g.es)])]⟩) (fun s=>2*(M - vZ s.1)+(if s.2=true then 1 else 0)) (a0,true) ⟨h0,by simp⟩ ?_ ?_
 ·refine Le.of ?_ ?_<;>simp [go_sem,simprocAttr]
 rintro ⟨a,more⟩ ⟨hG,pG⟩
 simp only at hG pG ⊢
 cases more with
 |false=>
  have:=pG rfl
  subst this
  repeat' (first|refine Rn.p ?_|(with_reducible apply And.intro)|((first|(refine hK _ ?_;clear hK K)|with_reducible intro K hK|refine Rs.p ?_|((with_reducible first|apply oP|apply oQ);exact rfl));try simp only [go_sem,simprocAttr])|((with_reducible refine oD ?_ ?_);kernel_rfl)|((with_reducible intro h);try simp only [go_sem,simprocAttr] at h)|omega|intro h)
 |true=>
 repeat' (first|refine Rn.p ?_|(with_reducible apply And.intro)|((first|(refine hK _ ?_;clear hK K)|with_reducible intro K hK|refine Rs.p ?_|((with_reducible first|apply oP|apply oQ);exact rfl));try simp only [go_sem,simprocAttr])|((with_reducible refine oD ?_ ?_);kernel_rfl)|((with_reducible intro h);try simp only [go_sem,simprocAttr] at h)|omega|intro h)
 refine ag (fun k:Nat=>k≤g.es.length) (fun k=>⟨[(1, .ref 10000),(2,eB both),(3, .fn F [] [.ptr 10001 0]),(4, .ptr 4 0),(8,eB (bY g both c a k).2),(15, .d (sE g.es)),(16,eN g.es.length),(17,eN k)], [(10000, .own 49 1 ((bY g both c a k).1.map rU)),(10001, .box [eN i0]),(4, .box [eN g.n, .d (sE g.es)])]⟩) (fun k=>g.es.length - k) 0 (by omega) ?_ ?_
 ·refine Le.of ?_ ?_<;>simp [go_sem,simprocAttr,bY]
 rintro k hk
 rcases Nat.lt_or_ge k g.es.length with hlt|hge
 rotate_left
 ·have hb:decide ((k:Int)<(g.es.length:Int))=false:=decide_eq_false (by omega)
  obtain rfl:k=g.es.length:=by omega
  obtain ⟨i1,_⟩:=jh hm hG (Nat.le_refl g.es.length)
  have NM:=Cu hm hG
  have Ki:=jG (g:=g) (both:=both) (c:=c) (a:=a) (k:=g.es.length)
  have hdone:=EZ hm hG
  have CU:=hM _ i1
  generalize bY g both c a g.es.length=R at*
  repeat' (first|refine Rn.p ?_|(with_reducible apply And.intro)|((first|(refine hK _ ?_;clear hK K)|with_reducible intro K hK|refine Rs.p ?_|((with_reducible first|apply oP|apply oQ);exact rfl));try simp only [go_sem,simprocAttr,hb])|((with_reducible refine oD ?_ ?_);kernel_rfl)|((with_reducible intro h);try simp only [go_sem,simprocAttr,hb] at h)|omega|intro h)
  refine ⟨(R.1,R.2),⟨i1,fun hf=> ?_⟩, ?_, ?_⟩
  ·rw [(Ki hf).1];exact hdone hf
  ·refine Le.of ?_ ?_<;>simp [go_sem,simprocAttr,hb]
  ·cases OA:R.2 with
   |true=>have:=NM OA;simp;omega
   |false=>rw [(Ki OA).1];simp
 have hb:decide ((k:Int)<(g.es.length:Int))=true:=decide_eq_true (by omega)
 obtain ⟨OB,_⟩:=jh hm hG (k:=k) (by omega)
 obtain ⟨ht,hh⟩:=cM hm hlt
 have NN:=hF k hlt
 have o8:=OB.len
 have EV:=OB.lt (by omega)
 obtain ⟨x,hx⟩:∃x:Nat,(g.es.getD k (0,0)).1=x:=⟨(g.es.getD k (0,0)).1.toNat,by omega⟩
 obtain ⟨y,hy⟩:∃y:Nat,(g.es.getD k (0,0)).2=y:=⟨(g.es.getD k (0,0)).2.toNat,by omega⟩
 have htl:(tl g k).toNat=x:=by show ((g.es.getD k (0,0)).1).toNat=x;rw [hx];rfl
 have Cm:(hd g k).toNat=y:=by show ((g.es.getD k (0,0)).2).toNat=y;rw [hy];rfl
 have bw:bY g both c a (k+1)=if c k=true then ((((bY g both c a k).1.set x ((bY g both c a k).1.getD x 0 ||| (bY g both c a k).1.getD y 0)).set y (if both=true then (bY g both c a k).1.getD x 0 ||| (bY g both c a k).1.getD y 0 else (bY g both c a k).1.getD y 0)),(bY g both c a k).2||(decide ((bY g both c a k).1.getD x 0 ||| (bY g both c a k).1.getD y 0≠(bY g both c a k).1.getD x 0)||decide ((if both=true then (bY g both c a k).1.getD x 0 ||| (bY g both c a k).1.getD y 0 else (bY g both c a k).1.getD y 0)≠(bY g both c a k).1.getD y 0))) else bY g both c a k:=by
  simp only [bY,htl,Cm]
 generalize bY g both c a k=R at OB o8 EV bw
 obtain ⟨A,m1⟩:=R
 simp only at OB o8 EV bw ⊢
 have Tz:=EV x
 have TA:=EV y
 cases hc:c k with
 |false=>
  rw [hc] at NN bw
  repeat' (first|refine Rn.p ?_|(with_reducible apply And.intro)|((first|(refine hK _ ?_;clear hK K)|with_reducible intro K hK|refine Rs.p ?_|((with_reducible first|apply oP|apply oQ);exact rfl)|(refine aJ hX hC hP [(10001,10001)] (NN) rfl rfl rfl ?_ ?_ ?_ ?_ ?_ ?_ rfl rfl ?_ ?_;(focus (simp only [go_sem,simprocAttr,hb,hx,hy];done));(iterate 6 (focus (simp [go_sem,simprocAttr,hb,hx,hy];done)));try simp only [List.map_cons,List.map_nil]));try simp only [go_sem,simprocAttr,hb,hx,hy])|((with_reducible refine oD ?_ ?_);kernel_rfl)|((with_reducible intro h);try simp only [go_sem,simprocAttr,hb,hx,hy] at h)|omega|intro h)
  refine ⟨k+1,by omega, ?_,by omega⟩
  rw [bw]
  refine Le.of ?_ ?_<;>simp [go_sem,simprocAttr,hb,hx,hy]
 |true=>
  rw [hc] at NN bw
  rw [if_pos rfl] at bw
  have n1:=RF (a:=A.getD x 0 ||| A.getD y 0) (b:=A.getD x 0)
  have n2:=RF (a:=if both=true then A.getD x 0 ||| A.getD y 0 else A.getD y 0) (b:=A.getD y 0)
  have QI:A.getD x 0 ||| A.getD y 0<18446744073709551616:=Nat.or_lt_two_pow (n:=64) Tz TA
  have GL:(A.set x (A.getD x 0 ||| A.getD y 0)).length=A.length:=List.length_set ..
  generalize BM:A.getD x 0 ||| A.getD y 0=t at n1 n2 bw QI GL
  generalize HR:decide (t≠A.getD x 0)=d1 at n1 bw
  cases both with
  |true=>
   rw [if_pos rfl] at n2 bw
   generalize zk:decide (t≠A.getD y 0)=d2 at n2 bw
   clear HR zk
   cases m1<;>cases d1<;>cases d2<;>simp only [Bool.or_false,Bool.or_true,Bool.false_or,Bool.true_or] at bw
   all_goals (repeat' (first|refine Rn.p ?_|(with_reducible apply And.intro)|((first|(refine hK _ ?_;clear hK K)|with_reducible intro K hK|refine Rs.p ?_|((with_reducible first|apply oP|apply oQ);exact rfl)|(refine aJ hX hC hP [(10001,10001)] (NN) rfl rfl rfl ?_ ?_ ?_ ?_ ?_ ?_ rfl rfl ?_ ?_;(focus (simp only [go_sem,simprocAttr,hb,hx,hy,BM,n1,n2,o8,kj,List.length_set];done));(iterate 6 (focus (simp [go_sem,simprocAttr,hb,hx,hy,BM,n1,n2,o8,kj,List.length_set];done)));try simp only [List.map_cons,List.map_nil]));try simp only [go_sem,simprocAttr,hb,hx,hy,BM,n1,n2,o8,kj,List.length_set])|((with_reducible refine oD ?_ ?_);kernel_rfl)|((with_reducible intro h);try simp only [go_sem,simprocAttr,hb,hx,hy,BM,n1,n2,o8,kj,List.length_set] at h)|omega|intro h))
   all_goals (refine ⟨k+1,by omega, ?_,by omega⟩)
   all_goals (rw [bw])
   all_goals (refine Le.of ?_ ?_<;>simp [go_sem,simprocAttr,hb,hx,hy,BM,n1,n2,o8,kj,List.length_set])
  |false=>
   rw [if_neg (by simp)] at n2 bw
   have zk:decide (A.getD y 0≠A.getD y 0)=false:=decide_eq_false fun h=>h rfl
   rw [zk] at n2 bw
   clear HR
   cases m1<;>cases d1<;>simp only [Bool.or_false,Bool.or_true,Bool.false_or,Bool.true_or] at bw
   all_goals (repeat' (first|refine Rn.p ?_|(with_reducible apply And.intro)|((first|(refine hK _ ?_;clear hK K)|with_reducible intro K hK|refine Rs.p ?_|((with_reducible first|apply oP|apply oQ);exact rfl)|(refine aJ hX hC hP [(10001,10001)] (NN) rfl rfl rfl ?_ ?_ ?_ ?_ ?_ ?_ rfl rfl ?_ ?_;(focus (simp only [go_sem,simprocAttr,hb,hx,hy,BM,n1,n2,o8,kj,List.length_set];done));(iterate 6 (focus (simp [go_sem,simprocAttr,hb,hx,hy,BM,n1,n2,o8,kj,List.length_set];done)));try simp only [List.map_cons,List.map_nil]));try simp only [go_sem,simprocAttr,hb,hx,hy,BM,n1,n2,o8,kj,List.length_set])|((with_reducible refine oD ?_ ?_);kernel_rfl)|((with_reducible intro h);try simp only [go_sem,simprocAttr,hb,hx,hy,BM,n1,n2,o8,kj,List.length_set] at h)|omega|intro h))
   all_goals (refine ⟨k+1,by omega, ?_,by omega⟩)
   all_goals (rw [bw])
   all_goals (refine Le.of ?_ ?_<;>simp [go_sem,simprocAttr,hb,hx,hy,BM,n1,n2,o8,kj,List.length_set])
theorem HS (i k:Int):Spec Tryz.prog 87 (Args [eN k, .ptr 10001 0]) [(10001, .rob [eN i])] (eB (!decide (k=i))) [(10001, .rob [eN i])]:=by
 (refine Spec.hd (C:=T.cfg [] []) (rs:= [.t 3]) (T.ai _ _) Tryz.func87 rfl rfl Tryz.ntmps87 Tryz.results87 (by simp [AObj.isNest]) (by simp [AObj.isNest]) (by kernel_rfl) T.mixed fun X hX hP hC aH bU=> ?_)
 repeat' (first|refine Rn.p ?_|(with_reducible apply And.intro)|((first|(refine hK _ ?_;clear hK K)|with_reducible intro K hK|refine Rs.p ?_|((with_reducible first|apply oP|apply oQ);exact rfl));try simp only [go_sem,simprocAttr])|((with_reducible refine oD ?_ ?_);kernel_rfl)|((with_reducible intro h);try simp only [go_sem,simprocAttr] at h)|omega|intro h)
def oW (i:Nat) (k:Nat):Bool:= !decide ((k:Int)=(i:Int))
noncomputable def Bd (g:Gr) (i:Nat):Bool:=((Ct g false (oW i)).getD (tl g i).toNat 0).testBit (hd g i).toNat
noncomputable def w4 (g:Gr) (k:Nat):List Int:=((List.range k).filter fun i=>Bd g i).map fun i:Nat=>(i:Int)
noncomputable def dA (g:Gr):List Int:=if aN g=true then w4 g g.es.length else []
theorem mM {g:Gr} {k:Nat} :w4 g (k+1)=if Bd g k=true then w4 g k++ [(k:Int)] else w4 g k:=by
 unfold w4
 rw [List.range_succ,List.filter_append,List.map_append]
 cases h:Bd g k with
 |true=>rw [if_pos rfl,List.filter_cons,if_pos h];rfl
 |false=>rw [if_neg (by simp),List.filter_cons,if_neg (by rw [h];decide)];simp
theorem tL {g:Gr} {k:Nat} :(w4 g k).length≤k:=by
 unfold w4
 rw [List.length_map]
 exact Nat.le_trans (List.length_filter_le _ _) (by simp)
theorem DC (g:Gr) (hl:g.es.length≤9223372036854775807):Spec Tryz.prog 42 (Args [eG g]) [] (.d (sI (dA g))) []:=by
 have hE:=Cv g hl
 (refine Spec.hd (C:=T.cfg [200,34,33] []) (rs:= [.t 2]) (T.ai _ _) Tryz.func42 rfl rfl Tryz.ntmps42 Tryz.results42 (by simp [AObj.isNest]) (by simp [AObj.isNest]) (by kernel_rfl) T.mixed fun X hX hP hC aH bU=> ?_)
 repeat' (first|(show bM _ (.seq (.region 1 _ _) _) _ _;(refine dW hX 2 200 (.own 3 1 []) ?_ ?_ (by decide) ⟨3,1,by decide, .inl rfl⟩ ?_;(iterate 2 (focus (simp only [go_sem,simprocAttr];done)));simp only [go_sem,simprocAttr]))|refine Rn.p ?_|(with_reducible apply And.intro)|((first|(refine hK _ ?_;clear hK K)|with_reducible intro K hK|refine Rs.p ?_|((with_reducible first|apply oP|apply oQ);exact rfl));try simp only [go_sem,simprocAttr])|((with_reducible refine oD ?_ ?_);kernel_rfl)|((with_reducible intro h);try simp only [go_sem,simprocAttr] at h)|omega|intro h)
 have hm0:aN g=false→dA g= []:=fun h=>by unfold dA;rw [h];rfl
 cases hm:aN g with
 |false=>
  have hU:j6 g= []:=by unfold j6;rw [hm];rfl
  rw [hU] at hE
  rw [hm0 hm]
  cases Bx:g.es with
  |nil=>
   refine ag (fun k:Nat=>k=0) (fun _=>⟨[(1, .ptr 1 0),(2, .ref 200),(7, .d (sE [])),(8,eN 0),(9,eN 0)], [(1, .box [eN g.n, .d (sE [])]),(200, .own 3 1 [])]⟩) (fun _=>0) 0 rfl ?_ ?_
   ·refine Le.of ?_ ?_<;>simp [go_sem,simprocAttr,Bx]
   rintro k rfl
   repeat' (first|refine Rn.p ?_|(with_reducible apply And.intro)|((first|(refine hK _ ?_;clear hK K)|with_reducible intro K hK|refine Rs.p ?_|((with_reducible first|apply oP|apply oQ);exact rfl));try simp only [go_sem,simprocAttr])|((with_reducible refine oD ?_ ?_);kernel_rfl)|((with_reducible intro h);try simp only [go_sem,simprocAttr] at h)|omega|intro h)
  |cons q r=>
   have hq:g.es.length=r.length+1:=by rw [Bx];rfl
   have hb:decide ((0:Int)<((r.length+1:Nat):Int))=true:=decide_eq_true (by omega)
   refine ag (fun k:Nat=>k=0) (fun _=>⟨[(1, .ptr 1 0),(2, .ref 200),(7, .d (sE g.es)),(8,eN ((r.length+1:Nat):Int)),(9,eN 0)], [(1, .box [eN g.n, .d (sE g.es)]),(200, .own 3 1 [])]⟩) (fun _=>0) 0 rfl ?_ ?_
   ·refine Le.of ?_ ?_<;>simp [go_sem,simprocAttr,Bx]
   rintro k rfl
   repeat' (first|refine Rn.p ?_|(with_reducible apply And.intro)|((first|(refine hK _ ?_;clear hK K)|with_reducible intro K hK|refine Rs.p ?_|((with_reducible first|apply oP|apply oQ);exact rfl)|(refine iL hX hC hP 15 (hE) rfl rfl rfl ?_ ?_ (by first|exact ⟨_,_,_,rfl,u9⟩|exact ⟨_,_,_,rfl,va⟩|exact ⟨_,_,_,rfl,vf⟩) rfl (by decide) ?_;(iterate 2 (focus (simp only [go_sem,simprocAttr,hb];done)));simp only [go_sem,simprocAttr,hb]));try simp only [go_sem,simprocAttr,hb])|((with_reducible refine oD ?_ ?_);kernel_rfl)|((with_reducible intro h);try simp only [go_sem,simprocAttr,hb] at h)|omega|intro h)
 |true=>
  have hn:=aC hm
  have he:(j6 g).length=g.n.toNat:=by unfold j6;rw [if_pos hm];exact v7
  have hb0:decide ((g.n.toNat:Int)=0)=false:=decide_eq_false (by omega)
  have hT:dA g=w4 g g.es.length:=if_pos hm
  rw [hT]
  have hG:=fun i:Nat=>Cw g hm false (oW i) 87 (i:Int) (fun k _=>HS (i:Int) (k:Int)) (j6 g) (E5 hm)
  generalize j6 g=U at hE he hG
  refine ag (fun k:Nat=>k≤g.es.length) (fun k=>⟨[(1, .ptr 1 0),(2, .ref 200),(7, .d (sE g.es)),(8,eN g.es.length),(9,eN k)], [(1, .box [eN g.n, .d (sE g.es)]),(200, .own 3 1 ((w4 g k).map rI))]⟩) (fun k=>g.es.length - k) 0 (by omega) ?_ ?_
  ·refine Le.of ?_ ?_<;>simp [go_sem,simprocAttr,w4]
  rintro k hk
  rcases Nat.lt_or_ge k g.es.length with hlt|hge
  rotate_left
  ·have hb:decide ((k:Int)<(g.es.length:Int))=false:=decide_eq_false (by omega)
   obtain rfl:k=g.es.length:=by omega
   repeat' (first|refine Rn.p ?_|(with_reducible apply And.intro)|((first|(refine hK _ ?_;clear hK K)|with_reducible intro K hK|refine Rs.p ?_|((with_reducible first|apply oP|apply oQ);exact rfl));try simp only [go_sem,simprocAttr,hb])|((with_reducible refine oD ?_ ?_);kernel_rfl)|((with_reducible intro h);try simp only [go_sem,simprocAttr,hb] at h)|omega|intro h)
  have hb:decide ((k:Int)<(g.es.length:Int))=true:=decide_eq_true (by omega)
  have QJ:=hG k
  have bw:=mM (g:=g) (k:=k)
  have oZ:=tL (g:=g) (k:=k)
  obtain ⟨ht,hh⟩:=cM hm hlt
  obtain ⟨x,hx⟩:∃x:Nat,(g.es.getD k (0,0)).1=x:=⟨(g.es.getD k (0,0)).1.toNat,by omega⟩
  obtain ⟨y,hy⟩:∃y:Nat,(g.es.getD k (0,0)).2=y:=⟨(g.es.getD k (0,0)).2.toNat,by omega⟩
  rw [hx] at ht
  rw [hy] at hh
  have Mi:Bd g k=((Ct g false (oW k)).getD x 0).testBit y:=by
   unfold Bd
   rw [show (tl g k).toNat=x by show ((g.es.getD k (0,0)).1).toNat=x;rw [hx];rfl,show (hd g k).toNat=y by show ((g.es.getD k (0,0)).2).toNat=y;rw [hy];rfl]
  have hrl:(Ct g false (oW k)).length=g.n.toNat:=tK
  have hH:=E3 ((Ct g false (oW k)).getD x 0) (by
   rw [zo (by omega)]
   exact Nat.lt_of_lt_of_le JE (Nat.pow_le_pow_right (by decide) (show g.n.toNat≤64 by omega))) (y:Int)
  rw [show (decide ((0:Int)≤(y:Int))&&decide ((y:Int)<64)&&((Ct g false (oW k)).getD x 0).testBit ((y:Int)).toNat)=Bd g k by
   rw [Mi,decide_eq_true (show (0:Int)≤(y:Int) by omega),decide_eq_true (show (y:Int)<64 by omega)];rfl] at hH
  generalize Ct g false (oW k)=R at QJ hrl hH
  generalize w4 g k=O at bw oZ
  cases hB:Bd g k with
  |true=>
   rw [hB] at hH
   rw [hB,if_pos rfl] at bw
   repeat' (first|(show bM _ (.region 10 _ _) _ _;(refine ke hX 2 34 200 (by simp only [go_sem,simprocAttr,hb,hb0,he,hx,hy,hrl]) rfl (by first|exact .inl rfl|exact .inr rfl) (by decide) ?_;simp only [go_sem,simprocAttr,hb,hb0,he,hx,hy,hrl]))|refine Rn.p ?_|(with_reducible apply And.intro)|((first|(refine hK _ ?_;clear hK K)|with_reducible intro K hK|refine Rs.p ?_|((with_reducible first|apply oP|apply oQ);exact rfl)|(refine iL hX hC hP 15 (hE) rfl rfl rfl ?_ ?_ (by first|exact ⟨_,_,_,rfl,u9⟩|exact ⟨_,_,_,rfl,va⟩|exact ⟨_,_,_,rfl,vf⟩) rfl (by decide) ?_;(iterate 2 (focus (simp only [go_sem,simprocAttr,hb,hb0,he,hx,hy,hrl];done)));simp only [go_sem,simprocAttr,hb,hb0,he,hx,hy,hrl])|(refine aq hX hC hP [(10000,15),(10001,3)] (QJ) rfl rfl rfl ?_ ?_ ?_ ?_ ?_ ?_ ?_ ?_ ?_ ?_ ?_ ?_ ?_ ?_;(focus (simp only [go_sem,simprocAttr,hb,hb0,he,hx,hy,hrl];done));(iterate 12 (focus (simp [go_sem,simprocAttr,hb,hb0,he,hx,hy,hrl];done)));try simp only [List.map_cons,List.map_nil])|refine aa hX hC hP (hH) rfl rfl rfl (by simp only [go_sem,simprocAttr,hb,hb0,he,hx,hy,hrl]) rfl ?_);try simp only [go_sem,simprocAttr,hb,hb0,he,hx,hy,hrl])|((with_reducible refine oD ?_ ?_);kernel_rfl)|((with_reducible intro h);try simp only [go_sem,simprocAttr,hb,hb0,he,hx,hy,hrl] at h)|omega|intro h)
   refine ⟨k+1,by omega, ?_,by omega⟩
   rw [bw]
   refine Le.of ?_ ?_<;>simp [go_sem,simprocAttr,hb,hb0,he,hx,hy,hrl,rI]
  |false=>
   rw [hB] at hH
   rw [hB,if_neg (by simp)] at bw
   repeat' (first|refine Rn.p ?_|(with_reducible apply And.intro)|((first|(refine hK _ ?_;clear hK K)|with_reducible intro K hK|refine Rs.p ?_|((with_reducible first|apply oP|apply oQ);exact rfl)|(refine iL hX hC hP 15 (hE) rfl rfl rfl ?_ ?_ (by first|exact ⟨_,_,_,rfl,u9⟩|exact ⟨_,_,_,rfl,va⟩|exact ⟨_,_,_,rfl,vf⟩) rfl (by decide) ?_;(iterate 2 (focus (simp only [go_sem,simprocAttr,hb,hb0,he,hx,hy,hrl];done)));simp only [go_sem,simprocAttr,hb,hb0,he,hx,hy,hrl])|(refine aq hX hC hP [(10000,15),(10001,3)] (QJ) rfl rfl rfl ?_ ?_ ?_ ?_ ?_ ?_ ?_ ?_ ?_ ?_ ?_ ?_ ?_ ?_;(focus (simp only [go_sem,simprocAttr,hb,hb0,he,hx,hy,hrl];done));(iterate 12 (focus (simp [go_sem,simprocAttr,hb,hb0,he,hx,hy,hrl];done)));try simp only [List.map_cons,List.map_nil])|refine aa hX hC hP (hH) rfl rfl rfl (by simp only [go_sem,simprocAttr,hb,hb0,he,hx,hy,hrl]) rfl ?_);try simp only [go_sem,simprocAttr,hb,hb0,he,hx,hy,hrl])|((with_reducible refine oD ?_ ?_);kernel_rfl)|((with_reducible intro h);try simp only [go_sem,simprocAttr,hb,hb0,he,hx,hy,hrl] at h)|omega|intro h)
   refine ⟨k+1,by omega, ?_,by omega⟩
   rw [bw]
   refine Le.of ?_ ?_<;>simp [go_sem,simprocAttr,hb,hb0,he,hx,hy,hrl]
end Go.Ab
end
