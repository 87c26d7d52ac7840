/- A part of the proof. -/
import Derived.Test.YtchjjbfhlchpfaaGreatL2P15
set_option linter.unusedSimpArgs false
set_option linter.unusedVariables false
section
namespace Go.Ab
open Go.Proofs
attribute [local congr] ACall.congr
set_option maxRecDepth 10000
set_option maxHeartbeats 8000000
def mo (A fs:List Int) (x:Int) (j:Nat):List Int:=ko A fs (fun _=>x) j
theorem qj {A fs:List Int} {x:Int} {j:Nat} :(mo A fs x j).length=A.length:=gO
theorem jF (l items:List Int) (a b:Nat) (h0:0<(l.take a++items++l.drop b).length) (hr:l.length≤400000) (hi:items.length≤100000):Spec Tryz.prog 72 (Args [.d (.sl 1 [[.sl 1 (List.take a (l.map rI))], [.sl 1 (items.map rI)], [.sl 1 (List.drop b (l.map rI))]])]) [] (.d (sI (l.take a++items++l.drop b))) []:=by
 have hf: [l.take a,items,l.drop b].flatten=l.take a++items++l.drop b:=by simp
 have:=ew [l.take a,items,l.drop b] (by simp) (by rw [hf];exact h0) (by rw [hf];simp;omega)
 rw [hf] at this
 simpa only [vL,List.map_cons,List.map_nil,sI,List.map_take,List.map_drop] using this
theorem xo (x:Int) (o W G A B lo hi:List Int) (a b:Nat) (hab:a<b) (Qa:b<G.length) (Qb:b≤W.length) (hG:G.length≤100000) (hW:W.length≤100000) (hf:∀f∈(G.take b).drop (a+1),0≤f∧f<hi.length)
 (ho:o.length≤100000) (hO:∀i∈o,0≤i∧i<A.length) (hB:B.length=A.length) (hlo:lo.length≤100000) (hhi:hi.length≤100000):
 Spec Tryz.prog 74 (Args [.ptr 10000 0,eN x, .d (sI o),eN a,eN b]) (ID (sI W) (sI G) A B lo hi) (.tup [])
  (IE (sI (if o= [] then W else W.take a++o++W.drop b)) (sI (G.take (a+1)++fS lo.length (o.length - 1)++G.drop b)) (nj A o (G.getD a 0) lo.length o.length) (nk B o (G.getD b 0) lo.length o.length) (lo++List.replicate (o.length - 1) x) (mo hi ((G.take b).drop (a+1)) x ((G.take b).drop (a+1)).length++List.replicate (o.length - 1) 0)):=by
 have xD:List.drop (a+1) (List.take b (List.map rI G))=((G.take b).drop (a+1)).map rI:=by rw [List.map_drop,List.map_take]
 have hfl:((G.take b).drop (a+1)).length≤100000:=by simp;omega
 generalize (G.take b).drop (a+1)=fs at xD hf hfl ⊢
 have uj:List.take G.length (List.map rI G)=List.map rI G:=List.take_of_length_le (by simp)
 have pQ:List.take W.length (List.map rI W)=List.map rI W:=List.take_of_length_le (by simp)
 have hmn:min ((a:Int)+1) (b:Int)=((a+1:Nat):Int):=by omega
 have EM:=vA x (G.getD a 0) (G.getD b 0) o (sI W) (sI G) A B lo (mo hi fs x fs.length) ho hO hB hlo (by rw [qj];exact hhi)
 have Mx:=jF G (fS lo.length (o.length - 1)) (a+1) b (by simp;omega) (by omega) (by rw [kq];omega)
 have Nq:=fun (h:o≠ [])=>jF W o a b (by have:=List.length_pos_iff.2 h;simp;omega) (by omega) (by omega)
 generalize hg:fS lo.length (o.length - 1)=gs at EM Mx
 unfold ID IE at EM ⊢
 (refine Spec.dQ (C:=T.cfg [] []) (rs:= []) [(10005,300),(10006,301)] (T.ai _ _) Tryz.func74 rfl rfl Tryz.ntmps74 Tryz.results74 (by simp [AObj.isNest]) (by simp [AObj.isNest]) (by first|(simp [look];done)|(simp [asN];done)|(intro l hl;simp only [asN];repeat (rw [if_neg (fun e=>by subst e;simp [look] at hl)]))) (by first|(simp [look];done)|(simp [asN];done)|(intro l hl;simp only [asN];repeat (rw [if_neg (fun e=>by subst e;simp [look] at hl)]))) (by kernel_rfl) ?_;intro X hX hP hC aG aH vals hA;refine ⟨_,by simp,hA, ?_⟩;have af:X.P.follows .mixedOrders=true:=(by rw [hP];exact T.mixed);clear aG aH)
 repeat' (first|((first|((with_reducible (first|apply oA|apply oB));exact rfl;intro K hK)|(refine hK _ ?_;clear hK K)|((with_reducible (first|apply oG|apply oH));iterate 3 exact rfl)|((with_reducible apply oI);(iterate 2 exact rfl);intro K hK)|(with_reducible (first|apply wI|apply wJ|apply wK)));try simp only [go_sem,simprocAttr,hmn,xD])|(with_reducible (first|apply oC|apply oJ|exact oK|apply wA|apply wB|apply wC hX hC|apply wD hX hC|apply wE hX hC af|apply wF hX hC af|apply wG|apply wH|apply And.intro))|((with_reducible refine oD ?_ ?_);kernel_rfl)|((with_reducible (first|apply oE|apply oF));(iterate 3 exact rfl);all_goals (intro h;first|(exact absurd h (by decide))|((try simp only [go_sem,simprocAttr,hmn,xD] at h);(try with_reducible intro K hK);simp only [go_sem,simprocAttr,hmn,xD])))|((first|((with_reducible apply wL);exact rfl)|((with_reducible apply wM);exact rfl));all_goals (try ((with_reducible intro h);first|(exact absurd h (by decide))|(try simp only [go_sem,simprocAttr,hmn,xD] at h))))|omega|(intro h))
 refine aj (fun j:Nat=>j≤fs.length) (fun j=>⟨[(0, .ptr 10000 0),(1,eN x),(2, .d (sI o)),(3,eN a),(4,eN b),(24, .d (sI fs)),(25,eN fs.length),(26,eN j)], [(10000, .box [.d (sI W), .d (sI G), .ref 10001, .ref 10002, .ref 10003, .ref 10004]),(10001, .own 3 1 (A.map rI)),(10002, .own 3 1 (B.map rI)),(10003, .tip 3 1 (lo.map rI)),(10004, .own 3 1 ((mo hi fs x j).map rI))]⟩) (fun j=>fs.length - j) 0 (by omega) ?_ ?_
 ·refine Le.of ?_ ?_<;>simp [go_sem,simprocAttr,mo,ko]
 rintro j hj
 rcases Nat.lt_or_ge j fs.length with hjl|KG
 ·have hb:decide ((j:Int)<(fs.length:Int))=true:=decide_eq_true (by omega)
  have hin:=hf _ (bz (d:=0) hjl)
  have uC:=qj (A:=hi) (fs:=fs) (x:=x) (j:=j)
  have KK:mo hi fs x (j+1)=(mo hi fs x j).set (fs.getD j 0).toNat x:=rfl
  generalize vB:fs.getD j 0=v at hin KK
  obtain ⟨i,rfl⟩:∃i:Nat,v=i:=⟨v.toNat,by omega⟩
  rw [Int.toNat_natCast] at KK
  generalize mo hi fs x j=H1 at uC KK
  repeat' (first|((first|((with_reducible (first|apply oA|apply oB));exact rfl;intro K hK)|(refine hK _ ?_;clear hK K)|((with_reducible (first|apply oG|apply oH));iterate 3 exact rfl)|((with_reducible apply oI);(iterate 2 exact rfl);intro K hK)|(with_reducible (first|apply wI|apply wJ|apply wK)));try simp only [go_sem,simprocAttr,hb,vB,uC])|(with_reducible (first|apply oC|apply oJ|exact oK|apply wA|apply wB|apply wC hX hC|apply wD hX hC|apply wE hX hC af|apply wF hX hC af|apply wG|apply wH|apply And.intro))|((with_reducible refine oD ?_ ?_);kernel_rfl)|((with_reducible (first|apply oE|apply oF));(iterate 3 exact rfl);all_goals (intro h;first|(exact absurd h (by decide))|((try simp only [go_sem,simprocAttr,hb,vB,uC] at h);(try with_reducible intro K hK);simp only [go_sem,simprocAttr,hb,vB,uC])))|((first|((with_reducible apply wL);exact rfl)|((with_reducible apply wM);exact rfl));all_goals (try ((with_reducible intro h);first|(exact absurd h (by decide))|(try simp only [go_sem,simprocAttr,hb,vB,uC] at h))))|omega|(intro h))
  refine ⟨j+1,by omega, ?_,by omega⟩
  rw [KK]
  refine Le.of ?_ ?_<;>simp [go_sem,simprocAttr,hb,vB,uC,rI]
 have hb:decide ((j:Int)<(fs.length:Int))=false:=decide_eq_false (by omega)
 obtain rfl:j=fs.length:=by omega
 have rq:((a:Int)+1).toNat=a+1:=by omega
 by_cases hne:o= []
 ·have an:decide ((o.length:Int)=0)=true:=decide_eq_true (by rw [hne];rfl)
  repeat' (first|((first|((with_reducible (first|apply oA|apply oB));exact rfl;intro K hK)|(refine hK _ ?_;clear hK K)|((with_reducible (first|apply oG|apply oH));iterate 3 exact rfl)|((with_reducible apply oI);(iterate 2 exact rfl);intro K hK)|(with_reducible (first|apply wI|apply wJ|apply wK)));try simp only [go_sem,simprocAttr,hb,an,if_pos hne,rq,uj,pQ])|(with_reducible (first|apply oC|apply oJ|exact oK|apply wA|apply wB|apply wC hX hC|apply wD hX hC|apply wE hX hC af|apply wF hX hC af|apply wG|apply wH|apply And.intro))|((with_reducible refine oD ?_ ?_);kernel_rfl)|((with_reducible (first|apply oE|apply oF));(iterate 3 exact rfl);all_goals (intro h;first|(exact absurd h (by decide))|((try simp only [go_sem,simprocAttr,hb,an,if_pos hne,rq,uj,pQ] at h);(try with_reducible intro K hK);simp only [go_sem,simprocAttr,hb,an,if_pos hne,rq,uj,pQ])))|((first|((with_reducible apply wL);exact rfl)|((with_reducible apply wM);exact rfl));all_goals (try ((with_reducible intro h);first|(exact absurd h (by decide))|(try simp only [go_sem,simprocAttr,hb,an,if_pos hne,rq,uj,pQ] at h))))|omega|((first|(refine aB hX hC hP [(10000,10000),(10001,10001),(10002,10002),(10003,10003),(10004,10004),(10005,300),(10006,301)] (EM) rfl rfl rfl ?_ ?_ ?_ ?_ ?_ ?_ ?_ ?_ ?_ ?_ ?_ ?_ ?_ ?_;(focus (simp only [go_sem,simprocAttr,hb,an,if_pos hne,rq,uj,pQ];done));(iterate 12 (focus (simp [go_sem,simprocAttr,hb,an,if_pos hne,rq,uj,pQ];done)));simp only [go_sem,simprocAttr,hb,an,if_pos hne,rq,uj,pQ,List.map_cons,List.map_nil])|(refine bB hX hC hP (Mx) rfl rfl rfl ?_ ?_ rfl ?_;iterate 2 (focus (simp only [go_sem,simprocAttr,hb,an,if_pos hne,rq,uj,pQ];done)))|(refine bB hX hC hP (Nq hne) rfl rfl rfl ?_ ?_ rfl ?_;iterate 2 (focus (simp only [go_sem,simprocAttr,hb,an,if_pos hne,rq,uj,pQ];done))));try simp only [go_sem,simprocAttr,hb,an,if_pos hne,rq,uj,pQ])|(intro h))
  all_goals (first|rfl|(simp only [go_sem,simprocAttr,hb,an,if_pos hne,rq,uj,pQ];done))
 ·have an:decide ((o.length:Int)=0)=false:=decide_eq_false (by have:=List.length_pos_iff.2 hne;omega)
  repeat' (first|((first|((with_reducible (first|apply oA|apply oB));exact rfl;intro K hK)|(refine hK _ ?_;clear hK K)|((with_reducible (first|apply oG|apply oH));iterate 3 exact rfl)|((with_reducible apply oI);(iterate 2 exact rfl);intro K hK)|(with_reducible (first|apply wI|apply wJ|apply wK)));try simp only [go_sem,simprocAttr,hb,an,if_neg hne,rq,uj,pQ])|(with_reducible (first|apply oC|apply oJ|exact oK|apply wA|apply wB|apply wC hX hC|apply wD hX hC|apply wE hX hC af|apply wF hX hC af|apply wG|apply wH|apply And.intro))|((with_reducible refine oD ?_ ?_);kernel_rfl)|((with_reducible (first|apply oE|apply oF));(iterate 3 exact rfl);all_goals (intro h;first|(exact absurd h (by decide))|((try simp only [go_sem,simprocAttr,hb,an,if_neg hne,rq,uj,pQ] at h);(try with_reducible intro K hK);simp only [go_sem,simprocAttr,hb,an,if_neg hne,rq,uj,pQ])))|((first|((with_reducible apply wL);exact rfl)|((with_reducible apply wM);exact rfl));all_goals (try ((with_reducible intro h);first|(exact absurd h (by decide))|(try simp only [go_sem,simprocAttr,hb,an,if_neg hne,rq,uj,pQ] at h))))|omega|((first|(refine aB hX hC hP [(10000,10000),(10001,10001),(10002,10002),(10003,10003),(10004,10004),(10005,300),(10006,301)] (EM) rfl rfl rfl ?_ ?_ ?_ ?_ ?_ ?_ ?_ ?_ ?_ ?_ ?_ ?_ ?_ ?_;(focus (simp only [go_sem,simprocAttr,hb,an,if_neg hne,rq,uj,pQ];done));(iterate 12 (focus (simp [go_sem,simprocAttr,hb,an,if_neg hne,rq,uj,pQ];done)));simp only [go_sem,simprocAttr,hb,an,if_neg hne,rq,uj,pQ,List.map_cons,List.map_nil])|(refine bB hX hC hP (Mx) rfl rfl rfl ?_ ?_ rfl ?_;iterate 2 (focus (simp only [go_sem,simprocAttr,hb,an,if_neg hne,rq,uj,pQ];done)))|(refine bB hX hC hP (Nq hne) rfl rfl rfl ?_ ?_ rfl ?_;iterate 2 (focus (simp only [go_sem,simprocAttr,hb,an,if_neg hne,rq,uj,pQ];done))));try simp only [go_sem,simprocAttr,hb,an,if_neg hne,rq,uj,pQ])|(intro h))
  all_goals (first|rfl|(simp only [go_sem,simprocAttr,hb,an,if_neg hne,rq,uj,pQ];done))
end Go.Ab
end
section
namespace Go.Ab
open Go.Proofs
set_option maxRecDepth 10000
set_option linter.unusedSectionVars false
def arr (f:Int→Int) (m:Nat):List Int:=(List.range m).map fun i:Nat=>f (i:Int)
theorem dw {f:Int→Int} {m:Nat} :(arr f m).length=m:=by simp [arr]
theorem qk {f:Int→Int} {m i:Nat} (h:i<m):(arr f m).getD i 0=f (i:Int):=by
 simp [arr,List.getD_eq_getElem?_getD,List.getElem?_range h]
theorem EN {l m:List Int} (hl:l.length=m.length) (h:∀i,i<l.length→l.getD i 0=m.getD i 0):l=m:=by
 refine List.ext_getElem? fun i=> ?_
 by_cases hi:i<l.length
 ·have:=h i hi
  rw [List.getD_eq_getElem?_getD,List.getD_eq_getElem?_getD,List.getElem?_eq_getElem hi,List.getElem?_eq_getElem (by omega)] at this
  rw [List.getElem?_eq_getElem hi,List.getElem?_eq_getElem (by omega)]
  simpa using this
 ·rw [List.getElem?_eq_none (by omega),List.getElem?_eq_none (by omega)]
theorem pe {u v:List Int} {e:Int} :(u++e::v).getD u.length 0=e:=by
 rw [List.getD_eq_getElem?_getD,List.getElem?_append_right (Nat.le_refl _)];simp
section
variable {g:Gr} {p:Pl} (h:bA g p)
include h
theorem iK {k:Nat} (hk:k<g.n.toNat) {e:Int} (he:e∈bt p (az p k)):(0≤e∧e<g.es.length)∧qF g e=az p k:=by
 have hx:=aI h.2.1 hk
 exact cB.1 ((bC h.2.1 hx.1 hx.2).mem_iff.1 he)
theorem EO {k:Nat} (hk:k<g.n.toNat):(bt p (az p k)).Nodup:=by
 have hx:=aI h.2.1 hk
 exact (bC h.2.1 hx.1 hx.2).nodup_iff.2 de
theorem Bk {k:Nat} (hk:k<g.n.toNat) {e:Int} (he:0≤e∧e<g.es.length) (ht:qF g e=az p k):∃u v,bt p (az p k)=u++e::v:=by
 have hx:=aI h.2.1 hk
 exact List.append_of_mem ((bC h.2.1 hx.1 hx.2).mem_iff.2 (cB.2 ⟨he,ht⟩))
theorem vC {k:Nat} (hk:k<g.n.toNat) {f F F':Int→Int} {v:Nat→Int} (hin:∀u w e,bt p (az p k)=u++e::w→F' e=v u.length) (hout:∀e:Int,qF g e≠az p k→F' e=F e):
 ko (arr F g.es.length) (bt p (az p k)) v (bt p (az p k)).length=arr F' g.es.length:=by
 refine EN (by rw [gO,dw,dw]) fun i hi=> ?_
 rw [gO,dw] at hi
 rw [qk hi]
 by_cases ht:qF g (i:Int)=az p k
 ·obtain ⟨u,w,Cy⟩:=Bk h hk (e:=(i:Int)) (by omega) ht
  have e1:(bt p (az p k)).getD u.length 0=(i:Int):=by rw [Cy];exact pe
  have:=yV (A:=arr F g.es.length) (o:=bt p (az p k)) (f:=v) (i:=u.length) (by rw [e1,dw];simpa using hi) (j:=(bt p (az p k)).length) (by rw [Cy];simp) fun q hq e2=>by
   rw [e1,Int.toNat_natCast] at e2
   have h2:=iK h hk (bz (d:=0) hq)
   have h3:(bt p (az p k)).getD q 0=(i:Int):=by omega
   have bT:=EO h hk
   have:(bt p (az p k))[q]'hq=(bt p (az p k))[u.length]'(by rw [Cy];simp):=by
    rw [List.getD_eq_getElem?_getD,List.getElem?_eq_getElem hq] at h3
    rw [List.getD_eq_getElem?_getD,List.getElem?_eq_getElem (by rw [Cy];simp)] at e1
    simp only [Option.getD_some] at h3 e1
    rw [h3,e1]
   exact (List.getElem_inj bT).1 this
  rw [e1,Int.toNat_natCast] at this
  rw [this,hin u w (i:Int) Cy]
 ·rw [vv fun q hq e2=> ?_,qk hi,hout _ ht]
  have h2:=iK h hk (bz (d:=0) hq)
  exact ht (by rw [← h2.2];congr 1;omega)
theorem Ka {k:Nat} (hk:k<g.n.toNat):nj (arr (LK g p k) g.es.length) (bt p (az p k)) (if k=0 then 0 else LK g p k (fc g p (az p k))) (cK p k) (bt p (az p k)).length=arr (LK g p (k+1)) g.es.length:=by
 refine vC (f:=fun _=>0) h hk (fun u w e Cy=> ?_) fun e he=>by rw [LK,if_neg he]
 obtain ⟨a,b⟩:=nW h hk Cy
 rw [LK,if_pos a,b]
theorem Kb {r:Int} {k:Nat} (hk:k<g.n.toNat):nk (arr (RK g p r k) g.es.length) (bt p (az p k)) (if k=0 then r else RK g p r k (ni g p (az p k))) (cK p k) (bt p (az p k)).length=arr (RK g p r (k+1)) g.es.length:=by
 refine vC (f:=fun _=>0) h hk (fun u w e Cy=> ?_) fun e he=>by rw [RK,if_neg he]
 obtain ⟨a,b⟩:=nW h hk Cy
 rw [RK,if_pos a,b]
theorem yW (hI:kz g=true):∀ {k:Nat},k<g.n.toNat→∀t∈(fK g p k).row,0≤t.1
 |0,_,t,ht=>by cases ht
 |k+1,hk,t,ht=>by
  have hm:=au h.1
  have ih:=yW hI (k:=k) (by omega)
  obtain ⟨hi,_,_⟩:=cQ hm h.2.1 (k:=k) (by omega) fun j hj=>h.2.2 j (by omega)
  obtain ⟨A,X,C,hr,_,_,_,hs⟩:=je hm hi.todY (h.2.2 k (by omega))
  have hO:bt p (az p k)≠ []:=fun h1=>by
   have:=(dI h hI (aI h.2.1 (show k<g.n.toNat by omega))).1 h1
   have:=cP h.2.1 (show k<g.n.toNat by omega) (by omega) this
   omega
  have ht:t∈(aA g (fK g p k) (az p k) (bt p (az p k))).2.row:=ht
  rw [hs] at ht
  simp only [List.mem_append] at ht
  rcases ht with (ht|ht)|ht
  ·exact ih t (by rw [hr];simp [ht])
  ·unfold aO at ht
   rw [if_neg hO] at ht
   obtain ⟨i,hi2,rfl⟩:=List.mem_map.1 ht
   exact (iK h (show k<g.n.toNat by omega) hi2).1.1
  ·exact ih t (by rw [hr];simp [ht])
theorem Ag (hI:kz g=true) {k:Nat} (hk:k<g.n.toNat):fE (dZ g p k)=dZ g p k:=by
 have hm:=au h.1
 obtain ⟨hi,_,_⟩:=cQ hm h.2.1 (k:=k) (by omega) fun j hj=>h.2.2 j (by omega)
 obtain ⟨A,X,C,hr,_,_,_,hs⟩:=je hm hi.todY (h.2.2 k hk)
 have e:dZ g p k=X:=by unfold dZ;rw [hs]
 rw [e]
 refine List.filter_eq_self.2 fun t ht=>decide_eq_true (yW h hI hk t ?_)
 rw [hr];simp [ht]
theorem EP (hI:kz g=true) {k:Nat} (hk:k<g.n.toNat):cG g p (az p k)=(dZ g p k).map (·.1):=by
 unfold cG
 rw [o4 h.2.1 (Nat.le_refl _) hk,Ag h hI hk]
end
section
variable (g:Gr) (p:Pl)
def gq:Nat→List Int
 |0=>bt p (az p 0)
 |j+1=>if bt p (az p (j+1))= [] then gq j else (gq j).take (dL (gq j) (fc g p (az p (j+1)))).toNat++bt p (az p (j+1))++(gq j).drop ((dL (gq j) (fc g p (az p (j+1)))).toNat+(cG g p (az p (j+1))).length)
def mq:Nat→List Int
 |0=> [0]++fS 1 ((bt p (az p 0)).length - 1)++ [-1]
 |j+1=>(mq j).take ((dL (gq g p j) (fc g p (az p (j+1)))).toNat+1)++fS (cK p (j+1)) ((bt p (az p (j+1))).length - 1)++(mq j).drop ((dL (gq g p j) (fc g p (az p (j+1)))).toNat+(cG g p (az p (j+1))).length)
def tV (k:Nat):List Int:=((cG g p (az p k)).dropLast).map (RK g p (-1) k)
def zj:Nat→List Int
 |0=> [az p (g.n.toNat - 1)]
 |k+1=>mo (zj k) (tV g p k) (az p k) (tV g p k).length++List.replicate ((bt p (az p k)).length - 1) 0
end
section
variable {g:Gr} {p:Pl}
theorem rH:∀ {k:Nat},(zj g p k).length=cK p k
 |0=>rfl
 |k+1=>by rw [zj,List.length_append,qj,List.length_replicate,rH,cK]
variable (h:bA g p)
include h
theorem ER {A I C:List Int} (bT:(A++I++C).Nodup) (hI:I≠ []):dL (A++I++C) (I.headD 0)=(A.length:Int):=by
 obtain ⟨a,u,rfl⟩:=dX hI
 obtain ⟨k,h1,h2,h3⟩:=dG (l:=A++a::u++C) (x:=a) (by simp)
 have e:A++a::u++C=A++a::(u++C):=by simp
 have h4:(A++a::u++C).getD A.length 0=a:=by rw [e];exact pe
 show dL _ a=_
 rw [h1]
 have hA:A.length<(A++a::u++C).length:=by simp
 rw [List.getD_eq_getElem?_getD,List.getElem?_eq_getElem h2] at h3
 rw [List.getD_eq_getElem?_getD,List.getElem?_eq_getElem hA] at h4
 simp only [Option.getD_some] at h3 h4
 have:=(List.getElem_inj bT (h₀:=h2) (h₁:=hA)).1 (h3.trans h4.symm)
 omega
theorem ES {k:Nat} (hk:k≤g.n.toNat):(WK g p k).Nodup:=by
 have hm:=au h.1
 obtain ⟨hi,_,_⟩:=cQ hm h.2.1 (k:=k) (by omega) fun j hj=>h.2.2 j (by omega)
 exact Bd hi
theorem ET {r:Int} {k:Nat} (hk:k<g.n.toNat) (hO:bt p (az p k)≠ []) {j:Nat} (h1:k+1≤j) (h2:j≤g.n.toNat):(bt p (az p k)).map (RK g p r j)=fS (cK p k) ((bt p (az p k)).length - 1)++ [if k=0 then r else RK g p r k (ni g p (az p k))]:=by
 obtain ⟨v,b,hv⟩:=cE hO
 have e1:((bt p (az p k)).length - 1)=v.length:=by rw [hv];simp
 rw [e1]
 conv=>lhs;rw [hv]
 rw [List.map_append,List.map_cons,List.map_nil,tR h hk hv h1 h2]
 congr 1
 refine List.ext_getElem? fun i=> ?_
 by_cases hi:i<v.length
 ·rw [List.getElem?_map,List.getElem?_eq_getElem hi,fS,List.getElem?_map,List.getElem?_range hi,Option.map_some,Option.map_some]
  have hs:v=v.take i++v[i]::v.drop (i+1):=by simp
  obtain ⟨c,w,My⟩:∃c w,v.drop (i+1)++ [b]=c::w:=by
   cases hd:v.drop (i+1) with
   |nil=>exact ⟨b, [],rfl⟩
   |cons c w=>exact ⟨c,w++ [b],rfl⟩
  have h3:bt p (az p k)=v.take i++v[i]::c::w:=by
   rw [hv]
   conv=>lhs;rw [hs]
   rw [List.append_assoc,List.cons_append,My]
  rw [jv h hk h3 h1 h2,List.length_take,Nat.min_eq_left (by omega)]
  congr 1
 ·rw [List.getElem?_eq_none (by simpa using hi),List.getElem?_eq_none (by rw [kq];omega)]
theorem xp (hI:kz g=true):∀ {j:Nat},j+1<g.n.toNat→gq g p j=WK g p (j+1)∧mq g p j=0::(WK g p (j+1)).map (RK g p (-1) (j+1))∧WK g p (j+1)≠ []
 |0,hj=>by
  have hO:bt p (az p 0)≠ []:=fun h1=>by
   have:=(dI h hI (aI h.2.1 (show 0<g.n.toNat by omega))).1 h1
   have:=cP h.2.1 (show 0<g.n.toNat by omega) (by omega) this
   omega
  refine ⟨(qi h (by omega)).symm, ?_,by rw [qi h (by omega)];exact hO⟩
  rw [qi h (by omega),ET h (by omega) hO (Nat.le_refl _) (by omega),if_pos rfl]
  rfl
 |j+1,hj=>by
  obtain ⟨i1,i2,i3⟩:=xp hI (j:=j) (by omega)
  obtain ⟨A,C,e1,hne,e2⟩:=mM h (k:=j+1) (by omega) (by omega)
  have hO:bt p (az p (j+1))≠ []:=fun h1=>by
   have:=(dI h hI (aI h.2.1 (show j+1<g.n.toNat by omega))).1 h1
   have:=cP h.2.1 (show j+1<g.n.toNat by omega) (by omega) this
   omega
  have bT:=ES h (k:=j+1) (by omega)
  have IB:dL (WK g p (j+1)) (fc g p (az p (j+1)))=(A.length:Int):=by
   rw [e1] at bT ⊢
   exact ER h bT hne
  have Ad:∀a∈WK g p (j+1),RK g p (-1) (j+1+1) a=RK g p (-1) (j+1) a:=fun a ha=>by
   obtain ⟨i,hi,e⟩:=rD h (by omega) ha
   rw [ir h (by omega) e (j:=j+1+1) (by omega) (by omega),ir h (by omega) e (j:=j+1) (by omega) (by omega)]
  refine ⟨?_, ?_,by rw [e2];simp [hO]⟩
  ·rw [gq,if_neg hO,i1,IB,Int.toNat_natCast,e2]
   congr 1
   ·congr 1
    rw [e1,List.append_assoc,List.take_left]
   ·rw [e1, ← List.length_append,List.drop_left]
  ·rw [mq,i1,i2,IB,Int.toNat_natCast,List.take_succ_cons,e2]
   have e3:(WK g p (j+1)).map (RK g p (-1) (j+1))=A.map (RK g p (-1) (j+1))++((cG g p (az p (j+1))).map (RK g p (-1) (j+1))++C.map (RK g p (-1) (j+1))):=by rw [e1];simp
   have hA:A.map (RK g p (-1) (j+1+1))=A.map (RK g p (-1) (j+1)):=List.map_congr_left fun a ha=>Ad a (by rw [e1];simp [ha])
   have hC:C.map (RK g p (-1) (j+1+1))=C.map (RK g p (-1) (j+1)):=List.map_congr_left fun a ha=>Ad a (by rw [e1];simp [ha])
   rw [List.map_append,List.map_append,hA,hC,ET h (by omega) hO (Nat.le_refl _) (by omega),if_neg (by omega)]
   rw [e3,List.take_append_of_le_length (by simp),List.take_of_length_le (by simp)]
   obtain ⟨u,a,hu⟩:=cE hne
   have hl:(cG g p (az p (j+1))).length=u.length+1:=by rw [hu];simp
   rw [hl,show A.length+(u.length+1)=(A.length+u.length)+1 by omega,List.drop_succ_cons]
   have e4:(A.map (RK g p (-1) (j+1))++((cG g p (az p (j+1))).map (RK g p (-1) (j+1))++C.map (RK g p (-1) (j+1)))).drop (A.length+u.length)=RK g p (-1) (j+1) (ni g p (az p (j+1)))::C.map (RK g p (-1) (j+1)):=by
    rw [mh h hu,hu]
    have:A.map (RK g p (-1) (j+1))++((u++ [a]).map (RK g p (-1) (j+1))++C.map (RK g p (-1) (j+1)))=(A++u).map (RK g p (-1) (j+1))++(RK g p (-1) (j+1) a::C.map (RK g p (-1) (j+1))):=by simp
    rw [this,show A.length+u.length=((A++u).map (RK g p (-1) (j+1))).length by simp,List.drop_left]
   rw [e4]
   simp
theorem gr {A B:List Int} (h:B≠ []):(A++B).dropLast=A++B.dropLast:=by
 obtain ⟨u,a,rfl⟩:=cE h
 rw [← List.append_assoc,List.dropLast_concat,List.dropLast_concat]
theorem Bl (hI:kz g=true):∀ {k:Nat},1≤k→k<g.n.toNat→∀a∈(WK g p k).dropLast,1≤RK g p (-1) k a∧RK g p (-1) k a<cK p k
 |0,h1,_,_,_=>by omega
 |k+1,_,hk,a,ha=>by
  have hO:bt p (az p k)≠ []:=fun h1=>by
   have:=(dI h hI (aI h.2.1 (show k<g.n.toNat by omega))).1 h1
   have:=cP h.2.1 (show k<g.n.toNat by omega) (by omega) this
   omega
  have hc:cK p (k+1)=cK p k+((bt p (az p k)).length - 1):=rfl
  have I5:0<cK p k:=qg
  have hnew:∀b∈(bt p (az p k)).dropLast,1≤RK g p (-1) (k+1) b∧RK g p (-1) (k+1) b<cK p (k+1):=fun b hb=>by
   obtain ⟨v,c,hv⟩:=cE hO
   rw [hv,List.dropLast_concat] at hb
   obtain ⟨u,w,Cy⟩:=List.append_of_mem hb
   obtain ⟨c',w',My⟩:∃c' w',w++ [c]=c'::w':=by
    cases w with
    |nil=>exact ⟨c, [],rfl⟩
    |cons d w=>exact ⟨d,w++ [c],rfl⟩
   have h3:bt p (az p k)=u++b::c'::w':=by rw [hv,Cy, ← My];simp
   rw [jv h (show k<g.n.toNat by omega) h3 (Nat.le_refl _) (by omega)]
   have:(bt p (az p k)).length=u.length+(w'.length+2):=by rw [h3];simp
   omega
  by_cases h0:k=0
  ·subst h0
   rw [qi h (by omega)] at ha
   exact hnew a ha
  ·obtain ⟨A,C,e1,hne,e2⟩:=mM h h0 (show k<g.n.toNat by omega)
   have ih:=Bl hI (k:=k) (by omega) (by omega)
   have Ad:∀a∈WK g p k,RK g p (-1) (k+1) a=RK g p (-1) k a:=fun a ha=>by
    obtain ⟨i,hi,e⟩:=rD h (by omega) ha
    rw [ir h (by omega) e (j:=k+1) (by omega) (by omega),ir h (by omega) e (j:=k) (by omega) (by omega)]
   have old:∀b∈(WK g p k).dropLast,1≤RK g p (-1) (k+1) b∧RK g p (-1) (k+1) b<cK p (k+1):=fun b hb=>by
    rw [Ad b ((List.dropLast_sublist _).subset hb)]
    have:=ih b hb
    omega
   rw [e1] at old Ad
   rw [e2] at ha
   by_cases hC:C= []
   ·subst hC
    rw [List.append_nil] at ha old
    rw [gr h hO] at ha
    rw [gr h hne] at old
    rcases List.mem_append.1 ha with ha|ha
    ·exact old a (by simp [ha])
    ·exact hnew a ha
   ·rw [gr h hC] at ha old
    rcases List.mem_append.1 ha with ha|ha
    ·rcases List.mem_append.1 ha with ha|ha
     ·exact old a (by simp [ha])
     ·obtain ⟨v,b,hv⟩:=cE hO
      rw [hv,List.mem_append,List.mem_singleton] at ha
      rcases ha with ha|rfl
      ·exact hnew a (by rw [hv,List.dropLast_concat];exact ha)
      ·obtain ⟨u,c,hu⟩:=cE hne
       rw [tR h (show k<g.n.toNat by omega) hv (Nat.le_refl _) (by omega),if_neg h0,mh h hu, ← Ad c (by rw [hu];simp)]
       exact old c (by rw [hu];simp)
    ·exact old a (by simp [ha])
theorem Gj (hI:kz g=true) {k:Nat} (hk:k<g.n.toNat):∀f∈tV g p k,0≤f∧f<(zj g p k).length:=by
 intro f hf
 rw [rH]
 obtain ⟨a,ha,rfl⟩:=List.mem_map.1 hf
 have O8:cG g p (az p k)≠ []:=fun h0=>by rw [h0] at ha;simp at ha
 have xS:=Bh h hk O8
 obtain ⟨A,C,e1,hne,_⟩:=mM h xS hk
 have:=Bl h hI (k:=k) (by omega) hk a (by
  rw [e1]
  by_cases hC:C= []
  ·subst hC;rw [List.append_nil,gr h hne];simp [ha]
  ·rw [gr h hC];simp [(List.dropLast_sublist _).subset ha])
 omega
theorem EU (hI:kz g=true) {j:Nat} (hj:j+1<g.n.toNat):∃a:Nat,dL (gq g p j) (fc g p (az p (j+1)))=a∧0<(cG g p (az p (j+1))).length∧a+(cG g p (az p (j+1))).length≤(gq g p j).length∧
 (mq g p j).length=(gq g p j).length+1∧(mq g p j).getD a 0=LK g p (j+1) (fc g p (az p (j+1)))∧(mq g p j).getD (a+(cG g p (az p (j+1))).length) 0=RK g p (-1) (j+1) (ni g p (az p (j+1)))∧
 ((mq g p j).take (a+(cG g p (az p (j+1))).length)).drop (a+1)=tV g p (j+1):=by
 obtain ⟨i1,i2,i3⟩:=xp h hI hj
 obtain ⟨A,C,e1,hne,e2⟩:=mM h (k:=j+1) (by omega) hj
 have bT:=ES h (k:=j+1) (by omega)
 have IB:dL (WK g p (j+1)) (fc g p (az p (j+1)))=(A.length:Int):=by
  rw [e1] at bT ⊢
  exact ER h bT hne
 have hlk:=(Ac (r:= -1) h hI (k:=j+1) (by omega) hj i3).1
 obtain ⟨u,c,hu⟩:=cE hne
 obtain ⟨c0,u0,FY⟩:=dX hne
 have hl:(cG g p (az p (j+1))).length=u.length+1:=by rw [hu];simp
 rw [i1,i2]
 refine ⟨A.length,IB,by omega,by rw [e1];simp,by simp, ?_, ?_, ?_⟩
 ·rw [e1,bU,bU] at hlk
  have h1:=hlk.1.2
  rw [FY] at h1
  rw [qh h FY,h1.1,e1]
  rcases List.eq_nil_or_concat A with hA|⟨A',t,hA⟩
  ·subst hA;rfl
  ·rw [List.concat_eq_append] at hA
   subst hA
   rw [cU]
   have:(0::(A'++ [t]++cG g p (az p (j+1))++C).map (RK g p (-1) (j+1)))=(0::A'.map (RK g p (-1) (j+1)))++RK g p (-1) (j+1) t::((cG g p (az p (j+1))++C).map (RK g p (-1) (j+1))):=by simp
   rw [this]
   have h2:(A'++ [t]).length=(0::A'.map (RK g p (-1) (j+1))).length:=by simp
   rw [h2];exact pe
 ·rw [mh h hu,e1,hl]
  have:(0::(A++cG g p (az p (j+1))++C).map (RK g p (-1) (j+1)))=(0::(A++u).map (RK g p (-1) (j+1)))++RK g p (-1) (j+1) c::(C.map (RK g p (-1) (j+1))):=by rw [hu];simp
  rw [this]
  have h2:A.length+(u.length+1)=(0::(A++u).map (RK g p (-1) (j+1))).length:=by simp;omega
  rw [h2];exact pe
 ·rw [e1,hl]
  have:(0::(A++cG g p (az p (j+1))++C).map (RK g p (-1) (j+1)))=(0::A.map (RK g p (-1) (j+1)))++(u.map (RK g p (-1) (j+1))++(RK g p (-1) (j+1) c::(C.map (RK g p (-1) (j+1))))):=by rw [hu];simp
  rw [this,List.take_append,List.drop_append]
  have h2:(0::A.map (RK g p (-1) (j+1))).length=A.length+1:=by simp
  rw [h2,List.take_of_length_le (by rw [h2];omega),List.drop_of_length_le (by rw [h2];omega),h2]
  rw [show A.length+(u.length+1) - (A.length+1)=u.length by omega,Nat.sub_self,List.drop_zero,List.nil_append]
  rw [List.take_append_of_le_length (by simp),List.take_of_length_le (by simp)]
  unfold tV
  rw [hu,List.dropLast_concat]
end
end Go.Ab
end
section
namespace Go.Ab
open Go.Proofs
attribute [local congr] ACall.congr
set_option maxRecDepth 10000
set_option maxHeartbeats 8000000
def swapT (l:List It) (k:Nat):List It:=(List.range l.length).map fun p=>if p<k∨l.length - 1<p+k then l.getD (l.length - 1 - p) (0,0,0) else l.getD p (0,0,0)
theorem cj {l:List It} {k:Nat} :(swapT l k).length=l.length:=by simp [swapT]
theorem kr {l:List It} {k p:Nat} (h:p<l.length):(swapT l k)[p]? =some (if p<k∨l.length - 1<p+k then l.getD (l.length - 1 - p) (0,0,0) else l.getD p (0,0,0)):=by
 simp [swapT,List.getElem?_range h]
theorem tW {l:List It} {k p:Nat} (h:p<l.length) (d:It):(swapT l k).getD p d=if p<k∨l.length - 1<p+k then l.getD (l.length - 1 - p) (0,0,0) else l.getD p (0,0,0):=by
 rw [List.getD_eq_getElem?_getD,kr h];rfl
theorem Ah {l:List It} :swapT l 0=l:=by
 refine List.ext_getElem? fun i=> ?_
 by_cases hi:i<l.length
 ·rw [kr hi,if_neg (by omega),List.getD_eq_getElem?_getD,List.getElem?_eq_getElem hi];rfl
 ·rw [List.getElem?_eq_none (by rw [cj];omega),List.getElem?_eq_none (by omega)]
theorem CC {l:List It} {k:Nat} (h:l.length≤2*k+1):swapT l k=l.reverse:=by
 refine List.ext_getElem? fun i=> ?_
 by_cases hi:i<l.length
 ·rw [kr hi,List.getElem?_reverse hi]
  split
  ·rw [List.getD_eq_getElem?_getD,List.getElem?_eq_getElem (by omega)];rfl
  ·have:i=l.length - 1 - i:=by omega
   rw [← this,List.getD_eq_getElem?_getD,List.getElem?_eq_getElem hi];rfl
 ·rw [List.getElem?_eq_none (by rw [cj];omega),List.getElem?_eq_none (by rw [List.length_reverse];omega)]
theorem Ai {l:List It} {k:Nat} (h:k<l.length - 1 - k):((swapT l k).set k ((swapT l k).getD (l.length - 1 - k) (0,0,0))).set (l.length - 1 - k) ((swapT l k).getD k (0,0,0))=swapT l (k+1):=by
 refine List.ext_getElem? fun i=> ?_
 rw [List.getElem?_set,List.length_set,cj,List.getElem?_set,cj]
 by_cases hi:i<l.length
 ·rw [kr hi,kr hi,tW (by omega),tW (by omega)]
  by_cases h1:l.length - 1 - k=i
  ·rw [if_pos h1,if_pos (by omega),if_neg (by omega),if_pos (by omega)]
   congr 2;omega
  ·rw [if_neg h1]
   by_cases h2:k=i
   ·rw [if_pos h2,if_pos (by omega),if_neg (by omega),if_pos (by omega)]
    congr 2;omega
   ·rw [if_neg h2]
    congr 1
    by_cases h3:i<k∨l.length - 1<i+k
    ·rw [if_pos h3,if_pos (by omega)]
    ·rw [if_neg h3,if_neg (by omega)]
 ·rw [List.getElem?_eq_none (by rw [cj];omega),List.getElem?_eq_none (by rw [cj];omega),if_neg (by omega),if_neg (by omega)]
theorem xq (l:List It) (k:Nat) (t:It):(l.map rT).set k [.sc (.int .i64 t.1), .sc (.int .i64 t.2.1), .sc (.int .i64 t.2.2)]=(l.set k t).map rT:=by
 rw [List.map_set];rfl
theorem uD (l:List It) (hl:l.length≤1000000):Spec Tryz.prog 63 (Args [.ref 10000]) [(10000, .own 100 3 (l.map rT))] (.tup []) [(10000, .own 100 3 (l.reverse.map rT))]:=by
 (refine Spec.intro (C:=T.cfg [] []) (rs:= []) (T.ai _ _) Tryz.func63 rfl rfl Tryz.ntmps63 Tryz.results63 (by simp [AObj.isNest]) (by simp [AObj.isNest]) (by kernel_rfl) ?_;intro X hX hP hC aG aH vals hA;refine ⟨_,by simp,hA, ?_⟩;have af:X.P.follows .mixedOrders=true:=(by rw [hP];exact T.mixed);clear aG aH)
 repeat' (first|((first|((with_reducible (first|apply oA|apply oB));exact rfl;intro K hK)|(refine hK _ ?_;clear hK K)|((with_reducible (first|apply oG|apply oH));iterate 3 exact rfl)|((with_reducible apply oI);(iterate 2 exact rfl);intro K hK)|(with_reducible (first|apply wI|apply wJ|apply wK)));try simp only [go_sem,simprocAttr])|(with_reducible (first|apply oC|apply oJ|exact oK|apply wA|apply wB|apply wC hX hC|apply wD hX hC|apply wE hX hC af|apply wF hX hC af|apply wG|apply wH|apply And.intro))|((with_reducible refine oD ?_ ?_);kernel_rfl)|((with_reducible (first|apply oE|apply oF));(iterate 3 exact rfl);all_goals (intro h;first|(exact absurd h (by decide))|((try simp only [go_sem,simprocAttr] at h);(try with_reducible intro K hK);simp only [go_sem,simprocAttr])))|((first|((with_reducible apply wL);exact rfl)|((with_reducible apply wM);exact rfl));all_goals (try ((with_reducible intro h);first|(exact absurd h (by decide))|(try simp only [go_sem,simprocAttr] at h))))|omega|(intro h))
 refine aj (fun k:Nat=>2*k≤l.length+1) (fun k=>⟨[(0, .ref 10000),(2,eN k),(3,eN ((l.length:Int) - 1 - k))], [(10000, .own 100 3 ((swapT l k).map rT))]⟩) (fun k=>l.length+1 - k) 0 (by omega) ?_ ?_
 ·refine Le.of ?_ ?_<;>simp [go_sem,simprocAttr,Ah]
 rintro k hk
 rcases Nat.lt_or_ge (2*k+1) l.length with hlt|hge
 ·have hb:decide ((k:Int)<(l.length:Int) - 1 - (k:Int))=true:=decide_eq_true (by omega)
  have ht:((l.length:Int) - 1 - (k:Int)).toNat=l.length - 1 - k:=by omega
  repeat' (first|((first|((with_reducible (first|apply oA|apply oB));exact rfl;intro K hK)|(refine hK _ ?_;clear hK K)|((with_reducible (first|apply oG|apply oH));iterate 3 exact rfl)|((with_reducible apply oI);(iterate 2 exact rfl);intro K hK)|(with_reducible (first|apply wI|apply wJ|apply wK)));try simp only [go_sem,simprocAttr,hb,ht,cj,xq,List.length_cons,List.length_nil,List.drop_succ_cons,List.drop_zero,List.drop_nil])|(with_reducible (first|apply oC|apply oJ|exact oK|apply wA|apply wB|apply wC hX hC|apply wD hX hC|apply wE hX hC af|apply wF hX hC af|apply wG|apply wH|apply And.intro))|((with_reducible refine oD ?_ ?_);kernel_rfl)|((with_reducible (first|apply oE|apply oF));(iterate 3 exact rfl);all_goals (intro h;first|(exact absurd h (by decide))|((try simp only [go_sem,simprocAttr,hb,ht,cj,xq,List.length_cons,List.length_nil,List.drop_succ_cons,List.drop_zero,List.drop_nil] at h);(try with_reducible intro K hK);simp only [go_sem,simprocAttr,hb,ht,cj,xq,List.length_cons,List.length_nil,List.drop_succ_cons,List.drop_zero,List.drop_nil])))|((first|((with_reducible apply wL);exact rfl)|((with_reducible apply wM);exact rfl));all_goals (try ((with_reducible intro h);first|(exact absurd h (by decide))|(try simp only [go_sem,simprocAttr,hb,ht,cj,xq,List.length_cons,List.length_nil,List.drop_succ_cons,List.drop_zero,List.drop_nil] at h))))|omega|(intro h))
  refine ⟨k+1,by omega, ?_,by omega⟩
  refine Le.of ?_ ?_<;>simp [go_sem,simprocAttr]
  ·omega
  ·rw [← Ai (by omega),List.map_set,List.map_set]
   simp only [List.getD_eq_getElem?_getD]
   rfl
 ·have hb:decide ((k:Int)<(l.length:Int) - 1 - (k:Int))=false:=decide_eq_false (by omega)
  repeat' (first|((first|((with_reducible (first|apply oA|apply oB));exact rfl;intro K hK)|(refine hK _ ?_;clear hK K)|((with_reducible (first|apply oG|apply oH));iterate 3 exact rfl)|((with_reducible apply oI);(iterate 2 exact rfl);intro K hK)|(with_reducible (first|apply wI|apply wJ|apply wK)));try simp only [go_sem,simprocAttr,hb])|(with_reducible (first|apply oC|apply oJ|exact oK|apply wA|apply wB|apply wC hX hC|apply wD hX hC|apply wE hX hC af|apply wF hX hC af|apply wG|apply wH|apply And.intro))|((with_reducible refine oD ?_ ?_);kernel_rfl)|((with_reducible (first|apply oE|apply oF));(iterate 3 exact rfl);all_goals (intro h;first|(exact absurd h (by decide))|((try simp only [go_sem,simprocAttr,hb] at h);(try with_reducible intro K hK);simp only [go_sem,simprocAttr,hb])))|((first|((with_reducible apply wL);exact rfl)|((with_reducible apply wM);exact rfl));all_goals (try ((with_reducible intro h);first|(exact absurd h (by decide))|(try simp only [go_sem,simprocAttr,hb] at h))))|omega|(intro h))
  simp only [go_sem,simprocAttr,hb,CC hge]
theorem yX (ps:List It) (hl:ps.length≤1000000):
 Spec Tryz.prog 127 (Args [.d (sT ps)]) [] (.ref 10000) [(10000, .own 100 3 (ps.map rT))]:=by
 (refine Spec.dQ (C:=T.cfg [5,7] []) (rs:= [.t 2]) [(10000,7)] (T.ai _ _) Tryz.func127 rfl rfl Tryz.ntmps127 Tryz.results127 (by simp [AObj.isNest]) (by simp [AObj.isNest]) (by first|(simp [look];done)|(simp [asN];done)|(intro l hl;simp only [asN];repeat (rw [if_neg (fun e=>by subst e;simp [look] at hl)]))) (by first|(simp [look];done)|(simp [asN];done)|(intro l hl;simp only [asN];repeat (rw [if_neg (fun e=>by subst e;simp [look] at hl)]))) (by kernel_rfl) ?_;intro X hX hP hC aG aH vals hA;refine ⟨_,by simp,hA, ?_⟩;have af:X.P.follows .mixedOrders=true:=(by rw [hP];exact T.mixed);clear aG aH)
 repeat' (first|(show dK _ .ret _ _;(try simp only [go_sem,simprocAttr]);refine fX hX 2 7 (.own 100 3 []) ?_ ?_ (by decide) ⟨100,3,by decide, .inl rfl⟩ ?_;(iterate 2 (focus (simp only [go_sem,simprocAttr];done)));simp only [go_sem,simprocAttr])|((first|((with_reducible (first|apply oA|apply oB));exact rfl;intro K hK)|(refine hK _ ?_;clear hK K)|((with_reducible (first|apply oG|apply oH));iterate 3 exact rfl)|((with_reducible apply oI);(iterate 2 exact rfl);intro K hK)|(with_reducible (first|apply wI|apply wJ|apply wK)));try simp only [go_sem,simprocAttr])|(with_reducible (first|apply oC|apply oJ|exact oK|apply wA|apply wB|apply wC hX hC|apply wD hX hC|apply wE hX hC af|apply wF hX hC af|apply wG|apply wH|apply And.intro))|((with_reducible refine oD ?_ ?_);kernel_rfl)|((with_reducible (first|apply oE|apply oF));(iterate 3 exact rfl);all_goals (intro h;first|(exact absurd h (by decide))|((try simp only [go_sem,simprocAttr] at h);(try with_reducible intro K hK);simp only [go_sem,simprocAttr])))|((first|((with_reducible apply wL);exact rfl)|((with_reducible apply wM);exact rfl));all_goals (try ((with_reducible intro h);first|(exact absurd h (by decide))|(try simp only [go_sem,simprocAttr] at h))))|omega|(intro h))
 exact h.symm
theorem CD (ds:List D) (row:List It) (hr:row.length≤1000000):Spec Tryz.prog 84 (Args [.d (.pt (sT row::ds))]) [] (.ref 10000) [(10000, .own 100 3 (row.map rT))]:=by
 (refine Spec.dQ (C:=T.cfg [] []) (rs:= [.t 2]) [(10000,7)] (T.ai _ _) Tryz.func84 rfl rfl Tryz.ntmps84 Tryz.results84 (by simp [AObj.isNest]) (by simp [AObj.isNest]) (by first|(simp [look];done)|(simp [asN];done)|(intro l hl;simp only [asN];repeat (rw [if_neg (fun e=>by subst e;simp [look] at hl)]))) (by first|(simp [look];done)|(simp [asN];done)|(intro l hl;simp only [asN];repeat (rw [if_neg (fun e=>by subst e;simp [look] at hl)]))) (by kernel_rfl) ?_;intro X hX hP hC aG aH vals hA;refine ⟨_,by simp,hA, ?_⟩;have af:X.P.follows .mixedOrders=true:=(by rw [hP];exact T.mixed);clear aG aH)
 repeat' (first|((first|((with_reducible (first|apply oA|apply oB));exact rfl;intro K hK)|(refine hK _ ?_;clear hK K)|((with_reducible (first|apply oG|apply oH));iterate 3 exact rfl)|((with_reducible apply oI);(iterate 2 exact rfl);intro K hK)|(with_reducible (first|apply wI|apply wJ|apply wK)));try simp only [go_sem,simprocAttr])|(with_reducible (first|apply oC|apply oJ|exact oK|apply wA|apply wB|apply wC hX hC|apply wD hX hC|apply wE hX hC af|apply wF hX hC af|apply wG|apply wH|apply And.intro))|((with_reducible refine oD ?_ ?_);kernel_rfl)|((with_reducible (first|apply oE|apply oF));(iterate 3 exact rfl);all_goals (intro h;first|(exact absurd h (by decide))|((try simp only [go_sem,simprocAttr] at h);(try with_reducible intro K hK);simp only [go_sem,simprocAttr])))|((first|((with_reducible apply wL);exact rfl)|((with_reducible apply wM);exact rfl));all_goals (try ((with_reducible intro h);first|(exact absurd h (by decide))|(try simp only [go_sem,simprocAttr] at h))))|omega|((first|(refine aB hX hC hP [(10000,7)] (yX row hr) rfl rfl rfl ?_ ?_ ?_ ?_ ?_ ?_ ?_ ?_ ?_ ?_ ?_ ?_ ?_ ?_;(focus (simp only [go_sem,simprocAttr];done));(iterate 12 (focus (simp [go_sem,simprocAttr];done)));simp only [go_sem,simprocAttr,List.map_cons,List.map_nil]));try simp only [go_sem,simprocAttr])|(intro h))
def vD (rs:List Int) (l:List It):Int:=match l.find? (fun t=>decide (t.2.2∈rs)) with
 |some t=>t.2.2
 |none=>rs.headD (-1)
theorem CE (rs:List Int) (l:List It) (hr:rs≠ []) (hrl:rs.length≤1000000) (hl:l.length≤1000000):Spec Tryz.prog 112 (Args [.d (sI rs), .d (sT l)]) [] (eN (vD rs l)) []:=by
 generalize hH:vD rs l=H
 (refine Spec.intro (C:=T.cfg [] []) (rs:= [.t 4]) (T.ai _ _) Tryz.func112 rfl rfl Tryz.ntmps112 Tryz.results112 (by simp [AObj.isNest]) (by simp [AObj.isNest]) (by kernel_rfl) ?_;intro X hX hP hC aG aH vals hA;refine ⟨_,by simp,hA, ?_⟩;have af:X.P.follows .mixedOrders=true:=(by rw [hP];exact T.mixed);clear aG aH)
 repeat' (first|((first|((with_reducible (first|apply oA|apply oB));exact rfl;intro K hK)|(refine hK _ ?_;clear hK K)|((with_reducible (first|apply oG|apply oH));iterate 3 exact rfl)|((with_reducible apply oI);(iterate 2 exact rfl);intro K hK)|(with_reducible (first|apply wI|apply wJ|apply wK)));try simp only [go_sem,simprocAttr])|(with_reducible (first|apply oC|apply oJ|exact oK|apply wA|apply wB|apply wC hX hC|apply wD hX hC|apply wE hX hC af|apply wF hX hC af|apply wG|apply wH|apply And.intro))|((with_reducible refine oD ?_ ?_);kernel_rfl)|((with_reducible (first|apply oE|apply oF));(iterate 3 exact rfl);all_goals (intro h;first|(exact absurd h (by decide))|((try simp only [go_sem,simprocAttr] at h);(try with_reducible intro K hK);simp only [go_sem,simprocAttr])))|((first|((with_reducible apply wL);exact rfl)|((with_reducible apply wM);exact rfl));all_goals (try ((with_reducible intro h);first|(exact absurd h (by decide))|(try simp only [go_sem,simprocAttr] at h))))|omega|(intro h))
 refine aj (fun k:Nat=>k≤l.length∧∀j,j<k→(l.getD j (0,0,0)).2.2∉rs) (fun k=>⟨[(0, .d (sI rs)),(7, .d (sT l)),(8,eN l.length),(9,eN k)], []⟩) (fun k=>l.length - k) 0 (by simp) ?_ ?_
 ·(refine Le.of ?_ ?_<;>simp [go_sem,simprocAttr])
 rintro k ⟨hk,hg⟩
 rcases Nat.lt_or_ge k l.length with cz|GB
 ·have hb:decide ((k:Int)<(l.length:Int))=true:=decide_eq_true (by omega)
  by_cases h1:(l.getD k (0,0,0)).2.2∈rs
  ·have ak:decide ((l.getD k (0,0,0)).2.2∈rs)=true:=decide_eq_true h1
   have:(l.getD k (0,0,0)).2.2=H:=by
    rw [← hH];unfold vD
    have:l.find? (fun t=>decide (t.2.2∈rs))=some (l.getD k (0,0,0)):=by
     rw [List.find?_eq_some_iff_getElem]
     refine ⟨ak,k,cz,by rw [List.getD_eq_getElem?_getD,List.getElem?_eq_getElem cz];rfl,fun j hj=> ?_⟩
     have:=hg j hj
     rw [List.getD_eq_getElem?_getD,List.getElem?_eq_getElem (by omega)] at this
     simpa using this
    rw [this]
   have an:decide (H∈rs)=true:=by rw [← this];exact ak
   repeat' (first|((first|((with_reducible (first|apply oA|apply oB));exact rfl;intro K hK)|(refine hK _ ?_;clear hK K)|((with_reducible (first|apply oG|apply oH));iterate 3 exact rfl)|((with_reducible apply oI);(iterate 2 exact rfl);intro K hK)|(with_reducible (first|apply wI|apply wJ|apply wK)));try simp only [go_sem,simprocAttr,hb,an,this])|(with_reducible (first|apply oC|apply oJ|exact oK|apply wA|apply wB|apply wC hX hC|apply wD hX hC|apply wE hX hC af|apply wF hX hC af|apply wG|apply wH|apply And.intro))|((with_reducible refine oD ?_ ?_);kernel_rfl)|((with_reducible (first|apply oE|apply oF));(iterate 3 exact rfl);all_goals (intro h;first|(exact absurd h (by decide))|((try simp only [go_sem,simprocAttr,hb,an,this] at h);(try with_reducible intro K hK);simp only [go_sem,simprocAttr,hb,an,this])))|((first|((with_reducible apply wL);exact rfl)|((with_reducible apply wM);exact rfl));all_goals (try ((with_reducible intro h);first|(exact absurd h (by decide))|(try simp only [go_sem,simprocAttr,hb,an,this] at h))))|omega|((first|refine aa hX hC hP (aY rs H (by omega)) rfl rfl rfl (by simp only [go_sem,simprocAttr,hb,an,this]) rfl ?_);try simp only [go_sem,simprocAttr,hb,an,this])|(intro h))
  ·have ak:decide ((l.getD k (0,0,0)).2.2∈rs)=false:=decide_eq_false h1
   repeat' (first|((first|((with_reducible (first|apply oA|apply oB));exact rfl;intro K hK)|(refine hK _ ?_;clear hK K)|((with_reducible (first|apply oG|apply oH));iterate 3 exact rfl)|((with_reducible apply oI);(iterate 2 exact rfl);intro K hK)|(with_reducible (first|apply wI|apply wJ|apply wK)));try simp only [go_sem,simprocAttr,hb,ak])|(with_reducible (first|apply oC|apply oJ|exact oK|apply wA|apply wB|apply wC hX hC|apply wD hX hC|apply wE hX hC af|apply wF hX hC af|apply wG|apply wH|apply And.intro))|((with_reducible refine oD ?_ ?_);kernel_rfl)|((with_reducible (first|apply oE|apply oF));(iterate 3 exact rfl);all_goals (intro h;first|(exact absurd h (by decide))|((try simp only [go_sem,simprocAttr,hb,ak] at h);(try with_reducible intro K hK);simp only [go_sem,simprocAttr,hb,ak])))|((first|((with_reducible apply wL);exact rfl)|((with_reducible apply wM);exact rfl));all_goals (try ((with_reducible intro h);first|(exact absurd h (by decide))|(try simp only [go_sem,simprocAttr,hb,ak] at h))))|omega|((first|refine aa hX hC hP (aY rs (l.getD k (0,0,0)).2.2 (by omega)) rfl rfl rfl (by simp only [go_sem,simprocAttr,hb,ak]) rfl ?_);try simp only [go_sem,simprocAttr,hb,ak])|(intro h))
   refine ⟨k+1,⟨by omega,fun j hj=> ?_⟩, ?_,by omega⟩
   ·by_cases e:j=k
    ·subst e;exact h1
    ·exact hg j (by omega)
   ·(refine Le.of ?_ ?_<;>simp [go_sem,simprocAttr,hb,ak])
 ·have hb:decide ((k:Int)<(l.length:Int))=false:=decide_eq_false (by omega)
  have hpos:=List.length_pos_iff.2 hr
  have:rs.getD 0 0=H:=by
   rw [← hH];unfold vD
   have:l.find? (fun t=>decide (t.2.2∈rs))=none:=by
    rw [List.find?_eq_none]
    intro t ht
    obtain ⟨j,hj,rfl⟩:=List.mem_iff_getElem.1 ht
    have:=hg j (by omega)
    rw [List.getD_eq_getElem?_getD,List.getElem?_eq_getElem hj] at this
    simpa using this
   rw [this]
   match rs,hr with
   |a::_,_=>rfl
  repeat' (first|((first|((with_reducible (first|apply oA|apply oB));exact rfl;intro K hK)|(refine hK _ ?_;clear hK K)|((with_reducible (first|apply oG|apply oH));iterate 3 exact rfl)|((with_reducible apply oI);(iterate 2 exact rfl);intro K hK)|(with_reducible (first|apply wI|apply wJ|apply wK)));try simp only [go_sem,simprocAttr,hb,this])|(with_reducible (first|apply oC|apply oJ|exact oK|apply wA|apply wB|apply wC hX hC|apply wD hX hC|apply wE hX hC af|apply wF hX hC af|apply wG|apply wH|apply And.intro))|((with_reducible refine oD ?_ ?_);kernel_rfl)|((with_reducible (first|apply oE|apply oF));(iterate 3 exact rfl);all_goals (intro h;first|(exact absurd h (by decide))|((try simp only [go_sem,simprocAttr,hb,this] at h);(try with_reducible intro K hK);simp only [go_sem,simprocAttr,hb,this])))|((first|((with_reducible apply wL);exact rfl)|((with_reducible apply wM);exact rfl));all_goals (try ((with_reducible intro h);first|(exact absurd h (by decide))|(try simp only [go_sem,simprocAttr,hb,this] at h))))|omega|(intro h))
end Go.Ab
end
section
namespace Go.Ab
open Go.Proofs
attribute [local congr] ACall.congr
set_option maxRecDepth 10000
set_option maxHeartbeats 8000000
theorem Gk {g:Gr} (hm:aN g=true) {f:Fr} (hi:dY g f) (rev:Bool):vD (di g f) (gC rev f.row)=dg g f rev:=by
 unfold vD dg
 have:(fun t:It=>decide (t.2.2∈di g f))=fun t:It=>aq g f t.2.2:=by
  funext t
  cases h:aq g f t.2.2 with
  |true=>exact decide_eq_true ((gZ hm hi).2 h)
  |false=>exact decide_eq_false fun h2=>by rw [(gZ hm hi).1 h2] at h;cases h
 rw [this]
 rfl
theorem Aj (row:List It):Spec Tryz.prog 62 (Args [.ref 10000]) [(10000, .own 100 3 (row.map rT))] (.tup []) [(10000, .own 100 3 ((gC false row).map rT))]:=by
 (refine Spec.intro (C:=T.cfg [] []) (rs:= []) (T.ai _ _) Tryz.func62 rfl rfl Tryz.ntmps62 Tryz.results62 (by simp [AObj.isNest]) (by simp [AObj.isNest]) (by kernel_rfl) ?_;intro X hX hP hC aG aH vals hA;refine ⟨_,by simp,hA, ?_⟩;have af:X.P.follows .mixedOrders=true:=(by rw [hP];exact T.mixed);clear aG aH)
 repeat' (first|((first|((with_reducible (first|apply oA|apply oB));exact rfl;intro K hK)|(refine hK _ ?_;clear hK K)|((with_reducible (first|apply oG|apply oH));iterate 3 exact rfl)|((with_reducible apply oI);(iterate 2 exact rfl);intro K hK)|(with_reducible (first|apply wI|apply wJ|apply wK)));try simp only [go_sem,simprocAttr,gC])|(with_reducible (first|apply oC|apply oJ|exact oK|apply wA|apply wB|apply wC hX hC|apply wD hX hC|apply wE hX hC af|apply wF hX hC af|apply wG|apply wH|apply And.intro))|((with_reducible refine oD ?_ ?_);kernel_rfl)|((with_reducible (first|apply oE|apply oF));(iterate 3 exact rfl);all_goals (intro h;first|(exact absurd h (by decide))|((try simp only [go_sem,simprocAttr,gC] at h);(try with_reducible intro K hK);simp only [go_sem,simprocAttr,gC])))|((first|((with_reducible apply wL);exact rfl)|((with_reducible apply wM);exact rfl));all_goals (try ((with_reducible intro h);first|(exact absurd h (by decide))|(try simp only [go_sem,simprocAttr,gC] at h))))|omega|(intro h))
theorem Ak (row:List It) (hl:row.length≤1000000):Spec Tryz.prog 63 (Args [.ref 10000]) [(10000, .own 100 3 (row.map rT))] (.tup []) [(10000, .own 100 3 ((gC true row).map rT))]:=uD row hl
theorem vE (g:Gr) (p:Pl) (h:bA g p) (rev:Bool) (F:Nat) (Kc:∀row:List It,row.length≤1000000→Spec Tryz.prog F (Args [.ref 10000]) [(10000, .own 100 3 (row.map rT))] (.tup []) [(10000, .own 100 3 ((gC rev row).map rT))]):
 Spec Tryz.prog 61 (Args [eG g, .d (.sl 1 (vI p.outs)), .fn F [] []]) [] (.d (sI (cI g p rev g.n.toNat))) []:=by
 have hm:=au h.1
 have hn:=aL hm
 (refine Spec.intro (C:=T.cfg [] []) (rs:= [.t 6]) (T.ai _ _) Tryz.func61 rfl rfl Tryz.ntmps61 Tryz.results61 (by simp [AObj.isNest]) (by simp [AObj.isNest]) (by kernel_rfl) ?_;intro X hX hP hC aG aH vals hA;refine ⟨_,by simp,hA, ?_⟩;have af:X.P.follows .mixedOrders=true:=(by rw [hP];exact T.mixed);clear aG aH)
 repeat' (first|((first|((with_reducible (first|apply oA|apply oB));exact rfl;intro K hK)|(refine hK _ ?_;clear hK K)|((with_reducible (first|apply oG|apply oH));iterate 3 exact rfl)|((with_reducible apply oI);(iterate 2 exact rfl);intro K hK)|(with_reducible (first|apply wI|apply wJ|apply wK)));try simp only [go_sem,simprocAttr])|(show dK _ (.seq (.region 3 _ _) _) _ _;(refine lK 15 0 3 rfl rfl rfl ?_;simp only [LA.app,ASt.put,ASt.kill,putM,rml,List.set_cons_zero,List.set_cons_succ,go_sem,simprocAttr]);(refine sQ hX 15 2 200 (.tip 3 1 []) rfl rfl rfl (by simp only [go_sem,simprocAttr]) (by decide) (by simp [go_sem,simprocAttr]) ⟨3,1,by decide, .inr rfl⟩ ?_;simp only [LA.app,ASt.put,ASt.kill,subT,rmk,putM,rml,kl,AV.sub,AV.subs,AObj.sub,List.set_cons_zero,List.set_cons_succ,go_sem,simprocAttr]))|(with_reducible (first|apply oC|apply oJ|exact oK|apply wA|apply wB|apply wC hX hC|apply wD hX hC|apply wE hX hC af|apply wF hX hC af|apply wG|apply wH|apply And.intro))|((with_reducible refine oD ?_ ?_);kernel_rfl)|((with_reducible (first|apply oE|apply oF));(iterate 3 exact rfl);all_goals (intro h;first|(exact absurd h (by decide))|((try simp only [go_sem,simprocAttr] at h);(try with_reducible intro K hK);simp only [go_sem,simprocAttr])))|((first|((with_reducible apply wL);exact rfl)|((with_reducible apply wM);exact rfl));all_goals (try ((with_reducible intro h);first|(exact absurd h (by decide))|(try simp only [go_sem,simprocAttr] at h))))|omega|((first|(refine nE hX hC hP [(10000,15)] (pV g (by omega) h.1 hm) rfl rfl rfl ?_ ?_ ?_ ?_ ?_ ?_ ?_ ?_ ?_ ?_ ?_ ?_ ?_ ?_;(focus (simp only [go_sem,simprocAttr];done));(iterate 12 (focus (simp [go_sem,simprocAttr];done)));simp only [go_sem,simprocAttr,List.map_cons,List.map_nil]));try simp only [go_sem,simprocAttr])|(intro h))
 have Cu:List.replicate g.n.toNat [D.sc (.int .i64 0)]=(cI g p rev 0).map rI:=by rw [cI,List.map_replicate];rfl
 rw [Cu]
 refine aj (fun k:Nat=>k≤g.n.toNat) (fun k=>⟨[(1, .d (.sl 1 (vI p.outs))),(2, .fn F [] []),(7, .ptr 15 0),(9, .ref 20),(22,eN g.n),(23,eN k)], [(15, .box [.d (sT (aQ g p rev k).row), .d (vw g), .ref 200]),(200, .tip 3 1 ((aQ g p rev k).pl.map rI)),(20, .own 3 1 ((cI g p rev k).map rI))]⟩) (fun k=>g.n.toNat - k) 0 (by omega) ?_ ?_
 ·refine Le.of ?_ ?_<;>simp [go_sem,simprocAttr,aQ]
 rintro k hk
 obtain ⟨hi,fG,_,hrl⟩:=e9 h rev hk
 have hmul:k*(g.es.length+1)≤64*129:=Nat.mul_le_mul (by omega) (by omega)
 rcases Nat.lt_or_ge k g.n.toNat with cz|GB
 rotate_left
 ·have hb:decide ((k:Int)<g.n)=false:=decide_eq_false (by omega)
  obtain rfl:k=g.n.toNat:=by omega
  repeat' (first|((first|((with_reducible (first|apply oA|apply oB));exact rfl;intro K hK)|(refine hK _ ?_;clear hK K)|((with_reducible (first|apply oG|apply oH));iterate 3 exact rfl)|((with_reducible apply oI);(iterate 2 exact rfl);intro K hK)|(with_reducible (first|apply wI|apply wJ|apply wK)));try simp only [go_sem,simprocAttr,hb])|(with_reducible (first|apply oC|apply oJ|exact oK|apply wA|apply wB|apply wC hX hC|apply wD hX hC|apply wE hX hC af|apply wF hX hC af|apply wG|apply wH|apply And.intro))|((with_reducible refine oD ?_ ?_);kernel_rfl)|((with_reducible (first|apply oE|apply oF));(iterate 3 exact rfl);all_goals (intro h;first|(exact absurd h (by decide))|((try simp only [go_sem,simprocAttr,hb] at h);(try with_reducible intro K hK);simp only [go_sem,simprocAttr,hb])))|((first|((with_reducible apply wL);exact rfl)|((with_reducible apply wM);exact rfl));all_goals (try ((with_reducible intro h);first|(exact absurd h (by decide))|(try simp only [go_sem,simprocAttr,hb] at h))))|omega|(intro h))
 have hb:decide ((k:Int)<g.n)=true:=decide_eq_true (by omega)
 obtain ⟨hR,hne⟩:=kT h rev cz
 have Is:=aC hR
 have lp:(di g (aQ g p rev k)).length≤64:=by have:=tw (g:=g) (f:=aQ g p rev k) (k:=g.n.toNat);unfold di;omega
 have hpe:=Gk hm hi.todY rev
 have hlo:(gC rev (aQ g p rev k).row).length=(aQ g p rev k).row.length:=by unfold gC;split<;>simp
 have KL:=CE (di g (aQ g p rev k)) (gC rev (aQ g p rev k).row) hne (by omega) (by omega)
 rw [hpe] at KL
 clear hpe
 have O9:=CD [vw g,sI (aQ g p rev k).pl] (aQ g p rev k).row (by omega)
 have Nr:=Kc (aQ g p rev k).row (by omega)
 have Ns:=yD g hm (aQ g p rev k) (by omega) (by omega)
 have H8:=bC h.2.1 Is.1 Is.2.1
 have qK:=iJ h.2.1 Is.1 Is.2.1
 have cO:aQ g p rev (k+1)=(aA g (aQ g p rev k) (dg g (aQ g p rev k) rev) (bt p (dg g (aQ g p rev k) rev))).2:=rfl
 have Nt:cI g p rev (k+1)=(cI g p rev k).set (dg g (aQ g p rev k) rev).toNat (k:Int):=rfl
 have qw:=kf (g:=g) (p:=p) (rev:=rev) (k:=k)
 generalize dg g (aQ g p rev k) rev=x0 at*
 obtain ⟨x,rfl⟩:∃x:Nat,x0=x:=⟨x0.toNat,by omega⟩
 have hxl:x<p.outs.length:=by have:=h.2.1.1;omega
 have hv:=gR hxl
 have hla:bt p (x:Int)=p.outs.getD x []:=by unfold bt;rw [Int.toNat_natCast]
 rw [hla] at H8 qK cO
 rw [Int.toNat_natCast] at Nt
 have jH:=qE g hm (aQ g p rev k) hi (x:Int) (p.outs.getD x []) (by omega) (by omega) (by omega)
 have hpk:cF g (aQ g p rev k) (x:Int) (p.outs.getD x [])=aA g (aQ g p rev k) (x:Int) (p.outs.getD x []):=by
  unfold cF
  rw [if_neg (by rw [hR];simp),if_neg]
  rintro (h|⟨i,h1,h2⟩)
  ·exact h H8.length_eq
  ·exact h2 (H8.mem_iff.2 h1)
 rw [hpk] at jH
 generalize p.outs.getD x []=o at hv jH cO
 generalize di g (aQ g p rev k)=L at KL Ns lp
 generalize gC rev (aQ g p rev k).row=LR at KL Nr hlo
 generalize Pa:aQ g p rev (k+1)=f' at cO
 generalize aQ g p rev k=f at*
 generalize aA g f (x:Int) o=su at jH cO
 repeat' (first|((first|((with_reducible (first|apply oA|apply oB));exact rfl;intro K hK)|(refine hK _ ?_;clear hK K)|((with_reducible (first|apply oG|apply oH));iterate 3 exact rfl)|((with_reducible apply oI);(iterate 2 exact rfl);intro K hK)|(with_reducible (first|apply wI|apply wJ|apply wK)));try simp only [go_sem,simprocAttr,hb,hv,qw,fm,j6,dU])|(show dK _ (.region 11 _ _) _ _;(refine iD hX 15 2 201 200 rfl rfl rfl (by first|exact .inl rfl|exact .inr rfl) (by decide) (by decide) ?_;simp only [LA.app,ASt.put,ASt.kill,subT,rmk,putM,rml,kl,AV.sub,AV.subs,AObj.sub,List.set_cons_zero,List.set_cons_succ,go_sem,simprocAttr,hb,hv,qw,fm,j6,dU]))|(with_reducible (first|apply oC|apply oJ|exact oK|apply wA|apply wB|apply wC hX hC|apply wD hX hC|apply wE hX hC af|apply wF hX hC af|apply wG|apply wH|apply And.intro))|((with_reducible refine oD ?_ ?_);kernel_rfl)|((with_reducible (first|apply oE|apply oF));(iterate 3 exact rfl);all_goals (intro h;first|(exact absurd h (by decide))|((try simp only [go_sem,simprocAttr,hb,hv,qw,fm,j6,dU] at h);(try with_reducible intro K hK);simp only [go_sem,simprocAttr,hb,hv,qw,fm,j6,dU])))|((first|((with_reducible apply wL);exact rfl)|((with_reducible apply wM);exact rfl));all_goals (try ((with_reducible intro h);first|(exact absurd h (by decide))|(try simp only [go_sem,simprocAttr,hb,hv,qw,fm,j6,dU] at h))))|omega|((first|(refine kI hX hC hP 29 (O9) rfl rfl rfl ?_ ?_ (by first|exact ⟨_,_,_,rfl,u9⟩|exact ⟨_,_,_,rfl,va⟩|exact ⟨_,_,_,rfl,ve⟩) rfl (by decide) ?_;(iterate 2 (focus (simp only [go_sem,simprocAttr,hb,hv,qw,fm,j6,dU];done)));simp only [go_sem,simprocAttr,hb,hv,qw,fm,j6,dU])|(refine aB hX hC hP [(10000,29)] (Nr) rfl rfl rfl ?_ ?_ ?_ ?_ ?_ ?_ ?_ ?_ ?_ ?_ ?_ ?_ ?_ ?_;(focus (simp only [go_sem,simprocAttr,hb,hv,qw,fm,j6,dU];done));(iterate 12 (focus (simp [go_sem,simprocAttr,hb,hv,qw,fm,j6,dU];done)));simp only [go_sem,simprocAttr,hb,hv,qw,fm,j6,dU,List.map_cons,List.map_nil])|(refine lJ hX hC hP 34 (Ns) rfl rfl rfl ?_ ?_ (by first|exact ⟨_,_,_,rfl,u9⟩|exact ⟨_,_,_,rfl,va⟩|exact ⟨_,_,_,rfl,ve⟩) rfl (by decide) ?_;(iterate 2 (focus (simp only [go_sem,simprocAttr,hb,hv,qw,fm,j6,dU];done)));simp only [go_sem,simprocAttr,hb,hv,qw,fm,j6,dU])|(refine ah hX hC hP (KL) rfl rfl rfl ?_ ?_ ?_ ?_;iterate 3 (focus (simp only [go_sem,simprocAttr,hb,hv,qw,fm,j6,dU];done)))|(refine aB hX hC hP [(10000,15),(10001,200),(10002,201)] (jH) rfl rfl rfl ?_ ?_ ?_ ?_ ?_ ?_ ?_ ?_ ?_ ?_ ?_ ?_ ?_ ?_;(focus (simp only [go_sem,simprocAttr,hb,hv,qw,fm,j6,dU];done));(iterate 12 (focus (simp [go_sem,simprocAttr,hb,hv,qw,fm,j6,dU];done)));simp only [go_sem,simprocAttr,hb,hv,qw,fm,j6,dU,List.map_cons,List.map_nil]));try simp only [go_sem,simprocAttr,hb,hv,qw,fm,j6,dU])|(intro h))
 refine ⟨k+1,by omega, ?_,by omega⟩
 rw [Nt,Pa,cO]
 refine Le.of ?_ ?_<;>simp [go_sem,simprocAttr,hb,hv,qw,fm,j6,dU,rI]
def Gl (b:Bool) (g:Gr) (p:Pl):List Int × List Int × Int:=
 if (bL b g p).2.1=0∧kz g=true then (cI g p false g.n.toNat,cI g p true g.n.toNat,0) else ([], [],1)
theorem tX (g:Gr) (hl:g.es.length≤1000) (p:Pl) (hp:o8 p) (b:Bool) (hr:b=true↔(b9 g).1=0∧bp g p):
 Spec Tryz.prog 24 (Args [eG g,ePl p]) [] (.tup [.d (sI (Gl b g p).1), .d (sI (Gl b g p).2.1),eN (Gl b g p).2.2]) []:=by
 have hO:=jE g hl p hp b hr
 have hI:=nU g hl
 by_cases h0:(bL b g p).2.1=0
 rotate_left
 ·have hK:Gl b g p=([], [],1):=if_neg fun h=>h0 h.1
  have hb0:decide ((bL b g p).2.1=0)=false:=decide_eq_false h0
  rw [hK]
  (refine Spec.intro (C:=T.cfg [] []) (rs:= [.t 4, .t 5, .t 6]) (T.ai _ _) Tryz.func24 rfl rfl Tryz.ntmps24 Tryz.results24 (by simp [AObj.isNest]) (by simp [AObj.isNest]) (by kernel_rfl) ?_;intro X hX hP hC aG aH vals hA;refine ⟨_,by simp,hA, ?_⟩;have af:X.P.follows .mixedOrders=true:=(by rw [hP];exact T.mixed);clear aG aH)
  repeat' (first|((first|((with_reducible (first|apply oA|apply oB));exact rfl;intro K hK)|(refine hK _ ?_;clear hK K)|((with_reducible (first|apply oG|apply oH));iterate 3 exact rfl)|((with_reducible apply oI);(iterate 2 exact rfl);intro K hK)|(with_reducible (first|apply wI|apply wJ|apply wK)));try simp only [go_sem,simprocAttr,hb0])|(with_reducible (first|apply oC|apply oJ|exact oK|apply wA|apply wB|apply wC hX hC|apply wD hX hC|apply wE hX hC af|apply wF hX hC af|apply wG|apply wH|apply And.intro))|((with_reducible refine oD ?_ ?_);kernel_rfl)|((with_reducible (first|apply oE|apply oF));(iterate 3 exact rfl);all_goals (intro h;first|(exact absurd h (by decide))|((try simp only [go_sem,simprocAttr,hb0] at h);(try with_reducible intro K hK);simp only [go_sem,simprocAttr,hb0])))|((first|((with_reducible apply wL);exact rfl)|((with_reducible apply wM);exact rfl));all_goals (try ((with_reducible intro h);first|(exact absurd h (by decide))|(try simp only [go_sem,simprocAttr,hb0] at h))))|omega|((first|refine aa hX hC hP (hO) rfl rfl rfl (by simp only [go_sem,simprocAttr,hb0]) rfl ?_);try simp only [go_sem,simprocAttr,hb0])|(intro h))
 obtain ⟨hrun,hR⟩:=p9 hr h0
 rw [hR] at hO
 simp only at hO
 cases CZ:kz g with
 |false=>
  have hK:Gl b g p=([], [],1):=if_neg fun h=>by rw [CZ] at h;cases h.2
  rw [hK]
  rw [CZ] at hI
  (refine Spec.intro (C:=T.cfg [] []) (rs:= [.t 4, .t 5, .t 6]) (T.ai _ _) Tryz.func24 rfl rfl Tryz.ntmps24 Tryz.results24 (by simp [AObj.isNest]) (by simp [AObj.isNest]) (by kernel_rfl) ?_;intro X hX hP hC aG aH vals hA;refine ⟨_,by simp,hA, ?_⟩;have af:X.P.follows .mixedOrders=true:=(by rw [hP];exact T.mixed);clear aG aH)
  repeat' (first|((first|((with_reducible (first|apply oA|apply oB));exact rfl;intro K hK)|(refine hK _ ?_;clear hK K)|((with_reducible (first|apply oG|apply oH));iterate 3 exact rfl)|((with_reducible apply oI);(iterate 2 exact rfl);intro K hK)|(with_reducible (first|apply wI|apply wJ|apply wK)));try simp only [go_sem,simprocAttr])|(with_reducible (first|apply oC|apply oJ|exact oK|apply wA|apply wB|apply wC hX hC|apply wD hX hC|apply wE hX hC af|apply wF hX hC af|apply wG|apply wH|apply And.intro))|((with_reducible refine oD ?_ ?_);kernel_rfl)|((with_reducible (first|apply oE|apply oF));(iterate 3 exact rfl);all_goals (intro h;first|(exact absurd h (by decide))|((try simp only [go_sem,simprocAttr] at h);(try with_reducible intro K hK);simp only [go_sem,simprocAttr])))|((first|((with_reducible apply wL);exact rfl)|((with_reducible apply wM);exact rfl));all_goals (try ((with_reducible intro h);first|(exact absurd h (by decide))|(try simp only [go_sem,simprocAttr] at h))))|omega|((first|refine aa hX hC hP (hO) rfl rfl rfl (by simp only [go_sem,simprocAttr]) rfl ?_|refine aa hX hC hP (hI) rfl rfl rfl (by simp only [go_sem,simprocAttr]) rfl ?_);try simp only [go_sem,simprocAttr])|(intro h))
 |true=>
  have hK:Gl b g p=(cI g p false g.n.toNat,cI g p true g.n.toNat,0):=if_pos ⟨h0,CZ⟩
  rw [hK]
  rw [CZ] at hI
  have Nu:=vE g p hrun false 62 fun row _=>Aj row
  have Nv:=vE g p hrun true 63 fun row hl=>Ak row hl
  generalize cI g p false g.n.toNat=R0 at Nu
  generalize cI g p true g.n.toNat=R1 at Nv
  (refine Spec.intro (C:=T.cfg [] []) (rs:= [.t 4, .t 5, .t 6]) (T.ai _ _) Tryz.func24 rfl rfl Tryz.ntmps24 Tryz.results24 (by simp [AObj.isNest]) (by simp [AObj.isNest]) (by kernel_rfl) ?_;intro X hX hP hC aG aH vals hA;refine ⟨_,by simp,hA, ?_⟩;have af:X.P.follows .mixedOrders=true:=(by rw [hP];exact T.mixed);clear aG aH)
  repeat' (first|((first|((with_reducible (first|apply oA|apply oB));exact rfl;intro K hK)|(refine hK _ ?_;clear hK K)|((with_reducible (first|apply oG|apply oH));iterate 3 exact rfl)|((with_reducible apply oI);(iterate 2 exact rfl);intro K hK)|(with_reducible (first|apply wI|apply wJ|apply wK)));try simp only [go_sem,simprocAttr])|(with_reducible (first|apply oC|apply oJ|exact oK|apply wA|apply wB|apply wC hX hC|apply wD hX hC|apply wE hX hC af|apply wF hX hC af|apply wG|apply wH|apply And.intro))|((with_reducible refine oD ?_ ?_);kernel_rfl)|((with_reducible (first|apply oE|apply oF));(iterate 3 exact rfl);all_goals (intro h;first|(exact absurd h (by decide))|((try simp only [go_sem,simprocAttr] at h);(try with_reducible intro K hK);simp only [go_sem,simprocAttr])))|((first|((with_reducible apply wL);exact rfl)|((with_reducible apply wM);exact rfl));all_goals (try ((with_reducible intro h);first|(exact absurd h (by decide))|(try simp only [go_sem,simprocAttr] at h))))|omega|((first|refine aa hX hC hP (hO) rfl rfl rfl (by simp only [go_sem,simprocAttr]) rfl ?_|refine aa hX hC hP (hI) rfl rfl rfl (by simp only [go_sem,simprocAttr]) rfl ?_|refine aa hX hC hP (Nu) rfl rfl rfl (by simp only [go_sem,simprocAttr]) rfl ?_|refine aa hX hC hP (Nv) rfl rfl rfl (by simp only [go_sem,simprocAttr]) rfl ?_);try simp only [go_sem,simprocAttr])|(intro h))
end Go.Ab
end
section
namespace Go.Ab
open Go.Proofs
attribute [local congr] ACall.congr
set_option maxRecDepth 10000
set_option maxHeartbeats 8000000
theorem n0 {b:Bool} {g:Gr} {p:Pl} (hr:b=true↔(b9 g).1=0∧bp g p) (h:bA g p):bL b g p=((eP g p g.n.toNat,l9 g p),(0,0)):=by
 obtain rfl:b=true:=hr.2 ⟨h.1,h.2.1⟩
 unfold bL
 rw [if_neg (by simp),fC.2 h.2.2]
 rfl
theorem Pb (g:Gr) (p:Pl):∃b:Bool,(b=true↔(b9 g).1=0∧bp g p):=by
 by_cases h:(b9 g).1=0∧bp g p
 ·exact ⟨true,by simp [h]⟩
 ·exact ⟨false,by simp [h]⟩
end Go.Ab
end
section
namespace Go.Ab
open Go.Proofs
attribute [local congr] ACall.congr
set_option maxRecDepth 60000
set_option maxHeartbeats 8000000
structure Fc where
 L:List Int
 R:List Int
 lo:List Int
 hi:List Int
def mR (g:Gr) (p:Pl) (f:Int):Int:=if f= -1 then (cK p g.n.toNat:Int) else f
def GU (g:Gr) (p:Pl):Fc:=⟨arr (LK g p g.n.toNat) g.es.length,(arr (RK g p (-1) g.n.toNat) g.es.length).map (mR g p),jg p g.n.toNat++ [az p 0],zj g p g.n.toNat++ [az p (g.n.toNat - 1)]⟩
def rJ:Fc:=⟨[], [], [], []⟩
def GV (b:Bool) (g:Gr) (p:Pl):Fc × Int:=if ((bL b g p).2.1=0∧kz g=true)∧0<g.es.length then (GU g p,0) else (rJ,1)
def iT (f:Fc):AV:= .agg [.d (sI f.L), .d (sI f.R), .d (sI f.lo), .d (sI f.hi)]
def mu (l:List Int) (f:Int→Int) (j:Nat):List Int:=(l.take j).map f++l.drop j
theorem EV {l:List Int} {f:Int→Int} {j:Nat} :(mu l f j).length=l.length:=by
 simp only [mu,List.length_append,List.length_map,List.length_take,List.length_drop];omega
theorem vF {l:List Int} {f:Int→Int} {j:Nat} (h:j<l.length):mu l f (j+1)=(mu l f j).set j (f (l.getD j 0)):=by
 have h1:((l.take j).map f).length=j:=by simp;omega
 have e:l.getD j 0=l[j]:=by rw [List.getD_eq_getElem?_getD,List.getElem?_eq_getElem h];rfl
 unfold mu
 have e2:l.take (j+1)=l.take j++ [l[j]]:=by rw [List.take_add_one,List.getElem?_eq_getElem h];rfl
 rw [List.drop_eq_getElem_cons h,List.set_append,h1,if_neg (by omega),Nat.sub_self,List.set_cons_zero,e2,e,List.map_append,List.append_assoc]
 rfl
theorem Bm {l:List Int} {f:Int→Int} {j:Nat} (h:j<l.length):(mu l f j).getD j 0=l.getD j 0:=by
 have h1:((l.take j).map f).length=j:=by simp;omega
 unfold mu
 rw [List.getD_eq_getElem?_getD,List.getElem?_append_right (by omega),h1,Nat.sub_self,List.drop_eq_getElem_cons h,List.getD_eq_getElem?_getD,List.getElem?_eq_getElem h];rfl
theorem EW {l:List Int} {f:Int→Int} :mu l f l.length=l.map f:=by simp [mu]
theorem CF {l:List Int} {f:Int→Int} {j:Nat} (h:j<l.length) (hf:f (l.getD j 0)=l.getD j 0):mu l f (j+1)=mu l f j:=by
 rw [vF h,hf]
 refine List.ext_getElem? fun i=> ?_
 rw [List.getElem?_set]
 split
 ·rename_i e;subst e
  split
  ·have:=Bm (l:=l) (f:=f) h
   rename_i hl
   rw [List.getD_eq_getElem?_getD,List.getElem?_eq_getElem hl] at this
   rw [List.getElem?_eq_getElem hl]
   simpa using this.symm
  ·rename_i hl;rw [List.getElem?_eq_none (by omega)]
 ·rfl
theorem CG {g:Gr} {p:Pl} (h:bA g p):0<(bF (·.2) g).length∧(bF (·.2) g).getD 0 0=az p 0:=by
 have hn:=aL (au h.1)
 have h0:=aI h.2.1 (k:=0) (by omega)
 have hm:az p 0∈bF (·.2) g:=iS.2 ⟨h0,cJ h⟩
 have hl:=List.length_pos_of_mem hm
 refine ⟨hl, ?_⟩
 have:=iS.1 (bz (l:=bF (·.2) g) (m:=0) (d:=0) hl)
 exact gl h.1 this.1 h0 this.2 (cJ h)
theorem CH {g:Gr} {p:Pl} (h:bA g p) (hI:kz g=true):0<(bF (·.1) g).length∧(bF (·.1) g).getD 0 0=az p (g.n.toNat - 1):=by
 have hn:=aL (au h.1)
 have h0:=aI h.2.1 (k:=g.n.toNat - 1) (by omega)
 have hm:az p (g.n.toNat - 1)∈bF (·.1) g:=mJ.2 ⟨h0,(o7 h.2.1 h0.1 h0.2).2 (qd h).1⟩
 have hl:=List.length_pos_of_mem hm
 refine ⟨hl, ?_⟩
 have:=mJ.1 (bz (l:=bF (·.1) g) (m:=0) (d:=0) hl)
 exact (dI h hI this.1).1 ((o7 h.2.1 this.1.1 this.1.2).1 this.2)
theorem GW {g:Gr} {p:Pl} (h:bA g p):∀ {k:Nat},k≤g.n.toNat→cK p k≤1+k*g.es.length
 |0,_=>by simp [cK]
 |k+1,hk=>by
  have:=GW h (k:=k) (by omega)
  have hx:=aI h.2.1 (show k<g.n.toNat by omega)
  have:=iJ h.2.1 hx.1 hx.2
  rw [cK,Nat.add_mul];omega
theorem qG {g:Gr} {p:Pl} (h:bA g p) {k:Nat} (hk:k≤g.n.toNat):cK p k≤100000∧(∀x:Int,(bt p x).length≤100000∨¬ji g x):=by
 have hn:=aL (au h.1)
 have h1:=GW h hk
 have h2:k*g.es.length≤64*128:=Nat.mul_le_mul (by omega) (by omega)
 refine ⟨by omega,fun x=> ?_⟩
 by_cases hx:ji g x
 ·have:=iJ h.2.1 hx.1 hx.2;exact .inl (by omega)
 ·exact .inr hx
theorem CI (g:Gr) (p:Pl) (hp:o8 p) (hrun:bA g p) (hI:kz g=true) (hm0:0<g.es.length) (b:Bool) (hr:b=true↔(b9 g).1=0∧bp g p):
 Spec Tryz.prog 29 (Args [eG g,ePl p]) [] (.tup [iT (GU g p),eN 0]) []:=by
 have hm:=au hrun.1
 have hn:=aL hm
 have hle:=bY hrun.2.1
 have hO:=jE g (by omega) p hp b hr
 have CZ:=nU g (by omega)
 have Pc:=gQ g hm
 have Pd:=eL g hm
 have Pe:=s7 g hm
 obtain ⟨hs1,vV⟩:=CG hrun
 obtain ⟨Qc,hs4⟩:=CH hrun hI
 rw [n0 hr hrun] at hO
 simp only at hO
 rw [hI] at CZ
 have hb0:decide ((g.es.length:Int)=0)=false:=decide_eq_false (by omega)
 have hn2:1<g.n.toNat:=by
  refine Decidable.byContradiction fun hc=> ?_
  have ht:=bS hm (i:=0) hm0
  have hh:=cm hm (i:=0) hm0
  obtain ⟨j,hj,_⟩:=qf hrun (e:=0) (by omega) (k:=0) (by omega) (by
   obtain ⟨k,hk,e⟩:=ec hrun.2.1 hh.1 hh.2
   obtain rfl:k=0:=by omega
   exact e.symm)
  omega
 obtain ⟨s0,hs0⟩:∃s:Nat,az p 0=s:=by have:=aI hrun.2.1 (k:=0) (by omega);exact ⟨(az p 0).toNat,by omega⟩
 have Mz:s0<p.outs.length:=by have:=aI hrun.2.1 (k:=0) (by omega);have:=hrun.2.1.1;omega
 have rX:=gR Mz
 have MA:p.outs.getD s0 []=bt p (az p 0):=by unfold bt;rw [hs0,Int.toNat_natCast]
 rw [MA] at rX
 have Pf:=iJ hrun.2.1 (aI hrun.2.1 (k:=0) (by omega)).1 (aI hrun.2.1 (k:=0) (by omega)).2
 have EM:=vA (az p 0) 0 (-1) (bt p (az p 0)) (.sl 1 []) (sI [0, -1]) (arr (LK g p 0) g.es.length) (arr (RK g p (-1) 0) g.es.length) [az p 0] [az p (g.n.toNat - 1)] (by omega) (fun i hi=>by rw [dw];exact (iK hrun (by omega) hi).1) (by rw [dw,dw]) (by simp) (by simp)
 have Nw:=Ka hrun (k:=0) (by omega)
 have Nx:=Kb (r:= -1) hrun (k:=0) (by omega)
 rw [if_pos rfl] at Nw Nx
 have Ke:cG g p (az p 0)= []:=by
  have:=gm hrun (aI hrun.2.1 (k:=0) (by omega))
  rw [cJ hrun] at this
  exact List.eq_nil_of_length_eq_zero this
 have hi1:zj g p 1= [az p (g.n.toNat - 1)]++List.replicate ((bt p (az p 0)).length - 1) 0:=by
  have:tV g p 0= []:=by unfold tV;rw [Ke];rfl
  show mo (zj g p 0) (tV g p 0) (az p 0) (tV g p 0).length++_=_
  rw [this];rfl
 have MB:jg p 1= [az p 0]++List.replicate ((bt p (az p 0)).length - 1) (az p 0):=rfl
 have hc1:([az p 0]:List Int).length=cK p 0:=rfl
 rw [hc1,Nw,Nx, ← hi1, ← MB] at EM
 have Cu:∀f:Int→Int,(∀e,f e=0)→List.replicate g.es.length [D.sc (.int .i64 0)]=(arr f g.es.length).map rI:=fun f hf=>by
  refine List.ext_getElem? fun i=> ?_
  simp only [arr,List.getElem?_replicate,List.getElem?_map]
  by_cases hi:i<g.es.length
  ·rw [if_pos hi,List.getElem?_range hi];simp [hf,rI]
  ·rw [if_neg hi,List.getElem?_eq_none (by simpa using hi)];rfl
 have gD:=Cu (LK g p 0) fun _=>rfl
 have MC:=lR (bt p (az p 0)) (by omega)
 have MD:=jF [0, -1] (fS (cK p 0) ((bt p (az p 0)).length - 1)) 1 1 (by simp) (by simp) (by rw [kq];omega)
 have Hy:List.take 1 [(0:Int), -1]++fS (cK p 0) ((bt p (az p 0)).length - 1)++List.drop 1 [(0:Int), -1]=mq g p 0:=rfl
 rw [Hy] at MD
 have Pg:RK g p (-1) 0=LK g p 0:=by funext e;rfl
 rw [Pg] at EM
 have F7:gq g p 0=bt p (az p 0):=rfl
 have MC:Spec Tryz.prog 71 (Args [.d (sI (bt p (s0:Int)))]) [] (.d (sI (gq g p 0))) []:=by
  rw [F7, ← hs0];exact MC
 generalize Ny:arr (LK g p 0) g.es.length=A0 at EM gD
 have ue:=kq (c:=cK p 0) (k:=(bt p (az p 0)).length - 1)
 generalize fS (cK p 0) ((bt p (az p 0)).length - 1)=gs at EM MD ue
 unfold ID IE at EM
 have yY:List.drop 1 (List.map rI p.ord)=(p.ord.drop 1).map rI:=by rw [List.map_drop]
 have hdl:(p.ord.drop 1).length=g.n.toNat - 1:=by rw [List.length_drop];omega
 have uR:List.take p.ord.length (List.map rI p.ord)=List.map rI p.ord:=List.take_of_length_le (by simp)
 generalize K7:g.n.toNat - 1=N1 at hdl
 (refine Spec.intro (C:=T.cfg [67] []) (rs:= [.c 4 53, .t 5]) (T.ai _ _) Tryz.func29 rfl rfl Tryz.ntmps29 Tryz.results29 (by simp [AObj.isNest]) (by simp [AObj.isNest]) (by kernel_rfl) ?_;intro X hX hP hC aG aH vals hA;refine ⟨_,by simp,hA, ?_⟩;have af:X.P.follows .mixedOrders=true:=(by rw [hP];exact T.mixed);clear aG aH)
 repeat' (first|((first|((with_reducible (first|apply oA|apply oB));exact rfl;intro K hK)|(refine hK _ ?_;clear hK K)|((with_reducible (first|apply oG|apply oH));iterate 3 exact rfl)|((with_reducible apply oI);(iterate 2 exact rfl);intro K hK)|(with_reducible (first|apply wI|apply wJ|apply wK)));try simp only [go_sem,simprocAttr,hb0,vV,hs4,gD,hs0,rX,yY,hdl,rI])|(show dK _ (.seq (.region 8 _ _) _) _ _;(refine lK 54 0 1 rfl rfl rfl ?_;simp only [LA.app,ASt.put,ASt.kill,putM,rml,List.set_cons_zero,List.set_cons_succ,go_sem,simprocAttr,hb0,vV,hs4,gD,hs0,rX,yY,hdl,rI]);(refine dF hX 52 rfl ?_;simp only [go_sem,simprocAttr,hb0,vV,hs4,gD,hs0,rX,yY,hdl,rI]))|(with_reducible (first|apply oC|apply oJ|exact oK|apply wA|apply wB|apply wC hX hC|apply wD hX hC|apply wE hX hC af|apply wF hX hC af|apply wG|apply wH|apply And.intro))|((with_reducible refine oD ?_ ?_);kernel_rfl)|((with_reducible (first|apply oE|apply oF));(iterate 3 exact rfl);all_goals (intro h;first|(exact absurd h (by decide))|((try simp only [go_sem,simprocAttr,hb0,vV,hs4,gD,hs0,rX,yY,hdl,rI] at h);(try with_reducible intro K hK);simp only [go_sem,simprocAttr,hb0,vV,hs4,gD,hs0,rX,yY,hdl,rI])))|((first|((with_reducible apply wL);exact rfl)|((with_reducible apply wM);exact rfl));all_goals (try ((with_reducible intro h);first|(exact absurd h (by decide))|(try simp only [go_sem,simprocAttr,hb0,vV,hs4,gD,hs0,rX,yY,hdl,rI] at h))))|omega|((first|refine aa hX hC hP (hO) rfl rfl rfl (by simp only [go_sem,simprocAttr,hb0,vV,hs4,gD,hs0,rX,yY,hdl,rI]) rfl ?_|refine aa hX hC hP (CZ) rfl rfl rfl (by simp only [go_sem,simprocAttr,hb0,vV,hs4,gD,hs0,rX,yY,hdl,rI]) rfl ?_|refine aa hX hC hP (Pc) rfl rfl rfl (by simp only [go_sem,simprocAttr,hb0,vV,hs4,gD,hs0,rX,yY,hdl,rI]) rfl ?_|refine aa hX hC hP (Pd) rfl rfl rfl (by simp only [go_sem,simprocAttr,hb0,vV,hs4,gD,hs0,rX,yY,hdl,rI]) rfl ?_|refine aa hX hC hP (Pe) rfl rfl rfl (by simp only [go_sem,simprocAttr,hb0,vV,hs4,gD,hs0,rX,yY,hdl,rI]) rfl ?_|(refine aB hX hC hP [(10000,54),(10001,59),(10002,63),(10003,65),(10004,67),(10005,300),(10006,301)] (EM) rfl rfl rfl ?_ ?_ ?_ ?_ ?_ ?_ ?_ ?_ ?_ ?_ ?_ ?_ ?_ ?_;(focus (simp only [go_sem,simprocAttr,hb0,vV,hs4,gD,hs0,rX,yY,hdl,rI];done));(iterate 12 (focus (simp [go_sem,simprocAttr,hb0,vV,hs4,gD,hs0,rX,yY,hdl,rI];done)));simp only [go_sem,simprocAttr,hb0,vV,hs4,gD,hs0,rX,yY,hdl,rI,List.map_cons,List.map_nil])|refine aa hX hC hP (MC) rfl rfl rfl (by simp only [go_sem,simprocAttr,hb0,vV,hs4,gD,hs0,rX,yY,hdl,rI]) rfl ?_|(refine bB hX hC hP (MD) rfl rfl rfl ?_ ?_ rfl ?_;iterate 2 (focus (simp only [go_sem,simprocAttr,hb0,vV,hs4,gD,hs0,rX,yY,hdl,rI];done))));try simp only [go_sem,simprocAttr,hb0,vV,hs4,gD,hs0,rX,yY,hdl,rI])|(intro h))
 refine aj (fun j:Nat=>j≤N1) (fun j=>⟨[(3, .ptr 3 0),(4, .ptr 4 0),(6, .d (.sl 1 (vT (eP g p g.n.toNat)))),(10,eN s0),(11,eN (az p N1)),(12, .ptr 54 0),(106, .d (sI (p.ord.drop 1))),(107,eN N1),(108,eN j)], [(54, .box [.d (sI (gq g p j)), .d (sI (mq g p j)), .ref 59, .ref 63, .ref 300, .ref 301]),(59, .own 3 1 ((arr (LK g p (j+1)) g.es.length).map rI)),(63, .own 3 1 ((arr (RK g p (-1) (j+1)) g.es.length).map rI)),(300, .tip 3 1 ((jg p (j+1)).map rI)),(301, .own 3 1 ((zj g p (j+1)).map rI)),(3, .box [.d (sI p.ord), .d (.sl 1 (vI p.outs))]),(4, .box [.nil 3, .nil 3, .nil 3, .nil 3])]⟩) (fun j=>N1 - j) 0 (by omega) ?_ ?_
 ·refine Le.of ?_ ?_<;>simp [go_sem,simprocAttr,K7,uR]
  omega
 rintro j hj
 rcases Nat.lt_or_ge j N1 with hjl|KG
 ·have hb:decide ((j:Int)<(N1:Int))=true:=decide_eq_true (by omega)
  have hjn:j+1<g.n.toNat:=by omega
  obtain ⟨a,p1,p2,p3,p4,p5,p6,p7⟩:=EU hrun hI hjn
  have Fo:=aI hrun.2.1 hjn
  have hx:(p.ord.drop 1).getD j 0=az p (j+1):=by
   rw [List.getD_eq_getElem?_getD,List.getElem?_drop,Nat.add_comm 1 j]
   show _=p.ord.getD (j+1) 0
   rw [List.getD_eq_getElem?_getD]
  have jG:=fun i hi=>(iK hrun hjn (e:=i) hi).1
  have qK:=iJ hrun.2.1 Fo.1 Fo.2
  have Kf:=o4 hrun.2.1 (Nat.le_refl _) hjn
  have hel:=l8 (g:=g) (p:=p) (k:=g.n.toNat)
  have Nz:=EP hrun hI hjn
  have hL:=Ka hrun (k:=j+1) hjn
  have hR:=Kb (r:= -1) hrun (k:=j+1) hjn
  rw [if_neg (by omega)] at hL hR
  have wg:jg p (j+1+1)=jg p (j+1)++List.replicate ((bt p (az p (j+1))).length - 1) (az p (j+1)):=rfl
  have hhi:zj g p (j+1+1)=mo (zj g p (j+1)) (tV g p (j+1)) (az p (j+1)) (tV g p (j+1)).length++List.replicate ((bt p (az p (j+1))).length - 1) 0:=rfl
  have ME:=Gj hrun hI hjn
  have lp:=hU (p:=p) (k:=j+1)
  have uC:=rH (g:=g) (p:=p) (k:=j+1)
  have NA:=(qG hrun (k:=j+1) (by omega)).1
  have MF:gq g p (j+1)=if bt p (az p (j+1))= [] then gq g p j else (gq g p j).take (dL (gq g p j) (fc g p (az p (j+1)))).toNat++bt p (az p (j+1))++(gq g p j).drop ((dL (gq g p j) (fc g p (az p (j+1)))).toNat+(cG g p (az p (j+1))).length):=rfl
  have MG:mq g p (j+1)=(mq g p j).take ((dL (gq g p j) (fc g p (az p (j+1)))).toNat+1)++fS (cK p (j+1)) ((bt p (az p (j+1))).length - 1)++(mq g p j).drop ((dL (gq g p j) (fc g p (az p (j+1)))).toNat+(cG g p (az p (j+1))).length):=rfl
  rw [p1,Int.toNat_natCast] at MF MG
  obtain ⟨r1,r2,r3⟩:=xp hrun hI hjn
  have Qd:(gq g p j).length≤10000:=by
   rw [r1]
   have:=fJ (m:=(List.range g.es.length).map Int.ofNat) (ES hrun (k:=j+1) (by omega)) fun e he=>by
    have hi:=cQ hm hrun.2.1 (k:=j+1) (by omega) fun i hi=>hrun.2.2 i (by omega)
    obtain ⟨t,ht,rfl⟩:=List.mem_map.1 he
    obtain ⟨⟨h1,h2⟩,_⟩:=mL hm hi.1.todY ht
    exact List.mem_map.2 ⟨t.1.toNat,List.mem_range.2 (by omega),by simp;omega⟩
   simp at this
   omega
  have hfr:fc g p (az p (j+1))=((dZ g p (j+1)).getD 0 (0,0,0)).1:=by
   unfold fc
   rw [Nz]
   cases dZ g p (j+1)<;>rfl
  rw [Nz,List.length_map] at p2 p3 p6 p7 MF MG
  have hIx:=aT (gq g p j) (fc g p (az p (j+1))) (by omega)
  rw [p1] at hIx
  rw [hfr] at hIx p5
  have jH:=xo (az p (j+1)) (bt p (az p (j+1))) (gq g p j) (mq g p j) (arr (LK g p (j+1)) g.es.length) (arr (RK g p (-1) (j+1)) g.es.length) (jg p (j+1)) (zj g p (j+1)) a (a+(dZ g p (j+1)).length) (by omega) (by omega) (by omega) (by omega) (by omega) (by rw [p7];exact ME) (by omega) (fun i hi=>by rw [dw];exact jG i hi) (by rw [dw,dw]) (by omega) (by omega)
  rw [p7,p5,p6,lp, ← hhi, ← wg, ← MF, ← MG] at jH
  rw [← hfr] at jH
  rw [hL,hR] at jH
  obtain ⟨x,MH⟩:∃x:Nat,az p (j+1)=x:=⟨(az p (j+1)).toNat,by omega⟩
  have gP:x<p.outs.length:=by have:=hrun.2.1.1;omega
  have hv:=gR gP
  have hla:p.outs.getD x []=bt p (az p (j+1)):=by unfold bt;rw [MH,Int.toNat_natCast]
  rw [hla] at hv
  have Al:=fun d=>oY (ls:=eP g p g.n.toNat) (k:=x) (by omega) d
  have hex:(eP g p g.n.toNat).getD x []=dZ g p (j+1):=by rw [← Kf,MH,Int.toNat_natCast]
  rw [hex] at Al
  have hvl:(vT (eP g p g.n.toNat)).length=g.n.toNat:=by rw [vT_length,hel]
  have GP:x<g.n.toNat:=by omega
  obtain ⟨bb,nc⟩:∃bb:Nat,bb=a+(dZ g p (j+1)).length:=⟨_,rfl⟩
  have ql:(a:Int)+((dZ g p (j+1)).length:Int)=(bb:Int):=by omega
  rw [← nc] at jH
  have jM:bb≤10000:=by omega
  generalize bt p (az p (j+1))=o at jH hv
  rw [MH] at jH hx
  generalize dZ g p (j+1)=gn at hIx Al ql p2
  clear nc
  generalize FT:gq g p (j+1)=E2 at jH
  generalize gq g p j=E1 at jH hIx
  generalize hq1:mq g p (j+1)=G2 at jH
  generalize mq g p j=G1 at jH
  generalize FR:arr (LK g p (j+1+1)) g.es.length=A2 at jH
  generalize Ph:arr (RK g p (-1) (j+1+1)) g.es.length=B2 at jH
  generalize arr (LK g p (j+1)) g.es.length=A1 at jH
  generalize arr (RK g p (-1) (j+1)) g.es.length=B1 at jH
  generalize Pj:jg p (j+1+1)=L2 at jH
  generalize Pk:zj g p (j+1+1)=H2 at jH
  generalize jg p (j+1)=L1 at jH
  generalize zj g p (j+1)=H1 at jH
  generalize vT (eP g p g.n.toNat)=VE at Al hvl
  unfold ID IE at jH
  repeat' (first|((first|((with_reducible (first|apply oA|apply oB));exact rfl;intro K hK)|(refine hK _ ?_;clear hK K)|((with_reducible (first|apply oG|apply oH));iterate 3 exact rfl)|((with_reducible apply oI);(iterate 2 exact rfl);intro K hK)|(with_reducible (first|apply wI|apply wJ|apply wK)));try simp only [go_sem,simprocAttr,hb,hx,hv,Al,hvl,ql])|(show dK _ (.region 15 _ _) _ _;(refine iD hX 54 4 302 300 rfl rfl rfl (by first|exact .inl rfl|exact .inr rfl) (by decide) (by decide) ?_;simp only [LA.app,ASt.put,ASt.kill,subT,rmk,putM,rml,kl,AV.sub,AV.subs,AObj.sub,List.set_cons_zero,List.set_cons_succ,go_sem,simprocAttr,hb,hx,hv,Al,hvl,ql]);(refine iD hX 54 5 303 301 rfl rfl rfl (by first|exact .inl rfl|exact .inr rfl) (by decide) (by decide) ?_;simp only [LA.app,ASt.put,ASt.kill,subT,rmk,putM,rml,kl,AV.sub,AV.subs,AObj.sub,List.set_cons_zero,List.set_cons_succ,go_sem,simprocAttr,hb,hx,hv,Al,hvl,ql]))|(with_reducible (first|apply oC|apply oJ|exact oK|apply wA|apply wB|apply wC hX hC|apply wD hX hC|apply wE hX hC af|apply wF hX hC af|apply wG|apply wH|apply And.intro))|((with_reducible refine oD ?_ ?_);kernel_rfl)|((with_reducible (first|apply oE|apply oF));(iterate 3 exact rfl);all_goals (intro h;first|(exact absurd h (by decide))|((try simp only [go_sem,simprocAttr,hb,hx,hv,Al,hvl,ql] at h);(try with_reducible intro K hK);simp only [go_sem,simprocAttr,hb,hx,hv,Al,hvl,ql])))|((first|((with_reducible apply wL);exact rfl)|((with_reducible apply wM);exact rfl));all_goals (try ((with_reducible intro h);first|(exact absurd h (by decide))|(try simp only [go_sem,simprocAttr,hb,hx,hv,Al,hvl,ql] at h))))|omega|((first|refine aa hX hC hP (hIx) rfl rfl rfl (by simp only [go_sem,simprocAttr,hb,hx,hv,Al,hvl,ql]) rfl ?_|(refine aB hX hC hP [(10000,54),(10001,59),(10002,63),(10003,300),(10004,301),(10005,302),(10006,303)] (jH) rfl rfl rfl ?_ ?_ ?_ ?_ ?_ ?_ ?_ ?_ ?_ ?_ ?_ ?_ ?_ ?_;(focus (simp only [go_sem,simprocAttr,hb,hx,hv,Al,hvl,ql];done));(iterate 12 (focus (simp [go_sem,simprocAttr,hb,hx,hv,Al,hvl,ql];done)));simp only [go_sem,simprocAttr,hb,hx,hv,Al,hvl,ql,List.map_cons,List.map_nil]));try simp only [go_sem,simprocAttr,hb,hx,hv,Al,hvl,ql])|(intro h))
  refine ⟨j+1,by omega, ?_,by omega⟩
  rw [FT,hq1,FR,Ph,Pj,Pk]
  refine Le.of ?_ ?_<;>simp [go_sem,simprocAttr,hb,hx,hv,Al,hvl,ql]
 have hb:decide ((j:Int)<(N1:Int))=false:=decide_eq_false (by omega)
 obtain rfl:j=N1:=by omega
 have Pm:j+1=g.n.toNat:=by omega
 rw [Pm]
 have lp:=hU (p:=p) (k:=g.n.toNat)
 have uC:=rH (g:=g) (p:=p) (k:=g.n.toNat)
 have NA:=(qG hrun (k:=g.n.toNat) (by omega)).1
 have Pn:GU g p=⟨arr (LK g p g.n.toNat) g.es.length,(arr (RK g p (-1) g.n.toNat) g.es.length).map (mR g p),jg p g.n.toNat++ [(s0:Int)],zj g p g.n.toNat++ [az p j]⟩:=by unfold GU;rw [hs0,K7]
 have rK:(arr (RK g p (-1) g.n.toNat) g.es.length).length=g.es.length:=dw
 rw [Pn]
 have hrf:∀f,mR g p f=if f= -1 then (cK p g.n.toNat:Int) else f:=fun f=>rfl
 generalize arr (RK g p (-1) g.n.toNat) g.es.length=RA at rK
 generalize arr (LK g p g.n.toNat) g.es.length=LA
 generalize jg p g.n.toNat=LO at lp
 generalize zj g p g.n.toNat=HI at uC
 generalize gq g p j=E1
 generalize mq g p j=G1
 generalize cK p g.n.toNat=cc at lp uC NA hrf
 repeat' (first|((first|((with_reducible (first|apply oA|apply oB));exact rfl;intro K hK)|(refine hK _ ?_;clear hK K)|((with_reducible (first|apply oG|apply oH));iterate 3 exact rfl)|((with_reducible apply oI);(iterate 2 exact rfl);intro K hK)|(with_reducible (first|apply wI|apply wJ|apply wK)));try simp only [go_sem,simprocAttr,hb,lp])|(with_reducible (first|apply oC|apply oJ|exact oK|apply wA|apply wB|apply wC hX hC|apply wD hX hC|apply wE hX hC af|apply wF hX hC af|apply wG|apply wH|apply And.intro))|((with_reducible refine oD ?_ ?_);kernel_rfl)|((with_reducible (first|apply oE|apply oF));(iterate 3 exact rfl);all_goals (intro h;first|(exact absurd h (by decide))|((try simp only [go_sem,simprocAttr,hb,lp] at h);(try with_reducible intro K hK);simp only [go_sem,simprocAttr,hb,lp])))|((first|((with_reducible apply wL);exact rfl)|((with_reducible apply wM);exact rfl));all_goals (try ((with_reducible intro h);first|(exact absurd h (by decide))|(try simp only [go_sem,simprocAttr,hb,lp] at h))))|omega|(intro h))
 refine aj (fun i:Nat=>i≤RA.length) (fun i=>⟨[(4, .ptr 4 0),(12, .ptr 54 0),(17,eN cc),(175, .ref 63),(176,eN RA.length),(177,eN i)], [(54, .box [.d (sI E1), .d (sI G1), .ref 59, .ref 63, .ref 156, .ref 164]),(59, .own 3 1 (LA.map rI)),(63, .own 3 1 ((mu RA (mR g p) i).map rI)),(156, .tip 3 1 ((LO++ [(s0:Int)]).map rI)),(164, .own 3 1 ((HI++ [az p j]).map rI)),(4, .box [.nil 3, .nil 3, .nil 3, .nil 3])]⟩) (fun i=>RA.length - i) 0 (by omega) ?_ ?_
 ·refine Le.of ?_ ?_<;>simp [go_sem,simprocAttr,mu,rI]
 rintro i hi
 rcases Nat.lt_or_ge i RA.length with hil|L9
 ·have Am:decide ((i:Int)<(RA.length:Int))=true:=decide_eq_true (by omega)
  have hml:=EV (l:=RA) (f:=mR g p) (j:=i)
  have hma:=Bm (f:=mR g p) hil
  by_cases BN:RA.getD i 0= -1
  ·have ak:decide ((mu RA (mR g p) i).getD i 0= -1)=true:=decide_eq_true (by rw [hma,BN])
   have cO:=vF (f:=mR g p) hil
   rw [hrf,if_pos BN] at cO
   generalize mu RA (mR g p) i=M at hml ak cO
   repeat' (first|((first|((with_reducible (first|apply oA|apply oB));exact rfl;intro K hK)|(refine hK _ ?_;clear hK K)|((with_reducible (first|apply oG|apply oH));iterate 3 exact rfl)|((with_reducible apply oI);(iterate 2 exact rfl);intro K hK)|(with_reducible (first|apply wI|apply wJ|apply wK)));try simp only [go_sem,simprocAttr,Am,ak,hml])|(with_reducible (first|apply oC|apply oJ|exact oK|apply wA|apply wB|apply wC hX hC|apply wD hX hC|apply wE hX hC af|apply wF hX hC af|apply wG|apply wH|apply And.intro))|((with_reducible refine oD ?_ ?_);kernel_rfl)|((with_reducible (first|apply oE|apply oF));(iterate 3 exact rfl);all_goals (intro h;first|(exact absurd h (by decide))|((try simp only [go_sem,simprocAttr,Am,ak,hml] at h);(try with_reducible intro K hK);simp only [go_sem,simprocAttr,Am,ak,hml])))|((first|((with_reducible apply wL);exact rfl)|((with_reducible apply wM);exact rfl));all_goals (try ((with_reducible intro h);first|(exact absurd h (by decide))|(try simp only [go_sem,simprocAttr,Am,ak,hml] at h))))|omega|(intro h))
   refine ⟨i+1,by omega, ?_,by omega⟩
   rw [cO]
   refine Le.of ?_ ?_<;>simp [go_sem,simprocAttr,Am,ak,hml,rI]
  ·have ak:decide ((mu RA (mR g p) i).getD i 0= -1)=false:=decide_eq_false (by rw [hma];exact BN)
   have cO:=CF (f:=mR g p) hil (by rw [hrf,if_neg BN])
   generalize mu RA (mR g p) i=M at hml ak cO
   repeat' (first|((first|((with_reducible (first|apply oA|apply oB));exact rfl;intro K hK)|(refine hK _ ?_;clear hK K)|((with_reducible (first|apply oG|apply oH));iterate 3 exact rfl)|((with_reducible apply oI);(iterate 2 exact rfl);intro K hK)|(with_reducible (first|apply wI|apply wJ|apply wK)));try simp only [go_sem,simprocAttr,Am,ak,hml])|(with_reducible (first|apply oC|apply oJ|exact oK|apply wA|apply wB|apply wC hX hC|apply wD hX hC|apply wE hX hC af|apply wF hX hC af|apply wG|apply wH|apply And.intro))|((with_reducible refine oD ?_ ?_);kernel_rfl)|((with_reducible (first|apply oE|apply oF));(iterate 3 exact rfl);all_goals (intro h;first|(exact absurd h (by decide))|((try simp only [go_sem,simprocAttr,Am,ak,hml] at h);(try with_reducible intro K hK);simp only [go_sem,simprocAttr,Am,ak,hml])))|((first|((with_reducible apply wL);exact rfl)|((with_reducible apply wM);exact rfl));all_goals (try ((with_reducible intro h);first|(exact absurd h (by decide))|(try simp only [go_sem,simprocAttr,Am,ak,hml] at h))))|omega|(intro h))
   refine ⟨i+1,by omega, ?_,by omega⟩
   rw [cO]
   refine Le.of ?_ ?_<;>simp [go_sem,simprocAttr,Am,ak,hml,rI]
 have Am:decide ((i:Int)<(RA.length:Int))=false:=decide_eq_false (by omega)
 obtain rfl:i=RA.length:=by omega
 rw [EW]
 repeat' (first|((first|((with_reducible (first|apply oA|apply oB));exact rfl;intro K hK)|(refine hK _ ?_;clear hK K)|((with_reducible (first|apply oG|apply oH));iterate 3 exact rfl)|((with_reducible apply oI);(iterate 2 exact rfl);intro K hK)|(with_reducible (first|apply wI|apply wJ|apply wK)));try simp only [go_sem,simprocAttr,Am,iT])|(with_reducible (first|apply oC|apply oJ|exact oK|apply wA|apply wB|apply wC hX hC|apply wD hX hC|apply wE hX hC af|apply wF hX hC af|apply wG|apply wH|apply And.intro))|((with_reducible refine oD ?_ ?_);kernel_rfl)|((with_reducible (first|apply oE|apply oF));(iterate 3 exact rfl);all_goals (intro h;first|(exact absurd h (by decide))|((try simp only [go_sem,simprocAttr,Am,iT] at h);(try with_reducible intro K hK);simp only [go_sem,simprocAttr,Am,iT])))|((first|((with_reducible apply wL);exact rfl)|((with_reducible apply wM);exact rfl));all_goals (try ((with_reducible intro h);first|(exact absurd h (by decide))|(try simp only [go_sem,simprocAttr,Am,iT] at h))))|omega|(intro h))
end Go.Ab
end
section
namespace Go.Ab
open Go.Proofs
set_option maxRecDepth 10000
set_option linter.unusedSectionVars false
section
variable (g:Gr) (p:Pl)
def cN:Nat:=cK p g.n.toNat
def Lf (e:Int):Int:=LK g p g.n.toNat e
def Rf (e:Int):Int:=RK g p (cN g p) g.n.toNat e
def Gm:List Int:=jg p g.n.toNat++ [az p 0]
def IF:List Int:=zj g p g.n.toNat++ [az p (g.n.toNat - 1)]
def MI (f:Int):Int:=(Gm g p).getD f.toNat 0
def Qe (f:Int):Int:=(IF g p).getD f.toNat 0
end
section
variable {g:Gr} {p:Pl}
theorem Bn:(Gm g p).length=cN g p+1:=by simp [Gm,hU,cN]
variable (h:bA g p) (hI:kz g=true)
include h hI
theorem Kg {a:Int} (ha:(aZ g p).KB a):∃k u b v,k<g.n.toNat∧qF g a=az p k∧bt p (az p k)=u++a::b::v:=by
 obtain ⟨x,u,b,v,e⟩:=ha
 by_cases hx:ji g x
 ·obtain ⟨k,hk,rfl⟩:=ec h.2.1 hx.1 hx.2
  rw [dr hx] at e
  exact ⟨k,u,b,v,hk,(nW h hk e).1,e⟩
 ·rw [ki hx] at e;cases u<;>cases e
theorem Bo {a:Int} (ha:(aZ g p).KB a):∃f:Nat,1≤f∧f<cN g p∧∀r,RK g p r g.n.toNat a=f:=by
 obtain ⟨k,u,b,v,hk,_,e⟩:=Kg h hI ha
 have hl:(bt p (az p k)).length=u.length+(v.length+2):=by rw [e];simp
 have Fk:cK p (k+1)=cK p k+((bt p (az p k)).length - 1):=rfl
 obtain ⟨d,hd⟩:=Nat.exists_eq_add_of_le (show k+1≤g.n.toNat by omega)
 have hmo:=rC (p:=p) (k:=k+1) (d:=d)
 rw [← hd] at hmo
 have hp:0<cK p k:=qg
 have I1:cN g p=cK p g.n.toNat:=rfl
 exact ⟨cK p k+u.length,by omega,by omega,fun r=>by rw [jv h hk e (by omega) (Nat.le_refl _)];omega⟩
theorem fe:(aZ g p).eX (Lf g p) (Rf g p) 0 (cN g p) (MI g p):=by
 have F:=nZ h hI (r:=cN g p) (.inr (Int.le_refl _))
 exact {F with
  new:=fun {x u a b v} e=>by
   obtain ⟨h1,h2,h3⟩:=F.new e
   obtain ⟨f,_,h5,h6⟩:=Bo h hI (a:=a) ⟨x,u,b,v,e⟩
   have h7:Rf g p a=f:=h6 _
   have h8:RK g p (cN g p) g.n.toNat a=f:=h6 _
   refine ⟨?_,h2,h3⟩
   rw [h8] at h1
   show (jg p g.n.toNat++ [az p 0]).getD (Rf g p a).toNat 0=x
   rw [h7, ← h1,Int.toNat_natCast,lZ (by rw [hU];exact h5)]}
theorem Kh {e:Int} (he:0≤e∧e<g.es.length):mR g p (RK g p (-1) g.n.toNat e)=Rf g p e:=by
 have F:=nZ h hI (r:= -1) (.inl (by omega))
 have F':=nZ h hI (r:=cN g p) (.inr (Int.le_refl _))
 rcases DV (nh h hI) F F' (d:=_+1) (Nat.lt_succ_self _) (e:=e) he with ⟨h1,h2⟩|⟨a,h1,_,h2,h3⟩
 ·rw [h1];unfold mR Rf;rw [if_pos rfl,h2];rfl
 ·obtain ⟨f,h4,_,h5⟩:=Bo h hI h1
  unfold mR Rf
  rw [h2,h3,h5,h5,if_neg (by omega)]
theorem H9:GU g p=⟨arr (Lf g p) g.es.length,arr (Rf g p) g.es.length,Gm g p,IF g p⟩:=by
 unfold GU
 have:(arr (RK g p (-1) g.n.toNat) g.es.length).map (mR g p)=arr (Rf g p) g.es.length:=by
  unfold arr
  rw [List.map_map]
  refine List.map_congr_left fun i hi=> ?_
  have:=List.mem_range.1 hi
  exact Kh h hI (e:=(i:Int)) (by omega)
 rw [this];rfl
theorem EX {e:Int} (he:0≤e∧e<g.es.length):1≤Rf g p e∧Rf g p e≤cN g p:=by
 have hp:0<cK p g.n.toNat:=qg
 rcases DV (nh h hI) (fe h hI) (fe h hI) (d:=_+1) (Nat.lt_succ_self _) (e:=e) he with ⟨h1,_⟩|⟨a,h1,_,h2,_⟩
 ·rw [h1];have:cN g p=cK p g.n.toNat:=rfl;omega
 ·obtain ⟨f,h3,h4,h5⟩:=Bo h hI h1
  have h5:Rf g p a=f:=h5 _
  omega
theorem GX {e:Int} (he:0≤e∧e<g.es.length):0≤Lf g p e∧Lf g p e<cN g p:=by
 have hp:0<cK p g.n.toNat:=qg
 rcases GM (nh h hI) (fe h hI) (fe h hI) (d:=_+1) (Nat.lt_succ_self _) (e:=e) he with ⟨h1,_⟩|⟨a,h1,h2,_⟩
 ·rw [h1];have:cN g p=cK p g.n.toNat:=rfl;omega
 ·obtain ⟨f,h3,h4,h5⟩:=Bo h hI h1
  have h5:Rf g p a=f:=h5 _
  omega
theorem Ki:(cN g p:Int)=g.es.length - g.n+2:=by
 have hm:=au h.1
 have hn:=aL hm
 have vn:bt p (az p (g.n.toNat - 1))= []:=(dI h hI (aI h.2.1 (by omega))).2 rfl
 have key:∀k,k<g.n.toNat→(cK p k:Int)=1+((List.range k).flatMap fun j=>bt p (az p j)).length - k:=by
  intro k
  induction k with
  |zero=>intro _;simp [cK]
  |succ k ih=>
   intro hk
   have hO:bt p (az p k)≠ []:=fun h1=>by
    have:=(dI h hI (aI h.2.1 (show k<g.n.toNat by omega))).1 h1
    have:=cP h.2.1 (show k<g.n.toNat by omega) (by omega) this
    omega
   have:=List.length_pos_iff.2 hO
   have ih:=ih (by omega)
   have e1:((List.range (k+1)).flatMap fun j=>bt p (az p j))=((List.range k).flatMap fun j=>bt p (az p j))++bt p (az p k):=by rw [List.range_succ,List.flatMap_append];simp
   rw [e1,List.length_append,cK]
   omega
 have hall:((List.range (g.n.toNat - 1)).flatMap fun j=>bt p (az p j)).length=g.es.length:=by
  have bT:∀k,k≤g.n.toNat→((List.range k).flatMap fun j=>bt p (az p j)).Nodup:=by
   intro k
   induction k with
   |zero=>intro _;simp
   |succ k ih=>
    intro hk
    rw [List.range_succ,List.flatMap_append,List.nodup_append]
    refine ⟨ih (by omega),by simpa using EO h (by omega),fun a ha b hb e=> ?_⟩
    subst e
    obtain ⟨j,hj,hja⟩:=List.mem_flatMap.1 ha
    have hj:=List.mem_range.1 hj
    have hb:a∈bt p (az p k):=by simpa using hb
    have t1:=(iK h (by omega) hja).2
    have t2:=(iK h (by omega) hb).2
    have:=cP h.2.1 (show j<g.n.toNat by omega) (by omega) (t1.symm.trans t2)
    omega
  have Kj:∀e:Int,0≤e→e<g.es.length→e∈((List.range (g.n.toNat - 1)).flatMap fun j=>bt p (az p j)):=fun e h1 h2=>by
   have ht:=bS hm (i:=e.toNat) (by omega)
   obtain ⟨k,hk,e1⟩:=ec h.2.1 ht.1 ht.2
   have e1:az p k=qF g e:=e1
   obtain ⟨u,v,e2⟩:=Bk h hk ⟨h1,h2⟩ e1.symm
   refine List.mem_flatMap.2 ⟨k,List.mem_range.2 ?_,by rw [e2];simp⟩
   refine Decidable.byContradiction fun hc=> ?_
   obtain rfl:k=g.n.toNat - 1:=by omega
   rw [vn] at e2;cases u<;>cases e2
  have h1:=pP Kj
  have h2:=fJ (m:=(List.range g.es.length).map Int.ofNat) (bT (g.n.toNat - 1) (by omega)) fun e he=>by
   obtain ⟨j,hj,hja⟩:=List.mem_flatMap.1 he
   have hj:=List.mem_range.1 hj
   have:=(iK h (by omega) hja).1
   exact List.mem_map.2 ⟨e.toNat,List.mem_range.2 (by omega),by simp;omega⟩
  rw [List.length_map,List.length_range] at h2
  omega
 have h1:=key (g.n.toNat - 1) (by omega)
 rw [hall] at h1
 have h2:cN g p=cK p (g.n.toNat - 1):=by
  show cK p g.n.toNat=_
  rw [show g.n.toNat=(g.n.toNat - 1)+1 by omega,cK,show g.n.toNat - 1+1 - 1=g.n.toNat - 1 by omega,vn];rfl
 omega
theorem Ia (h0:0<g.es.length):2≤g.n:=by
 have hm:=au h.1
 have ht:=bS hm (i:=0) h0
 have hh:=cm hm (i:=0) h0
 obtain ⟨k,hk,e⟩:=ec h.2.1 hh.1 hh.2
 obtain ⟨j,hj,_⟩:=qf h (e:=0) (by omega) hk e.symm
 omega
end
end Go.Ab
end
section
namespace Go.Ab
open Go.Proofs
set_option maxRecDepth 10000
theorem Gn {g:Gr} {p:Pl} (h:bA g p) (x:Int):(aZ g (cu p)).ins x=((aZ g p).ins x).reverse:=by
 by_cases hx:ji g x
 ·obtain ⟨k,hk,rfl⟩:=ec h.2.1 hx.1 hx.2
  rw [fF hx,fF hx,rz h hk]
  have h2:=rz (tM h) hk
  have e1:az (cu p) k=az p k:=rfl
  rw [e1] at h2
  rw [h2]
  have g1:mQ g p (fK g p k) (az p k)=(fE (dZ g p k)).map (·.1):=rfl
  have g2:mQ g (cu p) (fK g (cu p) k) (az p k)=(fE (dZ g (cu p) k)).map (·.1):=rfl
  rw [g1,g2,Ew h hk]
  unfold fE
  rw [List.filter_reverse,List.map_reverse]
 ·rw [ju hx,ju hx];rfl
theorem yZ {g:Gr} {p:Pl} (x:Int):(aZ g (cu p)).outs x=((aZ g p).outs x).reverse:=by
 by_cases hx:ji g x
 ·rw [dr hx,dr hx,kU]
 ·rw [ki hx,ki hx];rfl
theorem qH {P Q:PS} {L R:Int→Int} {f0 f1:Int} {low:Int→Int} (h1:∀x,P.outs x=Q.outs x) (h2:∀x,P.ins x=Q.ins x) (h3:P.src=Q.src) (F:P.eX L R f0 f1 low):Q.eX L R f0 f1 low:=
 {ne:=F.ne
  fY:=fun {x u a b v} e=>F.fY ((h1 x).trans e)
  nF:=fun {x u a b v} e=>F.nF ((h2 x).trans e)
  fst:=fun {x a u b v} e1 e2=>F.fst ((h2 x).trans e1) ((h1 x).trans e2)
  BS:=fun {x a u b v} e1 e2=>F.BS ((h2 x).trans e1) ((h1 x).trans e2)
  s0:=fun {b v} e=>F.s0 ((h1 _).trans (h3 ▸ e))
  s1:=fun {b v} e=>F.s1 ((h1 _).trans (h3 ▸ e))
  new:=fun {x u a b v} e=>F.new ((h1 x).trans e)
  new1:=fun {x u a b v u' a' b' v'} e1 e2 e3=>F.new1 ((h1 x).trans e1) ((h1 x).trans e2) e3}
theorem CJ {g:Gr} {p:Pl} (h:bA g p) (hI:kz g=true):(aZ g p).eX (Rf g (cu p)) (Lf g (cu p)) (cN g (cu p)) 0 (MI g (cu p)):=by
 have F:=fe (tM h) hI
 have ok:=nh h hI
 have F1:(aZ g p).yg.eX (Lf g (cu p)) (Rf g (cu p)) 0 (cN g (cu p)) (MI g (cu p)):=qH yZ (Gn h) rfl F
 exact qH (P:=(aZ g p).yg.yg) (fun x=>List.reverse_reverse _) (fun x=>List.reverse_reverse _) rfl (F1.yg ok.yg)
end Go.Ab
end
section
namespace Go.Ab
open Go.Proofs
set_option maxRecDepth 10000
def CK (q:Nat→Bool):Nat→Nat
 |0=>0
 |n+1=>CK q n ||| (if q n then 2 ^ n else 0)
theorem kW {q:Nat→Bool} {y:Nat} :∀ {n:Nat},(CK q n).testBit y=(decide (y<n)&&q y)
 |0=>by simp [CK]
 |n+1=>by
  rw [CK,Nat.testBit_or,kW]
  by_cases h:y=n
  ·subst h
   cases hq:q y<;>simp [Nat.testBit_two_pow_self]
  ·have h2:(if q n then 2 ^ n else 0).testBit y=false:=by
    split
    ·rw [Nat.testBit_two_pow];exact decide_eq_false fun e=>h e.symm
    ·simp
   rw [h2,Bool.or_false]
   congr 1
   rw [decide_eq_decide];omega
theorem Gp {q:Nat→Bool} {n:Nat} :CK q n<2 ^ n:=by
 refine Nat.lt_pow_two_of_testBit _ fun i hi=> ?_
 rw [kW,decide_eq_false (by omega)];rfl
inductive xu (g:Gr) (both:Bool) (c:Nat→Bool) (x:Nat):Nat→Prop
 |refl:xu g both c x x
 |fwd {i:Nat} :i<g.es.length→c i=true→xu g both c x (tl g i).toNat→xu g both c x (hd g i).toNat
 |Kk {i:Nat} :i<g.es.length→c i=true→both=true→xu g both c x (hd g i).toNat→xu g both c x (tl g i).toNat
theorem xu.trans {g:Gr} {both:Bool} {c:Nat→Bool} {x y z:Nat} (h1:xu g both c x y) (h2:xu g both c y z):xu g both c x z:=by
 induction h2 with
 |refl=>exact h1
 |fwd a b _ ih=>exact .fwd a b ih
 |Kk a b d _ ih=>exact .Kk a b d ih
open Classical in
noncomputable def Kl (g:Gr) (both:Bool) (c:Nat→Bool) (x:Nat):Nat:=CK (fun y=>decide (xu g both c x y)) g.n.toNat
noncomputable def Fp (g:Gr) (both:Bool) (c:Nat→Bool):List Nat:=(List.range g.n.toNat).map (Kl g both c)
theorem rL {g:Gr} {both:Bool} {c:Nat→Bool} :(Fp g both c).length=g.n.toNat:=by simp [Fp]
theorem An {g:Gr} {both:Bool} {c:Nat→Bool} {x:Nat} (h:x<g.n.toNat):(Fp g both c).getD x 0=Kl g both c x:=by
 simp [Fp,List.getD_eq_getElem?_getD,List.getElem?_range h]
open Classical in
theorem Bp {g:Gr} {both:Bool} {c:Nat→Bool} {x y:Nat} :(Kl g both c x).testBit y=true↔y<g.n.toNat∧xu g both c x y:=by
 unfold Kl
 rw [kW]
 simp
def bN (g:Gr) (both:Bool) (c:Nat→Bool) (a:List Nat):Nat→List Nat × Bool
 |0=>(a,false)
 |k+1=>
  let s:=bN g both c a k
  if c k=true then
   let t:=s.1.getD (tl g k).toNat 0 ||| s.1.getD (hd g k).toNat 0
   let h:=if both=true then t else s.1.getD (hd g k).toNat 0
   ((s.1.set (tl g k).toNat t).set (hd g k).toNat h,s.2||(decide (t≠s.1.getD (tl g k).toNat 0)||decide (h≠s.1.getD (hd g k).toNat 0)))
  else s
theorem qm {g:Gr} {both:Bool} {c:Nat→Bool} {a:List Nat} :∀ {k:Nat},(bN g both c a k).1.length=a.length
 |0=>rfl
 |k+1=>by
  simp only [bN]
  split
  ·simp [qm]
  ·exact qm
theorem mN {l:List Nat} {i j:Nat} {a:Nat} (hi:i<l.length):(l.set i a).getD j 0=if j=i then a else l.getD j 0:=by
 rw [List.getD_eq_getElem?_getD,List.getElem?_set]
 by_cases h:i=j
 ·subst h;rw [if_pos rfl,if_pos hi,if_pos rfl];rfl
 ·rw [if_neg h,if_neg (Ne.symm h), ← List.getD_eq_getElem?_getD]
structure C0 (g:Gr) (both:Bool) (c:Nat→Bool) (a:List Nat):Prop where
 len:a.length=g.n.toNat
 own:∀x,x<g.n.toNat→(a.getD x 0).testBit x=true
 snd:∀x y,x<g.n.toNat→(a.getD x 0).testBit y=true→y<g.n.toNat∧xu g both c x y
theorem C0.lt {g:Gr} {both:Bool} {c:Nat→Bool} {a:List Nat} (h:C0 g both c a) (hn:g.n.toNat≤64) (x:Nat):a.getD x 0<18446744073709551616:=by
 by_cases hx:x<g.n.toNat
 ·have:a.getD x 0<2 ^ 64:=Nat.lt_pow_two_of_testBit _ fun i hi=>by
   cases hb:(a.getD x 0).testBit i with
   |false=>rfl
   |true=>have:=(h.snd x i hx hb).1;omega
  simpa using this
 ·rw [List.getD_eq_getElem?_getD,List.getElem?_eq_none (by rw [h.len];omega)];simp
theorem grow_step {g:Gr} (hm:aN g=true) {both:Bool} {c:Nat→Bool} {a:List Nat} (h:C0 g both c a) {i:Nat} (hi:i<g.es.length) (hc:c i=true):
 C0 g both c ((a.set (tl g i).toNat (a.getD (tl g i).toNat 0 ||| a.getD (hd g i).toNat 0)).set (hd g i).toNat (if both=true then a.getD (tl g i).toNat 0 ||| a.getD (hd g i).toNat 0 else a.getD (hd g i).toNat 0))∧
 ∀x y,(a.getD x 0).testBit y=true→(((a.set (tl g i).toNat (a.getD (tl g i).toNat 0 ||| a.getD (hd g i).toNat 0)).set (hd g i).toNat (if both=true then a.getD (tl g i).toNat 0 ||| a.getD (hd g i).toNat 0 else a.getD (hd g i).toNat 0)).getD x 0).testBit y=true:=by
 obtain ⟨ht,hh⟩:=eS hm hi
 have ht:0≤tl g i∧tl g i<g.n:=ht
 have hh:0≤hd g i∧hd g i<g.n:=hh
 have hl:=h.len
 have rS:∀x,((a.set (tl g i).toNat (a.getD (tl g i).toNat 0 ||| a.getD (hd g i).toNat 0)).set (hd g i).toNat (if both=true then a.getD (tl g i).toNat 0 ||| a.getD (hd g i).toNat 0 else a.getD (hd g i).toNat 0)).getD x 0=
  if x=(hd g i).toNat then (if both=true then a.getD (tl g i).toNat 0 ||| a.getD (hd g i).toNat 0 else a.getD (hd g i).toNat 0) else if x=(tl g i).toNat then a.getD (tl g i).toNat 0 ||| a.getD (hd g i).toNat 0 else a.getD x 0:=fun x=>by
  rw [mN (by rw [List.length_set];omega),mN (by omega)]
 have mono:∀x y,(a.getD x 0).testBit y=true→(((a.set (tl g i).toNat (a.getD (tl g i).toNat 0 ||| a.getD (hd g i).toNat 0)).set (hd g i).toNat (if both=true then a.getD (tl g i).toNat 0 ||| a.getD (hd g i).toNat 0 else a.getD (hd g i).toNat 0)).getD x 0).testBit y=true:=fun x y hb=>by
  rw [rS]
  split
  ·rename_i e;subst e
   split
   ·rw [Nat.testBit_or,hb,Bool.or_true]
   ·exact hb
  ·split
   ·rename_i e;subst e
    rw [Nat.testBit_or,hb,Bool.true_or]
   ·exact hb
 refine ⟨⟨by simp [hl],fun x hx=>mono x x (h.own x hx),fun x y hx hb=> ?_⟩,mono⟩
 have e1:xu g both c (tl g i).toNat (hd g i).toNat:= .fwd hi hc .refl
 rw [rS] at hb
 split at hb
 ·rename_i e;subst e
  split at hb
  ·rename_i Po
   rw [Nat.testBit_or,Bool.or_eq_true] at hb
   rcases hb with hb|hb
   ·obtain ⟨g1,g2⟩:=h.snd _ _ (by omega) hb
    exact ⟨g1,(xu.Kk hi hc Po .refl).trans g2⟩
   ·exact h.snd _ _ hx hb
  ·exact h.snd _ _ hx hb
 ·split at hb
  ·rename_i e;subst e
   rw [Nat.testBit_or,Bool.or_eq_true] at hb
   rcases hb with hb|hb
   ·exact h.snd _ _ hx hb
   ·obtain ⟨g1,g2⟩:=h.snd _ _ (by omega) hb
    exact ⟨g1,e1.trans g2⟩
  ·exact h.snd _ _ hx hb
theorem iU {g:Gr} (hm:aN g=true) {both:Bool} {c:Nat→Bool} {a:List Nat} (h:C0 g both c a):∀ {k:Nat},k≤g.es.length→C0 g both c (bN g both c a k).1∧∀x y,(a.getD x 0).testBit y=true→((bN g both c a k).1.getD x 0).testBit y=true
 |0,_=>⟨h,fun x y hb=>hb⟩
 |k+1,hk=>by
  obtain ⟨i1,i2⟩:=iU hm h (k:=k) (by omega)
  simp only [bN]
  by_cases hc:c k=true
  ·rw [if_pos hc]
   obtain ⟨j1,j2⟩:=grow_step hm i1 (i:=k) (by omega) hc
   exact ⟨j1,fun x y hb=>j2 x y (i2 x y hb)⟩
  ·rw [if_neg hc];exact ⟨i1,i2⟩
def tY (a:List Nat):Nat:=a.foldr (· + ·) 0
theorem Bq:∀ {a b:List Nat},a.length=b.length→(∀x,a.getD x 0≤b.getD x 0)→a≠b→tY a<tY b
 | [], [],_,_,hne=>absurd rfl hne
 |x::a,y::b,hl,h,hne=>by
  have h0:=h 0
  have hr:∀i,a.getD i 0≤b.getD i 0:=fun i=>by simpa using h (i+1)
  simp only [List.getD_cons_zero] at h0
  show x+tY a<y+tY b
  by_cases hab:a=b
  ·subst hab
   have:x≠y:=fun e=>hne (by rw [e])
   omega
  ·have:=Bq (a:=a) (b:=b) (by simpa using hl) hr hab
   omega
theorem y3 {m:Nat} :∀ {a:List Nat},(∀x,a.getD x 0<m)→tY a≤a.length*m
 | [],_=>by simp [tY]
 |x::a,h=>by
  have h0:=h 0
  have:=y3 (a:=a) fun i=>by simpa using h (i+1)
  simp only [List.getD_cons_zero] at h0
  show x+tY a≤(a.length+1)*m
  rw [Nat.add_mul];omega
theorem oc {a b:Nat} (h:∀y,a.testBit y=true→b.testBit y=true):a≤b:=by
 have:a ||| b=b:=Nat.eq_of_testBit_eq fun y=>by
  rw [Nat.testBit_or]
  cases ha:a.testBit y with
  |false=>simp
  |true=>rw [h y ha];rfl
 rw [← this];exact Nat.left_le_or
theorem jh {g:Gr} {both:Bool} {c:Nat→Bool} {a:List Nat} :∀ {k:Nat},(bN g both c a k).2=false→(bN g both c a k).1=a∧∀i,i<k→c i=true→(a.getD (tl g i).toNat 0 ||| a.getD (hd g i).toNat 0=a.getD (tl g i).toNat 0)∧(both=true→a.getD (tl g i).toNat 0=a.getD (hd g i).toNat 0)
 |0,_=>⟨rfl,fun i hi=>by omega⟩
 |k+1,h=>by
  simp only [bN] at h ⊢
  by_cases hc:c k=true
  ·rw [if_pos hc] at h ⊢
   simp only [Bool.or_eq_false_iff,decide_eq_false_iff_not,Decidable.not_not] at h
   obtain ⟨h1,h2,h3⟩:=h
   obtain ⟨i1,i2⟩:=jh h1
   rw [i1] at h2 h3
   simp only [i1]
   have ck:∀ {l:List Nat} {i v:Nat},v=l.getD i 0→l.set i v=l:=fun {l i v} e=>by
    refine List.ext_getElem? fun j=> ?_
    rw [List.getElem?_set]
    split
    ·rename_i hj;subst hj
     split
     ·rename_i hl;rw [e,List.getD_eq_getElem?_getD,List.getElem?_eq_getElem hl];rfl
     ·rename_i hl;rw [List.getElem?_eq_none (by omega)]
    ·rfl
   refine ⟨by rw [ck h2,ck h3],fun i hi KM=> ?_⟩
   by_cases hik:i=k
   ·subst hik
    refine ⟨h2,fun hb=> ?_⟩
    rw [if_pos hb] at h3
    rw [← h2,h3]
   ·exact i2 i (by omega) KM
  ·rw [if_neg hc] at h ⊢
   obtain ⟨i1,i2⟩:=jh h
   refine ⟨i1,fun i hi KM=> ?_⟩
   by_cases hik:i=k
   ·subst hik;exact absurd KM hc
   ·exact i2 i (by omega) KM
theorem Ao {g:Gr} (hm:aN g=true) {both:Bool} {c:Nat→Bool} {a:List Nat} (h:C0 g both c a) (hne:(bN g both c a g.es.length).2=true):tY a<tY (bN g both c a g.es.length).1:=by
 obtain ⟨_,i2⟩:=iU hm h (Nat.le_refl g.es.length)
 refine Bq qm.symm (fun x=>oc (i2 x)) fun e=> ?_
 have key:∀k,k≤g.es.length→(bN g both c a k).2=false:=by
  intro k
  induction k with
  |zero=>intro _;rfl
  |succ k ih=>
   intro hk
   have ih:=ih (by omega)
   have NB:=(jh ih).1
   simp only [bN]
   by_cases hc:c k=true
   ·rw [if_pos hc]
    simp only [Bool.or_eq_false_iff,decide_eq_false_iff_not,Decidable.not_not,ih,NB,true_and]
    obtain ⟨j1,j2⟩:=iU hm h (k:=k) (by omega)
    have later:∀d,k+1+d≤g.es.length→∀x y,((bN g both c a (k+1)).1.getD x 0).testBit y=true→((bN g both c a (k+1+d)).1.getD x 0).testBit y=true:=by
     intro d
     induction d with
     |zero=>intro _ x y hb;exact hb
     |succ d Pp=>
      intro hd x y hb
      have hb:=Pp (by omega) x y hb
      show ((bN g both c a (k+1+d+1)).1.getD x 0).testBit y=true
      simp only [bN] at hb ⊢
      split
      ·rename_i Fk
       exact (grow_step hm (iU hm h (k:=k+1+d) (by omega)).1 (i:=k+1+d) (by omega) Fk).2 x y hb
      ·exact hb
    have qL:=later (g.es.length - (k+1)) (by omega)
    rw [show k+1+(g.es.length - (k+1))=g.es.length by omega, ← e] at qL
    have za:(bN g both c a (k+1)).1=(a.set (tl g k).toNat (a.getD (tl g k).toNat 0 ||| a.getD (hd g k).toNat 0)).set (hd g k).toNat (if both=true then a.getD (tl g k).toNat 0 ||| a.getD (hd g k).toNat 0 else a.getD (hd g k).toNat 0):=by
     simp only [bN];rw [if_pos hc,NB]
    obtain ⟨ht,hh⟩:=eS hm (k:=k) (by omega)
    have ht:0≤tl g k∧tl g k<g.n:=ht
    have hh:0≤hd g k∧hd g k<g.n:=hh
    have hl:=h.len
    have rS:∀x,(bN g both c a (k+1)).1.getD x 0=if x=(hd g k).toNat then (if both=true then a.getD (tl g k).toNat 0 ||| a.getD (hd g k).toNat 0 else a.getD (hd g k).toNat 0) else if x=(tl g k).toNat then a.getD (tl g k).toNat 0 ||| a.getD (hd g k).toNat 0 else a.getD x 0:=fun x=>by
     rw [za,mN (by rw [List.length_set];omega),mN (by omega)]
    have g1:(if both=true then a.getD (tl g k).toNat 0 ||| a.getD (hd g k).toNat 0 else a.getD (hd g k).toNat 0)=a.getD (hd g k).toNat 0:=by
     have:=oc (qL (hd g k).toNat)
     rw [rS,if_pos rfl] at this
     split at this
     ·rename_i hb
      rw [if_pos hb]
      exact Nat.le_antisymm this Nat.right_le_or
     ·rename_i hb;rw [if_neg hb]
    refine ⟨?_,g1⟩
    by_cases heq:(tl g k).toNat=(hd g k).toNat
    ·rw [heq,Nat.or_self]
    ·have:=oc (qL (tl g k).toNat)
     rw [rS,if_neg heq,if_pos rfl] at this
     exact Nat.le_antisymm this Nat.left_le_or
   ·rw [if_neg hc];exact ih
 rw [key _ (Nat.le_refl _)] at hne
 cases hne
theorem CL {g:Gr} (hm:aN g=true) {both:Bool} {c:Nat→Bool} {a:List Nat} (h:C0 g both c a) (hne:(bN g both c a g.es.length).2=false):a=Fp g both c:=by
 obtain ⟨_,dW⟩:=jh hne
 have comp:∀x y,x<g.n.toNat→xu g both c x y→∀w,w<g.n.toNat→xu g both c w x→True:=fun _ _ _ _ _ _ _=>trivial
 have key:∀ {x y:Nat},xu g both c x y→∀z,(a.getD y 0).testBit z=true→(a.getD x 0).testBit z=true:=by
  intro x y hR
  induction hR with
  |refl=>exact fun z hz=>hz
  | @fwd i hi hc _ ih=>
    intro z hz
    refine ih z ?_
    rw [← (dW i hi hc).1,Nat.testBit_or,hz,Bool.or_true]
  | @Kk i hi hc hb _ ih=>
    intro z hz
    refine ih z ?_
    rw [← (dW i hi hc).2 hb];exact hz
 refine List.ext_getElem? fun x=> ?_
 by_cases hx:x<g.n.toNat
 ·have e:a.getD x 0=(Fp g both c).getD x 0:=by
   rw [An hx]
   refine Nat.eq_of_testBit_eq fun y=> ?_
   rw [Bool.eq_iff_iff,Bp]
   refine ⟨h.snd x y hx,fun ⟨h1,h2⟩=>key h2 y (h.own y h1)⟩
  rw [List.getD_eq_getElem?_getD,List.getD_eq_getElem?_getD,List.getElem?_eq_getElem (by rw [h.len];exact hx),List.getElem?_eq_getElem (by rw [rL];exact hx)] at e
  rw [List.getElem?_eq_getElem (by rw [h.len];exact hx),List.getElem?_eq_getElem (by rw [rL];exact hx)]
  simpa using e
 ·rw [List.getElem?_eq_none (by rw [h.len];omega),List.getElem?_eq_none (by rw [rL];omega)]
end Go.Ab
end
section
namespace Go.Ab
open Go.Proofs
attribute [local congr] ACall.congr
set_option maxRecDepth 20000
set_option maxHeartbeats 8000000
def rU (n:Nat):List D:= [.sc (.int .u64 (n:Int))]
def eU (n:Nat):AV:= .d (.sc (.int .u64 (n:Int)))
def sU (l:List Nat):D:= .sl 1 (l.map rU)
theorem getD_rU (ps:List Nat) (i:Nat):(ps.map rU).getD i [.sc (.int .u64 0)]= [.sc (.int .u64 ((ps.getD i 0:Nat):Int))]:=by
 rw [List.getD_eq_getElem?_getD,List.getElem?_map,List.getD_eq_getElem?_getD]
 cases ps[i]? <;>rfl
theorem gu (l:List Nat) (k:Nat) (v:Nat):(l.map rU).set k [.sc (.int .u64 (v:Int))]=(l.set k v).map rU:=by
 rw [List.map_set];rfl
attribute [go_sem] eU sU getD_rU InU
theorem Gq {s x:Nat} :decide ((((s >>> x &&& 1:Nat)):Int)=1)=s.testBit x:=by
 rw [Bool.eq_iff_iff,decide_eq_true_eq,Nat.testBit,Nat.and_comm]
 have:1 &&& s >>> x=0∨1 &&& s >>> x=1:=by
  rw [Nat.and_comm,Nat.and_one_is_mod];omega
 rcases this with h|h<;>rw [h]<;>simp
theorem qn (s:Nat) (hs:s<18446744073709551616) (x:Int):Spec Tryz.prog 26 (Args [eU s,eN x]) [] (eB (decide (0≤x)&&decide (x<64)&&s.testBit x.toNat)) []:=by
 by_cases h0:0≤x
 rotate_left
 ·have hb0:decide (0≤x)=false:=decide_eq_false h0
  (refine Spec.intro (C:=T.cfg [] []) (rs:= [.t 4]) (T.ai _ _) Tryz.func26 rfl rfl Tryz.ntmps26 Tryz.results26 (by simp [AObj.isNest]) (by simp [AObj.isNest]) (by kernel_rfl) ?_;intro X hX hP hC aG aH vals hA;refine ⟨_,by simp,hA, ?_⟩;have af:X.P.follows .mixedOrders=true:=(by rw [hP];exact T.mixed);clear aG aH)
  repeat' (first|((first|((with_reducible (first|apply oA|apply oB));exact rfl;intro K hK)|(refine hK _ ?_;clear hK K)|((with_reducible (first|apply oG|apply oH));iterate 3 exact rfl)|((with_reducible apply oI);(iterate 2 exact rfl);intro K hK)|(with_reducible (first|apply wI|apply wJ|apply wK)));try simp only [go_sem,simprocAttr,hb0])|(with_reducible (first|apply oC|apply oJ|exact oK|apply wA|apply wB|apply wC hX hC|apply wD hX hC|apply wE hX hC af|apply wF hX hC af|apply wG|apply wH|apply And.intro))|((with_reducible refine oD ?_ ?_);kernel_rfl)|((with_reducible (first|apply oE|apply oF));(iterate 3 exact rfl);all_goals (intro h;first|(exact absurd h (by decide))|((try simp only [go_sem,simprocAttr,hb0] at h);(try with_reducible intro K hK);simp only [go_sem,simprocAttr,hb0])))|((first|((with_reducible apply wL);exact rfl)|((with_reducible apply wM);exact rfl));all_goals (try ((with_reducible intro h);first|(exact absurd h (by decide))|(try simp only [go_sem,simprocAttr,hb0] at h))))|omega|(intro h))
 have hb0:decide (0≤x)=true:=decide_eq_true h0
 by_cases h1:x<64
 rotate_left
 ·have ak:decide (x<64)=false:=decide_eq_false h1
  (refine Spec.intro (C:=T.cfg [] []) (rs:= [.t 4]) (T.ai _ _) Tryz.func26 rfl rfl Tryz.ntmps26 Tryz.results26 (by simp [AObj.isNest]) (by simp [AObj.isNest]) (by kernel_rfl) ?_;intro X hX hP hC aG aH vals hA;refine ⟨_,by simp,hA, ?_⟩;have af:X.P.follows .mixedOrders=true:=(by rw [hP];exact T.mixed);clear aG aH)
  repeat' (first|((first|((with_reducible (first|apply oA|apply oB));exact rfl;intro K hK)|(refine hK _ ?_;clear hK K)|((with_reducible (first|apply oG|apply oH));iterate 3 exact rfl)|((with_reducible apply oI);(iterate 2 exact rfl);intro K hK)|(with_reducible (first|apply wI|apply wJ|apply wK)));try simp only [go_sem,simprocAttr,hb0,ak])|(with_reducible (first|apply oC|apply oJ|exact oK|apply wA|apply wB|apply wC hX hC|apply wD hX hC|apply wE hX hC af|apply wF hX hC af|apply wG|apply wH|apply And.intro))|((with_reducible refine oD ?_ ?_);kernel_rfl)|((with_reducible (first|apply oE|apply oF));(iterate 3 exact rfl);all_goals (intro h;first|(exact absurd h (by decide))|((try simp only [go_sem,simprocAttr,hb0,ak] at h);(try with_reducible intro K hK);simp only [go_sem,simprocAttr,hb0,ak])))|((first|((with_reducible apply wL);exact rfl)|((with_reducible apply wM);exact rfl));all_goals (try ((with_reducible intro h);first|(exact absurd h (by decide))|(try simp only [go_sem,simprocAttr,hb0,ak] at h))))|omega|(intro h))
 have ak:decide (x<64)=true:=decide_eq_true h1
 obtain ⟨i,rfl⟩:∃i:Nat,x=i:=⟨x.toNat,by omega⟩
 have hlt:s >>> i<18446744073709551616:=Nat.lt_of_le_of_lt (Nat.shiftRight_le s i) hs
 have ha:=Gq (s:=s) (x:=i)
 generalize hq:s >>> i=q at hlt ha
 (refine Spec.intro (C:=T.cfg [] []) (rs:= [.t 4]) (T.ai _ _) Tryz.func26 rfl rfl Tryz.ntmps26 Tryz.results26 (by simp [AObj.isNest]) (by simp [AObj.isNest]) (by kernel_rfl) ?_;intro X hX hP hC aG aH vals hA;refine ⟨_,by simp,hA, ?_⟩;have af:X.P.follows .mixedOrders=true:=(by rw [hP];exact T.mixed);clear aG aH)
 repeat' (first|((first|((with_reducible (first|apply oA|apply oB));exact rfl;intro K hK)|(refine hK _ ?_;clear hK K)|((with_reducible (first|apply oG|apply oH));iterate 3 exact rfl)|((with_reducible apply oI);(iterate 2 exact rfl);intro K hK)|(with_reducible (first|apply wI|apply wJ|apply wK)));try simp only [go_sem,simprocAttr,hb0,ak,hq,ha])|(with_reducible (first|apply oC|apply oJ|exact oK|apply wA|apply wB|apply wC hX hC|apply wD hX hC|apply wE hX hC af|apply wF hX hC af|apply wG|apply wH|apply And.intro))|((with_reducible refine oD ?_ ?_);kernel_rfl)|((with_reducible (first|apply oE|apply oF));(iterate 3 exact rfl);all_goals (intro h;first|(exact absurd h (by decide))|((try simp only [go_sem,simprocAttr,hb0,ak,hq,ha] at h);(try with_reducible intro K hK);simp only [go_sem,simprocAttr,hb0,ak,hq,ha])))|((first|((with_reducible apply wL);exact rfl)|((with_reducible apply wM);exact rfl));all_goals (try ((with_reducible intro h);first|(exact absurd h (by decide))|(try simp only [go_sem,simprocAttr,hb0,ak,hq,ha] at h))))|omega|(intro h))
theorem EY (x:Nat) (hx:x<64):Spec Tryz.prog 114 (Args [.d (.sl 1 [[.sc (.int .i64 (x:Int))]])]) [] (eU (2 ^ x)) []:=by
 have hsh:1 <<< x % 18446744073709551616=2 ^ x:=by
  rw [Nat.shiftLeft_eq,Nat.one_mul,Nat.mod_eq_of_lt]
  exact Nat.lt_of_lt_of_le (Nat.pow_lt_pow_right (by decide) hx) (by decide)
 have hlt:2 ^ x<18446744073709551616:=Nat.lt_of_lt_of_le (Nat.pow_lt_pow_right (by decide) hx) (by decide)
 have ak:decide (0≤(x:Int))=true:=decide_eq_true (by omega)
 have an:decide ((x:Int)<64)=true:=decide_eq_true (by omega)
 (refine Spec.intro (C:=T.cfg [] []) (rs:= [.t 2]) (T.ai _ _) Tryz.func114 rfl rfl Tryz.ntmps114 Tryz.results114 (by simp [AObj.isNest]) (by simp [AObj.isNest]) (by kernel_rfl) ?_;intro X hX hP hC aG aH vals hA;refine ⟨_,by simp,hA, ?_⟩;have af:X.P.follows .mixedOrders=true:=(by rw [hP];exact T.mixed);clear aG aH)
 repeat' (first|((first|((with_reducible (first|apply oA|apply oB));exact rfl;intro K hK)|(refine hK _ ?_;clear hK K)|((with_reducible (first|apply oG|apply oH));iterate 3 exact rfl)|((with_reducible apply oI);(iterate 2 exact rfl);intro K hK)|(with_reducible (first|apply wI|apply wJ|apply wK)));try simp only [go_sem,simprocAttr])|(with_reducible (first|apply oC|apply oJ|exact oK|apply wA|apply wB|apply wC hX hC|apply wD hX hC|apply wE hX hC af|apply wF hX hC af|apply wG|apply wH|apply And.intro))|((with_reducible refine oD ?_ ?_);kernel_rfl)|((with_reducible (first|apply oE|apply oF));(iterate 3 exact rfl);all_goals (intro h;first|(exact absurd h (by decide))|((try simp only [go_sem,simprocAttr] at h);(try with_reducible intro K hK);simp only [go_sem,simprocAttr])))|((first|((with_reducible apply wL);exact rfl)|((with_reducible apply wM);exact rfl));all_goals (try ((with_reducible intro h);first|(exact absurd h (by decide))|(try simp only [go_sem,simprocAttr] at h))))|omega|(intro h))
 refine aj (fun k:Nat=>k≤1) (fun k=>⟨[(2,eU (if k=0 then 0 else 2 ^ x)),(5, .d (.sl 1 [[.sc (.int .i64 (x:Int))]])),(6,eN 1),(7,eN k)], []⟩) (fun k=>1 - k) 0 (by omega) ?_ ?_
 ·refine Le.of ?_ ?_<;>simp [go_sem,simprocAttr]
 rintro k hk
 match k,hk with
 |0,_=>
  repeat' (first|((first|((with_reducible (first|apply oA|apply oB));exact rfl;intro K hK)|(refine hK _ ?_;clear hK K)|((with_reducible (first|apply oG|apply oH));iterate 3 exact rfl)|((with_reducible apply oI);(iterate 2 exact rfl);intro K hK)|(with_reducible (first|apply wI|apply wJ|apply wK)));try simp only [go_sem,simprocAttr,hsh,ak,an,Nat.zero_or])|(with_reducible (first|apply oC|apply oJ|exact oK|apply wA|apply wB|apply wC hX hC|apply wD hX hC|apply wE hX hC af|apply wF hX hC af|apply wG|apply wH|apply And.intro))|((with_reducible refine oD ?_ ?_);kernel_rfl)|((with_reducible (first|apply oE|apply oF));(iterate 3 exact rfl);all_goals (intro h;first|(exact absurd h (by decide))|((try simp only [go_sem,simprocAttr,hsh,ak,an,Nat.zero_or] at h);(try with_reducible intro K hK);simp only [go_sem,simprocAttr,hsh,ak,an,Nat.zero_or])))|((first|((with_reducible apply wL);exact rfl)|((with_reducible apply wM);exact rfl));all_goals (try ((with_reducible intro h);first|(exact absurd h (by decide))|(try simp only [go_sem,simprocAttr,hsh,ak,an,Nat.zero_or] at h))))|omega|(intro h))
  all_goals (refine ⟨1,by omega, ?_,by omega⟩)
  all_goals (refine Le.of ?_ ?_<;>simp [go_sem,simprocAttr,hsh,ak,an,Nat.zero_or])
 |1,_=>
  repeat' (first|((first|((with_reducible (first|apply oA|apply oB));exact rfl;intro K hK)|(refine hK _ ?_;clear hK K)|((with_reducible (first|apply oG|apply oH));iterate 3 exact rfl)|((with_reducible apply oI);(iterate 2 exact rfl);intro K hK)|(with_reducible (first|apply wI|apply wJ|apply wK)));try simp only [go_sem,simprocAttr])|(with_reducible (first|apply oC|apply oJ|exact oK|apply wA|apply wB|apply wC hX hC|apply wD hX hC|apply wE hX hC af|apply wF hX hC af|apply wG|apply wH|apply And.intro))|((with_reducible refine oD ?_ ?_);kernel_rfl)|((with_reducible (first|apply oE|apply oF));(iterate 3 exact rfl);all_goals (intro h;first|(exact absurd h (by decide))|((try simp only [go_sem,simprocAttr] at h);(try with_reducible intro K hK);simp only [go_sem,simprocAttr])))|((first|((with_reducible apply wL);exact rfl)|((with_reducible apply wM);exact rfl));all_goals (try ((with_reducible intro h);first|(exact absurd h (by decide))|(try simp only [go_sem,simprocAttr] at h))))|omega|(intro h))
end Go.Ab
end
section
namespace Go.Ab
open Go.Proofs
attribute [local congr] ACall.congr
set_option maxRecDepth 20000
set_option maxHeartbeats 8000000
def qo (k:Nat):List Nat:=(List.range k).map fun x=>2 ^ x
theorem CM {k:Nat} :qo (k+1)=qo k++ [2 ^ k]:=by simp [qo,List.range_succ]
theorem tZ {k:Nat} :(qo k).length=k:=by simp [qo]
def jw (g:Gr):List Nat:=if aN g=true then qo g.n.toNat else []
theorem Ap (g:Gr) (hl:g.es.length≤9223372036854775807):Spec Tryz.prog 64 (Args [eG g]) [] (.ref 10000) [(10000, .own 49 1 ((jw g).map rU))]:=by
 have hM:=gh g hl
 cases hm:aN g with
 |false=>
  rw [hm] at hM
  have he:jw g= []:=by unfold jw;rw [hm];rfl
  rw [he]
  (refine Spec.dQ (C:=T.cfg [200,17] []) (rs:= [.t 2]) [(10000,200)] (T.ai _ _) Tryz.func64 rfl rfl Tryz.ntmps64 Tryz.results64 (by simp [AObj.isNest]) (by simp [AObj.isNest]) (by first|(simp [look];done)|(simp [asN];done)|(intro l hl;simp only [asN];repeat (rw [if_neg (fun e=>by subst e;simp [look] at hl)]))) (by first|(simp [look];done)|(simp [asN];done)|(intro l hl;simp only [asN];repeat (rw [if_neg (fun e=>by subst e;simp [look] at hl)]))) (by kernel_rfl) ?_;intro X hX hP hC aG aH vals hA;refine ⟨_,by simp,hA, ?_⟩;have af:X.P.follows .mixedOrders=true:=(by rw [hP];exact T.mixed);clear aG aH)
  repeat' (first|(show dK _ .ret _ _;(try simp only [go_sem,simprocAttr]);refine fX hX 2 200 (.own 49 1 []) ?_ ?_ (by decide) ⟨49,1,by decide, .inl rfl⟩ ?_;(iterate 2 (focus (simp only [go_sem,simprocAttr];done)));simp only [go_sem,simprocAttr])|((first|((with_reducible (first|apply oA|apply oB));exact rfl;intro K hK)|(refine hK _ ?_;clear hK K)|((with_reducible (first|apply oG|apply oH));iterate 3 exact rfl)|((with_reducible apply oI);(iterate 2 exact rfl);intro K hK)|(with_reducible (first|apply wI|apply wJ|apply wK)));try simp only [go_sem,simprocAttr])|(with_reducible (first|apply oC|apply oJ|exact oK|apply wA|apply wB|apply wC hX hC|apply wD hX hC|apply wE hX hC af|apply wF hX hC af|apply wG|apply wH|apply And.intro))|((with_reducible refine oD ?_ ?_);kernel_rfl)|((with_reducible (first|apply oE|apply oF));(iterate 3 exact rfl);all_goals (intro h;first|(exact absurd h (by decide))|((try simp only [go_sem,simprocAttr] at h);(try with_reducible intro K hK);simp only [go_sem,simprocAttr])))|((first|((with_reducible apply wL);exact rfl)|((with_reducible apply wM);exact rfl));all_goals (try ((with_reducible intro h);first|(exact absurd h (by decide))|(try simp only [go_sem,simprocAttr] at h))))|omega|((first|refine aa hX hC hP (hM) rfl rfl rfl (by simp only [go_sem,simprocAttr]) rfl ?_);try simp only [go_sem,simprocAttr])|(intro h))
 |true=>
  rw [hm] at hM
  have hn:=aL hm
  have he:jw g=qo g.n.toNat:=by unfold jw;rw [if_pos hm]
  rw [he]
  (refine Spec.dQ (C:=T.cfg [200,17] []) (rs:= [.t 2]) [(10000,200)] (T.ai _ _) Tryz.func64 rfl rfl Tryz.ntmps64 Tryz.results64 (by simp [AObj.isNest]) (by simp [AObj.isNest]) (by first|(simp [look];done)|(simp [asN];done)|(intro l hl;simp only [asN];repeat (rw [if_neg (fun e=>by subst e;simp [look] at hl)]))) (by first|(simp [look];done)|(simp [asN];done)|(intro l hl;simp only [asN];repeat (rw [if_neg (fun e=>by subst e;simp [look] at hl)]))) (by kernel_rfl) ?_;intro X hX hP hC aG aH vals hA;refine ⟨_,by simp,hA, ?_⟩;have af:X.P.follows .mixedOrders=true:=(by rw [hP];exact T.mixed);clear aG aH)
  repeat' (first|((first|((with_reducible (first|apply oA|apply oB));exact rfl;intro K hK)|(refine hK _ ?_;clear hK K)|((with_reducible (first|apply oG|apply oH));iterate 3 exact rfl)|((with_reducible apply oI);(iterate 2 exact rfl);intro K hK)|(with_reducible (first|apply wI|apply wJ|apply wK)));try simp only [go_sem,simprocAttr])|(show dK _ (.seq (.region 3 _ _) _) _ _;(refine fX hX 2 200 (.own 49 1 []) ?_ ?_ (by decide) ⟨49,1,by decide, .inl rfl⟩ ?_;(iterate 2 (focus (simp only [go_sem,simprocAttr];done)));simp only [go_sem,simprocAttr]))|(with_reducible (first|apply oC|apply oJ|exact oK|apply wA|apply wB|apply wC hX hC|apply wD hX hC|apply wE hX hC af|apply wF hX hC af|apply wG|apply wH|apply And.intro))|((with_reducible refine oD ?_ ?_);kernel_rfl)|((with_reducible (first|apply oE|apply oF));(iterate 3 exact rfl);all_goals (intro h;first|(exact absurd h (by decide))|((try simp only [go_sem,simprocAttr] at h);(try with_reducible intro K hK);simp only [go_sem,simprocAttr])))|((first|((with_reducible apply wL);exact rfl)|((with_reducible apply wM);exact rfl));all_goals (try ((with_reducible intro h);first|(exact absurd h (by decide))|(try simp only [go_sem,simprocAttr] at h))))|omega|((first|refine aa hX hC hP (hM) rfl rfl rfl (by simp only [go_sem,simprocAttr]) rfl ?_);try simp only [go_sem,simprocAttr])|(intro h))
  refine aj (fun k:Nat=>k≤g.n.toNat) (fun k=>⟨[(2, .ref 200),(8,eN g.n),(9,eN k)], [(200, .own 49 1 ((qo k).map rU))]⟩) (fun k=>g.n.toNat - k) 0 (by omega) ?_ ?_
  ·refine Le.of ?_ ?_<;>simp [go_sem,simprocAttr,qo]
  rintro k hk
  rcases Nat.lt_or_ge k g.n.toNat with hlt|hge
  ·have hb:decide ((k:Int)<g.n)=true:=decide_eq_true (by omega)
   have qK:=tZ (k:=k)
   have cO:=CM (k:=k)
   have Pq:=EY k (by omega)
   generalize qo k=O1 at qK cO
   repeat' (first|((first|((with_reducible (first|apply oA|apply oB));exact rfl;intro K hK)|(refine hK _ ?_;clear hK K)|((with_reducible (first|apply oG|apply oH));iterate 3 exact rfl)|((with_reducible apply oI);(iterate 2 exact rfl);intro K hK)|(with_reducible (first|apply wI|apply wJ|apply wK)));try simp only [go_sem,simprocAttr,hb,qK])|(show dK _ (.region 7 _ _) _ _;(refine lI hX 2 17 200 (by simp only [go_sem,simprocAttr,hb,qK]) rfl (by first|exact .inl rfl|exact .inr rfl) (by decide) ?_;simp only [go_sem,simprocAttr,hb,qK]))|(with_reducible (first|apply oC|apply oJ|exact oK|apply wA|apply wB|apply wC hX hC|apply wD hX hC|apply wE hX hC af|apply wF hX hC af|apply wG|apply wH|apply And.intro))|((with_reducible refine oD ?_ ?_);kernel_rfl)|((with_reducible (first|apply oE|apply oF));(iterate 3 exact rfl);all_goals (intro h;first|(exact absurd h (by decide))|((try simp only [go_sem,simprocAttr,hb,qK] at h);(try with_reducible intro K hK);simp only [go_sem,simprocAttr,hb,qK])))|((first|((with_reducible apply wL);exact rfl)|((with_reducible apply wM);exact rfl));all_goals (try ((with_reducible intro h);first|(exact absurd h (by decide))|(try simp only [go_sem,simprocAttr,hb,qK] at h))))|omega|((first|(refine bB hX hC hP (Pq) rfl rfl rfl ?_ ?_ rfl ?_;iterate 2 (focus (simp only [go_sem,simprocAttr,hb,qK];done))));try simp only [go_sem,simprocAttr,hb,qK])|(intro h))
   refine ⟨k+1,by omega, ?_,by omega⟩
   rw [cO]
   refine Le.of ?_ ?_<;>simp [go_sem,simprocAttr,hb,qK,rU]
  ·have hb:decide ((k:Int)<g.n)=false:=decide_eq_false (by omega)
   obtain rfl:k=g.n.toNat:=by omega
   repeat' (first|((first|((with_reducible (first|apply oA|apply oB));exact rfl;intro K hK)|(refine hK _ ?_;clear hK K)|((with_reducible (first|apply oG|apply oH));iterate 3 exact rfl)|((with_reducible apply oI);(iterate 2 exact rfl);intro K hK)|(with_reducible (first|apply wI|apply wJ|apply wK)));try simp only [go_sem,simprocAttr,hb])|(with_reducible (first|apply oC|apply oJ|exact oK|apply wA|apply wB|apply wC hX hC|apply wD hX hC|apply wE hX hC af|apply wF hX hC af|apply wG|apply wH|apply And.intro))|((with_reducible refine oD ?_ ?_);kernel_rfl)|((with_reducible (first|apply oE|apply oF));(iterate 3 exact rfl);all_goals (intro h;first|(exact absurd h (by decide))|((try simp only [go_sem,simprocAttr,hb] at h);(try with_reducible intro K hK);simp only [go_sem,simprocAttr,hb])))|((first|((with_reducible apply wL);exact rfl)|((with_reducible apply wM);exact rfl));all_goals (try ((with_reducible intro h);first|(exact absurd h (by decide))|(try simp only [go_sem,simprocAttr,hb] at h))))|omega|(intro h))
theorem NC {a b:Nat} :(!decide ((a:Int)=(b:Int)))=decide (a≠b):=by
 by_cases h:a=b
 ·simp [h]
 ·simp [h];omega
theorem Gs {g:Gr} (hn:g.n.toNat≤64) (both:Bool) (c:Nat→Bool):∃M:Nat,∀b:List Nat,C0 g both c b→tY b≤M:=
 ⟨_,fun b hb=>by have:=y3 (a:=b) fun x=>hb.lt hn x;rw [hb.len] at this;exact this⟩
theorem Aq (g:Gr) (hm:aN g=true) (both:Bool) (c:Nat→Bool) (F:Nat) (hF:∀i,i<g.es.length→Spec Tryz.prog F (Args [eN i]) [] (eB (c i)) []) (a0:List Nat) (h0:C0 g both c a0):
 Spec Tryz.prog 65 (Args [eG g, .ref 10000,eB both, .fn F [] []]) [(10000, .own 49 1 (a0.map rU))] (.tup []) [(10000, .own 49 1 ((Fp g both c).map rU))]:=by
 have hn:=aL hm
 obtain ⟨M,hM⟩:=Gs (g:=g) (by omega) both c
 (refine Spec.intro (C:=T.cfg [] []) (rs:= []) (T.ai _ _) Tryz.func65 rfl rfl Tryz.ntmps65 Tryz.results65 (by simp [AObj.isNest]) (by simp [AObj.isNest]) (by kernel_rfl) ?_;intro X hX hP hC aG aH vals hA;refine ⟨_,by simp,hA, ?_⟩;have af:X.P.follows .mixedOrders=true:=(by rw [hP];exact T.mixed);clear aG aH)
 repeat' (first|((first|((with_reducible (first|apply oA|apply oB));exact rfl;intro K hK)|(refine hK _ ?_;clear hK K)|((with_reducible (first|apply oG|apply oH));iterate 3 exact rfl)|((with_reducible apply oI);(iterate 2 exact rfl);intro K hK)|(with_reducible (first|apply wI|apply wJ|apply wK)));try simp only [go_sem,simprocAttr])|(with_reducible (first|apply oC|apply oJ|exact oK|apply wA|apply wB|apply wC hX hC|apply wD hX hC|apply wE hX hC af|apply wF hX hC af|apply wG|apply wH|apply And.intro))|((with_reducible refine oD ?_ ?_);kernel_rfl)|((with_reducible (first|apply oE|apply oF));(iterate 3 exact rfl);all_goals (intro h;first|(exact absurd h (by decide))|((try simp only [go_sem,simprocAttr] at h);(try with_reducible intro K hK);simp only [go_sem,simprocAttr])))|((first|((with_reducible apply wL);exact rfl)|((with_reducible apply wM);exact rfl));all_goals (try ((with_reducible intro h);first|(exact absurd h (by decide))|(try simp only [go_sem,simprocAttr] at h))))|omega|(intro h))
 refine aj (fun s:List Nat × Bool=>C0 g both c s.1∧(s.2=false→s.1=Fp g both c)) (fun s=>⟨[(1, .ref 10000),(2,eB both),(3, .fn F [] []),(4, .ptr 4 0),(8,eB s.2)], [(10000, .own 49 1 (s.1.map rU)),(4, .box [eN g.n, .d (sE g.es)])]⟩) (fun s=>2*(M - tY s.1)+(if s.2=true then 1 else 0)) (a0,true) ⟨h0,by simp⟩ ?_ ?_
 ·refine Le.of ?_ ?_<;>simp [go_sem,simprocAttr]
 rintro ⟨a,more⟩ ⟨hG,qL⟩
 simp only at hG qL ⊢
 cases more with
 |false=>
  have:=qL rfl
  subst this
  repeat' (first|((first|((with_reducible (first|apply oA|apply oB));exact rfl;intro K hK)|(refine hK _ ?_;clear hK K)|((with_reducible (first|apply oG|apply oH));iterate 3 exact rfl)|((with_reducible apply oI);(iterate 2 exact rfl);intro K hK)|(with_reducible (first|apply wI|apply wJ|apply wK)));try simp only [go_sem,simprocAttr])|(with_reducible (first|apply oC|apply oJ|exact oK|apply wA|apply wB|apply wC hX hC|apply wD hX hC|apply wE hX hC af|apply wF hX hC af|apply wG|apply wH|apply And.intro))|((with_reducible refine oD ?_ ?_);kernel_rfl)|((with_reducible (first|apply oE|apply oF));(iterate 3 exact rfl);all_goals (intro h;first|(exact absurd h (by decide))|((try simp only [go_sem,simprocAttr] at h);(try with_reducible intro K hK);simp only [go_sem,simprocAttr])))|((first|((with_reducible apply wL);exact rfl)|((with_reducible apply wM);exact rfl));all_goals (try ((with_reducible intro h);first|(exact absurd h (by decide))|(try simp only [go_sem,simprocAttr] at h))))|omega|(intro h))
 |true=>
 repeat' (first|((first|((with_reducible (first|apply oA|apply oB));exact rfl;intro K hK)|(refine hK _ ?_;clear hK K)|((with_reducible (first|apply oG|apply oH));iterate 3 exact rfl)|((with_reducible apply oI);(iterate 2 exact rfl);intro K hK)|(with_reducible (first|apply wI|apply wJ|apply wK)));try simp only [go_sem,simprocAttr])|(with_reducible (first|apply oC|apply oJ|exact oK|apply wA|apply wB|apply wC hX hC|apply wD hX hC|apply wE hX hC af|apply wF hX hC af|apply wG|apply wH|apply And.intro))|((with_reducible refine oD ?_ ?_);kernel_rfl)|((with_reducible (first|apply oE|apply oF));(iterate 3 exact rfl);all_goals (intro h;first|(exact absurd h (by decide))|((try simp only [go_sem,simprocAttr] at h);(try with_reducible intro K hK);simp only [go_sem,simprocAttr])))|((first|((with_reducible apply wL);exact rfl)|((with_reducible apply wM);exact rfl));all_goals (try ((with_reducible intro h);first|(exact absurd h (by decide))|(try simp only [go_sem,simprocAttr] at h))))|omega|(intro h))
 refine aj (fun k:Nat=>k≤g.es.length) (fun k=>⟨[(1, .ref 10000),(2,eB both),(3, .fn F [] []),(4, .ptr 4 0),(8,eB (bN g both c a k).2),(15, .d (sE g.es)),(16,eN g.es.length),(17,eN k)], [(10000, .own 49 1 ((bN g both c a k).1.map rU)),(4, .box [eN g.n, .d (sE g.es)])]⟩) (fun k=>g.es.length - k) 0 (by omega) ?_ ?_
 ·refine Le.of ?_ ?_<;>simp [go_sem,simprocAttr,bN]
 rintro k hk
 rcases Nat.lt_or_ge k g.es.length with hlt|hge
 rotate_left
 ·have hb:decide ((k:Int)<(g.es.length:Int))=false:=decide_eq_false (by omega)
  obtain rfl:k=g.es.length:=by omega
  obtain ⟨i1,_⟩:=iU hm hG (Nat.le_refl g.es.length)
  have Km:=Ao hm hG
  have GY:=jh (g:=g) (both:=both) (c:=c) (a:=a) (k:=g.es.length)
  have hdone:=CL hm hG
  have Dl:=hM _ i1
  generalize bN g both c a g.es.length=R at*
  repeat' (first|((first|((with_reducible (first|apply oA|apply oB));exact rfl;intro K hK)|(refine hK _ ?_;clear hK K)|((with_reducible (first|apply oG|apply oH));iterate 3 exact rfl)|((with_reducible apply oI);(iterate 2 exact rfl);intro K hK)|(with_reducible (first|apply wI|apply wJ|apply wK)));try simp only [go_sem,simprocAttr,hb])|(with_reducible (first|apply oC|apply oJ|exact oK|apply wA|apply wB|apply wC hX hC|apply wD hX hC|apply wE hX hC af|apply wF hX hC af|apply wG|apply wH|apply And.intro))|((with_reducible refine oD ?_ ?_);kernel_rfl)|((with_reducible (first|apply oE|apply oF));(iterate 3 exact rfl);all_goals (intro h;first|(exact absurd h (by decide))|((try simp only [go_sem,simprocAttr,hb] at h);(try with_reducible intro K hK);simp only [go_sem,simprocAttr,hb])))|((first|((with_reducible apply wL);exact rfl)|((with_reducible apply wM);exact rfl));all_goals (try ((with_reducible intro h);first|(exact absurd h (by decide))|(try simp only [go_sem,simprocAttr,hb] at h))))|omega|(intro h))
  refine ⟨(R.1,R.2),⟨i1,fun hf=> ?_⟩, ?_, ?_⟩
  ·rw [(GY hf).1];exact hdone hf
  ·refine Le.of ?_ ?_<;>simp [go_sem,simprocAttr,hb]
  ·cases KN:R.2 with
   |true=>have:=Km KN;simp;omega
   |false=>rw [(GY KN).1];simp
 have hb:decide ((k:Int)<(g.es.length:Int))=true:=decide_eq_true (by omega)
 obtain ⟨KO,_⟩:=iU hm hG (k:=k) (by omega)
 obtain ⟨ht,hh⟩:=eS hm hlt
 have IG:=hF k hlt
 have zk:=KO.len
 have Ar:=KO.lt (by omega)
 obtain ⟨x,hx⟩:∃x:Nat,(g.es.getD k (0,0)).1=x:=⟨(g.es.getD k (0,0)).1.toNat,by omega⟩
 obtain ⟨y,hy⟩:∃y:Nat,(g.es.getD k (0,0)).2=y:=⟨(g.es.getD k (0,0)).2.toNat,by omega⟩
 have CT:(tl g k).toNat=x:=by show ((g.es.getD k (0,0)).1).toNat=x;rw [hx];rfl
 have Ml:(hd g k).toNat=y:=by show ((g.es.getD k (0,0)).2).toNat=y;rw [hy];rfl
 have cO:bN g both c a (k+1)=if c k=true then ((((bN g both c a k).1.set x ((bN g both c a k).1.getD x 0 ||| (bN g both c a k).1.getD y 0)).set y (if both=true then (bN g both c a k).1.getD x 0 ||| (bN g both c a k).1.getD y 0 else (bN g both c a k).1.getD y 0)),(bN g both c a k).2||(decide ((bN g both c a k).1.getD x 0 ||| (bN g both c a k).1.getD y 0≠(bN g both c a k).1.getD x 0)||decide ((if both=true then (bN g both c a k).1.getD x 0 ||| (bN g both c a k).1.getD y 0 else (bN g both c a k).1.getD y 0)≠(bN g both c a k).1.getD y 0))) else bN g both c a k:=by
  simp only [bN,CT,Ml]
 generalize bN g both c a k=R at KO zk Ar cO
 obtain ⟨A,m1⟩:=R
 simp only at KO zk Ar cO ⊢
 have Mw:=Ar x
 have Pr:=Ar y
 cases hc:c k with
 |false=>
  rw [hc] at IG cO
  repeat' (first|((first|((with_reducible (first|apply oA|apply oB));exact rfl;intro K hK)|(refine hK _ ?_;clear hK K)|((with_reducible (first|apply oG|apply oH));iterate 3 exact rfl)|((with_reducible apply oI);(iterate 2 exact rfl);intro K hK)|(with_reducible (first|apply wI|apply wJ|apply wK)));try simp only [go_sem,simprocAttr,hb,hx,hy])|(with_reducible (first|apply oC|apply oJ|exact oK|apply wA|apply wB|apply wC hX hC|apply wD hX hC|apply wE hX hC af|apply wF hX hC af|apply wG|apply wH|apply And.intro))|((with_reducible refine oD ?_ ?_);kernel_rfl)|((with_reducible (first|apply oE|apply oF));(iterate 3 exact rfl);all_goals (intro h;first|(exact absurd h (by decide))|((try simp only [go_sem,simprocAttr,hb,hx,hy] at h);(try with_reducible intro K hK);simp only [go_sem,simprocAttr,hb,hx,hy])))|((first|((with_reducible apply wL);exact rfl)|((with_reducible apply wM);exact rfl));all_goals (try ((with_reducible intro h);first|(exact absurd h (by decide))|(try simp only [go_sem,simprocAttr,hb,hx,hy] at h))))|omega|((first|refine aa hX hC hP (IG) rfl rfl rfl (by simp only [go_sem,simprocAttr,hb,hx,hy]) rfl ?_);try simp only [go_sem,simprocAttr,hb,hx,hy])|(intro h))
  refine ⟨k+1,by omega, ?_,by omega⟩
  rw [cO]
  refine Le.of ?_ ?_<;>simp [go_sem,simprocAttr,hb,hx,hy]
 |true=>
  rw [hc] at IG cO
  rw [if_pos rfl] at cO
  have n1:=NC (a:=A.getD x 0 ||| A.getD y 0) (b:=A.getD x 0)
  have n2:=NC (a:=if both=true then A.getD x 0 ||| A.getD y 0 else A.getD y 0) (b:=A.getD y 0)
  have MJ:A.getD x 0 ||| A.getD y 0<18446744073709551616:=Nat.or_lt_two_pow (n:=64) Mw Pr
  have HJ:(A.set x (A.getD x 0 ||| A.getD y 0)).length=A.length:=List.length_set ..
  generalize vY:A.getD x 0 ||| A.getD y 0=t at n1 n2 cO MJ HJ
  generalize fV:decide (t≠A.getD x 0)=d1 at n1 cO
  cases both with
  |true=>
   rw [if_pos rfl] at n2 cO
   generalize ic:decide (t≠A.getD y 0)=d2 at n2 cO
   clear fV ic
   cases m1<;>cases d1<;>cases d2<;>simp only [Bool.or_false,Bool.or_true,Bool.false_or,Bool.true_or] at cO
   all_goals (repeat' (first|((first|((with_reducible (first|apply oA|apply oB));exact rfl;intro K hK)|(refine hK _ ?_;clear hK K)|((with_reducible (first|apply oG|apply oH));iterate 3 exact rfl)|((with_reducible apply oI);(iterate 2 exact rfl);intro K hK)|(with_reducible (first|apply wI|apply wJ|apply wK)));try simp only [go_sem,simprocAttr,hb,hx,hy,vY,n1,n2,zk,gu,List.length_set])|(with_reducible (first|apply oC|apply oJ|exact oK|apply wA|apply wB|apply wC hX hC|apply wD hX hC|apply wE hX hC af|apply wF hX hC af|apply wG|apply wH|apply And.intro))|((with_reducible refine oD ?_ ?_);kernel_rfl)|((with_reducible (first|apply oE|apply oF));(iterate 3 exact rfl);all_goals (intro h;first|(exact absurd h (by decide))|((try simp only [go_sem,simprocAttr,hb,hx,hy,vY,n1,n2,zk,gu,List.length_set] at h);(try with_reducible intro K hK);simp only [go_sem,simprocAttr,hb,hx,hy,vY,n1,n2,zk,gu,List.length_set])))|((first|((with_reducible apply wL);exact rfl)|((with_reducible apply wM);exact rfl));all_goals (try ((with_reducible intro h);first|(exact absurd h (by decide))|(try simp only [go_sem,simprocAttr,hb,hx,hy,vY,n1,n2,zk,gu,List.length_set] at h))))|omega|((first|refine aa hX hC hP (IG) rfl rfl rfl (by simp only [go_sem,simprocAttr,hb,hx,hy,vY,n1,n2,zk,gu,List.length_set]) rfl ?_);try simp only [go_sem,simprocAttr,hb,hx,hy,vY,n1,n2,zk,gu,List.length_set])|(intro h)))
   all_goals (refine ⟨k+1,by omega, ?_,by omega⟩)
   all_goals (rw [cO])
   all_goals (refine Le.of ?_ ?_<;>simp [go_sem,simprocAttr,hb,hx,hy,vY,n1,n2,zk,gu,List.length_set])
  |false=>
   rw [if_neg (by simp)] at n2 cO
   have ic:decide (A.getD y 0≠A.getD y 0)=false:=decide_eq_false fun h=>h rfl
   rw [ic] at n2 cO
   clear fV
   cases m1<;>cases d1<;>simp only [Bool.or_false,Bool.or_true,Bool.false_or,Bool.true_or] at cO
   all_goals (repeat' (first|((first|((with_reducible (first|apply oA|apply oB));exact rfl;intro K hK)|(refine hK _ ?_;clear hK K)|((with_reducible (first|apply oG|apply oH));iterate 3 exact rfl)|((with_reducible apply oI);(iterate 2 exact rfl);intro K hK)|(with_reducible (first|apply wI|apply wJ|apply wK)));try simp only [go_sem,simprocAttr,hb,hx,hy,vY,n1,n2,zk,gu,List.length_set])|(with_reducible (first|apply oC|apply oJ|exact oK|apply wA|apply wB|apply wC hX hC|apply wD hX hC|apply wE hX hC af|apply wF hX hC af|apply wG|apply wH|apply And.intro))|((with_reducible refine oD ?_ ?_);kernel_rfl)|((with_reducible (first|apply oE|apply oF));(iterate 3 exact rfl);all_goals (intro h;first|(exact absurd h (by decide))|((try simp only [go_sem,simprocAttr,hb,hx,hy,vY,n1,n2,zk,gu,List.length_set] at h);(try with_reducible intro K hK);simp only [go_sem,simprocAttr,hb,hx,hy,vY,n1,n2,zk,gu,List.length_set])))|((first|((with_reducible apply wL);exact rfl)|((with_reducible apply wM);exact rfl));all_goals (try ((with_reducible intro h);first|(exact absurd h (by decide))|(try simp only [go_sem,simprocAttr,hb,hx,hy,vY,n1,n2,zk,gu,List.length_set] at h))))|omega|((first|refine aa hX hC hP (IG) rfl rfl rfl (by simp only [go_sem,simprocAttr,hb,hx,hy,vY,n1,n2,zk,gu,List.length_set]) rfl ?_);try simp only [go_sem,simprocAttr,hb,hx,hy,vY,n1,n2,zk,gu,List.length_set])|(intro h)))
   all_goals (refine ⟨k+1,by omega, ?_,by omega⟩)
   all_goals (rw [cO])
   all_goals (refine Le.of ?_ ?_<;>simp [go_sem,simprocAttr,hb,hx,hy,vY,n1,n2,zk,gu,List.length_set])
theorem ve {l:List Nat} :∀r∈l.map rU,∀x∈r,∃v,x=D.sc v:=by
 intro r hr x hx
 obtain ⟨y,_,rfl⟩:=List.mem_map.1 hr
 simp only [rU,List.mem_singleton] at hx
 exact ⟨_,hx⟩
theorem As (i:Nat):Spec Tryz.prog 66 (Args [eN i]) [] (eB true) []:=by
 (refine Spec.intro (C:=T.cfg [] []) (rs:= [.t 2]) (T.ai _ _) Tryz.func66 rfl rfl Tryz.ntmps66 Tryz.results66 (by simp [AObj.isNest]) (by simp [AObj.isNest]) (by kernel_rfl) ?_;intro X hX hP hC aG aH vals hA;refine ⟨_,by simp,hA, ?_⟩;have af:X.P.follows .mixedOrders=true:=(by rw [hP];exact T.mixed);clear aG aH)
 repeat' (first|((first|((with_reducible (first|apply oA|apply oB));exact rfl;intro K hK)|(refine hK _ ?_;clear hK K)|((with_reducible (first|apply oG|apply oH));iterate 3 exact rfl)|((with_reducible apply oI);(iterate 2 exact rfl);intro K hK)|(with_reducible (first|apply wI|apply wJ|apply wK)));try simp only [go_sem,simprocAttr])|(with_reducible (first|apply oC|apply oJ|exact oK|apply wA|apply wB|apply wC hX hC|apply wD hX hC|apply wE hX hC af|apply wF hX hC af|apply wG|apply wH|apply And.intro))|((with_reducible refine oD ?_ ?_);kernel_rfl)|((with_reducible (first|apply oE|apply oF));(iterate 3 exact rfl);all_goals (intro h;first|(exact absurd h (by decide))|((try simp only [go_sem,simprocAttr] at h);(try with_reducible intro K hK);simp only [go_sem,simprocAttr])))|((first|((with_reducible apply wL);exact rfl)|((with_reducible apply wM);exact rfl));all_goals (try ((with_reducible intro h);first|(exact absurd h (by decide))|(try simp only [go_sem,simprocAttr] at h))))|omega|((first|refine aa hX hC hP (IG) rfl rfl rfl (by simp only [go_sem,simprocAttr]) rfl ?_);try simp only [go_sem,simprocAttr])|(intro h))
theorem CN {g:Gr} (hm:aN g=true) {both:Bool} {c:Nat→Bool} :C0 g both c (jw g):=by
 have he:jw g=qo g.n.toNat:=by unfold jw;rw [if_pos hm]
 have zT:∀x,x<g.n.toNat→(qo g.n.toNat).getD x 0=2 ^ x:=fun x hx=>by simp [qo,List.getD_eq_getElem?_getD,List.getElem?_range hx]
 rw [he]
 refine ⟨tZ,fun x hx=>by rw [zT x hx,Nat.testBit_two_pow_self],fun x y hx hb=> ?_⟩
 rw [zT x hx,Nat.testBit_two_pow] at hb
 have:x=y:=of_decide_eq_true hb
 subst this
 exact ⟨hx, .refl⟩
noncomputable def zm (g:Gr):List Nat:=if aN g=true then Fp g false (fun _=>true) else []
theorem vG (g:Gr) (hl:g.es.length≤9223372036854775807):Spec Tryz.prog 25 (Args [eG g]) [] (.d (sU (zm g))) []:=by
 have hE:=Ap g hl
 cases hm:aN g with
 |false=>
  have he:jw g= []:=by unfold jw;rw [hm];rfl
  have hf:zm g= []:=by unfold zm;rw [hm];rfl
  rw [he] at hE
  rw [hf]
  (refine Spec.intro (C:=T.cfg [] []) (rs:= [.t 2]) (T.ai _ _) Tryz.func25 rfl rfl Tryz.ntmps25 Tryz.results25 (by simp [AObj.isNest]) (by simp [AObj.isNest]) (by kernel_rfl) ?_;intro X hX hP hC aG aH vals hA;refine ⟨_,by simp,hA, ?_⟩;have af:X.P.follows .mixedOrders=true:=(by rw [hP];exact T.mixed);clear aG aH)
  repeat' (first|((first|((with_reducible (first|apply oA|apply oB));exact rfl;intro K hK)|(refine hK _ ?_;clear hK K)|((with_reducible (first|apply oG|apply oH));iterate 3 exact rfl)|((with_reducible apply oI);(iterate 2 exact rfl);intro K hK)|(with_reducible (first|apply wI|apply wJ|apply wK)));try simp only [go_sem,simprocAttr])|(with_reducible (first|apply oC|apply oJ|exact oK|apply wA|apply wB|apply wC hX hC|apply wD hX hC|apply wE hX hC af|apply wF hX hC af|apply wG|apply wH|apply And.intro))|((with_reducible refine oD ?_ ?_);kernel_rfl)|((with_reducible (first|apply oE|apply oF));(iterate 3 exact rfl);all_goals (intro h;first|(exact absurd h (by decide))|((try simp only [go_sem,simprocAttr] at h);(try with_reducible intro K hK);simp only [go_sem,simprocAttr])))|((first|((with_reducible apply wL);exact rfl)|((with_reducible apply wM);exact rfl));all_goals (try ((with_reducible intro h);first|(exact absurd h (by decide))|(try simp only [go_sem,simprocAttr] at h))))|omega|((first|(refine kI hX hC hP 5 (hE) rfl rfl rfl ?_ ?_ (by first|exact ⟨_,_,_,rfl,u9⟩|exact ⟨_,_,_,rfl,va⟩|exact ⟨_,_,_,rfl,ve⟩) rfl (by decide) ?_;(iterate 2 (focus (simp only [go_sem,simprocAttr];done)));simp only [go_sem,simprocAttr]));try simp only [go_sem,simprocAttr])|(intro h))
 |true=>
  have hn:=aL hm
  have he:(jw g).length=g.n.toNat:=by unfold jw;rw [if_pos hm];exact tZ
  have hf:zm g=Fp g false (fun _=>true):=by unfold zm;rw [if_pos hm]
  have hG:=Aq g hm false (fun _=>true) 66 (fun i _=>As i) (jw g) (CN hm)
  have hb:decide ((g.n.toNat:Int)=0)=false:=decide_eq_false (by omega)
  rw [hf]
  generalize jw g=U at hE he hG
  (refine Spec.intro (C:=T.cfg [] []) (rs:= [.t 2]) (T.ai _ _) Tryz.func25 rfl rfl Tryz.ntmps25 Tryz.results25 (by simp [AObj.isNest]) (by simp [AObj.isNest]) (by kernel_rfl) ?_;intro X hX hP hC aG aH vals hA;refine ⟨_,by simp,hA, ?_⟩;have af:X.P.follows .mixedOrders=true:=(by rw [hP];exact T.mixed);clear aG aH)
  repeat' (first|((first|((with_reducible (first|apply oA|apply oB));exact rfl;intro K hK)|(refine hK _ ?_;clear hK K)|((with_reducible (first|apply oG|apply oH));iterate 3 exact rfl)|((with_reducible apply oI);(iterate 2 exact rfl);intro K hK)|(with_reducible (first|apply wI|apply wJ|apply wK)));try simp only [go_sem,simprocAttr,he,hb])|(with_reducible (first|apply oC|apply oJ|exact oK|apply wA|apply wB|apply wC hX hC|apply wD hX hC|apply wE hX hC af|apply wF hX hC af|apply wG|apply wH|apply And.intro))|((with_reducible refine oD ?_ ?_);kernel_rfl)|((with_reducible (first|apply oE|apply oF));(iterate 3 exact rfl);all_goals (intro h;first|(exact absurd h (by decide))|((try simp only [go_sem,simprocAttr,he,hb] at h);(try with_reducible intro K hK);simp only [go_sem,simprocAttr,he,hb])))|((first|((with_reducible apply wL);exact rfl)|((with_reducible apply wM);exact rfl));all_goals (try ((with_reducible intro h);first|(exact absurd h (by decide))|(try simp only [go_sem,simprocAttr,he,hb] at h))))|omega|((first|(refine kI hX hC hP 5 (hE) rfl rfl rfl ?_ ?_ (by first|exact ⟨_,_,_,rfl,u9⟩|exact ⟨_,_,_,rfl,va⟩|exact ⟨_,_,_,rfl,ve⟩) rfl (by decide) ?_;(iterate 2 (focus (simp only [go_sem,simprocAttr,he,hb];done)));simp only [go_sem,simprocAttr,he,hb])|(refine aB hX hC hP [(10000,5)] (hG) rfl rfl rfl ?_ ?_ ?_ ?_ ?_ ?_ ?_ ?_ ?_ ?_ ?_ ?_ ?_ ?_;(focus (simp only [go_sem,simprocAttr,he,hb];done));(iterate 12 (focus (simp [go_sem,simprocAttr,he,hb];done)));simp only [go_sem,simprocAttr,he,hb,List.map_cons,List.map_nil]));try simp only [go_sem,simprocAttr,he,hb])|(intro h))
end Go.Ab
end
section
namespace Go.Ab
open Go.Proofs
set_option maxRecDepth 10000
set_option linter.unusedSectionVars false
theorem Ib {G:Gr} {P:PS} {A B:Int→Int} (hm:aN G=true) (hl:G.es.length=P.m) (ht:∀i:Nat,i<P.m→tl G i=A i) (hh:∀i:Nat,i<P.m→hd G i=B i) {x:Nat} {y:Int} :
 P.Lp A B x y↔0≤y∧xu G false (fun _=>true) x y.toNat:=by
 constructor
 ·intro hp
  induction hp with
  |refl=>exact ⟨by omega,by simp only [Int.toNat_natCast];exact .refl⟩
  | @step e _ he ih=>
    have h1:=he.1;have h2:=he.2
    have hi:e.toNat<G.es.length:=by omega
    have e1:=ht e.toNat (by omega)
    have e2:=hh e.toNat (by omega)
    rw [show ((e.toNat:Nat):Int)=e by omega] at e1 e2
    have:=cm hm hi
    rw [← e2]
    refine ⟨this.1, .fwd hi rfl ?_⟩
    rw [e1];exact ih.2
 ·rintro ⟨h0,hr⟩
  have key:∀z,xu G false (fun _=>true) x z→P.Lp A B x (z:Int):=by
   intro z hz
   induction hz with
   |refl=>exact .refl
   | @fwd i hi _ _ ih=>
     have h1:=bS hm hi
     have h2:=cm hm hi
     rw [show (((tl G i).toNat:Nat):Int)=tl G i by omega,ht i (by omega)] at ih
     rw [show (((hd G i).toNat:Nat):Int)=hd G i by omega,hh i (by omega)]
     exact .step (e:=(i:Int)) ih ⟨by omega,by omega⟩
   |Kk _ _ h _ _=>cases h
  have:=key _ hr
  rwa [show ((y.toNat:Nat):Int)=y by omega] at this
theorem xw {P:PS} {x y:Int} :P.ku x y↔P.Lp P.tl P.hd x y:=by
 constructor<;>intro hp
 ·induction hp with
  |refl=>exact .refl
  |step _ he ih=>exact .step ih he
 ·induction hp with
  |refl=>exact .refl
  |step _ he ih=>exact .step ih he
def uE (s:Nat) (x:Int):Bool:=decide (0≤x)&&decide (x<64)&&s.testBit x.toNat
theorem xx {G:Gr} {P:PS} {A B:Int→Int} (hm:aN G=true) (hl:G.es.length=P.m) (ht:∀i:Nat,i<P.m→tl G i=A i) (hh:∀i:Nat,i<P.m→hd G i=B i) {x y:Int} (hx:0≤x∧x<G.n) (hy:0≤y∧y<G.n):
 uE ((zm G).getD x.toNat 0) y=true↔P.Lp A B x y:=by
 have hn:=aL hm
 have h1:=Ib hm hl ht hh (x:=x.toNat) (y:=y)
 rw [show ((x.toNat:Nat):Int)=x by omega] at h1
 rw [h1]
 unfold uE zm
 rw [if_pos hm,An (by omega)]
 simp only [Bool.and_eq_true,decide_eq_true_eq,Bp]
 constructor
 ·exact fun h=>⟨hy.1,h.2.2⟩
 ·exact fun h=>⟨⟨hy.1,by omega⟩,by omega,h.2⟩
theorem xy {G:Gr} (hm:aN G=true):(zm G).length=G.n.toNat:=by
 unfold zm;rw [if_pos hm];exact rL
theorem EZ {G:Gr} (hm:aN G=true) {x:Nat} :(zm G).getD x 0<18446744073709551616:=by
 have hn:=aL hm
 by_cases hx:x<G.n.toNat
 ·unfold zm
  rw [if_pos hm,An hx]
  have:Kl G false (fun _=>true) x<2 ^ G.n.toNat:=Gp
  exact Nat.lt_of_lt_of_le this (Nat.pow_le_pow_right (by decide) (show G.n.toNat≤64 by omega))
 ·rw [List.getD_eq_getElem?_getD,List.getElem?_eq_none (by rw [xy hm];omega)];decide
section
variable {P:PS} (h:P.Ok) {L R:Int→Int} {f0 f1:Int} {low:Int→Int} (F:P.eX L R f0 f1 low)
def Pt (P:PS) (R:Int→Int) (f:Int):Nat→Nat
 |0=>0
 |j+1=>if R (P.sh j)=f then j+1 else Pt P R f j
include h F
end
section
variable (g:Gr) (p:Pl)
def y4:Gr:=⟨(cN g p:Int)+1,(List.range g.es.length).map fun i:Nat=>(Lf g p i,Rf g p i)⟩
end
section
variable {g:Gr} {p:Pl}
theorem xz:(y4 g p).es.length=g.es.length:=by simp [y4]
theorem Ic {i:Nat} (hi:i<g.es.length):tl (y4 g p) i=Lf g p i:=by
 show ((y4 g p).es.getD i (0,0)).1=_
 simp [y4,List.getD_eq_getElem?_getD,List.getElem?_range hi]
theorem Ie {i:Nat} (hi:i<g.es.length):hd (y4 g p) i=Rf g p i:=by
 show ((y4 g p).es.getD i (0,0)).2=_
 simp [y4,List.getD_eq_getElem?_getD,List.getElem?_range hi]
variable (h:bA g p) (hI:kz g=true)
include h hI
theorem Br (h0:0<g.es.length) (hl:g.es.length≤60):aN (y4 g p)=true:=by
 have he:=Ki h hI
 have hn:=Ia h hI h0
 unfold aN
 have hn:(y4 g p).n=(cN g p:Int)+1:=rfl
 rw [xz,hn]
 simp only [Bool.and_eq_true,decide_eq_true_eq,Bool.not_eq_true',List.any_eq_false]
 refine ⟨⟨⟨by omega,by omega⟩,by omega⟩,fun e hm=> ?_⟩
 obtain ⟨i,hi,rfl⟩:=List.mem_map.1 hm
 have hi:=List.mem_range.1 hi
 have h1:=GX h hI (e:=(i:Int)) (by omega)
 have h2:=EX h hI (e:=(i:Int)) (by omega)
 simp only [oT,uu,hn,Bool.or_eq_true,decide_eq_true_eq]
 omega
end
end Go.Ab
end
section
namespace Go.Ab
open Go.Proofs
set_option maxRecDepth 10000
set_option linter.unusedSectionVars false
def vH (g:Gr) (p:Pl) (rev:Bool) (v:Int):Int:=(cI g p rev g.n.toNat).getD v.toNat 0
theorem Gt {P Q:PS} {A B:Int→Int} {x y:Int} (hm:P.m=Q.m) (hp:P.Lp A B x y):Q.Lp A B x y:=by
 induction hp with
 |refl=>exact .refl
 | @step e _ he ih=>exact .step ih ⟨he.1,by have:=he.2;rw [hm] at this;exact this⟩
theorem Gu {P Q:PS} {A B:Int→Int} {x y:Int} (hm:P.m=Q.m) (hp:P.Lp A B x y):Q.Lp B A y x:=by
 induction hp with
 |refl=>exact .refl
 | @step e _ he ih=>exact PS.Lp.trans (PS.Lp.step (L:=B) (R:=A) (e:=e) .refl ⟨he.1,by have:=he.2;rw [hm] at this;exact this⟩) ih
section
variable {g:Gr} {p:Pl} (h:bA g p)
include h
theorem pg (rev:Bool) {v:Int} (hv:ji g v):∃i:Nat,i<g.n.toNat∧(fD g p rev).getD i 0=v∧vH g p rev v=i:=by
 have hm:v∈fD g p rev:=(Cs h rev).mem_iff.2 (dH.2 (by have:=hv.1;have:=hv.2;omega))
 obtain ⟨i,hi,e⟩:=List.mem_iff_getElem.1 hm
 have hl:(fD g p rev).length=g.n.toNat:=yP
 have e2:(fD g p rev).getD i 0=v:=by rw [List.getD_eq_getElem?_getD,List.getElem?_eq_getElem hi];exact e
 refine ⟨i,by omega,e2, ?_⟩
 have:=A4 h rev (k:=g.n.toNat) (Nat.le_refl _) i (by omega)
 rw [e2] at this
 exact this
theorem Bt (rev:Bool) {a b:Int} (ha:ji g a) (hb:ji g b) (e:vH g p rev a=vH g p rev b):a=b:=by
 obtain ⟨i,h1,h2,h3⟩:=pg h rev ha
 obtain ⟨j,g1,g2,g3⟩:=pg h rev hb
 have:i=j:=by omega
 rw [← h2, ← g2,this]
variable (hI:kz g=true)
include hI
theorem Kn {v:Int} (hv:ji g v):v∈((aZ g p).st (aZ g p).m).D:=by
 have ok:=nh h hI
 by_cases hs:v=az p 0
 ·have:=zM ok (j:=0) (x:=v) (d:=(aZ g p).m) (by omega) (by
   show v∈ [az p 0]
   rw [hs];simp)
  rwa [Nat.zero_add] at this
 ·have hn:bh g v≠0:=fun h0=>hs (gl h.1 hv (aI h.2.1 (by have:=aL (au h.1);omega)) h0 (cJ h))
  have hl:=gm h hv
  obtain ⟨a,u,hu⟩:=dX (l:=cG g p v) (fun h0=>by rw [h0] at hl;exact hn hl.symm)
  obtain ⟨h1,h2⟩:=(ok.cD v a).1 (by rw [fF hv,hu];simp)
  have:=sX ok (fe h hI) h1
  rwa [h2] at this
theorem pn {a b:Int} (ha:ji g a) (hb:ji g b) (hlt:vH g p false a<vH g p false b):(aZ g p).LY a b:=by
 have ok:=nh h hI
 have hn:=aL (au h.1)
 obtain ⟨ia,a1,a2,a3⟩:=pg h false ha
 obtain ⟨ib,b1,b2,b3⟩:=pg h false hb
 have fG:∀k,k≤g.n.toNat→(aQ g p false k).pl=(fD g p false).take k:=fun k hk=>by
  rw [xh,fD, ← List.map_take,List.take_range,Nat.min_eq_left hk]
 have hl:(fD g p false).length=g.n.toNat:=yP
 have bT:(fD g p false).Nodup:=nS (mI h false).2.1
 have hidx:∀i k,i<g.n.toNat→k≤g.n.toNat→(fD g p false).getD i 0∈(fD g p false).take k→i<k:=fun i k hi hk hm=>by
  obtain ⟨j,hj,e⟩:=List.mem_iff_getElem.1 hm
  rw [List.length_take] at hj
  rw [List.getElem_take,List.getD_eq_getElem?_getD,List.getElem?_eq_getElem (by omega)] at e
  have:=(List.getElem_inj bT).1 e
  omega
 by_cases hs:a=az p 0
 ·refine ⟨0,Nat.zero_le _, ?_,fun an=> ?_⟩
  ·show a∈ [az p 0]
   rw [hs];simp
  ·have an:b∈ [az p 0]:=an
   have:b=a:=by rw [hs];simpa using an
   rw [this] at hlt;omega
 ·obtain ⟨i,A',B,k1,k2,k3,k4,k5,k6,k7⟩:=mG ok (fe h hI) (show a≠(aZ g p).src from hs) (Nat.le_refl _) (Kn h hI ha)
  refine ⟨i+1,k1,by rw [k7];simp,fun an=> ?_⟩
  obtain ⟨k,g1,g2,g3,_⟩:=tU h hI (j:=i+1) k1
  obtain ⟨k',Jb,Kz,GF,_⟩:=tU h hI (j:=i) (Nat.le_of_lt k1)
  have hlk:=(e9 h false (k:=k) g2).2.1
  have Ko:=(e9 h false (k:=k') Kz).2.1
  rw [g3,k7] at hlk
  rw [GF] at Ko
  have hkk:k=k'+1:=by rw [← hlk, ← Ko];simp
  have Qf:¬ia<k':=fun hc=>k2 (by
   rw [← GF,fG k' Kz, ← a2]
   rw [List.getD_eq_getElem?_getD,List.getElem?_eq_getElem (by omega)]
   exact List.mem_iff_getElem.2 ⟨ia,by rw [List.length_take];omega,by rw [List.getElem_take];rfl⟩)
  have hib:=hidx ib k b1 g2 (by rw [b2, ← fG k g2,g3];exact an)
  omega
theorem Bu:∀ {k:Nat},k<g.n.toNat→(aZ g p).ku (az p 0) (az p k):=by
 intro k
 induction k using Nat.strongRecOn with
 |_ k ih=>
  intro hk
  by_cases h0:k=0
  ·subst h0;exact .refl
  ·have hx:=aI h.2.1 hk
   have hn:bh g (az p k)≠0:=fun h1=>by
    have:=gl h.1 hx (aI h.2.1 (k:=0) (by omega)) h1 (cJ h)
    exact h0 (cP h.2.1 hk (by omega) this)
   have hl:=gm h hx
   obtain ⟨a,u,hu⟩:=dX (l:=cG g p (az p k)) (fun h1=>by rw [h1] at hl;exact hn hl.symm)
   obtain ⟨j,hj,et⟩:=tS h hk (a:=a) (by rw [hu];simp)
   obtain ⟨h1,h2⟩:=((nh h hI).cD (az p k) a).1 (by rw [fF hx,hu];simp)
   have:=ih j hj (by omega)
   have et':(aZ g p).tl a=az p j:=et
   rw [← et'] at this
   rw [← h2]
   exact .step this h1
theorem Bv:∀ {d k:Nat},k+d+1=g.n.toNat→(aZ g p).ku (az p k) (az p (g.n.toNat - 1)):=by
 intro d
 induction d using Nat.strongRecOn with
 |_ d ih=>
  intro k hk
  by_cases h0:d=0
  ·obtain rfl:k=g.n.toNat - 1:=by omega
   exact .refl
  ·have hx:=aI h.2.1 (show k<g.n.toNat by omega)
   have hO:bt p (az p k)≠ []:=fun h1=>by
    have:=(dI h hI hx).1 h1
    have:=cP h.2.1 (show k<g.n.toNat by omega) (by omega) this
    omega
   obtain ⟨e,v,hv⟩:=dX hO
   have he:=iK h (show k<g.n.toNat by omega) (e:=e) (by rw [hv];simp)
   have hh:=cm (au h.1) (i:=e.toNat) (by omega)
   obtain ⟨k',hk',e2⟩:=ec h.2.1 hh.1 hh.2
   have e2:az p k'=CY g e:=e2
   obtain ⟨j,hj,e3⟩:=qf h he.1 hk' e2.symm
   have:j=k:=cP h.2.1 (show j<g.n.toNat by omega) (by omega) (e3.trans he.2)
   have h1:=ih (g.n.toNat - 1 - k') (by omega) (k:=k') (by omega)
   rw [e2] at h1
   have h2:(aZ g p).ku (az p k) ((aZ g p).hd e):= .step (by show (aZ g p).ku (az p k) (qF g e);rw [he.2];exact .refl) he.1
   exact h2.trans h1
theorem y5 {a b:Int} (ha:ji g a) (hb:ji g b) (hab:¬(aZ g p).ku a b) (hba:¬(aZ g p).ku b a):a≠az p 0∧b≠az p 0∧bt p a≠ []∧bt p b≠ []:=by
 obtain ⟨i,hi,rfl⟩:=ec h.2.1 ha.1 ha.2
 obtain ⟨j,hj,rfl⟩:=ec h.2.1 hb.1 hb.2
 refine ⟨fun e=>hab (by rw [e];exact Bu h hI hj),fun e=>hba (by rw [e];exact Bu h hI hi),fun e=>hba ?_,fun e=>hab ?_⟩
 ·rw [(dI h hI ha).1 e];exact Bv h hI (d:=g.n.toNat - 1 - j) (by omega)
 ·rw [(dI h hI hb).1 e];exact Bv h hI (d:=g.n.toNat - 1 - i) (by omega)
theorem E5 {a b:Int} (ha:ji g a) (hb:ji g b) (hab:¬(aZ g p).ku a b) (hba:¬(aZ g p).ku b a) (hlt:vH g p true a<vH g p true b):(aZ g p).F2 (Rf g (cu p)) (Lf g (cu p)) b a:=by
 have hm:=tM h
 have hx:∀v,vH g (cu p) false v=vH g p true v:=fun v=>by
  unfold vH
  have:=yO h true (k:=g.n.toNat) (Nat.le_refl _)
  simp only [Bool.not_true] at this
  rw [this]
 have LZ:=pn hm hI ha hb (by rw [hx,hx];exact hlt)
 have hR:∀ {x y:Int},(aZ g (cu p)).ku x y→(aZ g p).ku x y:=fun hr=>by
  have:=xw.1 hr
  exact xw.2 (Gt (P:=aZ g (cu p)) (Q:=aZ g p) rfl this)
 obtain ⟨n1,n2,n3,n4⟩:=y5 h hI ha hb hab hba
 have hl:(aZ g (cu p)).F2 (Lf g (cu p)) (Rf g (cu p)) a b:=AO (nh hm hI) (fe hm hI) n1 n2 (fun hr=>hab (hR hr)) (fun hr=>hba (hR hr)) (by rw [dr ha,kU];simpa using n3) (by rw [dr hb,kU];simpa using n4) LZ
 obtain ⟨u,e,f,v,h1,h2,h3⟩:=hl
 rw [yZ] at h1 h2
 refine ⟨v.reverse,f,e,u.reverse, ?_, ?_,Gu (P:=aZ g (cu p)) (Q:=aZ g p) rfl h3⟩
 ·have:=congrArg List.reverse h2;simpa using this
 ·have:=congrArg List.reverse h1;simpa using this
theorem Au {a b:Int} (ha:ji g a) (hb:ji g b) (hab:¬(aZ g p).ku a b) (hba:¬(aZ g p).ku b a):(aZ g p).F2 (Lf g p) (Rf g p) a b↔vH g p false a<vH g p false b∧vH g p true b<vH g p true a:=by
 have ok:=nh h hI
 have hne:a≠b:=fun e=>hab (e ▸ .refl)
 obtain ⟨n1,n2,n3,n4⟩:=y5 h hI ha hb hab hba
 constructor
 ·intro hl
  have l1:vH g p false a<vH g p false b:=by
   refine Decidable.byContradiction fun hc=> ?_
   have:vH g p false a≠vH g p false b:=fun e=>hne (Bt h false ha hb e)
   exact wN ok (fe h hI) n2 (pn h hI hb ha (by omega)) hl
  refine ⟨l1, ?_⟩
  refine Decidable.byContradiction fun hc=> ?_
  have:vH g p true a≠vH g p true b:=fun e=>hne (Bt h true ha hb e)
  exact wN ok (CJ h hI) n1 (pn h hI ha hb l1) (E5 h hI ha hb hab hba (by omega))
 ·rintro ⟨l1,_⟩
  exact AO ok (fe h hI) n1 n2 hab hba (by rw [dr ha];exact n3) (by rw [dr hb];exact n4) (pn h hI ha hb l1)
end
end Go.Ab
end
