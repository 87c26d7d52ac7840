/- A part of the proof. -/
import Derived.Test.YtameldglfobjkaaGreatL3P16
set_option linter.unusedSimpArgs false
set_option linter.unusedVariables false
section
namespace Go.Ab
open Go.Proofs
set_option maxRecDepth 10000
set_option linter.unusedSectionVars false
theorem xo {l:List Int} {i j:Nat} {a:Int} (hi:i<l.length):(l.set i a).getD j 0=if j=i then a else l.getD j 0:=by
 rw [List.getD_eq_getElem?_getD,List.getElem?_set]
 by_cases h:i=j
 ·subst h;rw [if_pos rfl,if_pos hi,if_pos rfl];rfl
 ·rw [if_neg h,if_neg (fun e=>h e.symm), ← List.getD_eq_getElem?_getD]
theorem r9 {g:Gr} {st:List Int} {x:Nat} {l:List Int} (hx:x<st.length) {v:Nat} (hv:v≠x):∀ {j:Nat},(ou g st x l j).getD v 0=st.getD v 0
 |0=>rfl
 |j+1=>by rw [ou,xo (by rw [qN];exact hx),if_neg hv];exact r9 hx hv
theorem Ax {g:Gr} {st:List Int} {x:Nat} {l:List Int} (hx:x<st.length) (ht:∀e∈l,(iV g e).toNat≠x):∀ {j:Nat},j≤l.length→(st.getD x 0≤(ou g st x l j).getD x 0)∧(∀i,i<j→st.getD (iV g (l.getD i 0)).toNat 0+1≤(ou g st x l j).getD x 0)∧((ou g st x l j).getD x 0=st.getD x 0∨∃i,i<j∧(ou g st x l j).getD x 0=st.getD (iV g (l.getD i 0)).toNat 0+1)
 |0,_=>⟨Int.le_refl _,fun i hi=>by omega, .inl rfl⟩
 |j+1,hj=>by
  obtain ⟨h1,h2,h3⟩:=Ax hx ht (g:=g) (l:=l) (j:=j) (by omega)
  have e1:(ou g st x l (j+1)).getD x 0=max ((ou g st x l j).getD x 0) (st.getD (iV g (l.getD j 0)).toNat 0+1):=by
   rw [ou,xo (by rw [qN];exact hx),if_pos rfl,r9 hx (ht _ (aB (by omega)))]
  rw [e1]
  refine ⟨by omega,fun i hi=> ?_, ?_⟩
  ·by_cases hij:i=j
   ·subst hij;omega
   ·have:=h2 i (by omega);omega
  ·by_cases hc:(ou g st x l j).getD x 0≤st.getD (iV g (l.getD j 0)).toNat 0+1
   ·exact .inr ⟨j,by omega,by omega⟩
   ·rcases h3 with h3|⟨i,hi,h3⟩
    ·exact .inl (by omega)
    ·exact .inr ⟨i,by omega,by omega⟩
structure Rc (g:Gr) (st:List Int) (D:List Int):Prop where
 out:∀v:Nat,(v:Int)∉D→st.getD v 0=0
 up:∀i,i<g.es.length→hd g i∈D→st.getD (tl g i).toNat 0+1≤st.getD (hd g i).toNat 0
 why:∀v:Nat,(v:Int)∈D→st.getD v 0=0∨∃i,i<g.es.length∧hd g i=v∧st.getD v 0=st.getD (tl g i).toNat 0+1
theorem JX {g:Gr} (hm:aO g=true) (hok:oK g=true):∀ {k:Nat},k≤(bT g).length→Rc g (qY g k) ((bT g).take k)
 |0,_=>⟨fun v _=>by
    rw [qY,List.getD_eq_getElem?_getD,List.getElem?_replicate];split<;>rfl,fun i _ h=>by simp at h,fun v h=>by simp at h⟩
 |k+1,hk=>by
  have ih:=JX hm hok (k:=k) (by omega)
  have LZ:bT g=aN g:=if_pos hok
  have hall:=qz hm hok
  rw [← LZ] at hall
  have hx:=mY hall _ (aB (d:=0) (show k<(bT g).length by omega))
  have NN:Ord g (bT g):=by rw [LZ];exact (eV hm).2.1
  have pK:(bT g).take (k+1)=(bT g).take k++ [(bT g).getD k 0]:=by
   rw [List.take_add_one,List.getD_eq_getElem?_getD,List.getElem?_eq_getElem (by omega)];rfl
  have DO:(bT g).getD k 0∉(bT g).take k:=fun hm2=>by
   obtain ⟨r,hr,e⟩:=List.mem_iff_getElem.1 hm2
   rw [List.length_take] at hr
   rw [List.getElem_take] at e
   have:=jy hall (i:=r) (j:=k) (by omega) (by omega) (by rw [← e,List.getD_eq_getElem?_getD,List.getElem?_eq_getElem (by omega)];rfl)
   omega
  have hlen:=tG (g:=g) (k:=k)
  have pZ:∀q,q≤(bT g).length→∀i,i<g.es.length→hd g i∈(bT g).take q→tl g i∈(bT g).take q:=fun q hq i hi hh=>by
   obtain ⟨r,hr,e⟩:=List.mem_iff_getElem.1 hh
   rw [List.length_take] at hr
   rw [List.getElem_take] at e
   have:=NN r (by omega) i hi (by rw [List.getD_eq_getElem?_getD,List.getElem?_eq_getElem (by omega)];exact e.symm)
   exact (List.take_sublist_take_left (by omega)).subset this
  have Re:∀i,i<g.es.length→hd g i=(bT g).getD k 0→tl g i∈(bT g).take k:=fun i hi hh=>NN k (by omega) i hi hh
  generalize rV:(bT g).getD k 0=xv at*
  obtain ⟨x,rfl⟩:∃x:Nat,xv=x:=⟨xv.toNat,by omega⟩
  have ef:qY g (k+1)=ou g (qY g k) x (aJ (fun e=>e.2) g.es g.es.length (x:Int)) (aJ (fun e=>e.2) g.es g.es.length (x:Int)).length:=by
   rw [qY,rV,Int.toNat_natCast]
  have hxl:x<(qY g k).length:=by omega
  have hl:∀e,e∈aJ (fun e=>e.2) g.es g.es.length (x:Int)↔(0≤e∧e<g.es.length)∧nk g e=x:=fun e=>bG
  have hne:∀y,y∈(bT g).take k→y≠(x:Int):=fun y hy e=>DO (e ▸ hy)
  have htr:=fun i (hi:i<g.es.length)=>bL hm hi
  have Rg:=fun i (hi:i<g.es.length)=>bQ hm hi
  have CM:=Ax (g:=g) (st:=qY g k) (x:=x) (l:=aJ (fun e=>e.2) g.es g.es.length (x:Int)) hxl (fun e he=>by
   obtain ⟨h1,h2⟩:=(hl e).1 he
   have h3:=hne _ (Re e.toNat (by omega) h2)
   have h4:=htr e.toNat (by omega)
   have h5:iV g e=tl g e.toNat:=rfl
   rw [h5];omega) (Nat.le_refl _)
  have BR:∀v:Nat,v≠x→(qY g (k+1)).getD v 0=(qY g k).getD v 0:=fun v hv=>by rw [ef];exact r9 hxl hv
  rw [← ef] at CM
  obtain ⟨s1,s2,s3⟩:=CM
  have hx0:=ih.out x DO
  rw [pK]
  refine ⟨fun v hv=> ?_,fun i hi hh=> ?_,fun v hv=> ?_⟩
  ·rw [List.mem_append,List.mem_singleton] at hv
   rw [BR v (fun e=>hv (.inr (by rw [e]))),ih.out v (fun h=>hv (.inl h))]
  ·have t1:=htr i hi
   have t2:=Rg i hi
   rw [List.mem_append,List.mem_singleton] at hh
   rcases hh with hh|hh
   ·have n1:=hne _ hh
    have n2:=hne _ (pZ k (by omega) i hi hh)
    rw [BR _ (by omega),BR _ (by omega)]
    exact ih.up i hi hh
   ·have n2:=hne _ (Re i hi hh)
    obtain ⟨q,hq,e⟩:=List.mem_iff_getElem.1 ((hl (i:Int)).2 ⟨by omega,hh⟩)
    have h3:=s2 q hq
    have e2:(aJ (fun e=>e.2) g.es g.es.length (x:Int)).getD q 0=(i:Int):=by rw [List.getD_eq_getElem?_getD,List.getElem?_eq_getElem hq];exact e
    rw [e2] at h3
    rw [BR _ (by omega),hh,Int.toNat_natCast]
    exact h3
  ·rw [List.mem_append,List.mem_singleton] at hv
   by_cases Ij:v=x
   ·subst Ij
    rcases s3 with s3|⟨q,hq,s3⟩
    ·exact .inl (s3.trans hx0)
    ·right
     obtain ⟨h1,h2⟩:=(hl _).1 (aB (d:=0) hq)
     have n2:=hne _ (Re _ (by omega) h2)
     have t1:=htr ((aJ (fun e=>e.2) g.es g.es.length (v:Int)).getD q 0).toNat (by omega)
     refine ⟨((aJ (fun e=>e.2) g.es g.es.length (v:Int)).getD q 0).toNat,by omega,h2, ?_⟩
     rw [s3,BR _ (by omega)];rfl
   ·have Bq:(v:Int)∈(bT g).take k:=hv.resolve_right (fun e=>Ij (by omega))
    rw [BR v Ij]
    rcases ih.why v Bq with h1|⟨i,hi,h1,h2⟩
    ·exact .inl h1
    ·right
     have n2:=hne _ (pZ k (by omega) i hi (by rw [h1];exact Bq))
     have t1:=htr i hi
     exact ⟨i,hi,h1,by rw [h2,BR _ (by omega)]⟩
theorem j4 {g:Gr} (hm:aO g=true) (hok:oK g=true):(fU g).length=g.n.toNat∧(∀v:Nat,0≤(fU g).getD v 0)∧(∀i,i<g.es.length→(fU g).getD (tl g i).toNat 0+1≤(fU g).getD (hd g i).toNat 0)∧
 ∀v:Nat,v<g.n.toNat→(fU g).getD v 0=0∨∃i,i<g.es.length∧hd g i=v∧(fU g).getD v 0=(fU g).getD (tl g i).toNat 0+1:=by
 have h1:=JX hm hok (Nat.le_refl (bT g).length)
 rw [List.take_length] at h1
 have LZ:bT g=aN g:=if_pos hok
 have hall:=qz hm hok
 rw [← LZ] at hall
 have hin:∀x:Nat,x<g.n.toNat→(x:Int)∈bT g:=fun x hx=>by
  simp only [gL,Bool.and_eq_true,List.all_eq_true,List.mem_range,decide_eq_true_eq] at hall
  exact hall.2 x hx
 refine ⟨tG,fun v=>(oe v).1,fun i hi=>h1.up i hi ?_,fun v hv=>h1.why v (hin v hv)⟩
 have:=bQ hm hi
 have:=hin (hd g i).toNat (by omega)
 rwa [show (((hd g i).toNat:Nat):Int)=hd g i by omega] at this
end Go.Ab
end
section
namespace Go.Ab
set_option maxRecDepth 10000
set_option linter.unusedSectionVars false
variable {P:PS}
structure PS.Hi (P:PS) (R:Int→Int) (f0 f1:Int) (hi:Int→Int):Prop where
 mid:∀ {x u a b v},P.ins x=u++a::b::v→hi (R a)=x
 h0:hi f0=P.KY
 h1:hi f1=P.KY
def PS.JY (P:PS) (a:Int):Prop:=∃x u b v,P.outs x=u++a::b::v
section
variable (h:P.Ok) {L R:Int→Int} {f0 f1:Int} {low:Int→Int} (F:P.iH L R f0 f1 low)
include h F
theorem PS.Hi.EU {hi:Int→Int} (H:P.Hi R f0 f1 hi):P.EU.Hi L f1 f0 hi:=
 {mid:=fun {x u a b v} e=>by
   have e:=jj (show (P.ins x).reverse=_ from e)
   rw [← F.lN e];exact H.mid e
  h0:=H.h1
  h1:=H.h0}
theorem G0 {a:Int} (ha:P.JY a):P.E a∧low (R a)=P.tl a∧R a≠f0∧R a≠f1:=by
 obtain ⟨x,u,b,v,e⟩:=ha
 obtain ⟨h1,h2⟩:=(h.bE x a).1 (by rw [e];simp)
 obtain ⟨h3,h4,h5⟩:=F.new e
 exact ⟨h1,by rw [h3,h2],h4,h5⟩
theorem xq {e:Int} (he:P.E e) (hs:P.tl e≠P.src):P.ins (P.tl e)≠ []:=by
 obtain ⟨i,hi,rfl⟩:=eM h he
 obtain ⟨k,hr⟩:=pF h (Nat.le_of_lt hi)
 obtain ⟨B,hB⟩:=eC h hi
 have hm:=(h.dP hr (P.sh i)).1 (by rw [hB];simp)
 obtain ⟨j,B,_,_,_,⟨u,hu⟩,_⟩:=rO h F hs (Nat.le_of_lt hi) hm.2.1
 rw [hu];simp
variable {L' R':Int→Int} {Sy Sz:Int} {low':Int→Int} (F':P.iH L' R' Sy Sz low')
include F'
theorem G3:∀ {d:Nat} {e:Int},P.Ig (P.tl e)<d→P.E e→(R e=f1∧R' e=Sz)∨∃a,P.JY a∧P.Ig (P.tl a)≤P.Ig (P.tl e)∧R e=R a∧R' e=R' a
 |0,e,hd,_=>by omega
 |d+1,e,hd,he=>by
  have hem:=(h.bE (P.tl e) e).2 ⟨he,rfl⟩
  obtain ⟨u,v,hu⟩:=List.append_of_mem hem
  cases v with
  |cons b v=>exact .inr ⟨e,⟨_,u,b,v,hu⟩,Nat.le_refl _,rfl,rfl⟩
  |nil=>
   by_cases hs:P.tl e=P.src
   ·rw [hs] at hu
    exact .inl ⟨F.s1 hu,F'.s1 hu⟩
   ·obtain ⟨w,c,hw⟩:=cG (xq h F he hs)
    have e1:=F.EV hw hu
    have e2:=F'.EV hw hu
    obtain ⟨hc,hh⟩:=(h.bW (P.tl e) c).1 (by rw [hw];simp)
    have hp:=h.rK c hc
    rw [hh] at hp
    rw [← e1, ← e2]
    rcases G3 (d:=d) (e:=c) (by omega) hc with h1|⟨a,h1,h2,h3⟩
    ·exact .inl h1
    ·exact .inr ⟨a,h1,by omega,h3⟩
theorem JZ:∀ {d:Nat} {e:Int},P.Ig (P.tl e)<d→P.E e→(L e=f0∧L' e=Sy)∨∃a,P.JY a∧L e=R a∧L' e=R' a
 |0,e,hd,_=>by omega
 |d+1,e,hd,he=>by
  have hem:=(h.bE (P.tl e) e).2 ⟨he,rfl⟩
  obtain ⟨u,v,hu⟩:=List.append_of_mem hem
  rcases List.eq_nil_or_concat u with rfl|⟨u',b,rfl⟩
  ·by_cases hs:P.tl e=P.src
   ·rw [hs] at hu
    exact .inl ⟨F.s0 hu,F'.s0 hu⟩
   ·obtain ⟨c,w,hw⟩:=fM (xq h F he hs)
    have e1:=F.fst hw hu
    have e2:=F'.fst hw hu
    obtain ⟨hc,hh⟩:=(h.bW (P.tl e) c).1 (by rw [hw];simp)
    have hp:=h.rK c hc
    rw [hh] at hp
    rw [← e1, ← e2]
    exact JZ (d:=d) (e:=c) (by omega) hc
  ·have hu:P.outs (P.tl e)=u'++b::e::v:=by rw [hu];simp
   exact .inr ⟨b,⟨_,u',e,v,hu⟩,(F.fk hu).symm,(F'.fk hu).symm⟩
end
section
variable (h:P.Ok) {L R:Int→Int} {f0 f1:Int} {low:Int→Int} (F:P.iH L R f0 f1 low)
include h F
theorem xu {x:Int} (hx:x≠P.src):∀ {j:Nat},j≤P.m→x∈(P.st j).D→∃i A' B,i<j∧x∉(P.st i).D∧P.hd (P.sh i)=x∧(P.st i).B=P.sh i::B∧(P.st i).A++ [P.sh i]=A'++P.ins x∧P.ins x≠ []∧P.st (i+1)=⟨A',P.outs x++B,(P.st i).D++ [x]⟩
 |0,_,hm=>by
  have:x∈ [P.src]:=hm
  simp at this;exact absurd this hx
 |j+1,hj,hm=>by
  by_cases hp:x∈(P.st j).D
  ·obtain ⟨i,A',B,h1,h2⟩:=xu hx (j:=j) (by omega) hp
   exact ⟨i,A',B,by omega,h2⟩
  ·obtain ⟨B,hB,hc⟩:=nW h (show j<P.m by omega)
   rcases hc with ⟨A',h1,h2,h3⟩|⟨h1,h3⟩
   ·rw [h3] at hm
    rcases List.mem_append.1 hm with hm|hm
    ·exact absurd hm hp
    ·rw [List.mem_singleton] at hm
     subst hm
     exact ⟨j,A',B,by omega,hp,rfl,hB,h1,h2,h3⟩
   ·rw [h3] at hm;exact absurd hm hp
variable {hi:Int→Int} (H:P.Hi R f0 f1 hi)
include H
theorem G4 (hm:0<P.m) (hl:low f1=P.src) {k:Int} (hk:k=f1∨∃a,P.JY a∧R a=k):∃e,P.E e∧R e=k∧P.tl e=low k:=by
 rcases hk with rfl|⟨a,ha,rfl⟩
 ·obtain ⟨B,hB⟩:=eC h hm
  have hB:P.outs P.src=P.sh 0::B:=hB
  obtain ⟨v,b,hv⟩:=cG (l:=P.outs P.src) (by rw [hB];simp)
  obtain ⟨h1,h2⟩:=(h.bE P.src b).1 (by rw [hv];simp)
  exact ⟨b,h1,F.s1 hv,by rw [hl,h2]⟩
 ·have:=G0 h F ha
  exact ⟨a,this.1,rfl,this.2.1.symm⟩
end
def Rh (t h:Int→Int) (l:List Int) (x:Int):Int:=match l.find? (fun i=>decide (t i=x)) with
 |some i=>h i
 |none=>x
def Ri (t h:Int→Int) (l:List Int) (x:Int):Nat→Int
 |0=>x
 |k+1=>Rh t h l (Ri t h l x k)
section
variable (h:P.Ok) {L R:Int→Int} {f0 f1:Int} {low:Int→Int} (F:P.iH L R f0 f1 low) {hi:Int→Int} (H:P.Hi R f0 f1 hi)
include h F H
end
end Go.Ab
end
section
namespace Go.Ab
open Go.Proofs
set_option maxRecDepth 10000
set_option linter.unusedSectionVars false
section
variable (g:Gr) (p:Pl)
def cK:Nat→Nat
 |0=>1
 |k+1=>cK k+((bn p (aj p k)).length - 1)
def La (e:Int):Nat:=(bn p (iV g e)).findIdx (fun i=>decide (i=e))
def fH (x:Int):Int:=(b8 g p x).headD 0
def oO (x:Int):Int:=(b8 g p x).getLastD 0
def LK:Nat→Int→Int
 |0,_=>0
 |k+1,e=>if iV g e=aj p k then (if La g p e=0 then (if k=0 then 0 else LK k (fH g p (aj p k))) else (cK p k:Int)+La g p e - 1) else LK k e
def RK (r:Int):Nat→Int→Int
 |0,_=>0
 |k+1,e=>if iV g e=aj p k then (if La g p e+1<(bn p (aj p k)).length then (cK p k:Int)+La g p e else (if k=0 then r else RK r k (oO g p (aj p k)))) else RK r k e
def iO:Nat→List Int
 |0=> [aj p 0]
 |k+1=>iO k++List.replicate ((bn p (aj p k)).length - 1) (aj p k)
end
section
variable {g:Gr} {p:Pl}
theorem gO:∀ {k:Nat},(iO p k).length=cK p k
 |0=>rfl
 |k+1=>by rw [iO,List.length_append,List.length_replicate,gO,cK]
theorem nv:∀ {k:Nat},0<cK p k
 |0=>by simp [cK]
 |k+1=>by rw [cK];have:= @nv k;omega
theorem og {k:Nat} :∀ {d:Nat},cK p k≤cK p (k+d)
 |0=>Nat.le_refl _
 |d+1=>by
  have:= @og k d
  show _≤cK p (k+d+1)
  rw [cK];omega
theorem xw {k:Nat} {f:Nat} (hf:f<cK p k):∀ {d:Nat},(iO p (k+d)).getD f 0=(iO p k).getD f 0
 |0=>rfl
 |d+1=>by
  show (iO p (k+d+1)).getD f 0=_
  have:=og (p:=p) (k:=k) (d:=d)
  rw [iO,List.getD_eq_getElem?_getD,List.getElem?_append_left (by rw [gO];omega), ← List.getD_eq_getElem?_getD,xw hf]
theorem G5 {k f:Nat} (h1:cK p k≤f) (h2:f<cK p (k+1)):(iO p (k+1)).getD f 0=aj p k:=by
 rw [iO,List.getD_eq_getElem?_getD,List.getElem?_append_right (by rw [gO];exact h1),List.getElem?_replicate,gO,if_pos (by rw [cK] at h2;omega)]
 rfl
variable (h:bH g p)
include h
theorem pQ {k:Nat} (hk:k<g.n.toNat) {u v:List Int} {e:Int} (he:bn p (aj p k)=u++e::v):iV g e=aj p k∧La g p e=u.length:=by
 have hx:=aF h.2.1 hk
 have px:=bN h.2.1 hx.1 hx.2
 have h1:=(bG.1 (px.mem_iff.1 (show e∈bn p (aj p k) by rw [he];simp))).2
 have h1:iV g e=aj p k:=h1
 refine ⟨h1, ?_⟩
 have cC:(bn p (aj p k)).Nodup:=px.nodup_iff.2 cq
 unfold La
 rw [h1,he]
 rw [he,List.nodup_append] at cC
 rw [List.findIdx_append]
 have h2:u.findIdx (fun i=>decide (i=e))=u.length:=by
  rw [List.findIdx_eq_length]
  intro i hi
  exact decide_eq_false fun e2=>cC.2.2 i hi e (by simp) e2
 rw [h2,if_neg (by omega)]
 simp [List.findIdx_cons]
theorem CY {e:Int} {k:Nat} (hk:k<g.n.toNat) (he:iV g e=aj p k):∀ {d:Nat},k+1+d≤g.n.toNat→LK g p (k+1+d) e=LK g p (k+1) e
 |0,_=>rfl
 |d+1,hd=>by
  show LK g p (k+1+d+1) e=_
  rw [LK,if_neg (fun e2=>by have:=cZ h.2.1 hk (show k+1+d<g.n.toNat by omega) (he.symm.trans e2);omega),CY hk he (by omega)]
theorem CZ {r:Int} {e:Int} {k:Nat} (hk:k<g.n.toNat) (he:iV g e=aj p k):∀ {d:Nat},k+1+d≤g.n.toNat→RK g p r (k+1+d) e=RK g p r (k+1) e
 |0,_=>rfl
 |d+1,hd=>by
  show RK g p r (k+1+d+1) e=_
  rw [RK,if_neg (fun e2=>by have:=cZ h.2.1 hk (show k+1+d<g.n.toNat by omega) (he.symm.trans e2);omega),CZ hk he (by omega)]
theorem nw {e:Int} {k:Nat} (hk:k<g.n.toNat) (he:iV g e=aj p k) {j:Nat} (h1:k+1≤j) (h2:j≤g.n.toNat):LK g p j e=LK g p (k+1) e:=by
 obtain ⟨d,rfl⟩:=Nat.exists_eq_add_of_le h1
 exact CY h hk he h2
theorem fC {r:Int} {e:Int} {k:Nat} (hk:k<g.n.toNat) (he:iV g e=aj p k) {j:Nat} (h1:k+1≤j) (h2:j≤g.n.toNat):RK g p r j e=RK g p r (k+1) e:=by
 obtain ⟨d,rfl⟩:=Nat.exists_eq_add_of_le h1
 exact CZ h hk he h2
theorem yN {k:Nat} (hk:k<g.n.toNat) {v:List Int} {e:Int} (he:bn p (aj p k)=e::v) {j:Nat} (h1:k+1≤j) (h2:j≤g.n.toNat):LK g p j e=if k=0 then 0 else LK g p k (fH g p (aj p k)):=by
 obtain ⟨a,b⟩:=pQ h hk (u:= []) he
 rw [nw h hk a h1 h2,LK,if_pos a,if_pos (show La g p e=0 from b)]
theorem C0 {k:Nat} (hk:k<g.n.toNat) {u v:List Int} {e:Int} (he:bn p (aj p k)=u++e::v) (hu:u≠ []) {j:Nat} (h1:k+1≤j) (h2:j≤g.n.toNat):LK g p j e=(cK p k:Int)+u.length - 1:=by
 obtain ⟨a,b⟩:=pQ h hk he
 have:=List.length_pos_iff.2 hu
 rw [nw h hk a h1 h2,LK,if_pos a,if_neg (by omega),b]
theorem vn {r:Int} {k:Nat} (hk:k<g.n.toNat) {u:List Int} {e:Int} (he:bn p (aj p k)=u++ [e]) {j:Nat} (h1:k+1≤j) (h2:j≤g.n.toNat):RK g p r j e=if k=0 then r else RK g p r k (oO g p (aj p k)):=by
 obtain ⟨a,b⟩:=pQ h hk he
 rw [fC h hk a h1 h2,RK,if_pos a,if_neg (by rw [b,he];simp)]
theorem jd {r:Int} {k:Nat} (hk:k<g.n.toNat) {u v:List Int} {e c:Int} (he:bn p (aj p k)=u++e::c::v) {j:Nat} (h1:k+1≤j) (h2:j≤g.n.toNat):RK g p r j e=(cK p k:Int)+u.length:=by
 obtain ⟨a,b⟩:=pQ h hk he
 rw [fC h hk a h1 h2,RK,if_pos a,if_pos (by rw [b,he];simp),b]
theorem sg {x:Int} {a:Int} {u:List Int} (hu:b8 g p x=a::u):fH g p x=a:=by unfold fH;rw [hu];rfl
theorem nE {x:Int} {a:Int} {u:List Int} (hu:b8 g p x=u++ [a]):oO g p x=a:=by unfold oO;rw [hu];simp
theorem Ay {k:Nat} (hk:k<g.n.toNat) (hI:b8 g p (aj p k)≠ []):k≠0:=fun h0=>by
 subst h0
 have:=jF h (aF h.2.1 hk)
 rw [gw h] at this
 exact hI (List.eq_nil_of_length_eq_zero this)
theorem nF {k:Nat} (hk:k<g.n.toNat) {a:Int} (ha:a∈b8 g p (aj p k)):∃j,j<k∧iV g a=aj p j:=by
 obtain ⟨h1,h2⟩:=((gN h (aF h.2.1 hk)).2 a).1 ha
 obtain ⟨j,h3,h4⟩:=r8 h h1 hk h2
 exact ⟨j,h3,h4.symm⟩
def WK (g:Gr) (p:Pl) (k:Nat):List Int:=(fS (fK g p k).row).map (·.1)
theorem vo (hn:0<g.n.toNat):WK g p 1=bn p (aj p 0):=by
 have hx:=aF h.2.1 hn
 have px:=bN h.2.1 hx.1 hx.2
 have hno:gM (aj p 0) (fK g p 0).row:=fun t ht=>by cases ht
 have hf:(fK g p 1).row=aP g (aj p 0) (bn p (aj p 0)):=by
  show (aC g (fK g p 0) (aj p 0) _).2.row=_
  rw [gv _ hno]
  show _++ []=_
  simp
 unfold WK
 rw [hf,kT (fun i hi=>(bG.1 (px.mem_iff.1 hi)).1.1),List.map_map]
 have e7:((fun t:It=>t.1) ∘ gr g (aj p 0))=id:=rfl
 rw [e7,List.map_id]
theorem lU {k:Nat} (h0:k≠0) (hk:k<g.n.toNat):∃A C,WK g p k=A++b8 g p (aj p k)++C∧b8 g p (aj p k)≠ []∧WK g p (k+1)=A++bn p (aj p k)++C:=by
 have hm:=an h.1
 obtain ⟨hi,fD,_⟩:=c7 hm h.2.1 (k:=k) (by omega) fun j hj=>h.2.2 j (by omega)
 have hR:=h.2.2 k hk
 have hx:=aF h.2.1 hk
 have px:=bN h.2.1 hx.1 hx.2
 have hn:bw g (aj p k)≠0:=fun hz=>by
  have Ux:=aF h.2.1 (show 0<g.n.toNat by omega)
  have:=jO h.1 hx Ux hz (gw h)
  exact h0 (cZ h.2.1 hk (by omega) this)
 obtain ⟨a,c,e1,_,_,_,hl,e2⟩:=yJ hm hi.toiU hR hn (bn p (aj p k))
 refine ⟨a.map (·.1),c.map (·.1), ?_, ?_, ?_⟩
 ·rw [yK h hk];unfold WK;rw [e1,List.map_append,List.map_append];rfl
 ·intro h1
  have:=jF h hx
  rw [h1] at this
  exact hn this.symm
 ·unfold WK
  show (fS (aC g (fK g p k) (aj p k) _).2.row).map (·.1)=_
  rw [e2,List.map_append,List.map_append,kT (fun i hi=>(bG.1 (px.mem_iff.1 hi)).1.1),List.map_map]
  have e7:((fun t:It=>t.1) ∘ gr g (aj p k))=id:=rfl
  rw [e7,List.map_id]
theorem tH {k:Nat} (hk:k≤g.n.toNat) {a:Int} (ha:a∈WK g p k):∃j,j<k∧iV g a=aj p j:=by
 have hm:=an h.1
 obtain ⟨hi,fD,_⟩:=c7 hm h.2.1 (k:=k) (by omega) fun j hj=>h.2.2 j (by omega)
 obtain ⟨t,ht,rfl⟩:=List.mem_map.1 ha
 obtain ⟨h1,h2,_⟩:=qM hm hi.toiU ht
 obtain ⟨h4,h5⟩:=fz.1 ht
 have:=hi.tail t h4 h5
 rw [fD,h2] at this
 obtain ⟨j,hj,e⟩:=CU (by rw [bR h.2.1];omega) this
 exact ⟨j,hj,e.symm⟩
theorem C1 {r:Int} {k:Nat} (hk:k<g.n.toNat) {j:Nat} (h1:k+1≤j) (h2:j≤g.n.toNat):gV (LK g p j) (RK g p r j) (if k=0 then 0 else LK g p k (fH g p (aj p k))) (bn p (aj p k)):=by
 refine qD (fun u a b v e=> ?_) fun a u e=>yN h hk e h1 h2
 rw [jd h hk e h1 h2,C0 h hk (u:=u++ [a]) (v:=v) (e:=b) (by rw [e];simp) (by simp) h1 h2]
 simp;omega
theorem C2 {r:Int} {k:Nat} (hk:k<g.n.toNat) {j:Nat} (h1:k+1≤j) (h2:j≤g.n.toNat) (hO:bn p (aj p k)≠ []) (f:Int):jc (RK g p r j) f (bn p (aj p k))=if k=0 then r else RK g p r k (oO g p (aj p k)):=by
 obtain ⟨v,b,hv⟩:=cG hO
 rw [hv,dw,vn h hk hv h1 h2]
theorem nG {L R L' R':Int→Int} :∀ {W:List Int} {f:Int},(∀a∈W,L a=L' a∧R a=R' a)→(gV L R f W↔gV L' R' f W)
 | [],_,_=>Iff.rfl
 |a::W,f,hh=>by
  have h1:=hh a (List.mem_cons_self ..)
  simp only [gV,h1.1,h1.2,nG (W:=W) fun b hb=>hh b (List.mem_cons_of_mem _ hb)]
theorem vp {R R':Int→Int} :∀ {W:List Int} {f:Int},(∀a∈W,R a=R' a)→jc R f W=jc R' f W
 | [],_,_=>rfl
 |a::W,f,hh=>by
  simp only [jc,hh a (List.mem_cons_self ..),vp (W:=W) fun b hb=>hh b (List.mem_cons_of_mem _ hb)]
theorem BS {r:Int} (hI:j8 g=true):∀ {k:Nat},1≤k→k<g.n.toNat→WK g p k≠ []→gV (LK g p k) (RK g p r k) 0 (WK g p k)∧jc (RK g p r k) 0 (WK g p k)=r
 |0,h1,_,_=>by omega
 |k+1,_,hk,hW=>by
  by_cases h0:k=0
  ·subst h0
   rw [vo h (by omega)] at hW ⊢
   have a:=C1 (r:=r) h (k:=0) (by omega) (j:=1) (Nat.le_refl _) (by omega)
   have b:=C2 (r:=r) h (k:=0) (by omega) (j:=1) (Nat.le_refl _) (by omega) hW 0
   rw [if_pos rfl] at a b
   exact ⟨a,b⟩
  ·obtain ⟨A,C,e1,hne,e2⟩:=lU h h0 (show k<g.n.toNat by omega)
   obtain ⟨l1,l2⟩:=BS hI (k:=k) (by omega) (by omega) (by rw [e1];simp [hne])
   have hO:bn p (aj p k)≠ []:=fun h1=>by
    have:=(dZ h hI (aF h.2.1 (show k<g.n.toNat by omega))).1 h1
    have:=cZ h.2.1 (show k<g.n.toNat by omega) (by omega) this
    omega
   have C3:∀a∈WK g p k,LK g p (k+1) a=LK g p k a∧RK g p r (k+1) a=RK g p r k a:=fun a ha=>by
    obtain ⟨j,hj,e⟩:=tH h (by omega) ha
    exact ⟨by rw [nw h (by omega) e (j:=k+1) (by omega) (by omega),nw h (by omega) e (j:=k) (by omega) (by omega)],by rw [fC h (by omega) e (j:=k+1) (by omega) (by omega),fC h (by omega) e (j:=k) (by omega) (by omega)]⟩
   rw [← nG h C3] at l1
   rw [← vp h fun a ha=>(C3 a ha).2] at l2
   rw [e1] at l1 l2 C3
   rw [e2]
   obtain ⟨a0,u0,EW⟩:=fM hne
   obtain ⟨u,a,hu⟩:=cG hne
   obtain ⟨l3,l5⟩:=b9.1 l1
   obtain ⟨l4,l6⟩:=b9.1 l3
   have Rj:LK g p (k+1) a0=jc (RK g p r (k+1)) 0 A:=by rw [EW] at l6;exact l6.1
   have Ny:∀f,jc (RK g p r (k+1)) f (b8 g p (aj p k))=RK g p r k (oO g p (aj p k)):=fun f=>by
    rw [nE h hu,hu,dw,(C3 a (by rw [hu];simp)).2]
   have hlk:=C1 (r:=r) h (k:=k) (by omega) (j:=k+1) (Nat.le_refl _) (by omega)
   have Rk:=C2 (r:=r) h (k:=k) (by omega) (j:=k+1) (Nat.le_refl _) (by omega) hO
   rw [if_neg h0] at hlk Rk
   rw [sg h EW, ← (C3 a0 (by rw [EW];simp)).1,Rj] at hlk
   refine ⟨?_, ?_⟩
   ·rw [b9,b9,cT,Rk]
    rw [cT,Ny] at l5
    exact ⟨⟨l4,hlk⟩,l5⟩
   ·rw [cT,cT,Rk]
    rw [cT,cT,Ny] at l2
    exact l2
theorem pR (hI:j8 g=true) {r:Int} (hr:r<0∨cK p g.n.toNat≤r):(aY g p).iH (LK g p g.n.toNat) (RK g p r g.n.toNat) 0 r (fun f=>(iO p g.n.toNat).getD f.toNat 0):=by
 have hm:=an h.1
 have hn:=aM hm
 have Gk:∀ {x:Int} {l:List Int},(aY g p).outs x=l→l≠ []→∃k,k<g.n.toNat∧aj p k=x∧bn p (aj p k)=l:=fun {x l} h1 h2=>by
  by_cases hx:iN g x
  ·obtain ⟨k,hk,rfl⟩:=dH h.2.1 hx.1 hx.2
   exact ⟨k,hk,rfl,by rw [← h1,dg hx]⟩
  ·rw [nu hx] at h1;exact absurd h1.symm h2
 have Rl:∀ {x:Int} {l:List Int},(aY g p).ins x=l→l≠ []→∃k,k<g.n.toNat∧aj p k=x∧b8 g p (aj p k)=l:=fun {x l} h1 h2=>by
  by_cases hx:iN g x
  ·obtain ⟨k,hk,rfl⟩:=dH h.2.1 hx.1 hx.2
   exact ⟨k,hk,rfl,by rw [← h1,fT hx]⟩
  ·rw [od hx] at h1;exact absurd h1.symm h2
 have h0:(aY g p).src=aj p 0:=rfl
 have Mr:∀k,0<cK p k:=fun k=>nv
 exact {
  ne:=by have:=Mr g.n.toNat;omega
  fk:=fun {x u a b v} e=>by
   obtain ⟨k,hk,_,e2⟩:=Gk e (by simp)
   rw [jd h hk e2 (by omega) (Nat.le_refl _),C0 h hk (u:=u++ [a]) (v:=v) (e:=b) (by rw [e2];simp) (by simp) (by omega) (Nat.le_refl _)]
   simp;omega
  lN:=fun {x u a b v} e=>by
   obtain ⟨k,hk,_,e2⟩:=Rl e (by simp)
   have xY:=Ay h hk (by rw [e2];simp)
   obtain ⟨A,C,e1,hne,_⟩:=lU h xY hk
   have l1:=(BS (r:=r) h hI (k:=k) (by omega) hk (by rw [e1];simp [hne])).1
   have C3:∀a∈WK g p k,LK g p g.n.toNat a=LK g p k a∧RK g p r g.n.toNat a=RK g p r k a:=fun a ha=>by
    obtain ⟨j,hj,e⟩:=tH h (by omega) ha
    exact ⟨by rw [nw h (by omega) e (j:=g.n.toNat) (by omega) (by omega),nw h (by omega) e (j:=k) (by omega) (by omega)],by rw [fC h (by omega) e (j:=g.n.toNat) (by omega) (by omega),fC h (by omega) e (j:=k) (by omega) (by omega)]⟩
   rw [← nG h C3,e1,e2,show A++(u++a::b::v)++C=(A++u)++a::b::(v++C) by simp] at l1
   exact GB l1
  fst:=fun {x a u b v} e1 e2=>by
   obtain ⟨k,hk,hx,e3⟩:=Gk e2 (by simp)
   have e4:b8 g p (aj p k)=a::u:=by
    have GN:iN g x:=by rw [← hx];exact aF h.2.1 hk
    rw [hx, ← fT GN];exact e1
   have xY:=Ay h hk (by rw [e4];simp)
   obtain ⟨j,hj,et⟩:=nF h hk (a:=a) (by rw [e4];simp)
   rw [yN h hk e3 (by omega) (Nat.le_refl _),if_neg xY,sg h e4,nw h (by omega) et (j:=g.n.toNat) (by omega) (Nat.le_refl _),nw h (by omega) et (j:=k) (by omega) (by omega)]
  EV:=fun {x a u b v} e1 e2=>by
   obtain ⟨k,hk,hx,e3⟩:=Gk e2 (by simp)
   have e4:b8 g p (aj p k)=u++ [a]:=by
    have GN:iN g x:=by rw [← hx];exact aF h.2.1 hk
    rw [hx, ← fT GN];exact e1
   have xY:=Ay h hk (by rw [e4];simp)
   obtain ⟨j,hj,et⟩:=nF h hk (a:=a) (by rw [e4];simp)
   rw [vn h hk e3 (by omega) (Nat.le_refl _),if_neg xY,nE h e4,fC h (by omega) et (j:=g.n.toNat) (by omega) (Nat.le_refl _),fC h (by omega) et (j:=k) (by omega) (by omega)]
  s0:=fun {b v} e=>by
   obtain ⟨k,hk,hx,e3⟩:=Gk e (by simp)
   have:k=0:=cZ h.2.1 hk (by omega) hx
   rw [yN h hk e3 (by omega) (Nat.le_refl _),if_pos this]
  s1:=fun {b v} e=>by
   obtain ⟨k,hk,hx,e3⟩:=Gk e (by simp)
   have:k=0:=cZ h.2.1 hk (by omega) hx
   rw [vn h hk e3 (by omega) (Nat.le_refl _),if_pos this]
  new:=fun {x u a b v} e=>by
   obtain ⟨k,hk,hx,e3⟩:=Gk e (by simp)
   have hR:=jd (r:=r) h hk e3 (j:=g.n.toNat) (by omega) (Nat.le_refl _)
   have hl:(bn p (aj p k)).length=u.length+(v.length+2):=by rw [e3];simp
   have ET:cK p (k+1)=cK p k+((bn p (aj p k)).length - 1):=rfl
   obtain ⟨d,hd⟩:=Nat.exists_eq_add_of_le (show k+1≤g.n.toNat by omega)
   have hmo:=og (p:=p) (k:=k+1) (d:=d)
   rw [← hd] at hmo
   have:=Mr k
   refine ⟨?_,by omega,by omega⟩
   show (iO p g.n.toNat).getD (RK g p r g.n.toNat a).toNat 0=x
   rw [hR,show ((cK p k:Int)+(u.length:Int)).toNat=cK p k+u.length by omega,hd,xw (by omega),G5 (by omega) (by omega),hx]
  new1:=fun {x u a b v u' a' b' v'} e1 e2 e3=>by
   obtain ⟨k,hk,hx,e4⟩:=Gk e1 (by simp)
   have e5:bn p (aj p k)=u'++a'::b'::v':=by
    have GN:iN g x:=by rw [← hx];exact aF h.2.1 hk
    rw [hx, ← dg GN];exact e2
   rw [jd h hk e4 (by omega) (Nat.le_refl _),jd h hk e5 (by omega) (Nat.le_refl _)] at e3
   have hl:u.length=u'.length:=by omega
   rw [e4] at e5
   have:=(List.append_inj e5 hl).2
   simp only [List.cons.injEq] at this
   exact this.1}
end
end Go.Ab
end
section
namespace Go.Ab
open Go.Proofs
attribute [local congr] ACall.congr gd.congr Nx.congr
set_option maxRecDepth 10000
set_option maxHeartbeats 8000000
def jG (A o:List Int) (f:Nat→Int):Nat→List Int
 |0=>A
 |j+1=>(jG A o f j).set (o.getD j 0).toNat (f j)
theorem gy {A o:List Int} {f:Nat→Int} :∀ {j:Nat},(jG A o f j).length=A.length
 |0=>rfl
 |j+1=>by rw [jG,List.length_set,gy]
def oR (A o:List Int) (left:Int) (c:Nat) (j:Nat):List Int:=jG A o (fun j=>if j=0 then left else (c:Int)+j - 1) j
def oS (A o:List Int) (right:Int) (c:Nat) (j:Nat):List Int:=jG A o (fun j=>if j+1<o.length then (c:Int)+j else right) j
theorem Es {A o:List Int} {left:Int} {c:Nat} {j:Nat} :(oR A o left c j).length=A.length:=gy
theorem Et {A o:List Int} {left:Int} {c:Nat} {j:Nat} :(oS A o left c j).length=A.length:=gy
theorem oh {A o:List Int} {f:Nat→Int} {e:Nat} :∀ {j:Nat},(∀i,i<j→(o.getD i 0).toNat≠e)→(jG A o f j).getD e 0=A.getD e 0
 |0,_=>rfl
 |j+1,h=>by
  have h1:=h j (by omega)
  rw [jG,List.getD_eq_getElem?_getD,List.getElem?_set,if_neg h1, ← List.getD_eq_getElem?_getD,oh fun i hi=>h i (by omega)]
theorem Az {A o:List Int} {f:Nat→Int} {i:Nat} (hA:(o.getD i 0).toNat<A.length):∀ {j:Nat},i<j→(∀k,k<j→(o.getD k 0).toNat=(o.getD i 0).toNat→k=i)→(jG A o f j).getD (o.getD i 0).toNat 0=f i
 |0,h,_=>by omega
 |j+1,h,hn=>by
  rw [jG,List.getD_eq_getElem?_getD,List.getElem?_set]
  by_cases e:(o.getD j 0).toNat=(o.getD i 0).toNat
  ·have:=hn j (by omega) e
   subst this
   rw [if_pos rfl,if_pos (by rw [gy];exact hA)];rfl
  ·have hji:j≠i:=fun e2=>e (by rw [e2])
   rw [if_neg e, ← List.getD_eq_getElem?_getD,Az hA (by omega) fun k hk=>hn k (by omega)]
def gA (c k:Nat):List Int:=(List.range k).map fun i:Nat=>((c+i:Nat):Int)
theorem BT {c k:Nat} :gA c (k+1)=gA c k++ [((c+k:Nat):Int)]:=by simp [gA,List.range_succ]
theorem kU {c k:Nat} :(gA c k).length=k:=by simp [gA]
def Jf (left:Int) (c d j:Nat):Int:=if min j (d - 1)=0 then left else (c:Int)+(min j (d - 1):Nat) - 1
def L3 (ed gp:D) (A B lo hi:List Int):List (Nat × AObj):= [(10000, .box [.d ed, .d gp, .ref 10001, .ref 10002, .ref 10003, .ref 10004]),(10001, .own 3 1 (A.map rI)),(10002, .own 3 1 (B.map rI)),(10003, .tip 3 1 (lo.map rI)),(10004, .own 3 1 (hi.map rI))]
def L4 (ed gp:D) (A B lo hi:List Int):List (Nat × AObj):= [(10000, .box [.d ed, .d gp, .ref 10001, .ref 10002, .ref 10005, .ref 10006]),(10001, .own 3 1 (A.map rI)),(10002, .own 3 1 (B.map rI)),(10005, .tip 3 1 (lo.map rI)),(10006, .own 3 1 (hi.map rI))]
theorem xx (x left right:Int) (o:List Int) (ed gp:D) (A B lo hi:List Int) (ho:o.length≤100000) (hO:∀i∈o,0≤i∧i<A.length) (hB:B.length=A.length) (hlo:lo.length≤100000) (hhi:hi.length≤100000):
 Spec Tryz.prog 43 (Args [.ptr 10000 0,eN x, .d (sI o),eN left,eN right]) (L3 ed gp A B lo hi)
  (.d (sI (gA lo.length (o.length - 1)))) (L4 ed gp (oR A o left lo.length o.length) (oS B o right lo.length o.length) (lo++List.replicate (o.length - 1) x) (hi++List.replicate (o.length - 1) 0)):=by
 unfold L3 L4
 generalize hc:lo.length=c at*
 (refine Spec.A5 (C:=T.cfg [] []) (rs:= [.t 10]) [(10005,200),(10006,201)] (T.ah _ _) Tryz.func43 rfl rfl Tryz.ntmps43 Tryz.results43 (by simp [AObj.isNest]) (by simp [AObj.isNest]) (by first|(simp [look];done)|(simp [asN];done)|(intro l hl;simp only [asN];repeat (rw [if_neg (fun e=>by subst e;simp [look] at hl)]))) (by first|(simp [look];done)|(simp [asN];done)|(intro l hl;simp only [asN];repeat (rw [if_neg (fun e=>by subst e;simp [look] at hl)]))) (by kernel_rfl) T.mixed fun X hX hP hC aI bU=> ?_)
 repeat' (first|(show cw _ (.seq (.region 1 _ _) _) _ _;(refine iZ hX 10 202 (.tip 3 1 []) (by simp only [go_sem,simprocAttr]) (by simp only [go_sem,simprocAttr]) (by decide) ⟨3,1,by decide, .inr rfl⟩ ?_;simp only [go_sem,simprocAttr]);(refine dO hX 10000 4 10003 200 rfl rfl rfl (by first|exact .inl rfl|exact .inr rfl) (by decide) (by decide) ?_;simp only [List.set_cons_zero,List.set_cons_succ,go_sem,simprocAttr]);(refine dO hX 10000 5 10004 201 rfl rfl rfl (by first|exact .inl rfl|exact .inr rfl) (by decide) (by decide) ?_;simp only [List.set_cons_zero,List.set_cons_succ,go_sem,simprocAttr]))|refine Rn.p ?_|(with_reducible apply And.intro)|((first|(refine hK _ ?_;clear hK K)|with_reducible intro K hK|refine Rs.p ?_|((with_reducible first|apply oP|apply oQ);exact rfl));try simp only [go_sem,simprocAttr])|((with_reducible refine oD ?_ ?_);kernel_rfl)|((with_reducible intro h);try simp only [go_sem,simprocAttr] at h)|omega|intro h)
 refine ag (fun j:Nat=>j≤o.length) (fun j=>⟨[(0, .ptr 10000 0),(1,eN x),(2, .d (sI o)),(3,eN (Jf left c o.length j)),(4,eN right),(10, .ref 202),(13, .d (sI o)),(14,eN o.length),(15,eN j)], [(10000, .box [.d ed, .d gp, .ref 10001, .ref 10002, .ref 200, .ref 201]),(10001, .own 3 1 ((oR A o left c j).map rI)),(10002, .own 3 1 ((oS B o right c j).map rI)),(200, .tip 3 1 ((lo++List.replicate (min j (o.length - 1)) x).map rI)),(201, .own 3 1 ((hi++List.replicate (min j (o.length - 1)) 0).map rI)),(202, .tip 3 1 ((gA c (min j (o.length - 1))).map rI))]⟩) (fun j=>o.length - j) 0 (by omega) ?_ ?_
 ·refine Le.of ?_ ?_<;>simp [go_sem,simprocAttr,Jf,oR,oS,jG,gA]
 rintro j hj
 rcases Nat.lt_or_ge j o.length with hjl|LR
 rotate_left
 ·have hb:decide ((j:Int)<(o.length:Int))=false:=decide_eq_false (by omega)
  obtain rfl:j=o.length:=by omega
  have hmin:min o.length (o.length - 1)=o.length - 1:=by omega
  rw [hmin]
  repeat' (first|refine Rn.p ?_|(with_reducible apply And.intro)|((first|(refine hK _ ?_;clear hK K)|with_reducible intro K hK|refine Rs.p ?_|((with_reducible first|apply oP|apply oQ);exact rfl));try simp only [go_sem,simprocAttr,hb])|((with_reducible refine oD ?_ ?_);kernel_rfl)|((with_reducible intro h);try simp only [go_sem,simprocAttr,hb] at h)|omega|intro h)
 have hb:decide ((j:Int)<(o.length:Int))=true:=decide_eq_true (by omega)
 have hin:=hO _ (aB (d:=0) hjl)
 have n0:=Es (A:=A) (o:=o) (left:=left) (c:=c) (j:=j)
 have kj:=Et (A:=B) (o:=o) (left:=right) (c:=c) (j:=j)
 have Lb:oR A o left c (j+1)=(oR A o left c j).set (o.getD j 0).toNat (if j=0 then left else (c:Int)+j - 1):=rfl
 have xy:oS B o right c (j+1)=(oS B o right c j).set (o.getD j 0).toNat (if j+1<o.length then (c:Int)+j else right):=rfl
 have q8:min j (o.length - 1)=j:=by omega
 have hlf:Jf left c o.length j=if j=0 then left else (c:Int)+j - 1:=by unfold Jf;rw [q8]
 rw [q8,hlf]
 generalize C4:o.getD j 0=v at hin Lb xy
 obtain ⟨i,rfl⟩:∃i:Nat,v=i:=⟨v.toNat,by omega⟩
 rw [Int.toNat_natCast] at Lb xy
 generalize (if j=0 then left else (c:Int)+j - 1)=lv at Lb hlf ⊢
 by_cases hj2:j+1<o.length
 ·have az:decide ((j:Int)+1<(o.length:Int))=true:=decide_eq_true (by omega)
  have hm2:min (j+1) (o.length - 1)=j+1:=by omega
  rw [if_pos hj2] at xy
  have Lc:Jf left c o.length (j+1)=((c+j:Nat):Int):=by unfold Jf;rw [hm2,if_neg (by omega)];omega
  have mU:(lo++List.replicate j x).length=c+j:=by rw [List.length_append,List.length_replicate,hc]
  have AA:(hi++List.replicate j (0:Int)).length=hi.length+j:=by rw [List.length_append,List.length_replicate]
  have NO:lo++List.replicate (j+1) x=(lo++List.replicate j x)++ [x]:=by rw [List.replicate_succ', ← List.append_assoc]
  have NP:hi++List.replicate (j+1) (0:Int)=(hi++List.replicate j 0)++ [0]:=by rw [List.replicate_succ', ← List.append_assoc]
  have v8:=kU (c:=c) (k:=j)
  have ER:=BT (c:=c) (k:=j)
  generalize lo++List.replicate j x=VF at mU NO
  generalize hi++List.replicate j (0:Int)=hi1 at AA NP
  generalize gA c j=gs at v8 ER
  generalize oR A o left c j=A1 at n0 Lb
  generalize oS B o right c j=B1 at kj xy
  repeat' (first|(show cw _ (.seq (.region 8 _ _) _) _ _;(refine dO hX 10000 4 48 200 rfl rfl rfl (by first|exact .inl rfl|exact .inr rfl) (by decide) (by decide) ?_;simp only [List.set_cons_zero,List.set_cons_succ,go_sem,simprocAttr,hb,az,C4,n0,kj,mU,AA,v8]);(refine dO hX 10000 5 55 201 rfl rfl rfl (by first|exact .inl rfl|exact .inr rfl) (by decide) (by decide) ?_;simp only [List.set_cons_zero,List.set_cons_succ,go_sem,simprocAttr,hb,az,C4,n0,kj,mU,AA,v8]))|(show cw _ (.region 9 _ _) _ _;(refine mO hX 10 65 202 (by simp only [go_sem,simprocAttr,hb,az,C4,n0,kj,mU,AA,v8]) rfl (by first|exact .inl rfl|exact .inr rfl) (by decide) ?_;simp only [go_sem,simprocAttr,hb,az,C4,n0,kj,mU,AA,v8]))|refine Rn.p ?_|(with_reducible apply And.intro)|((first|(refine hK _ ?_;clear hK K)|with_reducible intro K hK|refine Rs.p ?_|((with_reducible first|apply oP|apply oQ);exact rfl));try simp only [go_sem,simprocAttr,hb,az,C4,n0,kj,mU,AA,v8])|((with_reducible refine oD ?_ ?_);kernel_rfl)|((with_reducible intro h);try simp only [go_sem,simprocAttr,hb,az,C4,n0,kj,mU,AA,v8] at h)|omega|intro h)
  refine ⟨j+1,by omega, ?_,by omega⟩
  rw [Lb,xy,hm2,NO,NP,ER,Lc]
  refine Le.of ?_ ?_<;>simp [go_sem,simprocAttr,hb,az,C4,n0,kj,mU,AA,v8,rI]
 ·have az:decide ((j:Int)+1<(o.length:Int))=false:=decide_eq_false (by omega)
  have hm2:min (j+1) (o.length - 1)=j:=by omega
  have Lc:Jf left c o.length (j+1)=Jf left c o.length j:=by unfold Jf;rw [hm2,q8]
  rw [if_neg hj2] at xy
  generalize oR A o left c j=A1 at n0 Lb
  generalize oS B o right c j=B1 at kj xy
  repeat' (first|refine Rn.p ?_|(with_reducible apply And.intro)|((first|(refine hK _ ?_;clear hK K)|with_reducible intro K hK|refine Rs.p ?_|((with_reducible first|apply oP|apply oQ);exact rfl));try simp only [go_sem,simprocAttr,hb,az,C4,n0,kj])|((with_reducible refine oD ?_ ?_);kernel_rfl)|((with_reducible intro h);try simp only [go_sem,simprocAttr,hb,az,C4,n0,kj] at h)|omega|intro h)
  refine ⟨j+1,by omega, ?_,by omega⟩
  rw [Lb,xy,hm2,Lc,hlf]
  refine Le.of ?_ ?_<;>simp [go_sem,simprocAttr,hb,az,C4,n0,kj,rI]
end Go.Ab
end
section
namespace Go.Ab
open Go.Proofs
attribute [local congr] ACall.congr gd.congr Nx.congr
set_option maxRecDepth 10000
set_option maxHeartbeats 8000000
def kX (A fs:List Int) (x:Int) (j:Nat):List Int:=jG A fs (fun _=>x) j
theorem kY {A fs:List Int} {x:Int} {j:Nat} :(kX A fs x j).length=A.length:=gy
theorem j5 (l items:List Int) (a b:Nat) (h0:0<(l.take a++items++l.drop b).length) (hr:l.length≤400000) (hi:items.length≤100000):Spec Tryz.prog 45 (Args [.d (.sl 1 [[.sl 1 (List.take a (l.map rI))], [.sl 1 (items.map rI)], [.sl 1 (List.drop b (l.map rI))]])]) [] (.d (sI (l.take a++items++l.drop b))) []:=by
 have hf: [l.take a,items,l.drop b].flatten=l.take a++items++l.drop b:=by simp
 have:=eu [l.take a,items,l.drop b] (by simp) (by rw [hf];exact h0) (by rw [hf];simp;omega)
 rw [hf] at this
 simpa only [vL,List.map_cons,List.map_nil,sI,List.map_take,List.map_drop] using this
theorem yO (x:Int) (o W G A B lo hi:List Int) (a b:Nat) (hab:a<b) (VG:b<G.length) (VH:b≤W.length) (hG:G.length≤100000) (hW:W.length≤100000) (hf:∀f∈(G.take b).drop (a+1),0≤f∧f<hi.length)
 (ho:o.length≤100000) (hO:∀i∈o,0≤i∧i<A.length) (hB:B.length=A.length) (hlo:lo.length≤100000) (hhi:hi.length≤100000):
 Spec Tryz.prog 47 (Args [.ptr 10000 0,eN x, .d (sI o),eN a,eN b]) (L3 (sI W) (sI G) A B lo hi) (.tup [])
  (L4 (sI (if o= [] then W else W.take a++o++W.drop b)) (sI (G.take (a+1)++gA lo.length (o.length - 1)++G.drop b)) (oR A o (G.getD a 0) lo.length o.length) (oS B o (G.getD b 0) lo.length o.length) (lo++List.replicate (o.length - 1) x) (kX hi ((G.take b).drop (a+1)) x ((G.take b).drop (a+1)).length++List.replicate (o.length - 1) 0)):=by
 have AY:List.drop (a+1) (List.take b (List.map rI G))=((G.take b).drop (a+1)).map rI:=by rw [List.map_drop,List.map_take]
 have hfl:((G.take b).drop (a+1)).length≤100000:=by simp;omega
 generalize (G.take b).drop (a+1)=fs at AY hf hfl ⊢
 have C5:List.take G.length (List.map rI G)=List.map rI G:=List.take_of_length_le (by simp)
 have yA:List.take W.length (List.map rI W)=List.map rI W:=List.take_of_length_le (by simp)
 have hmn:min ((a:Int)+1) (b:Int)=((a+1:Nat):Int):=by omega
 have G6:=xx x (G.getD a 0) (G.getD b 0) o (sI W) (sI G) A B lo (kX hi fs x fs.length) ho hO hB hlo (by rw [kY];exact hhi)
 have Rm:=j5 G (gA lo.length (o.length - 1)) (a+1) b (by simp;omega) (by omega) (by rw [kU];omega)
 have SA:=fun (h:o≠ [])=>j5 W o a b (by have:=List.length_pos_iff.2 h;simp;omega) (by omega) (by omega)
 generalize hg:gA lo.length (o.length - 1)=gs at G6 Rm
 unfold L3 L4 at G6 ⊢
 (refine Spec.A5 (C:=T.cfg [] []) (rs:= []) [(10005,300),(10006,301)] (T.ah _ _) Tryz.func47 rfl rfl Tryz.ntmps47 Tryz.results47 (by simp [AObj.isNest]) (by simp [AObj.isNest]) (by first|(simp [look];done)|(simp [asN];done)|(intro l hl;simp only [asN];repeat (rw [if_neg (fun e=>by subst e;simp [look] at hl)]))) (by first|(simp [look];done)|(simp [asN];done)|(intro l hl;simp only [asN];repeat (rw [if_neg (fun e=>by subst e;simp [look] at hl)]))) (by kernel_rfl) T.mixed fun X hX hP hC aI bU=> ?_)
 repeat' (first|refine Rn.p ?_|(with_reducible apply And.intro)|((first|(refine hK _ ?_;clear hK K)|with_reducible intro K hK|refine Rs.p ?_|((with_reducible first|apply oP|apply oQ);exact rfl));try simp only [go_sem,simprocAttr,hmn,AY])|((with_reducible refine oD ?_ ?_);kernel_rfl)|((with_reducible intro h);try simp only [go_sem,simprocAttr,hmn,AY] at h)|omega|intro h)
 refine ag (fun j:Nat=>j≤fs.length) (fun j=>⟨[(0, .ptr 10000 0),(1,eN x),(2, .d (sI o)),(3,eN a),(4,eN b),(24, .d (sI fs)),(25,eN fs.length),(26,eN j)], [(10000, .box [.d (sI W), .d (sI G), .ref 10001, .ref 10002, .ref 10003, .ref 10004]),(10001, .own 3 1 (A.map rI)),(10002, .own 3 1 (B.map rI)),(10003, .tip 3 1 (lo.map rI)),(10004, .own 3 1 ((kX hi fs x j).map rI))]⟩) (fun j=>fs.length - j) 0 (by omega) ?_ ?_
 ·refine Le.of ?_ ?_<;>simp [go_sem,simprocAttr,kX,jG]
 rintro j hj
 rcases Nat.lt_or_ge j fs.length with hjl|LR
 ·have hb:decide ((j:Int)<(fs.length:Int))=true:=decide_eq_true (by omega)
  have hin:=hf _ (aB (d:=0) hjl)
  have AA:=kY (A:=hi) (fs:=fs) (x:=x) (j:=j)
  have OM:kX hi fs x (j+1)=(kX hi fs x j).set (fs.getD j 0).toNat x:=rfl
  generalize C4:fs.getD j 0=v at hin OM
  obtain ⟨i,rfl⟩:∃i:Nat,v=i:=⟨v.toNat,by omega⟩
  rw [Int.toNat_natCast] at OM
  generalize kX hi fs x j=H1 at AA OM
  repeat' (first|refine Rn.p ?_|(with_reducible apply And.intro)|((first|(refine hK _ ?_;clear hK K)|with_reducible intro K hK|refine Rs.p ?_|((with_reducible first|apply oP|apply oQ);exact rfl));try simp only [go_sem,simprocAttr,hb,C4,AA])|((with_reducible refine oD ?_ ?_);kernel_rfl)|((with_reducible intro h);try simp only [go_sem,simprocAttr,hb,C4,AA] at h)|omega|intro h)
  refine ⟨j+1,by omega, ?_,by omega⟩
  rw [OM]
  refine Le.of ?_ ?_<;>simp [go_sem,simprocAttr,hb,C4,AA,rI]
 have hb:decide ((j:Int)<(fs.length:Int))=false:=decide_eq_false (by omega)
 obtain rfl:j=fs.length:=by omega
 have ha1:((a:Int)+1).toNat=a+1:=by omega
 by_cases hne:o= []
 ·have az:decide ((o.length:Int)=0)=true:=decide_eq_true (by rw [hne];rfl)
  repeat' (first|refine Rn.p ?_|(with_reducible apply And.intro)|((first|(refine hK _ ?_;clear hK K)|with_reducible intro K hK|refine Rs.p ?_|((with_reducible first|apply oP|apply oQ);exact rfl)|(refine aA hX hC hP [(10000,10000),(10001,10001),(10002,10002),(10003,10003),(10004,10004),(10005,300),(10006,301)] (G6) rfl rfl rfl ?_ ?_ ?_ ?_ ?_ ?_ ?_ ?_ ?_ ?_ ?_ ?_ ?_ ?_;(focus (simp only [go_sem,simprocAttr,hb,az,if_pos hne,ha1,C5,yA];done));(iterate 12 (focus (simp [go_sem,simprocAttr,hb,az,if_pos hne,ha1,C5,yA];done)));try simp only [List.map_cons,List.map_nil])|(refine aZ hX hC hP (Rm) rfl rfl rfl ?_ ?_ rfl ?_;iterate 2 (focus (simp only [go_sem,simprocAttr,hb,az,if_pos hne,ha1,C5,yA];done)))|(refine aZ hX hC hP (SA hne) rfl rfl rfl ?_ ?_ rfl ?_;iterate 2 (focus (simp only [go_sem,simprocAttr,hb,az,if_pos hne,ha1,C5,yA];done))));try simp only [go_sem,simprocAttr,hb,az,if_pos hne,ha1,C5,yA])|((with_reducible refine oD ?_ ?_);kernel_rfl)|((with_reducible intro h);try simp only [go_sem,simprocAttr,hb,az,if_pos hne,ha1,C5,yA] at h)|omega|intro h)
  all_goals (first|rfl|(simp only [go_sem,simprocAttr,hb,az,if_pos hne,ha1,C5,yA];done))
 ·have az:decide ((o.length:Int)=0)=false:=decide_eq_false (by have:=List.length_pos_iff.2 hne;omega)
  repeat' (first|refine Rn.p ?_|(with_reducible apply And.intro)|((first|(refine hK _ ?_;clear hK K)|with_reducible intro K hK|refine Rs.p ?_|((with_reducible first|apply oP|apply oQ);exact rfl)|(refine aA hX hC hP [(10000,10000),(10001,10001),(10002,10002),(10003,10003),(10004,10004),(10005,300),(10006,301)] (G6) rfl rfl rfl ?_ ?_ ?_ ?_ ?_ ?_ ?_ ?_ ?_ ?_ ?_ ?_ ?_ ?_;(focus (simp only [go_sem,simprocAttr,hb,az,if_neg hne,ha1,C5,yA];done));(iterate 12 (focus (simp [go_sem,simprocAttr,hb,az,if_neg hne,ha1,C5,yA];done)));try simp only [List.map_cons,List.map_nil])|(refine aZ hX hC hP (Rm) rfl rfl rfl ?_ ?_ rfl ?_;iterate 2 (focus (simp only [go_sem,simprocAttr,hb,az,if_neg hne,ha1,C5,yA];done)))|(refine aZ hX hC hP (SA hne) rfl rfl rfl ?_ ?_ rfl ?_;iterate 2 (focus (simp only [go_sem,simprocAttr,hb,az,if_neg hne,ha1,C5,yA];done))));try simp only [go_sem,simprocAttr,hb,az,if_neg hne,ha1,C5,yA])|((with_reducible refine oD ?_ ?_);kernel_rfl)|((with_reducible intro h);try simp only [go_sem,simprocAttr,hb,az,if_neg hne,ha1,C5,yA] at h)|omega|intro h)
  all_goals (first|rfl|(simp only [go_sem,simprocAttr,hb,az,if_neg hne,ha1,C5,yA];done))
end Go.Ab
end
section
namespace Go.Ab
open Go.Proofs
set_option maxRecDepth 10000
set_option linter.unusedSectionVars false
def arr (f:Int→Int) (m:Nat):List Int:=(List.range m).map fun i:Nat=>f (i:Int)
theorem dh {f:Int→Int} {m:Nat} :(arr f m).length=m:=by simp [arr]
theorem nH {f:Int→Int} {m i:Nat} (h:i<m):(arr f m).getD i 0=f (i:Int):=by
 simp [arr,List.getD_eq_getElem?_getD,List.getElem?_range h]
theorem G7 {l m:List Int} (hl:l.length=m.length) (h:∀i,i<l.length→l.getD i 0=m.getD i 0):l=m:=by
 refine List.ext_getElem? fun i=> ?_
 by_cases hi:i<l.length
 ·have:=h i hi
  rw [List.getD_eq_getElem?_getD,List.getD_eq_getElem?_getD,List.getElem?_eq_getElem hi,List.getElem?_eq_getElem (by omega)] at this
  rw [List.getElem?_eq_getElem hi,List.getElem?_eq_getElem (by omega)]
  simpa using this
 ·rw [List.getElem?_eq_none (by omega),List.getElem?_eq_none (by omega)]
theorem kZ {u v:List Int} {e:Int} :(u++e::v).getD u.length 0=e:=by
 rw [List.getD_eq_getElem?_getD,List.getElem?_append_right (Nat.le_refl _)];simp
section
variable {g:Gr} {p:Pl} (h:bH g p)
include h
theorem je {k:Nat} (hk:k<g.n.toNat) {e:Int} (he:e∈bn p (aj p k)):(0≤e∧e<g.es.length)∧iV g e=aj p k:=by
 have hx:=aF h.2.1 hk
 exact bG.1 ((bN h.2.1 hx.1 hx.2).mem_iff.1 he)
theorem G8 {k:Nat} (hk:k<g.n.toNat):(bn p (aj p k)).Nodup:=by
 have hx:=aF h.2.1 hk
 exact (bN h.2.1 hx.1 hx.2).nodup_iff.2 cq
theorem C6 {k:Nat} (hk:k<g.n.toNat) {e:Int} (he:0≤e∧e<g.es.length) (ht:iV g e=aj p k):∃u v,bn p (aj p k)=u++e::v:=by
 have hx:=aF h.2.1 hk
 exact List.append_of_mem ((bN h.2.1 hx.1 hx.2).mem_iff.2 (bG.2 ⟨he,ht⟩))
theorem xz {k:Nat} (hk:k<g.n.toNat) {f F F':Int→Int} {v:Nat→Int} (hin:∀u w e,bn p (aj p k)=u++e::w→F' e=v u.length) (hout:∀e:Int,iV g e≠aj p k→F' e=F e):
 jG (arr F g.es.length) (bn p (aj p k)) v (bn p (aj p k)).length=arr F' g.es.length:=by
 refine G7 (by rw [gy,dh,dh]) fun i hi=> ?_
 rw [gy,dh] at hi
 rw [nH hi]
 by_cases ht:iV g (i:Int)=aj p k
 ·obtain ⟨u,w,G9⟩:=C6 h hk (e:=(i:Int)) (by omega) ht
  have e1:(bn p (aj p k)).getD u.length 0=(i:Int):=by rw [G9];exact kZ
  have:=Az (A:=arr F g.es.length) (o:=bn p (aj p k)) (f:=v) (i:=u.length) (by rw [e1,dh];simpa using hi) (j:=(bn p (aj p k)).length) (by rw [G9];simp) fun q hq e2=>by
   rw [e1,Int.toNat_natCast] at e2
   have h2:=je h hk (aB (d:=0) hq)
   have h3:(bn p (aj p k)).getD q 0=(i:Int):=by omega
   have cC:=G8 h hk
   have:(bn p (aj p k))[q]'hq=(bn p (aj p k))[u.length]'(by rw [G9];simp):=by
    rw [List.getD_eq_getElem?_getD,List.getElem?_eq_getElem hq] at h3
    rw [List.getD_eq_getElem?_getD,List.getElem?_eq_getElem (by rw [G9];simp)] at e1
    simp only [Option.getD_some] at h3 e1
    rw [h3,e1]
   exact (List.getElem_inj cC).1 this
  rw [e1,Int.toNat_natCast] at this
  rw [this,hin u w (i:Int) G9]
 ·rw [oh fun q hq e2=> ?_,nH hi,hout _ ht]
  have h2:=je h hk (aB (d:=0) hq)
  exact ht (by rw [← h2.2];congr 1;omega)
theorem NQ {k:Nat} (hk:k<g.n.toNat):oR (arr (LK g p k) g.es.length) (bn p (aj p k)) (if k=0 then 0 else LK g p k (fH g p (aj p k))) (cK p k) (bn p (aj p k)).length=arr (LK g p (k+1)) g.es.length:=by
 refine xz (f:=fun _=>0) h hk (fun u w e G9=> ?_) fun e he=>by rw [LK,if_neg he]
 obtain ⟨a,b⟩:=pQ h hk G9
 rw [LK,if_pos a,b]
theorem NR {r:Int} {k:Nat} (hk:k<g.n.toNat):oS (arr (RK g p r k) g.es.length) (bn p (aj p k)) (if k=0 then r else RK g p r k (oO g p (aj p k))) (cK p k) (bn p (aj p k)).length=arr (RK g p r (k+1)) g.es.length:=by
 refine xz (f:=fun _=>0) h hk (fun u w e G9=> ?_) fun e he=>by rw [RK,if_neg he]
 obtain ⟨a,b⟩:=pQ h hk G9
 rw [RK,if_pos a,b]
theorem AB (hI:j8 g=true):∀ {k:Nat},k<g.n.toNat→∀t∈(fK g p k).row,0≤t.1
 |0,_,t,ht=>by cases ht
 |k+1,hk,t,ht=>by
  have hm:=an h.1
  have ih:=AB hI (k:=k) (by omega)
  obtain ⟨hi,_,_⟩:=c7 hm h.2.1 (k:=k) (by omega) fun j hj=>h.2.2 j (by omega)
  obtain ⟨A,X,C,hr,_,_,_,hs⟩:=jD hm hi.toiU (h.2.2 k (by omega))
  have hO:bn p (aj p k)≠ []:=fun h1=>by
   have:=(dZ h hI (aF h.2.1 (show k<g.n.toNat by omega))).1 h1
   have:=cZ h.2.1 (show k<g.n.toNat by omega) (by omega) this
   omega
  have ht:t∈(aC g (fK g p k) (aj p k) (bn p (aj p k))).2.row:=ht
  rw [hs] at ht
  simp only [List.mem_append] at ht
  rcases ht with (ht|ht)|ht
  ·exact ih t (by rw [hr];simp [ht])
  ·unfold aP at ht
   rw [if_neg hO] at ht
   obtain ⟨i,hi2,rfl⟩:=List.mem_map.1 ht
   exact (je h (show k<g.n.toNat by omega) hi2).1.1
  ·exact ih t (by rw [hr];simp [ht])
theorem BU (hI:j8 g=true) {k:Nat} (hk:k<g.n.toNat):fS (eX g p k)=eX g p k:=by
 have hm:=an h.1
 obtain ⟨hi,_,_⟩:=c7 hm h.2.1 (k:=k) (by omega) fun j hj=>h.2.2 j (by omega)
 obtain ⟨A,X,C,hr,_,_,_,hs⟩:=jD hm hi.toiU (h.2.2 k hk)
 have e:eX g p k=X:=by unfold eX;rw [hs]
 rw [e]
 refine List.filter_eq_self.2 fun t ht=>decide_eq_true (AB h hI hk t ?_)
 rw [hr];simp [ht]
theorem He (hI:j8 g=true) {k:Nat} (hk:k<g.n.toNat):b8 g p (aj p k)=(eX g p k).map (·.1):=by
 unfold b8
 rw [oc h.2.1 (Nat.le_refl _) hk,BU h hI hk]
end
section
variable (g:Gr) (p:Pl)
def gP:Nat→List Int
 |0=>bn p (aj p 0)
 |j+1=>if bn p (aj p (j+1))= [] then gP j else (gP j).take (ee (gP j) (fH g p (aj p (j+1)))).toNat++bn p (aj p (j+1))++(gP j).drop ((ee (gP j) (fH g p (aj p (j+1)))).toNat+(b8 g p (aj p (j+1))).length)
def nI:Nat→List Int
 |0=> [0]++gA 1 ((bn p (aj p 0)).length - 1)++ [-1]
 |j+1=>(nI j).take ((ee (gP g p j) (fH g p (aj p (j+1)))).toNat+1)++gA (cK p (j+1)) ((bn p (aj p (j+1))).length - 1)++(nI j).drop ((ee (gP g p j) (fH g p (aj p (j+1)))).toNat+(b8 g p (aj p (j+1))).length)
def j6 (k:Nat):List Int:=((b8 g p (aj p k)).dropLast).map (RK g p (-1) k)
def qO:Nat→List Int
 |0=> [aj p (g.n.toNat - 1)]
 |k+1=>kX (qO k) (j6 g p k) (aj p k) (j6 g p k).length++List.replicate ((bn p (aj p k)).length - 1) 0
end
section
variable {g:Gr} {p:Pl}
theorem gQ:∀ {k:Nat},(qO g p k).length=cK p k
 |0=>rfl
 |k+1=>by rw [qO,List.length_append,kY,List.length_replicate,gQ,cK]
variable (h:bH g p)
include h
theorem Hf {A I C:List Int} (cC:(A++I++C).Nodup) (hI:I≠ []):ee (A++I++C) (I.headD 0)=(A.length:Int):=by
 obtain ⟨a,u,rfl⟩:=fM hI
 obtain ⟨k,h1,h2,h3⟩:=dW (l:=A++a::u++C) (x:=a) (by simp)
 have e:A++a::u++C=A++a::(u++C):=by simp
 have h4:(A++a::u++C).getD A.length 0=a:=by rw [e];exact kZ
 show ee _ a=_
 rw [h1]
 have hA:A.length<(A++a::u++C).length:=by simp
 rw [List.getD_eq_getElem?_getD,List.getElem?_eq_getElem h2] at h3
 rw [List.getD_eq_getElem?_getD,List.getElem?_eq_getElem hA] at h4
 simp only [Option.getD_some] at h3 h4
 have:=(List.getElem_inj cC (h₀:=h2) (h₁:=hA)).1 (h3.trans h4.symm)
 omega
theorem Hg {k:Nat} (hk:k≤g.n.toNat):(WK g p k).Nodup:=by
 have hm:=an h.1
 obtain ⟨hi,_,_⟩:=c7 hm h.2.1 (k:=k) (by omega) fun j hj=>h.2.2 j (by omega)
 exact GZ hi
theorem Hh {r:Int} {k:Nat} (hk:k<g.n.toNat) (hO:bn p (aj p k)≠ []) {j:Nat} (h1:k+1≤j) (h2:j≤g.n.toNat):(bn p (aj p k)).map (RK g p r j)=gA (cK p k) ((bn p (aj p k)).length - 1)++ [if k=0 then r else RK g p r k (oO g p (aj p k))]:=by
 obtain ⟨v,b,hv⟩:=cG hO
 have e1:((bn p (aj p k)).length - 1)=v.length:=by rw [hv];simp
 rw [e1]
 conv=>lhs;rw [hv]
 rw [List.map_append,List.map_cons,List.map_nil,vn h hk hv h1 h2]
 congr 1
 refine List.ext_getElem? fun i=> ?_
 by_cases hi:i<v.length
 ·rw [List.getElem?_map,List.getElem?_eq_getElem hi,gA,List.getElem?_map,List.getElem?_range hi,Option.map_some,Option.map_some]
  have hs:v=v.take i++v[i]::v.drop (i+1):=by simp
  obtain ⟨c,w,Ro⟩:∃c w,v.drop (i+1)++ [b]=c::w:=by
   cases hd:v.drop (i+1) with
   |nil=>exact ⟨b, [],rfl⟩
   |cons c w=>exact ⟨c,w++ [b],rfl⟩
  have h3:bn p (aj p k)=v.take i++v[i]::c::w:=by
   rw [hv]
   conv=>lhs;rw [hs]
   rw [List.append_assoc,List.cons_append,Ro]
  rw [jd h hk h3 h1 h2,List.length_take,Nat.min_eq_left (by omega)]
  congr 1
 ·rw [List.getElem?_eq_none (by simpa using hi),List.getElem?_eq_none (by rw [kU];omega)]
theorem yP (hI:j8 g=true):∀ {j:Nat},j+1<g.n.toNat→gP g p j=WK g p (j+1)∧nI g p j=0::(WK g p (j+1)).map (RK g p (-1) (j+1))∧WK g p (j+1)≠ []
 |0,hj=>by
  have hO:bn p (aj p 0)≠ []:=fun h1=>by
   have:=(dZ h hI (aF h.2.1 (show 0<g.n.toNat by omega))).1 h1
   have:=cZ h.2.1 (show 0<g.n.toNat by omega) (by omega) this
   omega
  refine ⟨(vo h (by omega)).symm, ?_,by rw [vo h (by omega)];exact hO⟩
  rw [vo h (by omega),Hh h (by omega) hO (Nat.le_refl _) (by omega),if_pos rfl]
  rfl
 |j+1,hj=>by
  obtain ⟨i1,i2,i3⟩:=yP hI (j:=j) (by omega)
  obtain ⟨A,C,e1,hne,e2⟩:=lU h (k:=j+1) (by omega) (by omega)
  have hO:bn p (aj p (j+1))≠ []:=fun h1=>by
   have:=(dZ h hI (aF h.2.1 (show j+1<g.n.toNat by omega))).1 h1
   have:=cZ h.2.1 (show j+1<g.n.toNat by omega) (by omega) this
   omega
  have cC:=Hg h (k:=j+1) (by omega)
  have LW:ee (WK g p (j+1)) (fH g p (aj p (j+1)))=(A.length:Int):=by
   rw [e1] at cC ⊢
   exact Hf h cC hne
  have C3:∀a∈WK g p (j+1),RK g p (-1) (j+1+1) a=RK g p (-1) (j+1) a:=fun a ha=>by
   obtain ⟨i,hi,e⟩:=tH h (by omega) ha
   rw [fC h (by omega) e (j:=j+1+1) (by omega) (by omega),fC h (by omega) e (j:=j+1) (by omega) (by omega)]
  refine ⟨?_, ?_,by rw [e2];simp [hO]⟩
  ·rw [gP,if_neg hO,i1,LW,Int.toNat_natCast,e2]
   congr 1
   ·congr 1
    rw [e1,List.append_assoc,List.take_left]
   ·rw [e1, ← List.length_append,List.drop_left]
  ·rw [nI,i1,i2,LW,Int.toNat_natCast,List.take_succ_cons,e2]
   have e3:(WK g p (j+1)).map (RK g p (-1) (j+1))=A.map (RK g p (-1) (j+1))++((b8 g p (aj p (j+1))).map (RK g p (-1) (j+1))++C.map (RK g p (-1) (j+1))):=by rw [e1];simp
   have hA:A.map (RK g p (-1) (j+1+1))=A.map (RK g p (-1) (j+1)):=List.map_congr_left fun a ha=>C3 a (by rw [e1];simp [ha])
   have hC:C.map (RK g p (-1) (j+1+1))=C.map (RK g p (-1) (j+1)):=List.map_congr_left fun a ha=>C3 a (by rw [e1];simp [ha])
   rw [List.map_append,List.map_append,hA,hC,Hh h (by omega) hO (Nat.le_refl _) (by omega),if_neg (by omega)]
   rw [e3,List.take_append_of_le_length (by simp),List.take_of_length_le (by simp)]
   obtain ⟨u,a,hu⟩:=cG hne
   have hl:(b8 g p (aj p (j+1))).length=u.length+1:=by rw [hu];simp
   rw [hl,show A.length+(u.length+1)=(A.length+u.length)+1 by omega,List.drop_succ_cons]
   have e4:(A.map (RK g p (-1) (j+1))++((b8 g p (aj p (j+1))).map (RK g p (-1) (j+1))++C.map (RK g p (-1) (j+1)))).drop (A.length+u.length)=RK g p (-1) (j+1) (oO g p (aj p (j+1)))::C.map (RK g p (-1) (j+1)):=by
    rw [nE h hu,hu]
    have:A.map (RK g p (-1) (j+1))++((u++ [a]).map (RK g p (-1) (j+1))++C.map (RK g p (-1) (j+1)))=(A++u).map (RK g p (-1) (j+1))++(RK g p (-1) (j+1) a::C.map (RK g p (-1) (j+1))):=by simp
    rw [this,show A.length+u.length=((A++u).map (RK g p (-1) (j+1))).length by simp,List.drop_left]
   rw [e4]
   simp
theorem dI {A B:List Int} (h:B≠ []):(A++B).dropLast=A++B.dropLast:=by
 obtain ⟨u,a,rfl⟩:=cG h
 rw [← List.append_assoc,List.dropLast_concat,List.dropLast_concat]
theorem yQ (hI:j8 g=true):∀ {k:Nat},1≤k→k<g.n.toNat→∀a∈(WK g p k).dropLast,1≤RK g p (-1) k a∧RK g p (-1) k a<cK p k
 |0,h1,_,_,_=>by omega
 |k+1,_,hk,a,ha=>by
  have hO:bn p (aj p k)≠ []:=fun h1=>by
   have:=(dZ h hI (aF h.2.1 (show k<g.n.toNat by omega))).1 h1
   have:=cZ h.2.1 (show k<g.n.toNat by omega) (by omega) this
   omega
  have hc:cK p (k+1)=cK p k+((bn p (aj p k)).length - 1):=rfl
  have Mr:0<cK p k:=nv
  have hnew:∀b∈(bn p (aj p k)).dropLast,1≤RK g p (-1) (k+1) b∧RK g p (-1) (k+1) b<cK p (k+1):=fun b hb=>by
   obtain ⟨v,c,hv⟩:=cG hO
   rw [hv,List.dropLast_concat] at hb
   obtain ⟨u,w,G9⟩:=List.append_of_mem hb
   obtain ⟨c',w',Ro⟩:∃c' w',w++ [c]=c'::w':=by
    cases w with
    |nil=>exact ⟨c, [],rfl⟩
    |cons d w=>exact ⟨d,w++ [c],rfl⟩
   have h3:bn p (aj p k)=u++b::c'::w':=by rw [hv,G9, ← Ro];simp
   rw [jd h (show k<g.n.toNat by omega) h3 (Nat.le_refl _) (by omega)]
   have:(bn p (aj p k)).length=u.length+(w'.length+2):=by rw [h3];simp
   omega
  by_cases h0:k=0
  ·subst h0
   rw [vo h (by omega)] at ha
   exact hnew a ha
  ·obtain ⟨A,C,e1,hne,e2⟩:=lU h h0 (show k<g.n.toNat by omega)
   have ih:=yQ hI (k:=k) (by omega) (by omega)
   have C3:∀a∈WK g p k,RK g p (-1) (k+1) a=RK g p (-1) k a:=fun a ha=>by
    obtain ⟨i,hi,e⟩:=tH h (by omega) ha
    rw [fC h (by omega) e (j:=k+1) (by omega) (by omega),fC h (by omega) e (j:=k) (by omega) (by omega)]
   have old:∀b∈(WK g p k).dropLast,1≤RK g p (-1) (k+1) b∧RK g p (-1) (k+1) b<cK p (k+1):=fun b hb=>by
    rw [C3 b ((List.dropLast_sublist _).subset hb)]
    have:=ih b hb
    omega
   rw [e1] at old C3
   rw [e2] at ha
   by_cases hC:C= []
   ·subst hC
    rw [List.append_nil] at ha old
    rw [dI h hO] at ha
    rw [dI h hne] at old
    rcases List.mem_append.1 ha with ha|ha
    ·exact old a (by simp [ha])
    ·exact hnew a ha
   ·rw [dI h hC] at ha old
    rcases List.mem_append.1 ha with ha|ha
    ·rcases List.mem_append.1 ha with ha|ha
     ·exact old a (by simp [ha])
     ·obtain ⟨v,b,hv⟩:=cG hO
      rw [hv,List.mem_append,List.mem_singleton] at ha
      rcases ha with ha|rfl
      ·exact hnew a (by rw [hv,List.dropLast_concat];exact ha)
      ·obtain ⟨u,c,hu⟩:=cG hne
       rw [vn h (show k<g.n.toNat by omega) hv (Nat.le_refl _) (by omega),if_neg h0,nE h hu, ← C3 c (by rw [hu];simp)]
       exact old c (by rw [hu];simp)
    ·exact old a (by simp [ha])
theorem yR (hI:j8 g=true) {k:Nat} (hk:k<g.n.toNat):∀f∈j6 g p k,0≤f∧f<(qO g p k).length:=by
 intro f hf
 rw [gQ]
 obtain ⟨a,ha,rfl⟩:=List.mem_map.1 hf
 have NS:b8 g p (aj p k)≠ []:=fun h0=>by rw [h0] at ha;simp at ha
 have xY:=Ay h hk NS
 obtain ⟨A,C,e1,hne,_⟩:=lU h xY hk
 have:=yQ h hI (k:=k) (by omega) hk a (by
  rw [e1]
  by_cases hC:C= []
  ·subst hC;rw [List.append_nil,dI h hne];simp [ha]
  ·rw [dI h hC];simp [(List.dropLast_sublist _).subset ha])
 omega
theorem Hj (hI:j8 g=true) {j:Nat} (hj:j+1<g.n.toNat):∃a:Nat,ee (gP g p j) (fH g p (aj p (j+1)))=a∧0<(b8 g p (aj p (j+1))).length∧a+(b8 g p (aj p (j+1))).length≤(gP g p j).length∧
 (nI g p j).length=(gP g p j).length+1∧(nI g p j).getD a 0=LK g p (j+1) (fH g p (aj p (j+1)))∧(nI g p j).getD (a+(b8 g p (aj p (j+1))).length) 0=RK g p (-1) (j+1) (oO g p (aj p (j+1)))∧
 ((nI g p j).take (a+(b8 g p (aj p (j+1))).length)).drop (a+1)=j6 g p (j+1):=by
 obtain ⟨i1,i2,i3⟩:=yP h hI hj
 obtain ⟨A,C,e1,hne,e2⟩:=lU h (k:=j+1) (by omega) hj
 have cC:=Hg h (k:=j+1) (by omega)
 have LW:ee (WK g p (j+1)) (fH g p (aj p (j+1)))=(A.length:Int):=by
  rw [e1] at cC ⊢
  exact Hf h cC hne
 have hlk:=(BS (r:= -1) h hI (k:=j+1) (by omega) hj i3).1
 obtain ⟨u,c,hu⟩:=cG hne
 obtain ⟨c0,u0,EW⟩:=fM hne
 have hl:(b8 g p (aj p (j+1))).length=u.length+1:=by rw [hu];simp
 rw [i1,i2]
 refine ⟨A.length,LW,by omega,by rw [e1];simp,by simp, ?_, ?_, ?_⟩
 ·rw [e1,b9,b9] at hlk
  have h1:=hlk.1.2
  rw [EW] at h1
  rw [sg h EW,h1.1,e1]
  rcases List.eq_nil_or_concat A with hA|⟨A',t,hA⟩
  ·subst hA;rfl
  ·rw [List.concat_eq_append] at hA
   subst hA
   rw [dw]
   have:(0::(A'++ [t]++b8 g p (aj p (j+1))++C).map (RK g p (-1) (j+1)))=(0::A'.map (RK g p (-1) (j+1)))++RK g p (-1) (j+1) t::((b8 g p (aj p (j+1))++C).map (RK g p (-1) (j+1))):=by simp
   rw [this]
   have h2:(A'++ [t]).length=(0::A'.map (RK g p (-1) (j+1))).length:=by simp
   rw [h2];exact kZ
 ·rw [nE h hu,e1,hl]
  have:(0::(A++b8 g p (aj p (j+1))++C).map (RK g p (-1) (j+1)))=(0::(A++u).map (RK g p (-1) (j+1)))++RK g p (-1) (j+1) c::(C.map (RK g p (-1) (j+1))):=by rw [hu];simp
  rw [this]
  have h2:A.length+(u.length+1)=(0::(A++u).map (RK g p (-1) (j+1))).length:=by simp;omega
  rw [h2];exact kZ
 ·rw [e1,hl]
  have:(0::(A++b8 g p (aj p (j+1))++C).map (RK g p (-1) (j+1)))=(0::A.map (RK g p (-1) (j+1)))++(u.map (RK g p (-1) (j+1))++(RK g p (-1) (j+1) c::(C.map (RK g p (-1) (j+1))))):=by rw [hu];simp
  rw [this,List.take_append,List.drop_append]
  have h2:(0::A.map (RK g p (-1) (j+1))).length=A.length+1:=by simp
  rw [h2,List.take_of_length_le (by rw [h2];omega),List.drop_of_length_le (by rw [h2];omega),h2]
  rw [show A.length+(u.length+1) - (A.length+1)=u.length by omega,Nat.sub_self,List.drop_zero,List.nil_append]
  rw [List.take_append_of_le_length (by simp),List.take_of_length_le (by simp)]
  unfold j6
  rw [hu,List.dropLast_concat]
end
end Go.Ab
end
section
namespace Go.Ab
open Go.Proofs
attribute [local congr] ACall.congr gd.congr Nx.congr
set_option maxRecDepth 10000
set_option maxHeartbeats 8000000
def swapT (l:List It) (k:Nat):List It:=(List.range l.length).map fun p=>if p<k∨l.length - 1<p+k then l.getD (l.length - 1 - p) (0,0,0) else l.getD p (0,0,0)
def SB (rs:List Int) (l:List It):Int:=match l.find? (fun t=>decide (t.2.2∈rs)) with
 |some t=>t.2.2
 |none=>rs.headD (-1)
end Go.Ab
end
section
namespace Go.Ab
open Go.Proofs
attribute [local congr] ACall.congr gd.congr Nx.congr
set_option maxRecDepth 10000
set_option maxHeartbeats 8000000
def VI (b:Bool) (g:Gr) (p:Pl):List Int × List Int × Int:=
 if (bX b g p).2.1=0∧j8 g=true then (CR g p false g.n.toNat,CR g p true g.n.toNat,0) else ([], [],1)
end Go.Ab
end
section
namespace Go.Ab
open Go.Proofs
attribute [local congr] ACall.congr gd.congr Nx.congr
set_option maxRecDepth 10000
set_option maxHeartbeats 8000000
theorem pS {b:Bool} {g:Gr} {p:Pl} (hr:b=true↔(bF g).1=0∧bt g p) (h:bH g p):bX b g p=((dM g p g.n.toNat,nj g p),(0,0)):=by
 obtain rfl:b=true:=hr.2 ⟨h.1,h.2.1⟩
 unfold bX
 rw [if_neg (by simp),fR.2 h.2.2]
 rfl
theorem Uy (g:Gr) (p:Pl):∃b:Bool,(b=true↔(bF g).1=0∧bt g p):=by
 by_cases h:(bF g).1=0∧bt g p
 ·exact ⟨true,by simp [h]⟩
 ·exact ⟨false,by simp [h]⟩
end Go.Ab
end
section
namespace Go.Ab
open Go.Proofs
attribute [local congr] ACall.congr gd.congr Nx.congr
set_option maxRecDepth 60000
set_option maxHeartbeats 8000000
structure Fc where
 L:List Int
 R:List Int
 lo:List Int
 hi:List Int
def mw (g:Gr) (p:Pl) (f:Int):Int:=if f= -1 then (cK p g.n.toNat:Int) else f
def J1 (g:Gr) (p:Pl):Fc:=⟨arr (LK g p g.n.toNat) g.es.length,(arr (RK g p (-1) g.n.toNat) g.es.length).map (mw g p),iO p g.n.toNat++ [aj p 0],qO g p g.n.toNat++ [aj p (g.n.toNat - 1)]⟩
def BW:Fc:=⟨[], [], [], []⟩
def J2 (b:Bool) (g:Gr) (p:Pl):Fc × Int:=if ((bX b g p).2.1=0∧j8 g=true)∧0<g.es.length then (J1 g p,0) else (BW,1)
def mz (f:Fc):AV:= .agg [.d (sI f.L), .d (sI f.R), .d (sI f.lo), .d (sI f.hi)]
def nJ (l:List Int) (f:Int→Int) (j:Nat):List Int:=(l.take j).map f++l.drop j
theorem Hl {l:List Int} {f:Int→Int} {j:Nat} :(nJ l f j).length=l.length:=by
 simp only [nJ,List.length_append,List.length_map,List.length_take,List.length_drop];omega
theorem xA {l:List Int} {f:Int→Int} {j:Nat} (h:j<l.length):nJ l f (j+1)=(nJ l f j).set j (f (l.getD j 0)):=by
 have h1:((l.take j).map f).length=j:=by simp;omega
 have e:l.getD j 0=l[j]:=by rw [List.getD_eq_getElem?_getD,List.getElem?_eq_getElem h];rfl
 unfold nJ
 have e2:l.take (j+1)=l.take j++ [l[j]]:=by rw [List.take_add_one,List.getElem?_eq_getElem h];rfl
 rw [List.drop_eq_getElem_cons h,List.set_append,h1,if_neg (by omega),Nat.sub_self,List.set_cons_zero,e2,e,List.map_append,List.append_assoc]
 rfl
theorem C7 {l:List Int} {f:Int→Int} {j:Nat} (h:j<l.length):(nJ l f j).getD j 0=l.getD j 0:=by
 have h1:((l.take j).map f).length=j:=by simp;omega
 unfold nJ
 rw [List.getD_eq_getElem?_getD,List.getElem?_append_right (by omega),h1,Nat.sub_self,List.drop_eq_getElem_cons h,List.getD_eq_getElem?_getD,List.getElem?_eq_getElem h];rfl
theorem Ho {l:List Int} {f:Int→Int} :nJ l f l.length=l.map f:=by simp [nJ]
theorem Eu {l:List Int} {f:Int→Int} {j:Nat} (h:j<l.length) (hf:f (l.getD j 0)=l.getD j 0):nJ l f (j+1)=nJ l f j:=by
 rw [xA h,hf]
 refine List.ext_getElem? fun i=> ?_
 rw [List.getElem?_set]
 split
 ·rename_i e;subst e
  split
  ·have:=C7 (l:=l) (f:=f) h
   rename_i hl
   rw [List.getD_eq_getElem?_getD,List.getElem?_eq_getElem hl] at this
   rw [List.getElem?_eq_getElem hl]
   simpa using this.symm
  ·rename_i hl;rw [List.getElem?_eq_none (by omega)]
 ·rfl
theorem xC {g:Gr} {p:Pl} (h:bH g p):0<(bg (·.2) g).length∧(bg (·.2) g).getD 0 0=aj p 0:=by
 have hn:=aM (an h.1)
 have h0:=aF h.2.1 (k:=0) (by omega)
 have hm:aj p 0∈bg (·.2) g:=jk.2 ⟨h0,gw h⟩
 have hl:=List.length_pos_of_mem hm
 refine ⟨hl, ?_⟩
 have:=jk.1 (aB (l:=bg (·.2) g) (m:=0) (d:=0) hl)
 exact jO h.1 this.1 h0 this.2 (gw h)
theorem Ev {g:Gr} {p:Pl} (h:bH g p) (hI:j8 g=true):0<(bg (·.1) g).length∧(bg (·.1) g).getD 0 0=aj p (g.n.toNat - 1):=by
 have hn:=aM (an h.1)
 have h0:=aF h.2.1 (k:=g.n.toNat - 1) (by omega)
 have hm:aj p (g.n.toNat - 1)∈bg (·.1) g:=fu.2 ⟨h0,(iI h.2.1 h0.1 h0.2).2 (rZ h).1⟩
 have hl:=List.length_pos_of_mem hm
 refine ⟨hl, ?_⟩
 have:=fu.1 (aB (l:=bg (·.1) g) (m:=0) (d:=0) hl)
 exact (dZ h hI this.1).1 ((iI h.2.1 this.1.1 this.1.2).1 this.2)
theorem J3 {g:Gr} {p:Pl} (h:bH g p):∀ {k:Nat},k≤g.n.toNat→cK p k≤1+k*g.es.length
 |0,_=>by simp [cK]
 |k+1,hk=>by
  have:=J3 h (k:=k) (by omega)
  have hx:=aF h.2.1 (show k<g.n.toNat by omega)
  have:=jQ h.2.1 hx.1 hx.2
  rw [cK,Nat.add_mul];omega
theorem sS {g:Gr} {p:Pl} (h:bH g p) {k:Nat} (hk:k≤g.n.toNat):cK p k≤100000∧(∀x:Int,(bn p x).length≤100000∨¬iN g x):=by
 have hn:=aM (an h.1)
 have h1:=J3 h hk
 have h2:k*g.es.length≤64*128:=Nat.mul_le_mul (by omega) (by omega)
 refine ⟨by omega,fun x=> ?_⟩
 by_cases hx:iN g x
 ·have:=jQ h.2.1 hx.1 hx.2;exact .inl (by omega)
 ·exact .inr hx
theorem Ew (g:Gr) (p:Pl) (hp:qK p) (hrun:bH g p) (hI:j8 g=true) (hm0:0<g.es.length) (b:Bool) (hr:b=true↔(bF g).1=0∧bt g p):
 Spec Tryz.prog 11 (Args [eG g,ePl p]) [] (.tup [mz (J1 g p),eN 0]) []:=by
 have hm:=an hrun.1
 have hn:=aM hm
 have hle:=bR hrun.2.1
 have hO:=j0 g (by omega) p hp b hr
 have Ld:=vl g (by omega)
 have Lg:=fL g hm
 have ON:=fc g hm
 have Uz:=uH g hm
 obtain ⟨hs1,hs2⟩:=xC hrun
 obtain ⟨Rp,hs4⟩:=Ev hrun hI
 rw [pS hr hrun] at hO
 simp only at hO
 rw [hI] at Ld
 have hb0:decide ((g.es.length:Int)=0)=false:=decide_eq_false (by omega)
 have hn2:1<g.n.toNat:=by
  refine Decidable.byContradiction fun hc=> ?_
  have ht:=bL hm (i:=0) hm0
  have hh:=bQ hm (i:=0) hm0
  obtain ⟨j,hj,_⟩:=r8 hrun (e:=0) (by omega) (k:=0) (by omega) (by
   obtain ⟨k,hk,e⟩:=dH hrun.2.1 hh.1 hh.2
   obtain rfl:k=0:=by omega
   exact e.symm)
  omega
 obtain ⟨s0,hs0⟩:∃s:Nat,aj p 0=s:=by have:=aF hrun.2.1 (k:=0) (by omega);exact ⟨(aj p 0).toNat,by omega⟩
 have Rq:s0<p.outs.length:=by have:=aF hrun.2.1 (k:=0) (by omega);have:=hrun.2.1.1;omega
 have ta:=iu Rq
 have Rr:p.outs.getD s0 []=bn p (aj p 0):=by unfold bn;rw [hs0,Int.toNat_natCast]
 rw [Rr] at ta
 have UA:=jQ hrun.2.1 (aF hrun.2.1 (k:=0) (by omega)).1 (aF hrun.2.1 (k:=0) (by omega)).2
 have G6:=xx (aj p 0) 0 (-1) (bn p (aj p 0)) (.sl 1 []) (sI [0, -1]) (arr (LK g p 0) g.es.length) (arr (RK g p (-1) 0) g.es.length) [aj p 0] [aj p (g.n.toNat - 1)] (by omega) (fun i hi=>by rw [dh];exact (je hrun (by omega) hi).1) (by rw [dh,dh]) (by simp) (by simp)
 have SC:=NQ hrun (k:=0) (by omega)
 have SD:=NR (r:= -1) hrun (k:=0) (by omega)
 rw [if_pos rfl] at SC SD
 have NT:b8 g p (aj p 0)= []:=by
  have:=jF hrun (aF hrun.2.1 (k:=0) (by omega))
  rw [gw hrun] at this
  exact List.eq_nil_of_length_eq_zero this
 have hi1:qO g p 1= [aj p (g.n.toNat - 1)]++List.replicate ((bn p (aj p 0)).length - 1) 0:=by
  have:j6 g p 0= []:=by unfold j6;rw [NT];rfl
  show kX (qO g p 0) (j6 g p 0) (aj p 0) (j6 g p 0).length++_=_
  rw [this];rfl
 have Rt:iO p 1= [aj p 0]++List.replicate ((bn p (aj p 0)).length - 1) (aj p 0):=rfl
 have hc1:([aj p 0]:List Int).length=cK p 0:=rfl
 rw [hc1,SC,SD, ← hi1, ← Rt] at G6
 have As:∀f:Int→Int,(∀e,f e=0)→List.replicate g.es.length [D.sc (.int .i64 0)]=(arr f g.es.length).map rI:=fun f hf=>by
  refine List.ext_getElem? fun i=> ?_
  simp only [arr,List.getElem?_replicate,List.getElem?_map]
  by_cases hi:i<g.es.length
  ·rw [if_pos hi,List.getElem?_range hi];simp [hf,rI]
  ·rw [if_neg hi,List.getElem?_eq_none (by simpa using hi)];rfl
 have jU:=As (LK g p 0) fun _=>rfl
 have Ik:=mQ (bn p (aj p 0)) (by omega)
 have Ru:=j5 [0, -1] (gA (cK p 0) ((bn p (aj p 0)).length - 1)) 1 1 (by simp) (by simp) (by rw [kU];omega)
 have KA:List.take 1 [(0:Int), -1]++gA (cK p 0) ((bn p (aj p 0)).length - 1)++List.drop 1 [(0:Int), -1]=nI g p 0:=rfl
 rw [KA] at Ru
 have UB:RK g p (-1) 0=LK g p 0:=by funext e;rfl
 rw [UB] at G6
 have IZ:gP g p 0=bn p (aj p 0):=rfl
 have Ik:Spec Tryz.prog 44 (Args [.d (sI (bn p (s0:Int)))]) [] (.d (sI (gP g p 0))) []:=by
  rw [IZ, ← hs0];exact Ik
 generalize SE:arr (LK g p 0) g.es.length=A0 at G6 jU
 have v8:=kU (c:=cK p 0) (k:=(bn p (aj p 0)).length - 1)
 generalize gA (cK p 0) ((bn p (aj p 0)).length - 1)=gs at G6 Ru v8
 unfold L3 L4 at G6
 have Ex:List.drop 1 (List.map rI p.ord)=(p.ord.drop 1).map rI:=by rw [List.map_drop]
 have hdl:(p.ord.drop 1).length=g.n.toNat - 1:=by rw [List.length_drop];omega
 have pK:List.take p.ord.length (List.map rI p.ord)=List.map rI p.ord:=List.take_of_length_le (by simp)
 generalize Pg:g.n.toNat - 1=N1 at hdl
 (refine Spec.hd (C:=T.cfg [67] []) (rs:= [.c 4 32, .t 5]) (T.ah _ _) Tryz.func11 rfl rfl Tryz.ntmps11 Tryz.results11 (by simp [AObj.isNest]) (by simp [AObj.isNest]) (by kernel_rfl) T.mixed fun X hX hP hC aI bU=> ?_)
 repeat' (first|(show cw _ (.seq (.region 8 _ _) _) _ _;(refine qt 54 0 1 rfl rfl rfl ?_;simp only [List.set_cons_zero,List.set_cons_succ,go_sem,simprocAttr,hb0,hs2,hs4,jU,hs0,ta,Ex,hdl,rI]);(refine dV hX 52 rfl ?_;simp only [go_sem,simprocAttr,hb0,hs2,hs4,jU,hs0,ta,Ex,hdl,rI]))|refine Rn.p ?_|(with_reducible apply And.intro)|((first|(refine hK _ ?_;clear hK K)|with_reducible intro K hK|refine Rs.p ?_|((with_reducible first|apply oP|apply oQ);exact rfl)|refine aa hX hC hP (hO) rfl rfl rfl (by simp only [go_sem,simprocAttr,hb0,hs2,hs4,jU,hs0,ta,Ex,hdl,rI]) rfl ?_|refine aa hX hC hP (Ld) rfl rfl rfl (by simp only [go_sem,simprocAttr,hb0,hs2,hs4,jU,hs0,ta,Ex,hdl,rI]) rfl ?_|refine aa hX hC hP (Lg) rfl rfl rfl (by simp only [go_sem,simprocAttr,hb0,hs2,hs4,jU,hs0,ta,Ex,hdl,rI]) rfl ?_|refine aa hX hC hP (ON) rfl rfl rfl (by simp only [go_sem,simprocAttr,hb0,hs2,hs4,jU,hs0,ta,Ex,hdl,rI]) rfl ?_|refine aa hX hC hP (Uz) rfl rfl rfl (by simp only [go_sem,simprocAttr,hb0,hs2,hs4,jU,hs0,ta,Ex,hdl,rI]) rfl ?_|(refine aA hX hC hP [(10000,54),(10001,59),(10002,63),(10003,65),(10004,67),(10005,300),(10006,301)] (G6) rfl rfl rfl ?_ ?_ ?_ ?_ ?_ ?_ ?_ ?_ ?_ ?_ ?_ ?_ ?_ ?_;(focus (simp only [go_sem,simprocAttr,hb0,hs2,hs4,jU,hs0,ta,Ex,hdl,rI];done));(iterate 12 (focus (simp [go_sem,simprocAttr,hb0,hs2,hs4,jU,hs0,ta,Ex,hdl,rI];done)));try simp only [List.map_cons,List.map_nil])|refine aa hX hC hP (Ik) rfl rfl rfl (by simp only [go_sem,simprocAttr,hb0,hs2,hs4,jU,hs0,ta,Ex,hdl,rI]) rfl ?_|(refine aZ hX hC hP (Ru) rfl rfl rfl ?_ ?_ rfl ?_;iterate 2 (focus (simp only [go_sem,simprocAttr,hb0,hs2,hs4,jU,hs0,ta,Ex,hdl,rI];done))));try simp only [go_sem,simprocAttr,hb0,hs2,hs4,jU,hs0,ta,Ex,hdl,rI])|((with_reducible refine oD ?_ ?_);kernel_rfl)|((with_reducible intro h);try simp only [go_sem,simprocAttr,hb0,hs2,hs4,jU,hs0,ta,Ex,hdl,rI] at h)|omega|intro h)
 refine ag (fun j:Nat=>j≤N1) (fun j=>⟨[(3, .ptr 3 0),(4, .ptr 4 0),(6, .d (.sl 1 (vT (dM g p g.n.toNat)))),(10,eN s0),(11,eN (aj p N1)),(12, .ptr 54 0),(106, .d (sI (p.ord.drop 1))),(107,eN N1),(108,eN j)], [(54, .box [.d (sI (gP g p j)), .d (sI (nI g p j)), .ref 59, .ref 63, .ref 300, .ref 301]),(59, .own 3 1 ((arr (LK g p (j+1)) g.es.length).map rI)),(63, .own 3 1 ((arr (RK g p (-1) (j+1)) g.es.length).map rI)),(300, .tip 3 1 ((iO p (j+1)).map rI)),(301, .own 3 1 ((qO g p (j+1)).map rI)),(3, .box [.d (sI p.ord), .d (.sl 1 (vI p.outs))]),(4, .box [.nil 3, .nil 3, .nil 3, .nil 3])]⟩) (fun j=>N1 - j) 0 (by omega) ?_ ?_
 ·refine Le.of ?_ ?_<;>simp [go_sem,simprocAttr,Pg,pK]
  omega
 rintro j hj
 rcases Nat.lt_or_ge j N1 with hjl|LR
 ·have hb:decide ((j:Int)<(N1:Int))=true:=decide_eq_true (by omega)
  have hjn:j+1<g.n.toNat:=by omega
  obtain ⟨a,p1,p2,p3,p4,p5,p6,p7⟩:=Hj hrun hI hjn
  have Ii:=aF hrun.2.1 hjn
  have hx:(p.ord.drop 1).getD j 0=aj p (j+1):=by
   rw [List.getD_eq_getElem?_getD,List.getElem?_drop,Nat.add_comm 1 j]
   show _=p.ord.getD (j+1) 0
   rw [List.getD_eq_getElem?_getD]
  have j7:=fun i hi=>(je hrun hjn (e:=i) hi).1
  have Cq:=jQ hrun.2.1 Ii.1 Ii.2
  have NU:=oc hrun.2.1 (Nat.le_refl _) hjn
  have hel:=kS (g:=g) (p:=p) (k:=g.n.toNat)
  have SF:=He hrun hI hjn
  have hL:=NQ hrun (k:=j+1) hjn
  have hR:=NR (r:= -1) hrun (k:=j+1) hjn
  rw [if_neg (by omega)] at hL hR
  have mq:iO p (j+1+1)=iO p (j+1)++List.replicate ((bn p (aj p (j+1))).length - 1) (aj p (j+1)):=rfl
  have hhi:qO g p (j+1+1)=kX (qO g p (j+1)) (j6 g p (j+1)) (aj p (j+1)) (j6 g p (j+1)).length++List.replicate ((bn p (aj p (j+1))).length - 1) 0:=rfl
  have Rv:=yR hrun hI hjn
  have mU:=gO (p:=p) (k:=j+1)
  have AA:=gQ (g:=g) (p:=p) (k:=j+1)
  have SG:=(sS hrun (k:=j+1) (by omega)).1
  have Cy:gP g p (j+1)=if bn p (aj p (j+1))= [] then gP g p j else (gP g p j).take (ee (gP g p j) (fH g p (aj p (j+1)))).toNat++bn p (aj p (j+1))++(gP g p j).drop ((ee (gP g p j) (fH g p (aj p (j+1)))).toNat+(b8 g p (aj p (j+1))).length):=rfl
  have Rw:nI g p (j+1)=(nI g p j).take ((ee (gP g p j) (fH g p (aj p (j+1)))).toNat+1)++gA (cK p (j+1)) ((bn p (aj p (j+1))).length - 1)++(nI g p j).drop ((ee (gP g p j) (fH g p (aj p (j+1)))).toNat+(b8 g p (aj p (j+1))).length):=rfl
  rw [p1,Int.toNat_natCast] at Cy Rw
  obtain ⟨r1,r2,r3⟩:=yP hrun hI hjn
  have VJ:(gP g p j).length≤10000:=by
   rw [r1]
   have:=gq (m:=(List.range g.es.length).map Int.ofNat) (Hg hrun (k:=j+1) (by omega)) fun e he=>by
    have hi:=c7 hm hrun.2.1 (k:=j+1) (by omega) fun i hi=>hrun.2.2 i (by omega)
    obtain ⟨t,ht,rfl⟩:=List.mem_map.1 he
    obtain ⟨⟨h1,h2⟩,_⟩:=qM hm hi.1.toiU ht
    exact List.mem_map.2 ⟨t.1.toNat,List.mem_range.2 (by omega),by simp;omega⟩
   simp at this
   omega
  have hfr:fH g p (aj p (j+1))=((eX g p (j+1)).getD 0 (0,0,0)).1:=by
   unfold fH
   rw [SF]
   cases eX g p (j+1)<;>rfl
  rw [SF,List.length_map] at p2 p3 p6 p7 Cy Rw
  have hIx:=aU (gP g p j) (fH g p (aj p (j+1))) (by omega)
  rw [p1] at hIx
  rw [hfr] at hIx p5
  have mu:=yO (aj p (j+1)) (bn p (aj p (j+1))) (gP g p j) (nI g p j) (arr (LK g p (j+1)) g.es.length) (arr (RK g p (-1) (j+1)) g.es.length) (iO p (j+1)) (qO g p (j+1)) a (a+(eX g p (j+1)).length) (by omega) (by omega) (by omega) (by omega) (by omega) (by rw [p7];exact Rv) (by omega) (fun i hi=>by rw [dh];exact j7 i hi) (by rw [dh,dh]) (by omega) (by omega)
  rw [p7,p5,p6,mU, ← hhi, ← mq, ← Cy, ← Rw] at mu
  rw [← hfr] at mu
  rw [hL,hR] at mu
  obtain ⟨x,Rx⟩:∃x:Nat,aj p (j+1)=x:=⟨(aj p (j+1)).toNat,by omega⟩
  have k9:x<p.outs.length:=by have:=hrun.2.1.1;omega
  have hv:=iu k9
  have hla:p.outs.getD x []=bn p (aj p (j+1)):=by unfold bn;rw [Rx,Int.toNat_natCast]
  rw [hla] at hv
  have Hp:=fun d=>nZ (ls:=dM g p g.n.toNat) (k:=x) (by omega) d
  have hex:(dM g p g.n.toNat).getD x []=eX g p (j+1):=by rw [← NU,Rx,Int.toNat_natCast]
  rw [hex] at Hp
  have hvl:(vT (dM g p g.n.toNat)).length=g.n.toNat:=by rw [vT_length,hel]
  have DO:x<g.n.toNat:=by omega
  obtain ⟨bb,tC⟩:∃bb:Nat,bb=a+(eX g p (j+1)).length:=⟨_,rfl⟩
  have yS:(a:Int)+((eX g p (j+1)).length:Int)=(bb:Int):=by omega
  rw [← tC] at mu
  have kj:bb≤10000:=by omega
  generalize bn p (aj p (j+1))=o at mu hv
  rw [Rx] at mu hx
  generalize eX g p (j+1)=gn at hIx Hp yS p2
  clear tC
  generalize KB:gP g p (j+1)=E2 at mu
  generalize gP g p j=E1 at mu hIx
  generalize hq1:nI g p (j+1)=G2 at mu
  generalize nI g p j=G1 at mu
  generalize CA:arr (LK g p (j+1+1)) g.es.length=A2 at mu
  generalize UC:arr (RK g p (-1) (j+1+1)) g.es.length=B2 at mu
  generalize arr (LK g p (j+1)) g.es.length=A1 at mu
  generalize arr (RK g p (-1) (j+1)) g.es.length=B1 at mu
  generalize UD:iO p (j+1+1)=L2 at mu
  generalize UE:qO g p (j+1+1)=H2 at mu
  generalize iO p (j+1)=L1 at mu
  generalize qO g p (j+1)=H1 at mu
  generalize vT (dM g p g.n.toNat)=VE at Hp hvl
  unfold L3 L4 at mu
  repeat' (first|(show cw _ (.region 15 _ _) _ _;(refine dO hX 54 4 302 300 rfl rfl rfl (by first|exact .inl rfl|exact .inr rfl) (by decide) (by decide) ?_;simp only [List.set_cons_zero,List.set_cons_succ,go_sem,simprocAttr,hb,hx,hv,Hp,hvl,yS]);(refine dO hX 54 5 303 301 rfl rfl rfl (by first|exact .inl rfl|exact .inr rfl) (by decide) (by decide) ?_;simp only [List.set_cons_zero,List.set_cons_succ,go_sem,simprocAttr,hb,hx,hv,Hp,hvl,yS]))|refine Rn.p ?_|(with_reducible apply And.intro)|((first|(refine hK _ ?_;clear hK K)|with_reducible intro K hK|refine Rs.p ?_|((with_reducible first|apply oP|apply oQ);exact rfl)|refine aa hX hC hP (hIx) rfl rfl rfl (by simp only [go_sem,simprocAttr,hb,hx,hv,Hp,hvl,yS]) rfl ?_|(refine aA hX hC hP [(10000,54),(10001,59),(10002,63),(10003,300),(10004,301),(10005,302),(10006,303)] (mu) rfl rfl rfl ?_ ?_ ?_ ?_ ?_ ?_ ?_ ?_ ?_ ?_ ?_ ?_ ?_ ?_;(focus (simp only [go_sem,simprocAttr,hb,hx,hv,Hp,hvl,yS];done));(iterate 12 (focus (simp [go_sem,simprocAttr,hb,hx,hv,Hp,hvl,yS];done)));try simp only [List.map_cons,List.map_nil]));try simp only [go_sem,simprocAttr,hb,hx,hv,Hp,hvl,yS])|((with_reducible refine oD ?_ ?_);kernel_rfl)|((with_reducible intro h);try simp only [go_sem,simprocAttr,hb,hx,hv,Hp,hvl,yS] at h)|omega|intro h)
  refine ⟨j+1,by omega, ?_,by omega⟩
  rw [KB,hq1,CA,UC,UD,UE]
  refine Le.of ?_ ?_<;>simp [go_sem,simprocAttr,hb,hx,hv,Hp,hvl,yS]
 have hb:decide ((j:Int)<(N1:Int))=false:=decide_eq_false (by omega)
 obtain rfl:j=N1:=by omega
 have UF:j+1=g.n.toNat:=by omega
 rw [UF]
 have mU:=gO (p:=p) (k:=g.n.toNat)
 have AA:=gQ (g:=g) (p:=p) (k:=g.n.toNat)
 have SG:=(sS hrun (k:=g.n.toNat) (by omega)).1
 have UG:J1 g p=⟨arr (LK g p g.n.toNat) g.es.length,(arr (RK g p (-1) g.n.toNat) g.es.length).map (mw g p),iO p g.n.toNat++ [(s0:Int)],qO g p g.n.toNat++ [aj p j]⟩:=by unfold J1;rw [hs0,Pg]
 have UH:(arr (RK g p (-1) g.n.toNat) g.es.length).length=g.es.length:=dh
 rw [UG]
 have hrf:∀f,mw g p f=if f= -1 then (cK p g.n.toNat:Int) else f:=fun f=>rfl
 generalize arr (RK g p (-1) g.n.toNat) g.es.length=RA at UH
 generalize arr (LK g p g.n.toNat) g.es.length=LA
 generalize iO p g.n.toNat=LO at mU
 generalize qO g p g.n.toNat=HI at AA
 generalize gP g p j=E1
 generalize nI g p j=G1
 generalize cK p g.n.toNat=cc at mU AA SG hrf
 repeat' (first|refine Rn.p ?_|(with_reducible apply And.intro)|((first|(refine hK _ ?_;clear hK K)|with_reducible intro K hK|refine Rs.p ?_|((with_reducible first|apply oP|apply oQ);exact rfl));try simp only [go_sem,simprocAttr,hb,mU])|((with_reducible refine oD ?_ ?_);kernel_rfl)|((with_reducible intro h);try simp only [go_sem,simprocAttr,hb,mU] at h)|omega|intro h)
 refine ag (fun i:Nat=>i≤RA.length) (fun i=>⟨[(4, .ptr 4 0),(12, .ptr 54 0),(17,eN cc),(175, .ref 63),(176,eN RA.length),(177,eN i)], [(54, .box [.d (sI E1), .d (sI G1), .ref 59, .ref 63, .ref 156, .ref 164]),(59, .own 3 1 (LA.map rI)),(63, .own 3 1 ((nJ RA (mw g p) i).map rI)),(156, .tip 3 1 ((LO++ [(s0:Int)]).map rI)),(164, .own 3 1 ((HI++ [aj p j]).map rI)),(4, .box [.nil 3, .nil 3, .nil 3, .nil 3])]⟩) (fun i=>RA.length - i) 0 (by omega) ?_ ?_
 ·refine Le.of ?_ ?_<;>simp [go_sem,simprocAttr,nJ,rI]
 rintro i hi
 rcases Nat.lt_or_ge i RA.length with hil|No
 ·have mD:decide ((i:Int)<(RA.length:Int))=true:=decide_eq_true (by omega)
  have hml:=Hl (l:=RA) (f:=mw g p) (j:=i)
  have hma:=C7 (f:=mw g p) hil
  by_cases A7:RA.getD i 0= -1
  ·have au:decide ((nJ RA (mw g p) i).getD i 0= -1)=true:=decide_eq_true (by rw [hma,A7])
   have ef:=xA (f:=mw g p) hil
   rw [hrf,if_pos A7] at ef
   generalize nJ RA (mw g p) i=M at hml au ef
   repeat' (first|refine Rn.p ?_|(with_reducible apply And.intro)|((first|(refine hK _ ?_;clear hK K)|with_reducible intro K hK|refine Rs.p ?_|((with_reducible first|apply oP|apply oQ);exact rfl));try simp only [go_sem,simprocAttr,mD,au,hml])|((with_reducible refine oD ?_ ?_);kernel_rfl)|((with_reducible intro h);try simp only [go_sem,simprocAttr,mD,au,hml] at h)|omega|intro h)
   refine ⟨i+1,by omega, ?_,by omega⟩
   rw [ef]
   refine Le.of ?_ ?_<;>simp [go_sem,simprocAttr,mD,au,hml,rI]
  ·have au:decide ((nJ RA (mw g p) i).getD i 0= -1)=false:=decide_eq_false (by rw [hma];exact A7)
   have ef:=Eu (f:=mw g p) hil (by rw [hrf,if_neg A7])
   generalize nJ RA (mw g p) i=M at hml au ef
   repeat' (first|refine Rn.p ?_|(with_reducible apply And.intro)|((first|(refine hK _ ?_;clear hK K)|with_reducible intro K hK|refine Rs.p ?_|((with_reducible first|apply oP|apply oQ);exact rfl));try simp only [go_sem,simprocAttr,mD,au,hml])|((with_reducible refine oD ?_ ?_);kernel_rfl)|((with_reducible intro h);try simp only [go_sem,simprocAttr,mD,au,hml] at h)|omega|intro h)
   refine ⟨i+1,by omega, ?_,by omega⟩
   rw [ef]
   refine Le.of ?_ ?_<;>simp [go_sem,simprocAttr,mD,au,hml,rI]
 have mD:decide ((i:Int)<(RA.length:Int))=false:=decide_eq_false (by omega)
 obtain rfl:i=RA.length:=by omega
 rw [Ho]
 repeat' (first|refine Rn.p ?_|(with_reducible apply And.intro)|((first|(refine hK _ ?_;clear hK K)|with_reducible intro K hK|refine Rs.p ?_|((with_reducible first|apply oP|apply oQ);exact rfl));try simp only [go_sem,simprocAttr,mD,mz])|((with_reducible refine oD ?_ ?_);kernel_rfl)|((with_reducible intro h);try simp only [go_sem,simprocAttr,mD,mz] at h)|omega|intro h)
end Go.Ab
end
section
namespace Go.Ab
open Go.Proofs
set_option maxRecDepth 10000
set_option linter.unusedSectionVars false
section
variable (g:Gr) (p:Pl)
def cN:Nat:=cK p g.n.toNat
def Lf (e:Int):Int:=LK g p g.n.toNat e
def Rf (e:Int):Int:=RK g p (cN g p) g.n.toNat e
def Jg:List Int:=iO p g.n.toNat++ [aj p 0]
def L5:List Int:=qO g p g.n.toNat++ [aj p (g.n.toNat - 1)]
def SH (f:Int):Int:=(Jg g p).getD f.toNat 0
def UI (f:Int):Int:=(L5 g p).getD f.toNat 0
end
section
variable {g:Gr} {p:Pl}
theorem Jh:(Jg g p).length=cN g p+1:=by simp [Jg,gO,cN]
variable (h:bH g p) (hI:j8 g=true)
include h hI
theorem NV {a:Int} (ha:(aY g p).JY a):∃k u b v,k<g.n.toNat∧iV g a=aj p k∧bn p (aj p k)=u++a::b::v:=by
 obtain ⟨x,u,b,v,e⟩:=ha
 by_cases hx:iN g x
 ·obtain ⟨k,hk,rfl⟩:=dH h.2.1 hx.1 hx.2
  rw [dg hx] at e
  exact ⟨k,u,b,v,hk,(pQ h hk e).1,e⟩
 ·rw [nu hx] at e;cases u<;>cases e
theorem C8 {a:Int} (ha:(aY g p).JY a):∃f:Nat,1≤f∧f<cN g p∧∀r,RK g p r g.n.toNat a=f:=by
 obtain ⟨k,u,b,v,hk,_,e⟩:=NV h hI ha
 have hl:(bn p (aj p k)).length=u.length+(v.length+2):=by rw [e];simp
 have ET:cK p (k+1)=cK p k+((bn p (aj p k)).length - 1):=rfl
 obtain ⟨d,hd⟩:=Nat.exists_eq_add_of_le (show k+1≤g.n.toNat by omega)
 have hmo:=og (p:=p) (k:=k+1) (d:=d)
 rw [← hd] at hmo
 have hp:0<cK p k:=nv
 have Mo:cN g p=cK p g.n.toNat:=rfl
 exact ⟨cK p k+u.length,by omega,by omega,fun r=>by rw [jd h hk e (by omega) (Nat.le_refl _)];omega⟩
theorem Hq {f:Nat} (h1:1≤f) (h2:f<cN g p):∃a,(aY g p).JY a∧Rf g p a=f:=by
 have key:∀n,n≤g.n.toNat→f<cK p n→∃k,k<n∧cK p k≤f∧f<cK p (k+1):=by
  intro n
  induction n with
  |zero=>intro _ h3;have:f<1:=h3;omega
  |succ n ih=>
   intro h3 h4
   by_cases h5:f<cK p n
   ·obtain ⟨k,h6,h7⟩:=ih (by omega) h5;exact ⟨k,by omega,h7⟩
   ·exact ⟨n,by omega,by omega,h4⟩
 obtain ⟨k,hk,h3,h4⟩:=key g.n.toNat (Nat.le_refl _) h2
 have ET:cK p (k+1)=cK p k+((bn p (aj p k)).length - 1):=rfl
 have hu:f - cK p k+1<(bn p (aj p k)).length:=by omega
 have e:bn p (aj p k)=(bn p (aj p k)).take (f - cK p k)++(bn p (aj p k))[f - cK p k]::(bn p (aj p k))[f - cK p k+1]::(bn p (aj p k)).drop (f - cK p k+2):=by
  rw [← List.drop_eq_getElem_cons hu, ← List.drop_eq_getElem_cons (by omega),List.take_append_drop]
 have hx:=aF h.2.1 (show k<g.n.toNat by omega)
 refine ⟨(bn p (aj p k))[f - cK p k],⟨aj p k,_,_,_,by rw [dg hx];exact e⟩, ?_⟩
 unfold Rf
 rw [jd h (by omega) e (by omega) (Nat.le_refl _),List.length_take]
 omega
theorem cU:(aY g p).iH (Lf g p) (Rf g p) 0 (cN g p) (SH g p):=by
 have F:=pR h hI (r:=cN g p) (.inr (Int.le_refl _))
 exact {F with
  new:=fun {x u a b v} e=>by
   obtain ⟨h1,h2,h3⟩:=F.new e
   obtain ⟨f,_,h5,h6⟩:=C8 h hI (a:=a) ⟨x,u,b,v,e⟩
   have h7:Rf g p a=f:=h6 _
   have h8:RK g p (cN g p) g.n.toNat a=f:=h6 _
   refine ⟨?_,h2,h3⟩
   rw [h8] at h1
   show (iO p g.n.toNat++ [aj p 0]).getD (Rf g p a).toNat 0=x
   rw [h7, ← h1,Int.toNat_natCast,gK (by rw [gO];exact h5)]}
theorem si:(aY g p).Ok:=mh h hI
theorem Hr {e:Int} (he:0≤e∧e<g.es.length):mw g p (RK g p (-1) g.n.toNat e)=Rf g p e:=by
 have F:=pR h hI (r:= -1) (.inl (by omega))
 have F':=pR h hI (r:=cN g p) (.inr (Int.le_refl _))
 rcases G3 (mh h hI) F F' (d:=_+1) (Nat.lt_succ_self _) (e:=e) he with ⟨h1,h2⟩|⟨a,h1,_,h2,h3⟩
 ·rw [h1];unfold mw Rf;rw [if_pos rfl,h2];rfl
 ·obtain ⟨f,h4,_,h5⟩:=C8 h hI h1
  unfold mw Rf
  rw [h2,h3,h5,h5,if_neg (by omega)]
theorem Lh:J1 g p=⟨arr (Lf g p) g.es.length,arr (Rf g p) g.es.length,Jg g p,L5 g p⟩:=by
 unfold J1
 have:(arr (RK g p (-1) g.n.toNat) g.es.length).map (mw g p)=arr (Rf g p) g.es.length:=by
  unfold arr
  rw [List.map_map]
  refine List.map_congr_left fun i hi=> ?_
  have:=List.mem_range.1 hi
  exact Hr h hI (e:=(i:Int)) (by omega)
 rw [this];rfl
theorem BX {x x':Int} {u u' v v':List Int} {a b a' b':Int} (e1:(aY g p).ins x=u++a::b::v) (e2:(aY g p).ins x'=u'++a'::b'::v') (hR:Rf g p a=Rf g p a'):x=x':=by
 have hok:=mh h hI
 have F:=cU h hI
 obtain ⟨ha,Dz⟩:=(hok.bW x a).1 (by rw [e1];simp)
 obtain ⟨hb,qX⟩:=(hok.bW x b).1 (by rw [e1];simp)
 obtain ⟨DA,NW⟩:=(hok.bW x' a').1 (by rw [e2];simp)
 obtain ⟨hb',Ry⟩:=(hok.bW x' b').1 (by rw [e2];simp)
 by_cases hne:a=a'
 ·rw [← Dz, ← NW,hne]
 ·exfalso
  have l1:=F.lN e1
  have l2:=F.lN e2
  rcases kI hok F ha DA hne with h1|h1|h1|h1
  ·rw [Dz, ← qX] at h1
   exact qF hok F hb DA h1 (by rw [← hR,l1];exact .refl)
  ·rw [NW, ← Ry] at h1
   exact qF hok F hb' ha h1 (by rw [hR,l2];exact .refl)
  ·rw [hR] at h1
   exact ni hok F DA DA h1 h1
  ·rw [← hR] at h1
   exact ni hok F ha ha h1 h1
theorem Ey {k:Nat} (hk:k<g.n.toNat) {a:Int} (ha:a∈(b8 g p (aj p k)).dropLast):∃u b v,b8 g p (aj p k)=u++a::b::v:=by
 have hne:b8 g p (aj p k)≠ []:=fun h0=>by rw [h0] at ha;cases ha
 obtain ⟨w,c,hw⟩:=cG hne
 rw [hw,List.dropLast_concat] at ha
 obtain ⟨u,v,rfl⟩:=List.append_of_mem ha
 cases v with
 |nil=>exact ⟨u,c, [],by rw [hw];simp⟩
 |cons b v=>exact ⟨u,b,v++ [c],by rw [hw];simp⟩
theorem tI {k:Nat} (hk:k<g.n.toNat) {f:Int} (hf:f∈j6 g p k):1≤f∧∃u a b v,b8 g p (aj p k)=u++a::b::v∧Rf g p a=f:=by
 obtain ⟨a,ha,rfl⟩:=List.mem_map.1 hf
 obtain ⟨u,b,v,e⟩:=Ey h hI hk ha
 have xY:=Ay h hk (by rw [e];simp)
 obtain ⟨j,hj,et⟩:=nF h hk (a:=a) (by rw [e];simp)
 have h1:RK g p (-1) k a=RK g p (-1) g.n.toNat a:=by
  rw [fC h (by omega) et (j:=g.n.toNat) (by omega) (by omega),fC h (by omega) et (j:=k) (by omega) (by omega)]
 obtain ⟨A,C,e1,hne,_⟩:=lU h xY hk
 have h2:=yQ h hI (k:=k) (by omega) hk a (by
  rw [e1]
  by_cases hC:C= []
  ·subst hC;rw [List.append_nil,dI h hne];simp [ha]
  ·rw [dI h hC];simp [(List.dropLast_sublist _).subset ha])
 refine ⟨h2.1,u,a,b,v,e, ?_⟩
 have Rz:0≤a∧a<g.es.length:=((gN h (aF h.2.1 hk)).2 a).1 (by rw [e];simp) |>.1
 rw [← Hr h hI Rz, ← h1]
 unfold mw
 rw [if_neg (by omega)]
theorem AD:∀ {k:Nat},k≤g.n.toNat→(qO g p k).getD 0 0=aj p (g.n.toNat - 1)
 |0,_=>rfl
 |k+1,hk=>by
  have ih:=AD (k:=k) (by omega)
  have hl:(qO g p k).length=cK p k:=gQ
  have hp:0<cK p k:=nv
  rw [qO,gK (by rw [kY];omega)]
  unfold kX
  rw [oh fun i hi=> ?_,ih]
  have:=(tI h hI (k:=k) (by omega) (f:=(j6 g p k).getD i 0) (aB hi)).1
  omega
theorem Hs {j:Nat} (hj:j<g.n.toNat) {f:Int} (hf:f∈j6 g p j):∀ {k:Nat},j+1≤k→k≤g.n.toNat→(qO g p k).getD f.toNat 0=aj p j
 |0,h1,_=>by omega
 |k+1,h1,hk=>by
  have K9:=yR h hI hj f hf
  have hl:(qO g p j).length=cK p j:=gQ
  have hlk:(qO g p k).length=cK p k:=gQ
  obtain ⟨d,rfl⟩:=Nat.exists_eq_add_of_le (show j≤k by omega)
  have hmo:=og (p:=p) (k:=j) (d:=d)
  rw [qO,gK (by rw [kY];omega)]
  unfold kX
  by_cases hd:d=0
  ·subst hd
   obtain ⟨i,hi,e⟩:=List.mem_iff_getElem.1 hf
   have e2:(j6 g p (j+0)).getD i 0=f:=by rw [List.getD_eq_getElem?_getD,List.getElem?_eq_getElem (by exact hi)];exact e
   have:∀n,i<n→n≤(j6 g p j).length→(jG (qO g p j) (j6 g p j) (fun _=>aj p j) n).getD f.toNat 0=aj p j:=by
    intro n
    induction n with
    |zero=>intro h2;omega
    |succ n ih=>
     intro h2 h3
     rw [jG,List.getD_eq_getElem?_getD,List.getElem?_set]
     by_cases h4:((j6 g p j).getD n 0).toNat=f.toNat
     ·rw [if_pos h4,if_pos (by rw [gy];omega)];rfl
     ·rw [if_neg h4, ← List.getD_eq_getElem?_getD]
      by_cases h5:i=n
      ·subst h5;exact absurd (by rw [show (j6 g p j).getD i 0=f from e2]) h4
      ·exact ih (by omega) (by omega)
   exact this _ hi (Nat.le_refl _)
  ·rw [oh fun i hi e=> ?_,Hs hj hf (k:=j+d) (by omega) (by omega)]
   obtain ⟨g1,u,a,b,v,g2,g3⟩:=tI h hI (k:=j+d) (by omega) (f:=(j6 g p (j+d)).getD i 0) (aB hi)
   obtain ⟨g4,u',a',b',v',g5,g6⟩:=tI h hI hj hf
   have:=BX h hI (x:=aj p (j+d)) (x':=aj p j) (by rw [fT (aF h.2.1 (by omega))];exact g2) (by rw [fT (aF h.2.1 hj)];exact g5) (by rw [g3,g6];omega)
   have:=cZ h.2.1 (show j+d<g.n.toNat by omega) hj this
   omega
theorem NX:(aY g p).Hi (Rf g p) 0 (cN g p) (UI g p) where
 mid:=fun {x u a b v} e=>by
  by_cases hx:iN g x
  rotate_left
  ·rw [od hx] at e;cases u<;>cases e
  obtain ⟨k,hk,rfl⟩:=dH h.2.1 hx.1 hx.2
  rw [fT hx] at e
  have ha:a∈(b8 g p (aj p k)).dropLast:=by
   rw [e,show u++a::b::v=(u++ [a])++(b::v) by simp,dI h (by simp)];simp
  have hf:RK g p (-1) k a∈j6 g p k:=List.mem_map_of_mem ha
  obtain ⟨j,hj,et⟩:=nF h hk (a:=a) (by rw [e];simp)
  have h1:RK g p (-1) k a=RK g p (-1) g.n.toNat a:=by
   rw [fC h (by omega) et (j:=g.n.toNat) (by omega) (by omega),fC h (by omega) et (j:=k) (by omega) (by omega)]
  have h2:=(tI h hI hk hf).1
  have Rz:0≤a∧a<g.es.length:=((gN h (aF h.2.1 hk)).2 a).1 (by rw [e];simp) |>.1
  have h3:Rf g p a=RK g p (-1) k a:=by
   rw [← Hr h hI Rz, ← h1];unfold mw;rw [if_neg (by omega)]
  have h4:=Hs h hI hk hf (k:=g.n.toNat) (by omega) (Nat.le_refl _)
  have K9:=yR h hI hk _ hf
  have hl:(qO g p k).length=cK p k:=gQ
  obtain ⟨d,hd⟩:=Nat.exists_eq_add_of_le (show k≤g.n.toNat by omega)
  have hmo:=og (p:=p) (k:=k) (d:=d)
  rw [← hd] at hmo
  show (qO g p g.n.toNat++_).getD (Rf g p a).toNat 0=_
  rw [h3,gK (by rw [gQ];omega),h4]
 h0:=by
  have hp:0<cK p g.n.toNat:=nv
  show (qO g p g.n.toNat++_).getD 0 0=_
  rw [gK (by rw [gQ];exact hp),AD h hI (Nat.le_refl _)];rfl
 h1:=by
  show (qO g p g.n.toNat++_).getD ((cN g p:Int)).toNat 0=_
  rw [Int.toNat_natCast,show cN g p=(qO g p g.n.toNat).length by rw [gQ];rfl]
  exact kZ
theorem Ji:SH g p (cN g p)=aj p 0:=by
 show (iO p g.n.toNat++ [aj p 0]).getD ((cN g p:Int)).toNat 0=_
 rw [Int.toNat_natCast,show cN g p=(iO p g.n.toNat).length by rw [gO];rfl]
 exact kZ
theorem C9 {e:Int} (he:0≤e∧e<g.es.length):1≤Rf g p e∧Rf g p e≤cN g p:=by
 have hp:0<cK p g.n.toNat:=nv
 rcases G3 (mh h hI) (cU h hI) (cU h hI) (d:=_+1) (Nat.lt_succ_self _) (e:=e) he with ⟨h1,_⟩|⟨a,h1,_,h2,_⟩
 ·rw [h1];have:cN g p=cK p g.n.toNat:=rfl;omega
 ·obtain ⟨f,h3,h4,h5⟩:=C8 h hI h1
  have h5:Rf g p a=f:=h5 _
  omega
theorem Da {e:Int} (he:0≤e∧e<g.es.length):0≤Lf g p e∧Lf g p e<cN g p:=by
 have hp:0<cK p g.n.toNat:=nv
 rcases JZ (mh h hI) (cU h hI) (cU h hI) (d:=_+1) (Nat.lt_succ_self _) (e:=e) he with ⟨h1,_⟩|⟨a,h1,h2,_⟩
 ·rw [h1];have:cN g p=cK p g.n.toNat:=rfl;omega
 ·obtain ⟨f,h3,h4,h5⟩:=C8 h hI h1
  have h5:Rf g p a=f:=h5 _
  omega
theorem J4:(cN g p:Int)=g.es.length - g.n+2:=by
 have hm:=an h.1
 have hn:=aM hm
 have wT:bn p (aj p (g.n.toNat - 1))= []:=(dZ h hI (aF h.2.1 (by omega))).2 rfl
 have key:∀k,k<g.n.toNat→(cK p k:Int)=1+((List.range k).flatMap fun j=>bn p (aj p j)).length - k:=by
  intro k
  induction k with
  |zero=>intro _;simp [cK]
  |succ k ih=>
   intro hk
   have hO:bn p (aj p k)≠ []:=fun h1=>by
    have:=(dZ h hI (aF h.2.1 (show k<g.n.toNat by omega))).1 h1
    have:=cZ h.2.1 (show k<g.n.toNat by omega) (by omega) this
    omega
   have:=List.length_pos_iff.2 hO
   have ih:=ih (by omega)
   have e1:((List.range (k+1)).flatMap fun j=>bn p (aj p j))=((List.range k).flatMap fun j=>bn p (aj p j))++bn p (aj p k):=by rw [List.range_succ,List.flatMap_append];simp
   rw [e1,List.length_append,cK]
   omega
 have hall:((List.range (g.n.toNat - 1)).flatMap fun j=>bn p (aj p j)).length=g.es.length:=by
  have cC:∀k,k≤g.n.toNat→((List.range k).flatMap fun j=>bn p (aj p j)).Nodup:=by
   intro k
   induction k with
   |zero=>intro _;simp
   |succ k ih=>
    intro hk
    rw [List.range_succ,List.flatMap_append,List.nodup_append]
    refine ⟨ih (by omega),by simpa using G8 h (by omega),fun a ha b hb e=> ?_⟩
    subst e
    obtain ⟨j,hj,hja⟩:=List.mem_flatMap.1 ha
    have hj:=List.mem_range.1 hj
    have hb:a∈bn p (aj p k):=by simpa using hb
    have t1:=(je h (by omega) hja).2
    have t2:=(je h (by omega) hb).2
    have:=cZ h.2.1 (show j<g.n.toNat by omega) (by omega) (t1.symm.trans t2)
    omega
  have NY:∀e:Int,0≤e→e<g.es.length→e∈((List.range (g.n.toNat - 1)).flatMap fun j=>bn p (aj p j)):=fun e h1 h2=>by
   have ht:=bL hm (i:=e.toNat) (by omega)
   obtain ⟨k,hk,e1⟩:=dH h.2.1 ht.1 ht.2
   have e1:aj p k=iV g e:=e1
   obtain ⟨u,v,e2⟩:=C6 h hk ⟨h1,h2⟩ e1.symm
   refine List.mem_flatMap.2 ⟨k,List.mem_range.2 ?_,by rw [e2];simp⟩
   refine Decidable.byContradiction fun hc=> ?_
   obtain rfl:k=g.n.toNat - 1:=by omega
   rw [wT] at e2;cases u<;>cases e2
  have h1:=rN NY
  have h2:=gq (m:=(List.range g.es.length).map Int.ofNat) (cC (g.n.toNat - 1) (by omega)) fun e he=>by
   obtain ⟨j,hj,hja⟩:=List.mem_flatMap.1 he
   have hj:=List.mem_range.1 hj
   have:=(je h (by omega) hja).1
   exact List.mem_map.2 ⟨e.toNat,List.mem_range.2 (by omega),by simp;omega⟩
  rw [List.length_map,List.length_range] at h2
  omega
 have h1:=key (g.n.toNat - 1) (by omega)
 rw [hall] at h1
 have h2:cN g p=cK p (g.n.toNat - 1):=by
  show cK p g.n.toNat=_
  rw [show g.n.toNat=(g.n.toNat - 1)+1 by omega,cK,show g.n.toNat - 1+1 - 1=g.n.toNat - 1 by omega,wT];rfl
 omega
theorem Li (h0:0<g.es.length):2≤g.n:=by
 have hm:=an h.1
 have ht:=bL hm (i:=0) h0
 have hh:=bQ hm (i:=0) h0
 obtain ⟨k,hk,e⟩:=dH h.2.1 hh.1 hh.2
 obtain ⟨j,hj,_⟩:=r8 h (e:=0) (by omega) hk e.symm
 omega
end
end Go.Ab
end
section
namespace Go.Ab
open Go.Proofs
set_option maxRecDepth 10000
def Ht (q:Nat→Bool):Nat→Nat
 |0=>0
 |n+1=>Ht q n ||| (if q n then 2 ^ n else 0)
theorem qP {q:Nat→Bool} {y:Nat} :∀ {n:Nat},(Ht q n).testBit y=(decide (y<n)&&q y)
 |0=>by simp [Ht]
 |n+1=>by
  rw [Ht,Nat.testBit_or,qP]
  by_cases h:y=n
  ·subst h
   cases hq:q y<;>simp [Nat.testBit_two_pow_self]
  ·have h2:(if q n then 2 ^ n else 0).testBit y=false:=by
    split
    ·rw [Nat.testBit_two_pow];exact decide_eq_false fun e=>h e.symm
    ·simp
   rw [h2,Bool.or_false]
   congr 1
   rw [decide_eq_decide];omega
inductive EZ (g:Gr) (both:Bool) (c:Nat→Bool) (x:Nat):Nat→Prop
 |refl:EZ g both c x x
 |fwd {i:Nat} :i<g.es.length→c i=true→EZ g both c x (tl g i).toNat→EZ g both c x (hd g i).toNat
 |SI {i:Nat} :i<g.es.length→c i=true→both=true→EZ g both c x (hd g i).toNat→EZ g both c x (tl g i).toNat
theorem EZ.trans {g:Gr} {both:Bool} {c:Nat→Bool} {x y z:Nat} (h1:EZ g both c x y) (h2:EZ g both c y z):EZ g both c x z:=by
 induction h2 with
 |refl=>exact h1
 |fwd a b _ ih=>exact .fwd a b ih
 |SI a b d _ ih=>exact .SI a b d ih
open Classical in
noncomputable def RB (g:Gr) (both:Bool) (c:Nat→Bool) (x:Nat):Nat:=Ht (fun y=>decide (EZ g both c x y)) g.n.toNat
noncomputable def UJ (g:Gr) (both:Bool) (c:Nat→Bool):List Nat:=(List.range g.n.toNat).map (RB g both c)
open Classical in
theorem OO {g:Gr} {both:Bool} {c:Nat→Bool} {x y:Nat} :(RB g both c x).testBit y=true↔y<g.n.toNat∧EZ g both c x y:=by
 unfold RB
 rw [qP]
 simp
def NZ (g:Gr) (both:Bool) (c:Nat→Bool) (a:List Nat):Nat→List Nat × Bool
 |0=>(a,false)
 |k+1=>
  let s:=NZ g both c a k
  if c k=true then
   let t:=s.1.getD (tl g k).toNat 0 ||| s.1.getD (hd g k).toNat 0
   let h:=if both=true then t else s.1.getD (hd g k).toNat 0
   ((s.1.set (tl g k).toNat t).set (hd g k).toNat h,s.2||(decide (t≠s.1.getD (tl g k).toNat 0)||decide (h≠s.1.getD (hd g k).toNat 0)))
  else s
structure SJ (g:Gr) (both:Bool) (c:Nat→Bool) (a:List Nat):Prop where
 len:a.length=g.n.toNat
 own:∀x,x<g.n.toNat→(a.getD x 0).testBit x=true
 snd:∀x y,x<g.n.toNat→(a.getD x 0).testBit y=true→y<g.n.toNat∧EZ g both c x y
theorem SJ.lt {g:Gr} {both:Bool} {c:Nat→Bool} {a:List Nat} (h:SJ g both c a) (hn:g.n.toNat≤64) (x:Nat):a.getD x 0<18446744073709551616:=by
 by_cases hx:x<g.n.toNat
 ·have:a.getD x 0<2 ^ 64:=Nat.lt_pow_two_of_testBit _ fun i hi=>by
   cases hb:(a.getD x 0).testBit i with
   |false=>rfl
   |true=>have:=(h.snd x i hx hb).1;omega
  simpa using this
 ·rw [List.getD_eq_getElem?_getD,List.getElem?_eq_none (by rw [h.len];omega)];simp
def UK (a:List Nat):Nat:=a.foldr (· + ·) 0
end Go.Ab
end
section
namespace Go.Ab
open Go.Proofs
attribute [local congr] ACall.congr gd.congr Nx.congr
set_option maxRecDepth 20000
set_option maxHeartbeats 8000000
def rU (n:Nat):List D:= [.sc (.int .u64 (n:Int))]
def eU (n:Nat):AV:= .d (.sc (.int .u64 (n:Int)))
def sU (l:List Nat):D:= .sl 1 (l.map rU)
theorem getD_rU (ps:List Nat) (i:Nat):(ps.map rU).getD i [.sc (.int .u64 0)]= [.sc (.int .u64 ((ps.getD i 0:Nat):Int))]:=by
 rw [List.getD_eq_getElem?_getD,List.getElem?_map,List.getD_eq_getElem?_getD]
 cases ps[i]? <;>rfl
attribute [go_sem] eU sU getD_rU InU
end Go.Ab
end
section
namespace Go.Ab
open Go.Proofs
attribute [local congr] ACall.congr gd.congr Nx.congr
set_option maxRecDepth 20000
set_option maxHeartbeats 8000000
def RC (k:Nat):List Nat:=(List.range k).map fun x=>2 ^ x
def SK (g:Gr):List Nat:=if aO g=true then RC g.n.toNat else []
theorem Ah {l:List Nat} :∀r∈l.map rU,∀x∈r,∃v,x=D.sc v:=by
 intro r hr x hx
 obtain ⟨y,_,rfl⟩:=List.mem_map.1 hr
 simp only [rU,List.mem_singleton] at hx
 exact ⟨_,hx⟩
noncomputable def VK (g:Gr):List Nat:=if aO g=true then UJ g false (fun _=>true) else []
end Go.Ab
end
section
namespace Go.Ab
open Go.Proofs
set_option maxRecDepth 10000
set_option linter.unusedSectionVars false
def UL (s:Nat) (x:Int):Bool:=decide (0≤x)&&decide (x<64)&&s.testBit x.toNat
section
variable {P:PS} (h:P.Ok) {L R:Int→Int} {f0 f1:Int} {low:Int→Int} (F:P.iH L R f0 f1 low)
def Jj (P:PS) (R:Int→Int) (f:Int):Nat→Nat
 |0=>0
 |j+1=>if R (P.sh j)=f then j+1 else Jj P R f j
theorem Db {i:Nat} {f:Int} (hf:R (P.sh i)=f):∀ {m:Nat},i<m→i+1≤Jj P R f m
 |0,h=>by omega
 |m+1,h=>by
  unfold Jj
  split
  ·omega
  ·rename_i hne
   by_cases e:i=m
   ·subst e;exact absurd hf hne
   ·exact Db hf (by omega)
theorem Hu {i:Nat} {f:Int} :∀ {m:Nat},(∀j,j<m→R (P.sh j)=f→j<i)→Jj P R f m≤i
 |0,_=>Nat.zero_le _
 |m+1,hj=>by
  unfold Jj
  split
  ·rename_i e;exact hj m (by omega) e
  ·exact Hu fun j h1 h2=>hj j (by omega) h2
include h F
theorem Jk {e:Int} (he:P.E e):Jj P R (L e) P.m<Jj P R (R e) P.m:=by
 obtain ⟨i,hi,rfl⟩:=eM h he
 have h1:=Db (P:=P) (R:=R) (i:=i) (f:=R (P.sh i)) rfl hi
 have h2:Jj P R (L (P.sh i)) P.m≤i:=Hu fun j hj hR=>wV h F hj hi (by rw [hR];exact .refl)
 omega
end
theorem vq {f:Edge→Int} {g:Gr} {x:Int} (h:∀y,y∈bg f g↔y=x):bg f g= [x]:=by
 have hn:=pO (f:=f) (g:=g)
 match hb:bg f g with
 | []=>have:=(h x).2 rfl;rw [hb] at this;cases this
 | [a]=>have:=(h a).1 (by rw [hb];simp);rw [this]
 |a::c::l=>
  have h1:=(h a).1 (by rw [hb];simp)
  have h2:=(h c).1 (by rw [hb];simp)
  rw [hb,h1,h2] at hn
  simp at hn
theorem sj {g:Gr} {y:Int} :y∈bg (·.1) g↔(0≤y∧y<g.n)∧∀i,i<g.es.length→tl g i≠y:=by
 rw [fu]
 refine and_congr_right fun _=> ?_
 constructor
 ·intro h i hi e
  have:((i:Nat):Int)∈aJ (fun e=>e.1) g.es g.es.length y:=bG.2 ⟨by omega,by simp only [Int.toNat_natCast];exact e⟩
  rw [h] at this;cases this
 ·intro h
  refine List.eq_nil_iff_forall_not_mem.2 fun e he=> ?_
  obtain ⟨h1,h2⟩:=bG.1 he
  exact h e.toNat (by omega) h2
section
variable (g:Gr) (p:Pl)
def lV:Gr:=⟨(cN g p:Int)+1,(List.range g.es.length).map fun i:Nat=>(Lf g p i,Rf g p i)⟩
end
section
variable {g:Gr} {p:Pl}
theorem jV:(lV g p).es.length=g.es.length:=by simp [lV]
theorem yT {i:Nat} (hi:i<g.es.length):tl (lV g p) i=Lf g p i:=by
 show ((lV g p).es.getD i (0,0)).1=_
 simp [lV,List.getD_eq_getElem?_getD,List.getElem?_range hi]
theorem yU {i:Nat} (hi:i<g.es.length):hd (lV g p) i=Rf g p i:=by
 show ((lV g p).es.getD i (0,0)).2=_
 simp [lV,List.getD_eq_getElem?_getD,List.getElem?_range hi]
variable (h:bH g p) (hI:j8 g=true)
include h hI
theorem tJ (h0:0<g.es.length) (hl:g.es.length≤60):aO (lV g p)=true:=by
 have he:=J4 h hI
 have hn:=Li h hI h0
 unfold aO
 have hn:(lV g p).n=(cN g p:Int)+1:=rfl
 rw [jV,hn]
 simp only [Bool.and_eq_true,decide_eq_true_eq,Bool.not_eq_true',List.any_eq_false]
 refine ⟨⟨⟨by omega,by omega⟩,by omega⟩,fun e hm=> ?_⟩
 obtain ⟨i,hi,rfl⟩:=List.mem_map.1 hm
 have hi:=List.mem_range.1 hi
 have h1:=Da h hI (e:=(i:Int)) (by omega)
 have h2:=C9 h hI (e:=(i:Int)) (by omega)
 simp only [qv,vK,hn,Bool.or_eq_true,decide_eq_true_eq]
 omega
theorem vr (hm:aO (lV g p)=true):oK (lV g p)=true:=(tr hm).2 ⟨fun f=>Jj (aY g p) (Rf g p) f (aY g p).m,fun i hi=>by
 rw [jV] at hi
 rw [yT hi,yU hi]
 exact Jk (mh h hI) (cU h hI) (e:=(i:Int)) ⟨by omega,by show (i:Int)<(g.es.length:Int);omega⟩⟩
theorem N0 {a:Int} (ha:(aY g p).JY a):0≤a∧a<g.es.length:=(G0 (mh h hI) (cU h hI) ha).1
theorem Lj (h0:0<g.es.length) {f:Nat} (h1:1≤f) (h2:f≤cN g p):∃e:Int,(0≤e∧e<g.es.length)∧Rf g p e=f:=by
 rcases Nat.lt_or_ge f (cN g p) with hlt|hge
 ·obtain ⟨a,ha,e⟩:=Hq h hI h1 hlt
  exact ⟨a,N0 h hI ha,e⟩
 ·obtain rfl:f=cN g p:=by omega
  obtain ⟨e,h3,h4,_⟩:=G4 (mh h hI) (cU h hI) (NX h hI) h0 (Ji h hI) (k:=(cN g p:Int)) (.inl rfl)
  exact ⟨e,h3,h4⟩
theorem Hv (h0:0<g.es.length) {f:Nat} (h2:f<cN g p):∃e:Int,(0≤e∧e<g.es.length)∧Lf g p e=f:=by
 have F:=cU h hI
 by_cases hf:f=0
 ·subst hf
  obtain ⟨B,hB⟩:=eC (mh h hI) (j:=0) h0
  have hB:(aY g p).outs (aY g p).src=(aY g p).sh 0::B:=hB
  exact ⟨(aY g p).sh 0,qE (mh h hI) h0,F.s0 hB⟩
 ·obtain ⟨a,⟨x,u,b,v,e1⟩,e⟩:=Hq h hI (f:=f) (by omega) h2
  have hb:=((mh h hI).bE x b).1 (by rw [e1];simp)
  exact ⟨b,hb.1,by rw [← F.fk e1,e]⟩
theorem Dc (h0:0<g.es.length):bg (·.1) (lV g p)= [(cN g p:Int)]:=by
 refine vq fun y=> ?_
 rw [sj]
 have hn:(lV g p).n=(cN g p:Int)+1:=rfl
 constructor
 ·rintro ⟨⟨h1,h2⟩,h3⟩
  refine Decidable.byContradiction fun hy=> ?_
  obtain ⟨e,he,e2⟩:=Hv h hI h0 (f:=y.toNat) (by omega)
  refine h3 e.toNat (by rw [jV];omega) ?_
  rw [yT (by omega),show ((e.toNat:Nat):Int)=e by omega,e2];omega
 ·rintro rfl
  refine ⟨⟨by omega,by omega⟩,fun i hi e=> ?_⟩
  rw [jV] at hi
  rw [yT hi] at e
  have:=Da h hI (e:=(i:Int)) (by omega)
  omega
theorem Jl (h0:0<g.es.length):bg (·.2) (lV g p)= [0]:=by
 have hmem:∀y,y∈bg (·.2) (lV g p)↔y=0:=fun y=>by
  rw [eY]
  constructor
  ·rintro ⟨⟨h1,h2⟩,h3⟩
   refine Decidable.byContradiction fun hy=> ?_
   have hn:(lV g p).n=(cN g p:Int)+1:=rfl
   obtain ⟨e,he,e2⟩:=Lj h hI h0 (f:=y.toNat) (by omega) (by omega)
   refine h3 e.toNat (by rw [jV];omega) ?_
   rw [yU (by omega),show ((e.toNat:Nat):Int)=e by omega,e2];omega
  ·rintro rfl
   refine ⟨⟨by omega,by show (0:Int)<(cN g p:Int)+1;omega⟩,fun i hi e=> ?_⟩
   rw [jV] at hi
   rw [yU hi] at e
   have:=C9 h hI (e:=(i:Int)) (by omega)
   omega
 exact vq hmem
end
end Go.Ab
end
section
namespace Go.Ab
open Go.Proofs
attribute [local congr] ACall.congr gd.congr Nx.congr
set_option maxRecDepth 10000
set_option maxHeartbeats 16000000
theorem Ez (g:Gr) (hl:g.es.length≤9223372036854775807) (p:Pl) (hp:qK p) (b:Bool) (hr:b=true↔(bF g).1=0∧bt g p):Spec Tryz.prog 37 (Args [eG g,ePl p]) [] (eB (decide ((bX b g p).2.1=0))) []:=by
 have hO:=Au g hl p hp b hr
 generalize bX b g p=R at hO
 (refine Spec.hd (C:=T.cfg [] []) (rs:= [.t 4]) (T.ah _ _) Tryz.func37 rfl rfl Tryz.ntmps37 Tryz.results37 (by simp [AObj.isNest]) (by simp [AObj.isNest]) (by kernel_rfl) T.mixed fun X hX hP hC aI bU=> ?_)
 repeat' (first|refine Rn.p ?_|(with_reducible apply And.intro)|((first|(refine hK _ ?_;clear hK K)|with_reducible intro K hK|refine Rs.p ?_|((with_reducible first|apply oP|apply oQ);exact rfl)|refine aa hX hC hP (hO) rfl rfl rfl (by simp only [go_sem,simprocAttr]) rfl ?_);try simp only [go_sem,simprocAttr])|((with_reducible refine oD ?_ ?_);kernel_rfl)|((with_reducible intro h);try simp only [go_sem,simprocAttr] at h)|omega|intro h)
end Go.Ab
end
section
namespace Go.Ab
open Go.Proofs
attribute [local congr] ACall.congr gd.congr Nx.congr
set_option maxRecDepth 20000
set_option maxHeartbeats 8000000
theorem AE (g:Gr) (hl:g.es.length≤1000) (p:Pl) (hp:qK p) (b:Bool) (hr:b=true↔(bF g).1=0∧bt g p):
 Spec Tryz.prog 11 (Args [eG g,ePl p]) [] (.tup [mz (J2 b g p).1,eN (J2 b g p).2]) []:=by
 have hO:=j0 g hl p hp b hr
 have Ld:=vl g hl
 by_cases h0:(bX b g p).2.1=0
 rotate_left
 ·have hK:J2 b g p=(BW,1):=if_neg fun h=>h0 h.1.1
  have hb0:decide ((bX b g p).2.1=0)=false:=decide_eq_false h0
  rw [hK]
  (refine Spec.hd (C:=T.cfg [] []) (rs:= [.c 4 32, .t 5]) (T.ah _ _) Tryz.func11 rfl rfl Tryz.ntmps11 Tryz.results11 (by simp [AObj.isNest]) (by simp [AObj.isNest]) (by kernel_rfl) T.mixed fun X hX hP hC aI bU=> ?_)
  repeat' (first|refine Rn.p ?_|(with_reducible apply And.intro)|((first|(refine hK _ ?_;clear hK K)|with_reducible intro K hK|refine Rs.p ?_|((with_reducible first|apply oP|apply oQ);exact rfl)|refine aa hX hC hP (hO) rfl rfl rfl (by simp only [go_sem,simprocAttr,hb0,mz,BW,List.map_nil]) rfl ?_);try simp only [go_sem,simprocAttr,hb0,mz,BW,List.map_nil])|((with_reducible refine oD ?_ ?_);kernel_rfl)|((with_reducible intro h);try simp only [go_sem,simprocAttr,hb0,mz,BW,List.map_nil] at h)|omega|intro h)
 obtain ⟨hrun,hR⟩:=rW hr h0
 cases hI:j8 g with
 |false=>
  have hK:J2 b g p=(BW,1):=if_neg fun h=>by rw [hI] at h;cases h.1.2
  rw [hR] at hO
  simp only at hO
  rw [hI] at Ld
  rw [hK]
  (refine Spec.hd (C:=T.cfg [] []) (rs:= [.c 4 32, .t 5]) (T.ah _ _) Tryz.func11 rfl rfl Tryz.ntmps11 Tryz.results11 (by simp [AObj.isNest]) (by simp [AObj.isNest]) (by kernel_rfl) T.mixed fun X hX hP hC aI bU=> ?_)
  repeat' (first|refine Rn.p ?_|(with_reducible apply And.intro)|((first|(refine hK _ ?_;clear hK K)|with_reducible intro K hK|refine Rs.p ?_|((with_reducible first|apply oP|apply oQ);exact rfl)|refine aa hX hC hP (hO) rfl rfl rfl (by simp only [go_sem,simprocAttr,mz,BW,List.map_nil]) rfl ?_|refine aa hX hC hP (Ld) rfl rfl rfl (by simp only [go_sem,simprocAttr,mz,BW,List.map_nil]) rfl ?_);try simp only [go_sem,simprocAttr,mz,BW,List.map_nil])|((with_reducible refine oD ?_ ?_);kernel_rfl)|((with_reducible intro h);try simp only [go_sem,simprocAttr,mz,BW,List.map_nil] at h)|omega|intro h)
 |true=>
  by_cases hm:0<g.es.length
  ·have hK:J2 b g p=(J1 g p,0):=if_pos ⟨⟨h0,hI⟩,hm⟩
   rw [hK]
   exact Ew g p hp hrun hI hm b hr
  ·have hK:J2 b g p=(BW,1):=if_neg fun h=>hm h.2
   have au:decide ((g.es.length:Int)=0)=true:=decide_eq_true (by omega)
   rw [hR] at hO
   simp only at hO
   rw [hI] at Ld
   rw [hK]
   (refine Spec.hd (C:=T.cfg [] []) (rs:= [.c 4 32, .t 5]) (T.ah _ _) Tryz.func11 rfl rfl Tryz.ntmps11 Tryz.results11 (by simp [AObj.isNest]) (by simp [AObj.isNest]) (by kernel_rfl) T.mixed fun X hX hP hC aI bU=> ?_)
   repeat' (first|refine Rn.p ?_|(with_reducible apply And.intro)|((first|(refine hK _ ?_;clear hK K)|with_reducible intro K hK|refine Rs.p ?_|((with_reducible first|apply oP|apply oQ);exact rfl)|refine aa hX hC hP (hO) rfl rfl rfl (by simp only [go_sem,simprocAttr,au,mz,BW,List.map_nil]) rfl ?_|refine aa hX hC hP (Ld) rfl rfl rfl (by simp only [go_sem,simprocAttr,au,mz,BW,List.map_nil]) rfl ?_);try simp only [go_sem,simprocAttr,au,mz,BW,List.map_nil])|((with_reducible refine oD ?_ ?_);kernel_rfl)|((with_reducible intro h);try simp only [go_sem,simprocAttr,au,mz,BW,List.map_nil] at h)|omega|intro h)
end Go.Ab
end
section
namespace Go.Ab
open Go.Proofs
attribute [local congr] ACall.congr gd.congr Nx.congr
set_option maxRecDepth 20000
set_option maxHeartbeats 8000000
def Hw (f:Fc) (k:Nat):List Edge:=(List.range k).map fun i:Nat=>(f.L.getD i 0,f.R.getD i 0)
theorem Jm {f:Fc} {k:Nat} :(Hw f k).length=k:=by simp [Hw]
theorem Hx {f:Fc} {k:Nat} :(Hw f (k+1)).map rE=(Hw f k).map rE++ [rE (f.L.getD k 0,f.R.getD k 0)]:=by simp [Hw,List.range_succ]
theorem AF (f:Fc) (h1:f.L.length≤100000) (h2:f.R.length=f.L.length):Spec Tryz.prog 54 (Args [mz f]) [] (eG ⟨f.lo.length,Hw f f.L.length⟩) []:=by
 have hmin:min (f.L.length:Int) (f.R.length:Int)=f.L.length:=by rw [h2];simp
 (refine Spec.hd (C:=T.cfg [] []) (rs:= [.c 2 24]) (T.ah _ _) Tryz.func54 rfl rfl Tryz.ntmps54 Tryz.results54 (by simp [AObj.isNest]) (by simp [AObj.isNest]) (by kernel_rfl) T.mixed fun X hX hP hC aI bU=> ?_)
 repeat' (first|(show cw _ (.seq (.region 2 _ _) _) _ _;(refine iC hX 3 1 200 (.tip 56 2 []) rfl rfl rfl (by simp only [go_sem,simprocAttr,mz,hmin]) (by decide) (by simp [go_sem,simprocAttr,mz,hmin]) ⟨56,2,by decide, .inr rfl⟩ ?_;simp only [List.set_cons_zero,List.set_cons_succ,go_sem,simprocAttr,mz,hmin]))|refine Rn.p ?_|(with_reducible apply And.intro)|((first|(refine hK _ ?_;clear hK K)|with_reducible intro K hK|refine Rs.p ?_|((with_reducible first|apply oP|apply oQ);exact rfl));try simp only [go_sem,simprocAttr,mz,hmin])|((with_reducible refine oD ?_ ?_);kernel_rfl)|((with_reducible intro h);try simp only [go_sem,simprocAttr,mz,hmin] at h)|omega|intro h)
 refine ag (fun k:Nat=>k≤f.L.length) (fun k=>⟨[(1, .ptr 1 0),(2, .ptr 2 0),(3, .ptr 3 0),(15,eN f.L.length),(16,eN k)], [(1, .box [.d (sI f.L), .d (sI f.R), .d (sI f.lo), .d (sI f.hi)]),(2, .box [eN 0, .nil 56]),(3, .box [eN f.lo.length, .ref 200]),(200, .tip 56 2 ((Hw f k).map rE))]⟩) (fun k=>f.L.length - k) 0 (by omega) ?_ ?_
 ·refine Le.of ?_ ?_<;>simp [go_sem,simprocAttr,mz,hmin,Hw]
 rintro k hk
 rcases Nat.lt_or_ge k f.L.length with hlt|hge
 ·have hb:decide ((k:Int)<(f.L.length:Int))=true:=decide_eq_true (by omega)
  have ef:=Hx (f:=f) (k:=k)
  have I1:=Jm (f:=f) (k:=k)
  generalize Hw f k=G at ef I1
  repeat' (first|(show cw _ (.region 6 _ _) _ _;(refine dO hX 3 1 33 200 rfl rfl rfl (by first|exact .inl rfl|exact .inr rfl) (by decide) (by decide) ?_;simp only [List.set_cons_zero,List.set_cons_succ,go_sem,simprocAttr,hb,I1]))|refine Rn.p ?_|(with_reducible apply And.intro)|((first|(refine hK _ ?_;clear hK K)|with_reducible intro K hK|refine Rs.p ?_|((with_reducible first|apply oP|apply oQ);exact rfl));try simp only [go_sem,simprocAttr,hb,I1])|((with_reducible refine oD ?_ ?_);kernel_rfl)|((with_reducible intro h);try simp only [go_sem,simprocAttr,hb,I1] at h)|omega|intro h)
  refine ⟨k+1,by omega, ?_,by omega⟩
  rw [ef]
  refine Le.of ?_ ?_<;>simp [go_sem,simprocAttr,hb,I1,rE]
 ·have hb:decide ((k:Int)<(f.L.length:Int))=false:=decide_eq_false (by omega)
  obtain rfl:k=f.L.length:=by omega
  repeat' (first|refine Rn.p ?_|(with_reducible apply And.intro)|((first|(refine hK _ ?_;clear hK K)|with_reducible intro K hK|refine Rs.p ?_|((with_reducible first|apply oP|apply oQ);exact rfl));try simp only [go_sem,simprocAttr,hb])|((with_reducible refine oD ?_ ?_);kernel_rfl)|((with_reducible intro h);try simp only [go_sem,simprocAttr,hb] at h)|omega|intro h)
def AG (b:Bool) (g:Gr) (p:Pl):Bool:= !rX g p&&j8 g&&decide ((bX b g p).2.1=0)&&decide (0<(g.es.length:Int))&&decide ((g.es.length:Int)≤60)
theorem yV (g:Gr) (hl:g.es.length≤9223372036854775807) (p:Pl) (hp:CT p) (b:Bool) (hr:b=true↔(bF g).1=0∧bt g p):Spec Tryz.prog 10 (Args [eG g,ePl p]) [] (eB (AG b g p)) []:=by
 have hG:=yI g p hl hp
 cases hB:rX g p with
 |true=>
  rw [hB] at hG
  have ha:AG b g p=false:=by unfold AG;rw [hB];rfl
  rw [ha]
  (refine Spec.hd (C:=T.cfg [] []) (rs:= [.t 4]) (T.ah _ _) Tryz.func10 rfl rfl Tryz.ntmps10 Tryz.results10 (by simp [AObj.isNest]) (by simp [AObj.isNest]) (by kernel_rfl) T.mixed fun X hX hP hC aI bU=> ?_)
  repeat' (first|refine Rn.p ?_|(with_reducible apply And.intro)|((first|(refine hK _ ?_;clear hK K)|with_reducible intro K hK|refine Rs.p ?_|((with_reducible first|apply oP|apply oQ);exact rfl)|refine aa hX hC hP (hG) rfl rfl rfl (by simp only [go_sem,simprocAttr]) rfl ?_);try simp only [go_sem,simprocAttr])|((with_reducible refine oD ?_ ?_);kernel_rfl)|((with_reducible intro h);try simp only [go_sem,simprocAttr] at h)|omega|intro h)
 |false=>
  rw [hB] at hG
  have hI:=BQ g (by have:=(tE hB).1;omega)
  have xy:=Ez g hl p (vk hB) b hr
  have ha:AG b g p=(j8 g&&decide ((bX b g p).2.1=0)&&decide (0<(g.es.length:Int))&&decide ((g.es.length:Int)≤60)):=by unfold AG;rw [hB];rfl
  rw [ha]
  cases hi:j8 g with
  |false=>
   rw [hi] at hI
   (refine Spec.hd (C:=T.cfg [] []) (rs:= [.t 4]) (T.ah _ _) Tryz.func10 rfl rfl Tryz.ntmps10 Tryz.results10 (by simp [AObj.isNest]) (by simp [AObj.isNest]) (by kernel_rfl) T.mixed fun X hX hP hC aI bU=> ?_)
   repeat' (first|refine Rn.p ?_|(with_reducible apply And.intro)|((first|(refine hK _ ?_;clear hK K)|with_reducible intro K hK|refine Rs.p ?_|((with_reducible first|apply oP|apply oQ);exact rfl)|refine aa hX hC hP (hG) rfl rfl rfl (by simp only [go_sem,simprocAttr,Bool.false_and]) rfl ?_|refine aa hX hC hP (hI) rfl rfl rfl (by simp only [go_sem,simprocAttr,Bool.false_and]) rfl ?_);try simp only [go_sem,simprocAttr,Bool.false_and])|((with_reducible refine oD ?_ ?_);kernel_rfl)|((with_reducible intro h);try simp only [go_sem,simprocAttr,Bool.false_and] at h)|omega|intro h)
  |true=>
   rw [hi] at hI
   cases hd:decide ((bX b g p).2.1=0) with
   |false=>
    rw [hd] at xy
    (refine Spec.hd (C:=T.cfg [] []) (rs:= [.t 4]) (T.ah _ _) Tryz.func10 rfl rfl Tryz.ntmps10 Tryz.results10 (by simp [AObj.isNest]) (by simp [AObj.isNest]) (by kernel_rfl) T.mixed fun X hX hP hC aI bU=> ?_)
    repeat' (first|refine Rn.p ?_|(with_reducible apply And.intro)|((first|(refine hK _ ?_;clear hK K)|with_reducible intro K hK|refine Rs.p ?_|((with_reducible first|apply oP|apply oQ);exact rfl)|refine aa hX hC hP (hG) rfl rfl rfl (by simp only [go_sem,simprocAttr,Bool.false_and,Bool.true_and]) rfl ?_|refine aa hX hC hP (hI) rfl rfl rfl (by simp only [go_sem,simprocAttr,Bool.false_and,Bool.true_and]) rfl ?_|refine aa hX hC hP (xy) rfl rfl rfl (by simp only [go_sem,simprocAttr,Bool.false_and,Bool.true_and]) rfl ?_);try simp only [go_sem,simprocAttr,Bool.false_and,Bool.true_and])|((with_reducible refine oD ?_ ?_);kernel_rfl)|((with_reducible intro h);try simp only [go_sem,simprocAttr,Bool.false_and,Bool.true_and] at h)|omega|intro h)
   |true=>
    rw [hd] at xy
    (refine Spec.hd (C:=T.cfg [] []) (rs:= [.t 4]) (T.ah _ _) Tryz.func10 rfl rfl Tryz.ntmps10 Tryz.results10 (by simp [AObj.isNest]) (by simp [AObj.isNest]) (by kernel_rfl) T.mixed fun X hX hP hC aI bU=> ?_)
    repeat' (first|refine Rn.p ?_|(with_reducible apply And.intro)|((first|(refine hK _ ?_;clear hK K)|with_reducible intro K hK|refine Rs.p ?_|((with_reducible first|apply oP|apply oQ);exact rfl)|refine aa hX hC hP (hG) rfl rfl rfl (by simp only [go_sem,simprocAttr,Bool.false_and,Bool.true_and]) rfl ?_|refine aa hX hC hP (hI) rfl rfl rfl (by simp only [go_sem,simprocAttr,Bool.false_and,Bool.true_and]) rfl ?_|refine aa hX hC hP (xy) rfl rfl rfl (by simp only [go_sem,simprocAttr,Bool.false_and,Bool.true_and]) rfl ?_);try simp only [go_sem,simprocAttr,Bool.false_and,Bool.true_and])|((with_reducible refine oD ?_ ?_);kernel_rfl)|((with_reducible intro h);try simp only [go_sem,simprocAttr,Bool.false_and,Bool.true_and] at h)|omega|intro h)
    all_goals (simp [*];omega)
theorem Lk {b:Bool} {g:Gr} {p:Pl} (hr:b=true↔(bF g).1=0∧bt g p) (h:AG b g p=true):rX g p=false∧j8 g=true∧bH g p∧0<g.es.length∧g.es.length≤60:=by
 simp only [AG,Bool.and_eq_true,Bool.not_eq_true',decide_eq_true_eq] at h
 exact ⟨h.1.1.1.1,h.1.1.1.2,(rW hr h.1.1.2).1,by omega,by omega⟩
theorem Ll {b:Bool} {g:Gr} {p:Pl} (hr:b=true↔(bF g).1=0∧bt g p) (hrun:bH g p) (hI:j8 g=true) (h0:0<g.es.length):J2 b g p=(⟨arr (Lf g p) g.es.length,arr (Rf g p) g.es.length,Jg g p,L5 g p⟩,0):=by
 have:J2 b g p=(J1 g p,0):=if_pos ⟨⟨by rw [pS hr hrun],hI⟩,h0⟩
 rw [this,Lh hrun hI]
theorem Jn {g:Gr} {p:Pl} :(⟨((Jg g p).length:Nat),Hw ⟨arr (Lf g p) g.es.length,arr (Rf g p) g.es.length,Jg g p,L5 g p⟩ (arr (Lf g p) g.es.length).length⟩:Gr)=lV g p:=by
 unfold lV Hw
 rw [Jh,dh]
 congr 1
 refine List.map_congr_left fun i hi=> ?_
 have hi:=List.mem_range.1 hi
 rw [nH hi,nH hi]
def g18:Gr:=⟨4, [(0,1),(1,3),(0,2),(2,3)]⟩
def L6:Pl:=⟨[0,1,2,3], [[0,2], [1], [3], []]⟩
theorem N2:(true=true)↔(bF g18).1=0∧bt g18 L6:=⟨fun _=>⟨by decide,⟨rfl,by decide,by decide⟩⟩,fun _=>rfl⟩
end Go.Ab
end
section
namespace Go.Ab
open Go.Proofs
attribute [local congr] ACall.congr gd.congr Nx.congr
set_option maxRecDepth 20000
set_option maxHeartbeats 16000000
structure Br where
 y:List Int
 fr:List Int
 to:List Int
 x:List Int
def bZ (b:Br):AV:= .agg [.d (sI b.y), .d (sI b.fr), .d (sI b.to), .d (sI b.x)]
section
variable (g:Gr) (p:Pl)
def iy (f:Int):Int:=(fU (lV g p)).getD f.toNat 0
def Dd (e:Int):Int:=iy g p (Lf g p e)
def za (l:List Int):Int:=if l= [] then 0 else iy g p (Lf g p (l.getD 0 0))
def toV (l:List Int):Int:=(if l= [] then iy g p (cN g p) else iy g p (Rf g p (l.getD (l.length - 1) 0))) - 1
def gF:Br:=⟨fU g,p.outs.map (za g p),p.outs.map (toV g p),arr (Dd g p) g.es.length⟩
end
theorem Hy {f:Int→Int} {k:Nat} :(arr f (k+1)).map rI=(arr f k).map rI++ [rI (f k)]:=by simp [arr,List.range_succ]
theorem tK {g:Gr} (hc:(bF g).1=0):oK g=true:=by
 rcases Ep (an hc) with h|h|h|h|h
 ·rw [h.1] at hc;cases hc
 ·rw [h.1] at hc;cases hc
 ·rw [h.1] at hc;cases hc
 ·rw [h.1] at hc;cases hc
 ·exact h.2.2
theorem xD (g:Gr) (p:Pl) (hB:rX g p=false) (hrun:bH g p) (hI:j8 g=true) (h0:0<g.es.length) (gW:g.es.length≤60) (b:Bool) (hr:b=true↔(bF g).1=0∧bt g p):
 Spec Tryz.prog 16 (Args [eG g,ePl p]) [] (.tup [bZ (gF g p),eN 0]) []:=by
 have hm:=an hrun.1
 have hn:=aM hm
 have hm2:=tJ hrun hI h0 gW
 have hD:=AE g (by omega) p (vk hB) b hr
 rw [Ll hr hrun hI h0] at hD
 simp only at hD
 have SL:=AF ⟨arr (Lf g p) g.es.length,arr (Rf g p) g.es.length,Jg g p,L5 g p⟩ (by simp only [dh];omega) (by simp only [dh])
 simp only [Jn] at SL
 have P3:=sR g hm (tK hrun.1)
 have UM:=sR (lV g p) hm2 (vr hrun hI hm2)
 obtain ⟨k1,k2,k3,k4⟩:=j4 hm2 (vr hrun hI hm2)
 have Lm:(lV g p).n.toNat=cN g p+1:=by show ((cN g p:Int)+1).toNat=_;omega
 rw [Lm] at k1
 have hbd:∀v:Nat,(fU (lV g p)).getD v 0≤100000:=fun v=>by
  have:=(oe (g:=lV g p) (k:=(bT (lV g p)).length) v).2
  have h1:=yu hm2
  rw [jV] at this
  have h2:(bT (lV g p)).length*g.es.length≤64*128:=Nat.mul_le_mul h1 (by omega)
  have h3:fU (lV g p)=qY (lV g p) (bT (lV g p)).length:=rfl
  rw [h3];omega
 have VL:=J4 hrun hI
 have hac:∀f:Nat,iy g p f=(fU (lV g p)).getD f 0:=fun f=>by unfold iy;rw [Int.toNat_natCast]
 have a1:=fun (i:Nat) (hi:i<g.es.length)=>nH (f:=Lf g p) hi
 have a2:=fun (i:Nat) (hi:i<g.es.length)=>nH (f:=Rf g p) hi
 have c1:(arr (Lf g p) g.es.length).length=g.es.length:=dh
 have c2:(arr (Rf g p) g.es.length).length=g.es.length:=dh
 have N3:=fun (i:Nat) (hi:i<g.es.length)=>Da hrun hI (e:=(i:Int)) (by omega)
 have UN:=fun (i:Nat) (hi:i<g.es.length)=>C9 hrun hI (e:=(i:Int)) (by omega)
 have UO:∀k,k<g.es.length→Dd g p k=iy g p ((arr (Lf g p) g.es.length).getD k 0):=fun k hk=>by rw [a1 k hk];rfl
 have hout:∀x,x<p.outs.length→∀e∈p.outs.getD x [],0≤e∧e<g.es.length:=fun x hx e he=>by
  have DO:x<g.n.toNat:=by have:=hrun.2.1.1;omega
  have:=(hrun.2.1.2.2 x DO).mem_iff.1 he
  exact (bG.1 this).1
 have Cq:=vk hB
 have RD:=(tE hB).2.2.2
 have VM:=(tE hB).2.2.1
 have LP:gF g p=⟨fU g,p.outs.map (za g p),p.outs.map (toV g p),arr (Dd g p) g.es.length⟩:=rfl
 rw [LP]
 have hfr:∀l,za g p l=if l= [] then 0 else iy g p (Lf g p (l.getD 0 0)):=fun _=>rfl
 have hto:∀l,toV g p l=(if l= [] then iy g p (cN g p) else iy g p (Rf g p (l.getD (l.length - 1) 0))) - 1:=fun _=>rfl
 generalize VN:arr (Lf g p) g.es.length=LL at*
 generalize VO:arr (Rf g p) g.es.length=RR at*
 generalize Jg g p=lo at*
 generalize L5 g p=hi at*
 generalize UP:fU (lV g p)=ac at*
 generalize lV g p=G2 at*
 generalize fU g=yl at*
 (refine Spec.hd (C:=T.cfg [] []) (rs:= [.c 4 42, .t 5]) (T.ah _ _) Tryz.func16 rfl rfl Tryz.ntmps16 Tryz.results16 (by simp [AObj.isNest]) (by simp [AObj.isNest]) (by kernel_rfl) T.mixed fun X hX hP hC aI bU=> ?_)
 repeat' (first|refine Rn.p ?_|(with_reducible apply And.intro)|((first|(refine hK _ ?_;clear hK K)|with_reducible intro K hK|refine Rs.p ?_|((with_reducible first|apply oP|apply oQ);exact rfl)|refine aa hX hC hP (hD) rfl rfl rfl (by simp only [go_sem,simprocAttr,mz,bZ,c1]) rfl ?_|refine aa hX hC hP (SL) rfl rfl rfl (by simp only [go_sem,simprocAttr,mz,bZ,c1]) rfl ?_|refine aa hX hC hP (P3) rfl rfl rfl (by simp only [go_sem,simprocAttr,mz,bZ,c1]) rfl ?_|refine aa hX hC hP (UM) rfl rfl rfl (by simp only [go_sem,simprocAttr,mz,bZ,c1]) rfl ?_);try simp only [go_sem,simprocAttr,mz,bZ,c1])|((with_reducible refine oD ?_ ?_);kernel_rfl)|((with_reducible intro h);try simp only [go_sem,simprocAttr,mz,bZ,c1] at h)|omega|intro h)
 (refine iC hX 10 3 200 (.tip 3 1 []) rfl rfl rfl (by simp only [go_sem,simprocAttr,mz,bZ,c1]) (by decide) (by simp [go_sem,simprocAttr,mz,bZ,c1]) ⟨3,1,by decide, .inr rfl⟩ ?_;simp only [List.set_cons_zero,List.set_cons_succ,go_sem,simprocAttr,mz,bZ,c1])
 (refine iC hX 10 1 201 (.tip 3 1 []) rfl rfl rfl (by simp only [go_sem,simprocAttr,mz,bZ,c1]) (by decide) (by simp [go_sem,simprocAttr,mz,bZ,c1]) ⟨3,1,by decide, .inr rfl⟩ ?_;simp only [List.set_cons_zero,List.set_cons_succ,go_sem,simprocAttr,mz,bZ,c1])
 (refine iC hX 10 2 202 (.tip 3 1 []) rfl rfl rfl (by simp only [go_sem,simprocAttr,mz,bZ,c1]) (by decide) (by simp [go_sem,simprocAttr,mz,bZ,c1]) ⟨3,1,by decide, .inr rfl⟩ ?_;simp only [List.set_cons_zero,List.set_cons_succ,go_sem,simprocAttr,mz,bZ,c1])
 refine ag (fun k:Nat=>k≤g.es.length) (fun k=>⟨[(2, .ptr 2 0),(3, .ptr 3 0),(4, .ptr 4 0),(6, .ptr 6 0),(8, .d (sI ac)),(10, .ptr 10 0),(41, .d (sI LL)),(42,eN g.es.length),(43,eN k)], [(2, .box [eN g.n, .d (sE g.es)]),(3, .box [.d (sI p.ord), .d (.sl 1 (vI p.outs))]),(4, .box [.nil 3, .nil 3, .nil 3, .nil 3]),(6, .box [.d (sI LL), .d (sI RR), .d (sI lo), .d (sI hi)]),(10, .box [.d (sI yl), .ref 201, .ref 202, .ref 200]),(200, .tip 3 1 ((arr (Dd g p) k).map rI)),(201, .tip 3 1 []),(202, .tip 3 1 [])]⟩) (fun k=>g.es.length - k) 0 (by omega) ?_ ?_
 ·refine Le.of ?_ ?_
  ·simp [go_sem,simprocAttr,arr]
  ·simp [go_sem,simprocAttr,arr]
 rintro k hk
 rcases Nat.lt_or_ge k g.es.length with bS|Bh
 ·have hb:decide ((k:Int)<(g.es.length:Int))=true:=decide_eq_true (by omega)
  have iQ:=N3 k bS
  rw [← a1 k bS] at iQ
  have hx1:=UO k bS
  have ef:=Hy (f:=Dd g p) (k:=k)
  have n0:(arr (Dd g p) k).length=k:=dh
  generalize arr (Dd g p) k=XA at ef n0
  obtain ⟨f,hf⟩:∃f:Nat,LL.getD k 0=f:=⟨(LL.getD k 0).toNat,by omega⟩
  rw [hf] at iQ hx1
  rw [hac] at hx1
  repeat' (first|(show cw _ (.region 11 _ _) _ _;(refine dO hX 10 3 54 200 rfl rfl rfl (by first|exact .inl rfl|exact .inr rfl) (by decide) (by decide) ?_;simp only [List.set_cons_zero,List.set_cons_succ,go_sem,simprocAttr,hb,hf,k1,c1,n0]))|refine Rn.p ?_|(with_reducible apply And.intro)|((first|(refine hK _ ?_;clear hK K)|with_reducible intro K hK|refine Rs.p ?_|((with_reducible first|apply oP|apply oQ);exact rfl));try simp only [go_sem,simprocAttr,hb,hf,k1,c1,n0])|((with_reducible refine oD ?_ ?_);kernel_rfl)|((with_reducible intro h);try simp only [go_sem,simprocAttr,hb,hf,k1,c1,n0] at h)|omega|intro h)
  refine ⟨k+1,by omega, ?_,by omega⟩
  rw [ef,hx1]
  refine Le.of ?_ ?_<;>simp [go_sem,simprocAttr,hb,hf,k1,c1,n0,rI]
 have hb:decide ((k:Int)<(g.es.length:Int))=false:=decide_eq_false (by omega)
 obtain rfl:k=g.es.length:=by omega
 generalize arr (Dd g p) g.es.length=XA
 repeat' (first|refine Rn.p ?_|(with_reducible apply And.intro)|((first|(refine hK _ ?_;clear hK K)|with_reducible intro K hK|refine Rs.p ?_|((with_reducible first|apply oP|apply oQ);exact rfl));try simp only [go_sem,simprocAttr,hb])|((with_reducible refine oD ?_ ?_);kernel_rfl)|((with_reducible intro h);try simp only [go_sem,simprocAttr,hb] at h)|omega|intro h)
 refine ag (fun k:Nat=>k≤p.outs.length) (fun k=>⟨[(2, .ptr 2 0),(3, .ptr 3 0),(4, .ptr 4 0),(6, .ptr 6 0),(8, .d (sI ac)),(10, .ptr 10 0),(58, .d (.sl 1 (vI p.outs))),(59,eN p.outs.length),(60,eN k)], [(2, .box [eN g.n, .d (sE g.es)]),(3, .box [.d (sI p.ord), .d (.sl 1 (vI p.outs))]),(4, .box [.nil 3, .nil 3, .nil 3, .nil 3]),(6, .box [.d (sI LL), .d (sI RR), .d (sI lo), .d (sI hi)]),(10, .box [.d (sI yl), .ref 201, .ref 202, .ref 200]),(200, .tip 3 1 (XA.map rI)),(201, .tip 3 1 (((p.outs.take k).map (za g p)).map rI)),(202, .tip 3 1 (((p.outs.take k).map (toV g p)).map rI))]⟩) (fun k=>p.outs.length - k) 0 (by omega) ?_ ?_
 ·refine Le.of ?_ ?_<;>simp [go_sem,simprocAttr]
 rintro k hk
 rcases Nat.lt_or_ge k p.outs.length with bS|Bh
 rotate_left
 ·have hb:decide ((k:Int)<(p.outs.length:Int))=false:=decide_eq_false (by omega)
  obtain rfl:k=p.outs.length:=by omega
  rw [List.take_length]
  repeat' (first|refine Rn.p ?_|(with_reducible apply And.intro)|((first|(refine hK _ ?_;clear hK K)|with_reducible intro K hK|refine Rs.p ?_|((with_reducible first|apply oP|apply oQ);exact rfl));try simp only [go_sem,simprocAttr,hb,bZ])|((with_reducible refine oD ?_ ?_);kernel_rfl)|((with_reducible intro h);try simp only [go_sem,simprocAttr,hb,bZ] at h)|omega|intro h)
 have hb:decide ((k:Int)<(p.outs.length:Int))=true:=decide_eq_true (by omega)
 have hv:=iu bS
 have ho:=hout k bS
 have hlb:=RD _ (aB (d:= []) bS)
 have F9:(p.outs.take (k+1)).map (za g p)=(p.outs.take k).map (za g p)++ [za g p (p.outs.getD k [])]:=va bS
 have hn2:(p.outs.take (k+1)).map (toV g p)=(p.outs.take k).map (toV g p)++ [toV g p (p.outs.getD k [])]:=va bS
 have Bv:((p.outs.take k).map (za g p)).length=k:=by rw [List.length_map,List.length_take];omega
 have A8:((p.outs.take k).map (toV g p)).length=k:=by rw [List.length_map,List.length_take];omega
 have vR:(((cN g p+1:Nat):Int) - 1)=((cN g p:Nat):Int):=by omega
 have VP:=hbd (cN g p)
 have hk2:=k2 (cN g p)
 generalize p.outs.getD k []=l at hv ho hlb F9 hn2
 generalize (p.outs.take k).map (za g p)=F1 at F9 Bv
 generalize (p.outs.take k).map (toV g p)=F2 at hn2 A8
 by_cases hl:l= []
 ·subst hl
  have e1:za g p []=0:=rfl
  have e2:toV g p []=ac.getD (cN g p) 0 - 1:=by rw [hto,if_pos rfl,hac]
  rw [e1] at F9
  rw [e2] at hn2
  repeat' (first|(show cw _ (.region 20 _ _) _ _;(refine dO hX 10 1 100 201 rfl rfl rfl (by first|exact .inl rfl|exact .inr rfl) (by decide) (by decide) ?_;simp only [List.set_cons_zero,List.set_cons_succ,go_sem,simprocAttr,hb,hv,k1,vR,Bv,A8,List.map_nil,List.length_nil]);(refine dO hX 10 2 106 202 rfl rfl rfl (by first|exact .inl rfl|exact .inr rfl) (by decide) (by decide) ?_;simp only [List.set_cons_zero,List.set_cons_succ,go_sem,simprocAttr,hb,hv,k1,vR,Bv,A8,List.map_nil,List.length_nil]))|refine Rn.p ?_|(with_reducible apply And.intro)|((first|(refine hK _ ?_;clear hK K)|with_reducible intro K hK|refine Rs.p ?_|((with_reducible first|apply oP|apply oQ);exact rfl));try simp only [go_sem,simprocAttr,hb,hv,k1,vR,Bv,A8,List.map_nil,List.length_nil])|((with_reducible refine oD ?_ ?_);kernel_rfl)|((with_reducible intro h);try simp only [go_sem,simprocAttr,hb,hv,k1,vR,Bv,A8,List.map_nil,List.length_nil] at h)|omega|intro h)
  refine ⟨k+1,by omega, ?_,by omega⟩
  rw [F9,hn2]
  refine Le.of ?_ ?_<;>simp [go_sem,simprocAttr,hb,hv,k1,vR,Bv,A8,List.map_nil,List.length_nil,rI]
 ·have hlp:=List.length_pos_iff.2 hl
  have az:decide (0<(l.length:Int))=true:=decide_eq_true (by omega)
  have o1:=ho _ (aB (d:=0) (show 0<l.length by omega))
  have o2:=ho _ (aB (d:=0) (show l.length - 1<l.length by omega))
  have N4:((l.length:Int) - 1)=((l.length - 1:Nat):Int):=by omega
  obtain ⟨e,he⟩:∃e:Nat,l.getD 0 0=e:=⟨(l.getD 0 0).toNat,by omega⟩
  obtain ⟨f,hf⟩:∃f:Nat,l.getD (l.length - 1) 0=f:=⟨(l.getD (l.length - 1) 0).toNat,by omega⟩
  have r1:=N3 e (by omega)
  have r2:=UN f (by omega)
  rw [← a1 e (by omega)] at r1
  rw [← a2 f (by omega)] at r2
  obtain ⟨u,hu⟩:∃u:Nat,LL.getD e 0=u:=⟨(LL.getD e 0).toNat,by omega⟩
  obtain ⟨w,hw⟩:∃w:Nat,RR.getD f 0=w:=⟨(RR.getD f 0).toNat,by omega⟩
  have e1:za g p l=ac.getD u 0:=by rw [hfr,if_neg hl,he, ← a1 e (by omega),hu,hac]
  have e2:toV g p l=ac.getD w 0 - 1:=by rw [hto,if_neg hl,hf, ← a2 f (by omega),hw,hac]
  rw [hu] at r1
  rw [hw] at r2
  have UQ:=k2 w
  have VQ:=hbd w
  rw [e1] at F9
  rw [e2] at hn2
  repeat' (first|(show cw _ (.region 20 _ _) _ _;(refine dO hX 10 1 100 201 rfl rfl rfl (by first|exact .inl rfl|exact .inr rfl) (by decide) (by decide) ?_;simp only [List.set_cons_zero,List.set_cons_succ,go_sem,simprocAttr,hb,az,hv,k1,c1,c2,vR,Bv,A8,N4,he,hf,hu,hw]);(refine dO hX 10 2 106 202 rfl rfl rfl (by first|exact .inl rfl|exact .inr rfl) (by decide) (by decide) ?_;simp only [List.set_cons_zero,List.set_cons_succ,go_sem,simprocAttr,hb,az,hv,k1,c1,c2,vR,Bv,A8,N4,he,hf,hu,hw]))|refine Rn.p ?_|(with_reducible apply And.intro)|((first|(refine hK _ ?_;clear hK K)|with_reducible intro K hK|refine Rs.p ?_|((with_reducible first|apply oP|apply oQ);exact rfl));try simp only [go_sem,simprocAttr,hb,az,hv,k1,c1,c2,vR,Bv,A8,N4,he,hf,hu,hw])|((with_reducible refine oD ?_ ?_);kernel_rfl)|((with_reducible intro h);try simp only [go_sem,simprocAttr,hb,az,hv,k1,c1,c2,vR,Bv,A8,N4,he,hf,hu,hw] at h)|omega|intro h)
  refine ⟨k+1,by omega, ?_,by omega⟩
  rw [F9,hn2]
  refine Le.of ?_ ?_<;>simp [go_sem,simprocAttr,hb,az,hv,k1,c1,c2,vR,Bv,A8,N4,he,hf,hu,hw,rI]
end Go.Ab
end
section
namespace Go.Ab
open Go.Proofs
set_option maxRecDepth 10000
set_option linter.unusedSectionVars false
def N5 (l:List Int):Nat→List (List Int × Int)
 |0=> []
 |j+1=>vD (N5 l j) [l.getD j 0] (iX (N5 l j) [l.getD j 0]+1)
theorem Jo {ak:List (List Int × Int)} {k:List Int} {v:Int} (hn:(ak.map (·.1)).Nodup) (h:(k,v)∈ak):iX ak k=v:=by
 unfold iX
 cases hf:dz ak k with
 |none=>exact absurd rfl (o3 hf _ h)
 |some i=>
  obtain ⟨p,hp,e⟩:=jo hf
  obtain ⟨j,hj,e2⟩:=List.mem_iff_getElem.1 h
  have hi:=(List.getElem?_eq_some_iff.1 hp).1
  have:i=j:=by
   have h1:(ak.map (·.1))[i]'(by simpa using hi)=(ak.map (·.1))[j]'(by simpa using hj):=by
    rw [List.getElem_map,List.getElem_map,e2]
    have:=(List.getElem?_eq_some_iff.1 hp).2
    rw [this,e]
   exact (List.getElem_inj hn).1 h1
  subst this
  simp only [hp,Option.map_some,Option.getD_some]
  have h2:=(List.getElem?_eq_some_iff.1 hp).2
  rw [e2] at h2
  rw [← h2]
theorem EA {ak:List (List Int × Int)} {k:List Int} (h:∀p∈ak,p.1≠k):iX ak k=0:=by
 unfold iX
 cases hf:dz ak k with
 |none=>rfl
 |some i=>
  obtain ⟨p,hp,e⟩:=jo hf
  exact absurd e (h p (List.mem_of_getElem? hp))
theorem om {ak:List (List Int × Int)} {i:Nat} {v:Int} :(mE ak i v).map (·.1)=ak.map (·.1):=by
 refine List.ext_getElem? fun j=> ?_
 rw [List.getElem?_map,List.getElem?_map,mE,List.getElem?_modify]
 cases ak[j]? with
 |none=>rfl
 |some p=>by_cases h:i=j<;>simp [h]
theorem AH {ak:List (List Int × Int)} {i:Nat} {v:Int} {p:List Int × Int} (h:p∈mE ak i v):p∈ak∨p.2=v:=by
 obtain ⟨j,hj,e⟩:=List.mem_iff_getElem.1 h
 have h1:(mE ak i v)[j]? =some p:=by rw [List.getElem?_eq_getElem hj,e]
 rw [mE,List.getElem?_modify] at h1
 cases hq:ak[j]? with
 |none=>rw [hq] at h1;simp at h1
 |some q=>
  rw [hq] at h1
  by_cases hij:i=j
  ·simp [hij] at h1;right;rw [← h1]
  ·simp [hij] at h1;left;rw [← h1];exact List.mem_of_getElem? hq
structure AI (ak:List (List Int × Int)) (j:Nat) (S:Int→Prop):Prop where
 nd:(ak.map (·.1)).Nodup
 mem:∀k,k∈ak.map (·.1)↔∃x,S x∧k= [x]
 EX:∀p∈ak,1≤p.2∧p.2≤j
theorem AI.val {ak:List (List Int × Int)} {j:Nat} {S:Int→Prop} (h:AI ak j S) (x:Int):0≤iX ak [x]∧iX ak [x]≤j∧(S x→1≤iX ak [x]):=by
 by_cases hx:S x
 ·have:=(h.mem [x]).2 ⟨x,hx,rfl⟩
  obtain ⟨p,hp,e⟩:=List.mem_map.1 this
  have hr:=h.EX p hp
  have hv:iX ak [x]=p.2:=Jo h.nd (by rw [← e];exact hp)
  rw [hv]
  exact ⟨by omega,hr.2,fun _=>hr.1⟩
 ·have:iX ak [x]=0:=EA fun p hp e=>by
   obtain ⟨y,hy,e2⟩:=(h.mem p.1).1 (List.mem_map.2 ⟨p,hp,rfl⟩)
   rw [e] at e2
   have:x=y:=by injection e2
   subst this;exact hx hy
  rw [this]
  exact ⟨by omega,by omega,fun h=>absurd h hx⟩
theorem AI.step {ak:List (List Int × Int)} {j:Nat} {S:Int→Prop} (h:AI ak j S) (x:Int):AI (vD ak [x] (iX ak [x]+1)) (j+1) (fun y=>S y∨y=x):=by
 obtain ⟨v1,v2,v3⟩:=h.val x
 unfold vD iK lg
 cases hf:dz ak [x] with
 |some i=>
  simp only
  obtain ⟨p,hp,e⟩:=jo hf
  have hx:S x:=by
   obtain ⟨y,hy,e2⟩:=(h.mem p.1).1 (List.mem_map.2 ⟨p,List.mem_of_getElem? hp,rfl⟩)
   rw [e] at e2
   have:x=y:=by injection e2
   subst this;exact hy
  refine ⟨by rw [om];exact h.nd,fun k=> ?_,fun q hq=> ?_⟩
  ·rw [om,h.mem]
   constructor
   ·rintro ⟨y,hy,e⟩;exact ⟨y, .inl hy,e⟩
   ·rintro ⟨y,hy|hy,e⟩
    ·exact ⟨y,hy,e⟩
    ·subst hy;exact ⟨y,hx, ‹k= [y]›⟩
  ·rcases AH hq with h1|h1
   ·have:=h.EX q h1;omega
   ·omega
 |none=>
  simp only
  have hnk:([x]:List Int)∉ak.map (·.1):=fun hm=>by
   obtain ⟨p,hp,e⟩:=List.mem_map.1 hm
   exact o3 hf p hp e
  refine ⟨?_,fun k=> ?_,fun q hq=> ?_⟩
  ·rw [om,List.map_append,List.nodup_append]
   exact ⟨h.nd,by simp,fun a ha b hb e=>by
    simp only [List.map_cons,List.map_nil,List.mem_singleton] at hb
    subst hb;subst e;exact hnk ha⟩
  ·rw [om,List.map_append,List.mem_append,h.mem]
   simp only [List.map_cons,List.map_nil,List.mem_singleton]
   constructor
   ·rintro (⟨y,hy,e⟩|e)
    ·exact ⟨y, .inl hy,e⟩
    ·exact ⟨x, .inr rfl,e⟩
   ·rintro ⟨y,hy|rfl,e⟩
    ·exact .inl ⟨y,hy,e⟩
    ·exact .inr e
  ·rcases AH hq with h1|h1
   ·rw [List.mem_append,List.mem_singleton] at h1
    rcases h1 with h1|rfl
    ·have:=h.EX q h1;omega
    ·
     exfalso
     obtain ⟨i,hi,e⟩:=List.mem_iff_getElem.1 hq
     have h2:(mE (ak++ [([x],0)]) ak.length (iX ak [x]+1))[i]? =some ([x],0):=by rw [List.getElem?_eq_getElem hi,e]
     rw [mE,List.getElem?_modify] at h2
     by_cases hie:ak.length=i
     ·subst hie;simp at h2;omega
     ·simp only [hie,if_false] at h2
      rcases Nat.lt_or_ge i ak.length with h3|h3
      ·rw [List.getElem?_append_left h3] at h2
       have h4:(([x],0):List Int × Int)∈ak:=by
        simp at h2;exact List.mem_of_getElem? h2
       exact hnk (List.mem_map.2 ⟨_,h4,rfl⟩)
      ·rw [List.getElem?_eq_none (by simp;omega)] at h2;simp at h2
   ·omega
end Go.Ab
end
section
namespace Go.Ab
open Go.Proofs
set_option maxRecDepth 10000
set_option linter.unusedSectionVars false
theorem yW {g:Gr} (hm:aO g=true) (hok:oK g=true):∀(n:Nat) {v:Nat},v<g.n.toNat→(fU g).getD v 0=n→∀ {k:Nat},k≤n→∃u:Nat,u<g.n.toNat∧(fU g).getD u 0=k
 |n,v,hv,hl,k,hk=>by
  obtain ⟨_,h1,h2,h3⟩:=j4 hm hok
  by_cases hkn:k=n
  ·exact ⟨v,hv,by rw [hkn];exact hl⟩
  ·rcases h3 v hv with h4|⟨i,hi,h4,h5⟩
   ·omega
   ·have ht:=bL hm hi
    obtain ⟨n',rfl⟩:∃n',n=n'+1:=⟨n - 1,by omega⟩
    exact yW hm hok n' (v:=(tl g i).toNat) (by omega) (by omega) (by omega)
theorem yX {g:Gr} (hm:aO g=true) (hok:oK g=true) {t:Int} (ht:bg (·.1) g= [t]) {v:Nat} (hv:v<g.n.toNat):(fU g).getD v 0≤(fU g).getD t.toNat 0∧((v:Int)≠t→(fU g).getD v 0<(fU g).getD t.toNat 0):=by
 obtain ⟨_,h1,h2,h3⟩:=j4 hm hok
 have hB:∀v:Nat,(fU g).getD v 0≤((bT g).length*g.es.length:Nat):=fun v=>(oe (g:=g) (k:=(bT g).length) v).2
 have hone:∀v:Nat,v<g.n.toNat→(v:Int)≠t→∃i,i<g.es.length∧tl g i=v:=fun v hv hne=>by
  refine Decidable.byContradiction fun hno=>hne ?_
  have:(v:Int)∈bg (·.1) g:=sj.2 ⟨by omega,fun i hi e=>hno ⟨i,hi,e⟩⟩
  rw [ht,List.mem_singleton] at this
  exact this
 have key:∀(d:Nat) (v:Nat),v<g.n.toNat→(((bT g).length*g.es.length:Nat):Int) - (fU g).getD v 0=d→(fU g).getD v 0≤(fU g).getD t.toNat 0∧((v:Int)≠t→(fU g).getD v 0<(fU g).getD t.toNat 0):=by
  intro d
  induction d using Nat.strongRecOn with
  |_ d ih=>
   intro v hv hd'
   by_cases e:(v:Int)=t
   ·rw [← e,Int.toNat_natCast]
    exact ⟨Int.le_refl _,fun h=>absurd rfl h⟩
   ·obtain ⟨i,hi,e2⟩:=hone v hv e
    have h4:=h2 i hi
    rw [e2,Int.toNat_natCast] at h4
    have hh:=bQ hm hi
    have hb:=hB (hd g i).toNat
    have:=(ih (((bT g).length*g.es.length:Nat) - (fU g).getD (hd g i).toNat 0).toNat (by omega) (hd g i).toNat (by omega) (by omega)).1
    omega
 have hb:=hB v
 exact key (((bT g).length*g.es.length:Nat) - (fU g).getD v 0).toNat v hv (by omega)
theorem De {g:Gr} (hm:aO g=true) (hok:oK g=true) {s:Int} (hs:s∈bg (·.2) g):(fU g).getD s.toNat 0=0:=by
 obtain ⟨_,h1,h2,h3⟩:=j4 hm hok
 obtain ⟨hr,hno⟩:=eY.1 hs
 rcases h3 s.toNat (by omega) with h|⟨i,hi,e,_⟩
 ·exact h
 ·exact absurd (by omega) (hno i hi)
section
variable {g:Gr} {p:Pl} (hrun:bH g p) (hI:j8 g=true) (h0:0<g.es.length) (gW:g.es.length≤60)
include hrun hI h0 gW
theorem Jp:∃(s t L H:Nat),bg (·.2) g= [(s:Int)]∧bg (·.1) g= [(t:Int)]∧s<g.n.toNat∧t<g.n.toNat∧p.outs.length=g.n.toNat∧0<L∧
 (∀x∈(gF g p).x,0≤x∧x<L)∧(∀k:Nat,k<L→(k:Int)∈(gF g p).x)∧(∀y∈(gF g p).y,0≤y∧y<H)∧(∀k:Nat,k<H→(k:Int)∈(gF g p).y)∧
 (gF g p).fr.getD s 0=0∧(gF g p).fr.getD t 0=0∧(gF g p).to.getD s 0=(L:Int) - 1∧(gF g p).to.getD t 0=(L:Int) - 1∧(gF g p).y.getD s 0=0∧(gF g p).y.getD t 0=(H:Int) - 1∧L≤100000∧H≤100000:=by
 have hm:=an hrun.1
 have hok:=tK hrun.1
 have hn:=aM hm
 have hm2:=tJ hrun hI h0 gW
 have BY:=vr hrun hI hm2
 have hlen:=hrun.2.1.1
 have Hz:=Dc hrun hI h0
 have hsrc:=Jl hrun hI h0
 obtain ⟨k1,k2,k3,k4⟩:=j4 hm hok
 obtain ⟨f1,f2,f3,f4⟩:=j4 hm2 BY
 have Lm:(lV g p).n.toNat=cN g p+1:=by show ((cN g p:Int)+1).toNat=_;omega
 rw [Lm] at f1
 obtain ⟨b1,b2⟩:=xC hrun
 have hs0:aj p 0∈bg (·.2) g:=by rw [← b2];exact aB b1
 have hS:bg (·.2) g= [aj p 0]:=vq fun y=>⟨fun hy=>by
  obtain ⟨h1,h2⟩:=jk.1 hy
  obtain ⟨h3,h4⟩:=jk.1 hs0
  exact jO hrun.1 h1 h3 h2 h4,fun e=>e ▸ hs0⟩
 have NS:=hI
 unfold j8 at NS
 rw [Bool.and_eq_true,decide_eq_true_eq,decide_eq_true_eq] at NS
 obtain ⟨t,ht⟩:=List.length_eq_one_iff.1 NS.2
 have L7:t∈bg (·.1) g:=by rw [ht];simp
 obtain ⟨htr,htn⟩:=sj.1 L7
 obtain ⟨OP,EP⟩:=eY.1 hs0
 have hlt:=fun v hv=>yX hm hok ht (v:=v) hv
 have hls:=De hm hok hs0
 have hne:bn p (aj p 0)≠ []:=fun e=>by
  have h1:aj p 0∈bg (·.1) g:=fu.2 ⟨OP,(iI hrun.2.1 OP.1 OP.2).2 e⟩
  rw [ht,List.mem_singleton] at h1
  have h2:=k3 0 h0
  have h3:=k2 (tl g 0).toNat
  have h4:=bQ hm h0
  have h5:=(hlt (hd g 0).toNat (by omega)).1
  rw [← h1,hls] at h5
  omega
 have hte:bn p t= []:=(iI hrun.2.1 htr.1 htr.2).1 (fu.1 L7).2
 obtain ⟨s,hs⟩:∃s:Nat,aj p 0=s:=⟨(aj p 0).toNat,by omega⟩
 obtain ⟨t',rfl⟩:∃t':Nat,t=t':=⟨t.toNat,by omega⟩
 have hF:=cU hrun hI
 have hin:iN g (aj p 0):=OP
 have ho:(aY g p).outs (aY g p).src=bn p (aj p 0):=dg hin
 have hfl:=fun v hv=>yX hm2 BY Hz (v:=v) hv
 rw [Lm] at hfl
 rw [Int.toNat_natCast] at hfl
 have JN:=De hm2 BY (s:=0) (by rw [hsrc];simp)
 have hla:∀x:Nat,bn p (x:Int)=p.outs.getD x []:=fun x=>by unfold bn;rw [Int.toNat_natCast]
 have hac:∀f:Nat,iy g p f=(fU (lV g p)).getD f 0:=fun f=>by unfold iy;rw [Int.toNat_natCast]
 have hfr:∀x,x<g.n.toNat→(gF g p).fr.getD x 0=za g p (p.outs.getD x []):=fun x hx=>by
  show (p.outs.map (za g p)).getD x 0=_
  rw [List.getD_eq_getElem?_getD,List.getElem?_map,List.getElem?_eq_getElem (by omega),List.getD_eq_getElem?_getD,List.getElem?_eq_getElem (by omega)];rfl
 have hto:∀x,x<g.n.toNat→(gF g p).to.getD x 0=toV g p (p.outs.getD x []):=fun x hx=>by
  show (p.outs.map (toV g p)).getD x 0=_
  rw [List.getD_eq_getElem?_getD,List.getElem?_map,List.getElem?_eq_getElem (by omega),List.getD_eq_getElem?_getD,List.getElem?_eq_getElem (by omega)];rfl
 have N3:=fun (e:Int) (he:0≤e∧e<g.es.length)=>Da hrun hI he
 have hbd:∀ {G:Gr},aO G=true→∀v:Nat,(fU G).getD v 0≤64*128:=fun {G} hG v=>by
  have h1:=(oe (g:=G) (k:=(bT G).length) v).2
  have h2:=yu hG
  have h3:=aM hG
  have h4:(bT G).length*G.es.length≤64*128:=Nat.mul_le_mul h2 (by omega)
  have h5:(fU G).getD v 0=(qY G (bT G).length).getD v 0:=rfl
  rw [h5];omega
 have au:=hbd hm2 (cN g p)
 have az:=hbd hm t'
 rw [Int.toNat_natCast] at hlt
 rw [hs,Int.toNat_natCast] at hls
 have OL:0<cN g p:=by have:=N3 0 (by omega);omega
 have Rj:0<(fU (lV g p)).getD (cN g p) 0:=by
  have h1:=(hfl 0 (by omega)).2 (by omega)
  have h2:(fU (lV g p)).getD 0 0=0:=JN
  omega
 obtain ⟨L,hL⟩:∃L:Nat,(fU (lV g p)).getD (cN g p) 0=L:=⟨((fU (lV g p)).getD (cN g p) 0).toNat,by omega⟩
 obtain ⟨H,hH⟩:∃H:Nat,(fU g).getD t' 0=H:=⟨((fU g).getD t' 0).toNat,by have:=k2 t';omega⟩
 refine ⟨s,t',L,H+1,by rw [hS,hs],ht,by omega,by omega,hlen,by omega,fun x hx=> ?_,fun k hk=> ?_,fun y hy=> ?_,fun k hk=> ?_, ?_, ?_, ?_, ?_,hls, ?_,by omega,by omega⟩
 ·obtain ⟨i,hi,rfl⟩:=List.mem_map.1 (show x∈(List.range g.es.length).map (fun i:Nat=>Dd g p (i:Int)) from hx)
  have hi:=List.mem_range.1 hi
  have h1:=N3 (i:Int) (by omega)
  obtain ⟨f,hf⟩:∃f:Nat,Lf g p (i:Int)=f:=⟨(Lf g p (i:Int)).toNat,by omega⟩
  unfold Dd
  rw [hf,hac]
  have h2:=f2 f
  have h3:=(hfl f (by omega)).2 (by omega)
  omega
 ·obtain ⟨u,hu,N6⟩:=yW hm2 BY L (v:=cN g p) (by omega) hL (k:=k) (by omega)
  rw [Lm] at hu
  have K0:u≠cN g p:=fun e=>by subst e;omega
  obtain ⟨e,he,wg⟩:=Hv hrun hI h0 (f:=u) (by omega)
  show (k:Int)∈(List.range g.es.length).map (fun i:Nat=>Dd g p (i:Int))
  refine List.mem_map.2 ⟨e.toNat,List.mem_range.2 (by omega), ?_⟩
  rw [show ((e.toNat:Nat):Int)=e by omega]
  unfold Dd
  rw [wg,hac,N6]
 ·obtain ⟨i,hi,rfl⟩:=List.getElem_of_mem hy
  have hi':i<(fU g).length:=hi
  show 0≤(fU g)[i]∧(fU g)[i]<_
  have h1:(fU g)[i]=(fU g).getD i 0:=by
   rw [List.getD_eq_getElem?_getD,List.getElem?_eq_getElem hi'];rfl
  rw [h1]
  have h2:=k2 i
  have h3:=(hlt i (by omega)).1
  omega
 ·obtain ⟨u,hu,N6⟩:=yW hm hok H (v:=t') (by omega) hH (k:=k) (by omega)
  show (k:Int)∈fU g
  rw [← N6]
  exact aB (by omega)
 ·rw [hfr s (by omega), ← hla, ← hs]
  unfold za
  rw [if_neg hne]
  obtain ⟨b,v,II⟩:∃b v,bn p (aj p 0)=b::v:=List.exists_cons_of_ne_nil hne
  rw [II]
  have:=hF.s0 (ho.trans II)
  show iy g p (Lf g p b)=0
  rw [this]
  exact JN
 ·rw [hfr t' (by omega), ← hla,hte];rfl
 ·rw [hto s (by omega), ← hla, ← hs]
  unfold toV
  rw [if_neg hne]
  obtain ⟨v,b,II⟩:∃v b,bn p (aj p 0)=v++ [b]:=⟨_,_,(List.dropLast_concat_getLast hne).symm⟩
  have:=hF.s1 (ho.trans II)
  rw [II,List.length_append,List.length_singleton,Nat.add_sub_cancel,List.getD_eq_getElem?_getD,List.getElem?_append_right (Nat.le_refl _),Nat.sub_self]
  show iy g p (Rf g p b) - 1=_
  rw [this,hac,hL]
 ·rw [hto t' (by omega), ← hla,hte]
  unfold toV
  rw [if_pos rfl,hac,hL]
 ·show (fU g).getD t' 0=_
  omega
end
end Go.Ab
end
section
namespace Go.Ab
open Go.Proofs
set_option maxRecDepth 10000
structure sk (g:Gr) (p:Pl) (k:Nat) (e:Int):Prop where
 e0:0≤e
 e1:e<g.es.length
 low:iV g e∈p.ord.take k
 top:nk g e∉p.ord.take k
structure Df (g:Gr) (p:Pl) (L:Nat→Int→Int→Prop):Prop where
 up:∀e:Int,0≤e→e<g.es.length→∀k,k<g.n.toNat→aj p k=nk g e→iV g e∈p.ord.take k
 UR:∀k,k<g.n.toNat→∀a b c:Int,sk g p k a→sk g p k b→sk g p k c→nk g a=aj p k→nk g c=aj p k→L k a b→L k b c→nk g b=aj p k
 keep:∀k,k<g.n.toNat→∀a b:Int,sk g p k a→sk g p k b→nk g a≠aj p k→nk g b≠aj p k→L k a b→L (k+1) a b
 left:∀k,k<g.n.toNat→∀a b c:Int,sk g p k a→sk g p k b→nk g a≠aj p k→nk g b=aj p k→c∈bn p (aj p k)→L k a b→L (k+1) a c
 right:∀k,k<g.n.toNat→∀a b c:Int,sk g p k a→sk g p k b→nk g a≠aj p k→nk g b=aj p k→c∈bn p (aj p k)→L k b a→L (k+1) c a
 outs:∀k,k<g.n.toNat→(bn p (aj p k)).Pairwise (L (k+1))
theorem xE {α:Type} (P:α→Prop) [DecidablePred P]:∀l:List α,∃X v,l=X++v∧(∀t∈X,P t)∧(v= []∨∃b v',v=b::v'∧¬P b)
 | []=>⟨[], [],rfl,by simp, .inl rfl⟩
 |a::l=>by
  by_cases h:P a
  ·obtain ⟨X,v,e,h1,h2⟩:=xE P l
   exact ⟨a::X,v,by simp [e],fun t ht=>(List.mem_cons.1 ht).elim (fun e=>e ▸ h) (h1 t),h2⟩
  ·exact ⟨[],a::l,rfl,by simp, .inr ⟨a,l,rfl,h⟩⟩
theorem xF {α:Type} {P:α→Prop} [DecidablePred P] {R:α→α→Prop} :∀ {l:List α},l.Pairwise R→(∀a b c,a∈l→b∈l→c∈l→P a→P c→R a b→R b c→P b)→(∃a∈l,P a)→
 ∃u X v,l=u++X++v∧(∀t∈u,¬P t)∧(∀t∈X,P t)∧X≠ []∧∀t∈v,¬P t
 | [],_,_,⟨a,ha,_⟩=>by cases ha
 |t::l,hp,hb,hex=>by
  obtain ⟨hp1,hp2⟩:=List.pairwise_cons.1 hp
  by_cases h:P t
  ·obtain ⟨X,v,e,h1,h2⟩:=xE P l
   refine ⟨[],t::X,v,by simp [e],by simp,fun s hs=>(List.mem_cons.1 hs).elim (fun e=>e ▸ h) (h1 s),by simp,fun c hc SM=> ?_⟩
   rcases h2 with rfl|⟨b,v',rfl,hnb⟩
   ·cases hc
   ·have au:b∈l:=by rw [e];simp
    rcases List.mem_cons.1 hc with rfl|sX
    ·exact hnb SM
    ·have hbc:R b c:=by
      rw [e] at hp2
      have:=(List.pairwise_append.1 hp2).2.1
      exact (List.pairwise_cons.1 this).1 c sX
     exact hnb (hb t b c (by simp) (by simp [au]) (by rw [e];simp [sX]) h SM (hp1 b au) hbc)
  ·obtain ⟨a,ha,hPa⟩:=hex
   have DA:a∈l:=(List.mem_cons.1 ha).elim (fun e=>absurd (e ▸ hPa) h) id
   obtain ⟨u,X,v,e,h1,h2,h3,h4⟩:=xF hp2 (fun a b c ha hb' hc=>hb a b c (by simp [ha]) (by simp [hb']) (by simp [hc])) ⟨a,DA,hPa⟩
   exact ⟨t::u,X,v,by simp [e],fun s hs=>(List.mem_cons.1 hs).elim (fun e=>e ▸ h) (h1 s),h2,h3,h4⟩
theorem xG {p:Pl} {k:Nat} {y:Int} (h:y∈p.ord.take k):∃j,j<k∧j<p.ord.length∧aj p j=y:=by
 obtain ⟨j,hj,e⟩:=List.mem_iff_getElem.1 h
 simp only [List.length_take] at hj
 refine ⟨j,by omega,by omega, ?_⟩
 rw [aj,List.getD_eq_getElem?_getD,List.getElem?_eq_getElem (by omega),Option.getD_some, ← e,List.getElem_take]
theorem EB {p:Pl} {k j:Nat} (h1:j<k) (h2:j<p.ord.length):aj p j∈p.ord.take k:=by
 rw [aj,List.getD_eq_getElem?_getD,List.getElem?_eq_getElem h2,Option.getD_some]
 exact List.mem_iff_getElem.2 ⟨j,by simp;omega,by simp⟩
theorem xH {g:Gr} {p:Pl} (hp:bt g p) {k:Nat} (hk:k<g.n.toNat):aj p k∉p.ord.take k:=fun h=>by
 obtain ⟨j,h1,h2,h3⟩:=xG h
 have:=cZ hp (i:=j) (j:=k) (by omega) hk h3
 omega
theorem BZ {g:Gr} {p:Pl} (hp:bt g p) {k:Nat} (hk:k<g.n.toNat):p.ord.take (k+1)=p.ord.take k++ [aj p k]:=by
 rw [List.take_add_one,List.getElem?_eq_getElem (by rw [bR hp];exact hk),aj,List.getD_eq_getElem?_getD,List.getElem?_eq_getElem (by rw [bR hp];exact hk)]
 rfl
section
variable {g:Gr} {p:Pl}
theorem lW (hm:aO g=true) {f:Fr} (hi:y9 g f) {k:Nat} (fD:f.pl=p.ord.take k) {t:It} (ht:t∈fS f.row):sk g p k t.1∧iV g t.1=t.2.1∧nk g t.1=t.2.2:=by
 obtain ⟨h1,h2⟩:=fz.1 ht
 rcases hi.it t h1 with h|⟨_,g2,g3,g4⟩
 ·omega
 ·refine ⟨⟨h2,g2, ?_, ?_⟩,g3.symm,g4.symm⟩
  ·rw [← fD];unfold iV;rw [← g3];exact hi.tail t h1 h2
  ·rw [← fD];unfold nk;rw [← g4];exact hi.head t h1 h2
theorem vt (hc:(bF g).1=0) (hp:bt g p) {L:Nat→Int→Int→Prop} (hL:Df g p L):∀ {k:Nat},k≤g.n.toNat→
 (∀j,j<k→w9 g p j=true)∧((fS (fK g p k).row).Pairwise fun s t=>L k s.1 t.1)∧∀e,sk g p k e→∃t∈(fK g p k).row,t.1=e
 |0,_=>⟨fun j hj=>by omega,by simp [fK,fS],fun e he=>by have:=he.low;simp at this⟩
 |k+1,hk=>by
  have hm:=an hc
  obtain ⟨ih1,ih2,ih3⟩:=vt hc hp hL (k:=k) (by omega)
  obtain ⟨hi,fD,_⟩:=c7 hm hp (k:=k) (by omega) ih1
  obtain ⟨x0,x1⟩:=aF hp (k:=k) (by omega)
  have hnew:=xH hp (k:=k) (by omega)
  have hnext:=BZ hp (k:=k) (by omega)
  have hpx:=bN hp x0 x1
  have hout:∀i∈bn p (aj p k),(0≤i∧i<g.es.length)∧iV g i=aj p k:=fun i hi=>bG.1 (hpx.mem_iff.1 hi)
  have A4:=hL.outs k (by omega)
  have J5:fK g p (k+1)=(aC g (fK g p k) (aj p k) (bn p (aj p k))).2:=rfl
  have hab:=kT (g:=g) (x:=aj p k) (o:=bn p (aj p k)) fun i hi=>(hout i hi).1.1
  have fin:∀a X c:List It,w9 g p k=true→fS (fK g p k).row=a++X++c→gM (aj p k) a→gM (aj p k) c→vQ (aj p k) X→(X≠ []∨a++c= [])→fS (fK g p (k+1)).row=a++fS (aP g (aj p k) (bn p (aj p k)))++c→
   (∀j,j<k+1→w9 g p j=true)∧((fS (fK g p (k+1)).row).Pairwise fun s t=>L (k+1) s.1 t.1)∧∀e,sk g p (k+1) e→∃t∈(fK g p (k+1)).row,t.1=e:=by
   intro a X c hR e ha sX hX EC hs
   refine ⟨fun j hj=> ?_, ?_,fun q hq=> ?_⟩
   ·by_cases h:j=k
    ·subst h;exact hR
    ·exact ih1 j (by omega)
   ·have hma:∀t∈a,t∈fS (fK g p k).row:=fun t ht=>by rw [e];simp [ht]
    have OQ:∀t∈X,t∈fS (fK g p k).row:=fun t ht=>by rw [e];simp [ht]
    have Ih:∀t∈c,t∈fS (fK g p k).row:=fun t ht=>by rw [e];simp [ht]
    have Dg:=fun t ht=>lW (p:=p) hm hi fD (t:=t) ht
    rw [e,List.pairwise_append,List.pairwise_append] at ih2
    obtain ⟨⟨pa,pX,US⟩,pc,N7⟩:=ih2
    have hne:∀t,t∈a∨t∈c→nk g t.1≠aj p k:=fun t ht=>by
     rcases ht with ht|ht
     ·rw [(Dg t (hma t ht)).2.2];exact ha t ht
     ·rw [(Dg t (Ih t ht)).2.2];exact sX t ht
    rw [hs,hab,List.pairwise_append,List.pairwise_append]
    refine ⟨⟨?_, ?_, ?_⟩, ?_, ?_⟩
    ·exact pa.imp_of_mem fun {s t} hs' ht' h=>hL.keep k (by omega) _ _ (Dg s (hma s hs')).1 (Dg t (hma t ht')).1 (hne s (.inl hs')) (hne t (.inl ht')) h
    ·rw [List.pairwise_map];exact A4
    ·intro s hs' t ht'
     obtain ⟨i,hi',rfl⟩:=List.mem_map.1 ht'
     rcases EC with EC|h0
     ·obtain ⟨y,Y,rfl⟩:∃y Y,X=y::Y:=by
       cases X with
       |nil=>exact absurd rfl EC
       |cons y Y=>exact ⟨y,Y,rfl⟩
      exact hL.left k (by omega) s.1 y.1 i (Dg s (hma s hs')).1 (Dg y (OQ y (by simp))).1 (hne s (.inl hs')) (by rw [(Dg y (OQ y (by simp))).2.2];exact hX y (by simp)) hi' (US s hs' y (by simp))
     ·rw [(List.append_eq_nil_iff.1 h0).1] at hs';cases hs'
    ·exact pc.imp_of_mem fun {s t} hs' ht' h=>hL.keep k (by omega) _ _ (Dg s (Ih s hs')).1 (Dg t (Ih t ht')).1 (hne s (.inr hs')) (hne t (.inr ht')) h
    ·intro s hs' t ht'
     rcases List.mem_append.1 hs' with hs1|hs1
     ·exact hL.keep k (by omega) _ _ (Dg s (hma s hs1)).1 (Dg t (Ih t ht')).1 (hne s (.inl hs1)) (hne t (.inr ht')) (N7 s (by simp [hs1]) t ht')
     ·obtain ⟨i,hi',rfl⟩:=List.mem_map.1 hs1
      rcases EC with EC|h0
      ·obtain ⟨y,Y,rfl⟩:∃y Y,X=y::Y:=by
        cases X with
        |nil=>exact absurd rfl EC
        |cons y Y=>exact ⟨y,Y,rfl⟩
       exact hL.right k (by omega) t.1 y.1 i (Dg t (Ih t ht')).1 (Dg y (OQ y (by simp))).1 (hne t (.inr ht')) (by rw [(Dg y (OQ y (by simp))).2.2];exact hX y (by simp)) hi' (N7 y (by simp) t ht')
      ·rw [(List.append_eq_nil_iff.1 h0).2] at ht';cases ht'
   ·have CA:∃t∈fS (fK g p (k+1)).row,t.1=q:=by
     have hl:=hq.low
     rw [hnext,List.mem_append,List.mem_singleton] at hl
     have ht:=hq.top
     rw [hnext,List.mem_append,List.mem_singleton] at ht
     rw [hs]
     rcases hl with hl|hl
     ·obtain ⟨t,ht1,ht2⟩:=ih3 q ⟨hq.e0,hq.e1,hl,fun h=>ht (.inl h)⟩
      have hte:t∈fS (fK g p k).row:=fz.2 ⟨ht1,by rw [ht2];exact hq.e0⟩
      have hh:=(lW (p:=p) hm hi fD hte).2.2
      have iY:=hte
      rw [e,List.mem_append,List.mem_append] at iY
      rcases iY with (h1|h1)|h1
      ·exact ⟨t,by simp [h1],ht2⟩
      ·exact absurd (by rw [← ht2,hh];exact hX t h1) fun h=>ht (.inr h)
      ·exact ⟨t,by simp [h1],ht2⟩
     ·refine ⟨gr g (aj p k) q, ?_,rfl⟩
      rw [hab,List.mem_append,List.mem_append]
      exact .inl (.inr (List.mem_map.2 ⟨q,hpx.mem_iff.2 (bG.2 ⟨⟨hq.e0,hq.e1⟩,hl⟩),rfl⟩))
    obtain ⟨t,h1,h2⟩:=CA
    exact ⟨t,(fz.1 h1).1,h2⟩
  by_cases hn:bw g (aj p k)=0
  ·have hno:=ir hm hi.toiU x0 hn
   have hR:w9 g p k=true:=by
    show aD g (fK g p k) (aj p k)=true
    unfold aD
    rw [if_neg (by rintro (h|h|h);omega;omega;exact hnew (fD ▸ h)),if_pos hn]
   have hrow:(fK g p k).row= []:=by
    rcases hi.src with h|⟨s,hs,hs0⟩
    ·exact h.2
    ·have:=jO hc (hi.EX s hs) ⟨x0,x1⟩ hs0 hn
     exact absurd (by rw [← fD, ← this];exact hs) hnew
   refine fin [] [] [] hR (by rw [hrow];rfl) (fun t ht=>by cases ht) (fun t ht=>by cases ht) (fun t ht=>by cases ht) (.inr rfl) ?_
   rw [J5,gv _ hno,hrow]
   simp
  ·have hex:∃e,e∈aJ (·.2) g.es g.es.length (aj p k):=by
    cases h:aJ (·.2) g.es g.es.length (aj p k) with
    |nil=>exact absurd (by unfold bw;rw [h];rfl) hn
    |cons e l=>exact ⟨e,by simp⟩
   have N8:∀e,e∈aJ (·.2) g.es g.es.length (aj p k)→∃t∈fS (fK g p k).row,t.1=e∧t.2.2=aj p k:=fun e he=>by
    obtain ⟨⟨e0,e1⟩,e2⟩:=bG.1 he
    obtain ⟨t,ht1,ht2⟩:=ih3 e ⟨e0,e1,hL.up e e0 e1 k (by omega) e2.symm,by rw [show nk g e=aj p k from e2];exact hnew⟩
    have hte:t∈fS (fK g p k).row:=fz.2 ⟨ht1,by rw [ht2];exact e0⟩
    exact ⟨t,hte,ht2,by rw [← (lW (p:=p) hm hi fD hte).2.2,ht2];exact e2⟩
   obtain ⟨e,he⟩:=hex
   obtain ⟨t0,L7,_,RE⟩:=N8 e he
   obtain ⟨a,X,c,hE,ha,hX,nX,sX⟩:=xF (P:=fun t:It=>t.2.2=aj p k) ih2 (fun a b c ma mb mc ea ec r1 r2=>by
    have ca:=lW (p:=p) hm hi fD ma
    have cb:=lW (p:=p) hm hi fD mb
    have cc:=lW (p:=p) hm hi fD mc
    rw [← cb.2.2]
    exact hL.UR k (by omega) a.1 b.1 c.1 ca.1 cb.1 cc.1 (by rw [ca.2.2];exact ea) (by rw [cc.2.2];exact ec) r1 r2) ⟨t0,L7,RE⟩
   have hlen:X.length=bw g (aj p k):=by
    have cC:((fS (fK g p k).row).map (·.1)).Nodup:=by
     rw [List.Nodup,List.pairwise_map]
     exact (hi.once.filter _).imp_of_mem fun {s t} hs ht h=>h (fz.1 hs).2
    have RF:(X.map (·.1)).Nodup:=by
     rw [hE,List.map_append,List.map_append] at cC
     exact (List.nodup_append.1 (List.nodup_append.1 cC).1).2.1
    have JV:(X.map (·.1)).Perm (aJ (·.2) g.es g.es.length (aj p k)):=by
     refine (List.perm_ext_iff_of_nodup RF cq).2 fun e=>⟨fun h=> ?_,fun h=> ?_⟩
     ·obtain ⟨t,ht,rfl⟩:=List.mem_map.1 h
      have hte:t∈fS (fK g p k).row:=by rw [hE];simp [ht]
      have ct:=lW (p:=p) hm hi fD hte
      exact bG.2 ⟨⟨ct.1.e0,ct.1.e1⟩,(show nk g t.1=_ by rw [ct.2.2];exact hX t ht)⟩
     ·obtain ⟨t,ht,h1,h2⟩:=N8 e h
      rw [hE,List.mem_append,List.mem_append] at ht
      rcases ht with (h3|h3)|h3
      ·exact absurd h2 (ha t h3)
      ·exact List.mem_map.2 ⟨t,h3,h1⟩
      ·exact absurd h2 (sX t h3)
    have:=JV.length_eq
    rw [List.length_map] at this
    exact this
   have hR:w9 g p k=true:=Aw hm hi.toiU x0 x1 (by rw [fD];exact hnew) hE ha sX hX nX hlen
   exact fin a X c hR hE ha sX hX (.inl nX) (by rw [J5];exact CV hm hi.toiU hR hn hE ha sX hX nX _)
theorem ED (hc:(bF g).1=0) (hp:bt g p) {L:Nat→Int→Int→Prop} (hL:Df g p L):bH g p:=
 ⟨hc,hp,fun k hk=>(vt hc hp hL (k:=k+1) (by omega)).1 k (by omega)⟩
end
end Go.Ab
end
section
namespace Go.Ab
open Go.Proofs
attribute [local congr] ACall.congr gd.congr Nx.congr
set_option maxRecDepth 20000
set_option maxHeartbeats 16000000
def hasB (b:Br) (x:Nat) (q:Int):Bool:=decide (b.fr.getD x 0≤q)&&decide (q≤b.to.getD x 0)
theorem B0 (b:Br) (x:Nat) (q:Int) (h1:x<b.fr.length) (h2:x<b.to.length) (hl:b.fr.length≤100000):Spec Tryz.prog 146 (Args [bZ b,eN x,eN q]) [] (eB (hasB b x q)) []:=by
 cases hc:decide (b.fr.getD x 0≤q) with
 |false=>
  have hr:hasB b x q=false:=by unfold hasB;rw [hc];rfl
  rw [hr]
  (refine Spec.hd (C:=T.cfg [] []) (rs:= [.t 6]) (T.ah _ _) Tryz.func146 rfl rfl Tryz.ntmps146 Tryz.results146 (by simp [AObj.isNest]) (by simp [AObj.isNest]) (by kernel_rfl) T.mixed fun X hX hP hC aI bU=> ?_)
  repeat' (first|refine Rn.p ?_|(with_reducible apply And.intro)|((first|(refine hK _ ?_;clear hK K)|with_reducible intro K hK|refine Rs.p ?_|((with_reducible first|apply oP|apply oQ);exact rfl));try simp only [go_sem,simprocAttr,bZ,hc])|((with_reducible refine oD ?_ ?_);kernel_rfl)|((with_reducible intro h);try simp only [go_sem,simprocAttr,bZ,hc] at h)|omega|intro h)
 |true=>
  have hr:hasB b x q=decide (q≤b.to.getD x 0):=by unfold hasB;rw [hc];rfl
  rw [hr]
  (refine Spec.hd (C:=T.cfg [] []) (rs:= [.t 6]) (T.ah _ _) Tryz.func146 rfl rfl Tryz.ntmps146 Tryz.results146 (by simp [AObj.isNest]) (by simp [AObj.isNest]) (by kernel_rfl) T.mixed fun X hX hP hC aI bU=> ?_)
  repeat' (first|refine Rn.p ?_|(with_reducible apply And.intro)|((first|(refine hK _ ?_;clear hK K)|with_reducible intro K hK|refine Rs.p ?_|((with_reducible first|apply oP|apply oQ);exact rfl));try simp only [go_sem,simprocAttr,bZ,hc])|((with_reducible refine oD ?_ ?_);kernel_rfl)|((with_reducible intro h);try simp only [go_sem,simprocAttr,bZ,hc] at h)|omega|intro h)
def HA (b:Br) (x z:Nat):Bool:=decide (b.y.getD z 0=b.y.getD x 0)&&decide (b.fr.getD z 0≤b.to.getD x 0)&&decide (b.fr.getD x 0≤b.to.getD z 0)
def Ln (b:Br) (x:Nat):Bool:=decide (b.fr.getD x 0≤b.to.getD x 0)&&(List.range x).all fun z=> !HA b x z
def lX (b:Br):Bool:=(List.range b.y.length).all (Ln b)
theorem gR {n:Nat} {f:Nat→Bool} {k:Nat} (hk:k<n) (h:f k=false):(List.range n).all f=false:=List.all_eq_false.2 ⟨k,List.mem_range.2 hk,by rw [h];decide⟩
theorem iz {n:Nat} {f:Nat→Bool} (h:∀k,k<n→f k=true):(List.range n).all f=true:=List.all_eq_true.2 fun k hk=>h k (List.mem_range.1 hk)
theorem apart_spec (b:Br) (h1:b.fr.length=b.y.length) (h2:b.to.length=b.y.length) (hl:b.y.length≤100000):Spec Tryz.prog 97 (Args [bZ b]) [] (eB (lX b)) []:=by
 (refine Spec.hd (C:=T.cfg [] []) (rs:= [.t 2]) (T.ah _ _) Tryz.func97 rfl rfl Tryz.ntmps97 Tryz.results97 (by simp [AObj.isNest]) (by simp [AObj.isNest]) (by kernel_rfl) T.mixed fun X hX hP hC aI bU=> ?_)
 repeat' (first|refine Rn.p ?_|(with_reducible apply And.intro)|((first|(refine hK _ ?_;clear hK K)|with_reducible intro K hK|refine Rs.p ?_|((with_reducible first|apply oP|apply oQ);exact rfl));try simp only [go_sem,simprocAttr,bZ])|((with_reducible refine oD ?_ ?_);kernel_rfl)|((with_reducible intro h);try simp only [go_sem,simprocAttr,bZ] at h)|omega|intro h)
 refine ag (fun k:Nat=>k≤b.y.length∧∀j,j<k→Ln b j=true) (fun k=>⟨[(1, .ptr 1 0),(7, .d (sI b.y)),(8,eN b.y.length),(9,eN k)], [(1, .box [.d (sI b.y), .d (sI b.fr), .d (sI b.to), .d (sI b.x)])]⟩) (fun k=>b.y.length - k) 0 ⟨by omega,fun j hj=>by omega⟩ ?_ ?_
 ·refine Le.of ?_ ?_<;>simp [go_sem,simprocAttr]
 rintro k ⟨hk,hin⟩
 rcases Nat.lt_or_ge k b.y.length with bS|Bh
 rotate_left
 ·have hb:decide ((k:Int)<(b.y.length:Int))=false:=decide_eq_false (by omega)
  obtain rfl:k=b.y.length:=by omega
  have hr:lX b=true:=iz hin
  rw [hr]
  repeat' (first|refine Rn.p ?_|(with_reducible apply And.intro)|((first|(refine hK _ ?_;clear hK K)|with_reducible intro K hK|refine Rs.p ?_|((with_reducible first|apply oP|apply oQ);exact rfl));try simp only [go_sem,simprocAttr,hb])|((with_reducible refine oD ?_ ?_);kernel_rfl)|((with_reducible intro h);try simp only [go_sem,simprocAttr,hb] at h)|omega|intro h)
 have hb:decide ((k:Int)<(b.y.length:Int))=true:=decide_eq_true (by omega)
 by_cases hc:b.fr.getD k 0≤b.to.getD k 0
 rotate_left
 ·have hc1:decide (b.to.getD k 0<b.fr.getD k 0)=true:=decide_eq_true (by omega)
  have hr:lX b=false:=gR bS (by unfold Ln;rw [decide_eq_false hc];rfl)
  rw [hr]
  repeat' (first|refine Rn.p ?_|(with_reducible apply And.intro)|((first|(refine hK _ ?_;clear hK K)|with_reducible intro K hK|refine Rs.p ?_|((with_reducible first|apply oP|apply oQ);exact rfl));try simp only [go_sem,simprocAttr,hb,hc1])|((with_reducible refine oD ?_ ?_);kernel_rfl)|((with_reducible intro h);try simp only [go_sem,simprocAttr,hb,hc1] at h)|omega|intro h)
 have hc1:decide (b.to.getD k 0<b.fr.getD k 0)=false:=decide_eq_false (by omega)
 repeat' (first|refine Rn.p ?_|(with_reducible apply And.intro)|((first|(refine hK _ ?_;clear hK K)|with_reducible intro K hK|refine Rs.p ?_|((with_reducible first|apply oP|apply oQ);exact rfl));try simp only [go_sem,simprocAttr,hb,hc1])|((with_reducible refine oD ?_ ?_);kernel_rfl)|((with_reducible intro h);try simp only [go_sem,simprocAttr,hb,hc1] at h)|omega|intro h)
 refine ag (fun z:Nat=>z≤k∧∀j,j<z→HA b k j=false) (fun z=>⟨[(1, .ptr 1 0),(3,eN k),(4,eN (b.y.getD k 0)),(7, .d (sI b.y)),(8,eN b.y.length),(9,eN k),(25,eN k),(26,eN z)], [(1, .box [.d (sI b.y), .d (sI b.fr), .d (sI b.to), .d (sI b.x)])]⟩) (fun z=>k - z) 0 ⟨by omega,fun j hj=>by omega⟩ ?_ ?_
 ·refine Le.of ?_ ?_<;>simp [go_sem,simprocAttr]
 rintro z ⟨hz,HB⟩
 rcases Nat.lt_or_ge z k with hzl|QS
 rotate_left
 ·have hbz:decide ((z:Int)<(k:Int))=false:=decide_eq_false (by omega)
  obtain rfl:z=k:=by omega
  repeat' (first|refine Rn.p ?_|(with_reducible apply And.intro)|((first|(refine hK _ ?_;clear hK K)|with_reducible intro K hK|refine Rs.p ?_|((with_reducible first|apply oP|apply oQ);exact rfl));try simp only [go_sem,simprocAttr,hbz])|((with_reducible refine oD ?_ ?_);kernel_rfl)|((with_reducible intro h);try simp only [go_sem,simprocAttr,hbz] at h)|omega|intro h)
  refine ⟨z+1,⟨by omega,fun j hj=> ?_⟩, ?_,by omega⟩
  ·by_cases vG:j=z
   ·subst vG
    unfold Ln
    rw [decide_eq_true hc,iz (f:=fun z=> !HA b j z) (fun i hi=>by rw [HB i hi];rfl)];rfl
   ·exact hin j (by omega)
  ·refine Le.of ?_ ?_<;>simp [go_sem,simprocAttr,hbz]
 have hbz:decide ((z:Int)<(k:Int))=true:=decide_eq_true (by omega)
 have hap:HA b k z=(decide (b.y.getD z 0=b.y.getD k 0)&&decide (b.fr.getD z 0≤b.to.getD k 0)&&decide (b.fr.getD k 0≤b.to.getD z 0)):=rfl
 have hno:HA b k z=true→lX b=false:=fun h1=>gR bS (by unfold Ln;rw [gR (f:=fun z=> !HA b k z) hzl (by rw [h1];rfl),Bool.and_false])
 have hyes:HA b k z=false→∀j,j<z+1→HA b k j=false:=fun h1 j hj=>by
  by_cases vG:j=z
  ·subst vG;exact h1
  ·exact HB j (by omega)
 generalize HA b k z=av at*
 cases pT:decide (b.y.getD z 0=b.y.getD k 0)<;>cases hd2:decide (b.fr.getD z 0≤b.to.getD k 0)<;>cases vu:decide (b.fr.getD k 0≤b.to.getD z 0)<;>rw [pT,hd2,vu] at hap<;>simp only [Bool.and_true,Bool.and_false,Bool.true_and,Bool.false_and] at hap<;>subst hap
 all_goals (
 repeat' (first|refine Rn.p ?_|(with_reducible apply And.intro)|((first|(refine hK _ ?_;clear hK K)|with_reducible intro K hK|refine Rs.p ?_|((with_reducible first|apply oP|apply oQ);exact rfl));try simp only [go_sem,simprocAttr,hbz,pT,hd2,vu])|((with_reducible refine oD ?_ ?_);kernel_rfl)|((with_reducible intro h);try simp only [go_sem,simprocAttr,hbz,pT,hd2,vu] at h)|omega|intro h))
 all_goals (first|(rw [hno rfl];done)|(exact hno rfl)|(exact (hno rfl).symm)|(refine ⟨z+1,⟨by omega,hyes rfl⟩, ?_,by omega⟩;refine Le.of ?_ ?_<;>simp [go_sem];done)|trace_state)
end Go.Ab
end
