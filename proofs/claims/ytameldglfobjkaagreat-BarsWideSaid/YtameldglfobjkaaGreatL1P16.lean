/- A part of the proof. -/
import Derived.Test.YtameldglfobjkaaGreatL1P15
set_option linter.unusedSimpArgs false
set_option linter.unusedVariables false
section
namespace Go.Ab
open Go.Proofs
set_option maxRecDepth 10000
set_option linter.unusedSectionVars false
theorem uj {l:List Int} {i j:Nat} {a:Int} (hi:i<l.length):(l.set i a).getD j 0=if j=i then a else l.getD j 0:=by
 rw [List.getD_eq_getElem?_getD,List.getElem?_set]
 by_cases h:i=j
 ·subst h;rw [if_pos rfl,if_pos hi,if_pos rfl];rfl
 ·rw [if_neg h,if_neg (fun e=>h e.symm), ← List.getD_eq_getElem?_getD]
theorem pS {g:Gr} {st:List Int} {x:Nat} {l:List Int} (hx:x<st.length) {v:Nat} (hv:v≠x):∀ {j:Nat},(mc g st x l j).getD v 0=st.getD v 0
 |0=>rfl
 |j+1=>by rw [mc,uj (by rw [oL];exact hx),if_neg hv];exact pS hx hv
theorem xM {g:Gr} {st:List Int} {x:Nat} {l:List Int} (hx:x<st.length) (ht:∀e∈l,(lp g e).toNat≠x):∀ {j:Nat},j≤l.length→(st.getD x 0≤(mc g st x l j).getD x 0)∧(∀i,i<j→st.getD (lp g (l.getD i 0)).toNat 0+1≤(mc g st x l j).getD x 0)∧((mc g st x l j).getD x 0=st.getD x 0∨∃i,i<j∧(mc g st x l j).getD x 0=st.getD (lp g (l.getD i 0)).toNat 0+1)
 |0,_=>⟨Int.le_refl _,fun i hi=>by omega, .inl rfl⟩
 |j+1,hj=>by
  obtain ⟨h1,h2,h3⟩:=xM hx ht (g:=g) (l:=l) (j:=j) (by omega)
  have e1:(mc g st x l (j+1)).getD x 0=max ((mc g st x l j).getD x 0) (st.getD (lp g (l.getD j 0)).toNat 0+1):=by
   rw [mc,uj (by rw [oL];exact hx),if_pos rfl,pS hx (ht _ (aG (by omega)))]
  rw [e1]
  refine ⟨by omega,fun i hi=> ?_, ?_⟩
  ·by_cases hij:i=j
   ·subst hij;omega
   ·have:=h2 i (by omega);omega
  ·by_cases hc:(mc g st x l j).getD x 0≤st.getD (lp g (l.getD j 0)).toNat 0+1
   ·exact .inr ⟨j,by omega,by omega⟩
   ·rcases h3 with h3|⟨i,hi,h3⟩
    ·exact .inl (by omega)
    ·exact .inr ⟨i,by omega,by omega⟩
structure Mj (g:Gr) (st:List Int) (D:List Int):Prop where
 out:∀v:Nat,(v:Int)∉D→st.getD v 0=0
 up:∀i,i<g.es.length→hd g i∈D→st.getD (tl g i).toNat 0+1≤st.getD (hd g i).toNat 0
 why:∀v:Nat,(v:Int)∈D→st.getD v 0=0∨∃i,i<g.es.length∧hd g i=v∧st.getD v 0=st.getD (tl g i).toNat 0+1
theorem F0 {g:Gr} (hm:aN g=true) (hok:mu g=true):∀ {k:Nat},k≤(bH g).length→Mj g (oV g k) ((bH g).take k)
 |0,_=>⟨fun v _=>by
    rw [oV,List.getD_eq_getElem?_getD,List.getElem?_replicate];split<;>rfl,fun i _ h=>by simp at h,fun v h=>by simp at h⟩
 |k+1,hk=>by
  have ih:=F0 hm hok (k:=k) (by omega)
  have HG:bH g=aJ g:=if_pos hok
  have hall:=n0 hm hok
  rw [← HG] at hall
  have hx:=k6 hall _ (aG (d:=0) (show k<(bH g).length by omega))
  have Jw:Ord g (bH g):=by rw [HG];exact (dR hm).2.1
  have vR:(bH g).take (k+1)=(bH g).take k++ [(bH g).getD k 0]:=by
   rw [List.take_add_one,List.getD_eq_getElem?_getD,List.getElem?_eq_getElem (by omega)];rfl
  have AP:(bH g).getD k 0∉(bH g).take k:=fun hm2=>by
   obtain ⟨r,hr,e⟩:=List.mem_iff_getElem.1 hm2
   rw [List.length_take] at hr
   rw [List.getElem_take] at e
   have:=iu hall (i:=r) (j:=k) (by omega) (by omega) (by rw [← e,List.getD_eq_getElem?_getD,List.getElem?_eq_getElem (by omega)];rfl)
   omega
  have hlen:=qM (g:=g) (k:=k)
  have x3:∀q,q≤(bH g).length→∀i,i<g.es.length→hd g i∈(bH g).take q→tl g i∈(bH g).take q:=fun q hq i hi hh=>by
   obtain ⟨r,hr,e⟩:=List.mem_iff_getElem.1 hh
   rw [List.length_take] at hr
   rw [List.getElem_take] at e
   have:=Jw r (by omega) i hi (by rw [List.getD_eq_getElem?_getD,List.getElem?_eq_getElem (by omega)];exact e.symm)
   exact (List.take_sublist_take_left (by omega)).subset this
  have Mk:∀i,i<g.es.length→hd g i=(bH g).getD k 0→tl g i∈(bH g).take k:=fun i hi hh=>Jw k (by omega) i hi hh
  generalize qu:(bH g).getD k 0=xv at*
  obtain ⟨x,rfl⟩:∃x:Nat,xv=x:=⟨xv.toNat,by omega⟩
  have dI:oV g (k+1)=mc g (oV g k) x (aL (fun e=>e.2) g.es g.es.length (x:Int)) (aL (fun e=>e.2) g.es g.es.length (x:Int)).length:=by
   rw [oV,qu,Int.toNat_natCast]
  have hxl:x<(oV g k).length:=by omega
  have hl:∀e,e∈aL (fun e=>e.2) g.es g.es.length (x:Int)↔(0≤e∧e<g.es.length)∧DG g e=x:=fun e=>bR
  have hne:∀y,y∈(bH g).take k→y≠(x:Int):=fun y hy e=>AP (e ▸ hy)
  have htr:=fun i (hi:i<g.es.length)=>bL hm hi
  have O7:=fun i (hi:i<g.es.length)=>bX hm hi
  have zO:=xM (g:=g) (st:=oV g k) (x:=x) (l:=aL (fun e=>e.2) g.es g.es.length (x:Int)) hxl (fun e he=>by
   obtain ⟨h1,h2⟩:=(hl e).1 he
   have h3:=hne _ (Mk e.toNat (by omega) h2)
   have h4:=htr e.toNat (by omega)
   have h5:lp g e=tl g e.toNat:=rfl
   rw [h5];omega) (Nat.le_refl _)
  have yW:∀v:Nat,v≠x→(oV g (k+1)).getD v 0=(oV g k).getD v 0:=fun v hv=>by rw [dI];exact pS hxl hv
  rw [← dI] at zO
  obtain ⟨s1,s2,s3⟩:=zO
  have hx0:=ih.out x AP
  rw [vR]
  refine ⟨fun v hv=> ?_,fun i hi hh=> ?_,fun v hv=> ?_⟩
  ·rw [List.mem_append,List.mem_singleton] at hv
   rw [yW v (fun e=>hv (.inr (by rw [e]))),ih.out v (fun h=>hv (.inl h))]
  ·have t1:=htr i hi
   have t2:=O7 i hi
   rw [List.mem_append,List.mem_singleton] at hh
   rcases hh with hh|hh
   ·have n1:=hne _ hh
    have n2:=hne _ (x3 k (by omega) i hi hh)
    rw [yW _ (by omega),yW _ (by omega)]
    exact ih.up i hi hh
   ·have n2:=hne _ (Mk i hi hh)
    obtain ⟨q,hq,e⟩:=List.mem_iff_getElem.1 ((hl (i:Int)).2 ⟨by omega,hh⟩)
    have h3:=s2 q hq
    have e2:(aL (fun e=>e.2) g.es g.es.length (x:Int)).getD q 0=(i:Int):=by rw [List.getD_eq_getElem?_getD,List.getElem?_eq_getElem hq];exact e
    rw [e2] at h3
    rw [yW _ (by omega),hh,Int.toNat_natCast]
    exact h3
  ·rw [List.mem_append,List.mem_singleton] at hv
   by_cases Ml:v=x
   ·subst Ml
    rcases s3 with s3|⟨q,hq,s3⟩
    ·exact .inl (s3.trans hx0)
    ·right
     obtain ⟨h1,h2⟩:=(hl _).1 (aG (d:=0) hq)
     have n2:=hne _ (Mk _ (by omega) h2)
     have t1:=htr ((aL (fun e=>e.2) g.es g.es.length (v:Int)).getD q 0).toNat (by omega)
     refine ⟨((aL (fun e=>e.2) g.es g.es.length (v:Int)).getD q 0).toNat,by omega,h2, ?_⟩
     rw [s3,yW _ (by omega)];rfl
   ·have AK:(v:Int)∈(bH g).take k:=hv.resolve_right (fun e=>Ml (by omega))
    rw [yW v Ml]
    rcases ih.why v AK with h1|⟨i,hi,h1,h2⟩
    ·exact .inl h1
    ·right
     have n2:=hne _ (x3 k (by omega) i hi (by rw [h1];exact AK))
     have t1:=htr i hi
     exact ⟨i,hi,h1,by rw [h2,yW _ (by omega)]⟩
theorem nj {g:Gr} (hm:aN g=true) (hok:mu g=true):(gX g).length=g.n.toNat∧(∀v:Nat,0≤(gX g).getD v 0)∧(∀i,i<g.es.length→(gX g).getD (tl g i).toNat 0+1≤(gX g).getD (hd g i).toNat 0)∧
 ∀v:Nat,v<g.n.toNat→(gX g).getD v 0=0∨∃i,i<g.es.length∧hd g i=v∧(gX g).getD v 0=(gX g).getD (tl g i).toNat 0+1:=by
 have h1:=F0 hm hok (Nat.le_refl (bH g).length)
 rw [List.take_length] at h1
 have HG:bH g=aJ g:=if_pos hok
 have hall:=n0 hm hok
 rw [← HG] at hall
 have hin:∀x:Nat,x<g.n.toNat→(x:Int)∈bH g:=fun x hx=>by
  simp only [fE,Bool.and_eq_true,List.all_eq_true,List.mem_range,decide_eq_true_eq] at hall
  exact hall.2 x hx
 refine ⟨qM,fun v=>(lW v).1,fun i hi=>h1.up i hi ?_,fun v hv=>h1.why v (hin v hv)⟩
 have:=bX hm hi
 have:=hin (hd g i).toNat (by omega)
 rwa [show (((hd g i).toNat:Nat):Int)=hd g i by omega] at this
end Go.Ab
end
section
namespace Go.Ab
set_option maxRecDepth 10000
set_option linter.unusedSectionVars false
variable {P:PS}
structure PS.Hi (P:PS) (R:Int→Int) (f0 f1:Int) (hi:Int→Int):Prop where
 mid:∀ {x u a b v},P.ins x=u++a::b::v→hi (R a)=x
 h0:hi f0=P.GR
 h1:hi f1=P.GR
def PS.F3 (P:PS) (a:Int):Prop:=∃x u b v,P.outs x=u++a::b::v
section
variable (h:P.Ok) {L R:Int→Int} {f0 f1:Int} {low:Int→Int} (F:P.gJ L R f0 f1 low)
include h F
theorem PS.Hi.BP {hi:Int→Int} (H:P.Hi R f0 f1 hi):P.BP.Hi L f1 f0 hi:=
 {mid:=fun {x u a b v} e=>by
   have e:=gV (show (P.ins x).reverse=_ from e)
   rw [← F.mU e];exact H.mid e
  h0:=H.h1
  h1:=H.h0}
theorem DJ {a:Int} (ha:P.F3 a):P.E a∧low (R a)=P.tl a∧R a≠f0∧R a≠f1:=by
 obtain ⟨x,u,b,v,e⟩:=ha
 obtain ⟨h1,h2⟩:=(h.dJ x a).1 (by rw [e];simp)
 obtain ⟨h3,h4,h5⟩:=F.new e
 exact ⟨h1,by rw [h3,h2],h4,h5⟩
theorem uk {e:Int} (he:P.E e) (hs:P.tl e≠P.src):P.ins (P.tl e)≠ []:=by
 obtain ⟨i,hi,rfl⟩:=dL h he
 obtain ⟨k,hr⟩:=pH h (Nat.le_of_lt hi)
 obtain ⟨B,hB⟩:=eL h hi
 have hm:=(h.dB hr (P.sh i)).1 (by rw [hB];simp)
 obtain ⟨j,B,_,_,_,⟨u,hu⟩,_⟩:=pI h F hs (Nat.le_of_lt hi) hm.2.1
 rw [hu];simp
variable {L' R':Int→Int} {No Np:Int} {low':Int→Int} (F':P.gJ L' R' No Np low')
include F'
theorem DK:∀ {d:Nat} {e:Int},P.En (P.tl e)<d→P.E e→(R e=f1∧R' e=Np)∨∃a,P.F3 a∧P.En (P.tl a)≤P.En (P.tl e)∧R e=R a∧R' e=R' a
 |0,e,hd,_=>by omega
 |d+1,e,hd,he=>by
  have hem:=(h.dJ (P.tl e) e).2 ⟨he,rfl⟩
  obtain ⟨u,v,hu⟩:=List.append_of_mem hem
  cases v with
  |cons b v=>exact .inr ⟨e,⟨_,u,b,v,hu⟩,Nat.le_refl _,rfl,rfl⟩
  |nil=>
   by_cases hs:P.tl e=P.src
   ·rw [hs] at hu
    exact .inl ⟨F.s1 hu,F'.s1 hu⟩
   ·obtain ⟨w,c,hw⟩:=cy (uk h F he hs)
    have e1:=F.Dg hw hu
    have e2:=F'.Dg hw hu
    obtain ⟨hc,hh⟩:=(h.b8 (P.tl e) c).1 (by rw [hw];simp)
    have hp:=h.pq c hc
    rw [hh] at hp
    rw [← e1, ← e2]
    rcases DK (d:=d) (e:=c) (by omega) hc with h1|⟨a,h1,h2,h3⟩
    ·exact .inl h1
    ·exact .inr ⟨a,h1,by omega,h3⟩
theorem F4:∀ {d:Nat} {e:Int},P.En (P.tl e)<d→P.E e→(L e=f0∧L' e=No)∨∃a,P.F3 a∧L e=R a∧L' e=R' a
 |0,e,hd,_=>by omega
 |d+1,e,hd,he=>by
  have hem:=(h.dJ (P.tl e) e).2 ⟨he,rfl⟩
  obtain ⟨u,v,hu⟩:=List.append_of_mem hem
  rcases List.eq_nil_or_concat u with rfl|⟨u',b,rfl⟩
  ·by_cases hs:P.tl e=P.src
   ·rw [hs] at hu
    exact .inl ⟨F.s0 hu,F'.s0 hu⟩
   ·obtain ⟨c,w,hw⟩:=iN (uk h F he hs)
    have e1:=F.fst hw hu
    have e2:=F'.fst hw hu
    obtain ⟨hc,hh⟩:=(h.b8 (P.tl e) c).1 (by rw [hw];simp)
    have hp:=h.pq c hc
    rw [hh] at hp
    rw [← e1, ← e2]
    exact F4 (d:=d) (e:=c) (by omega) hc
  ·have hu:P.outs (P.tl e)=u'++b::e::v:=by rw [hu];simp
   exact .inr ⟨b,⟨_,u',e,v,hu⟩,(F.gh hu).symm,(F'.gh hu).symm⟩
end
section
variable (h:P.Ok) {L R:Int→Int} {f0 f1:Int} {low:Int→Int} (F:P.gJ L R f0 f1 low)
include h F
variable {hi:Int→Int} (H:P.Hi R f0 f1 hi)
include H
theorem DL (hm:0<P.m) (hl:low f1=P.src) {k:Int} (hk:k=f1∨∃a,P.F3 a∧R a=k):∃e,P.E e∧R e=k∧P.tl e=low k:=by
 rcases hk with rfl|⟨a,ha,rfl⟩
 ·obtain ⟨B,hB⟩:=eL h hm
  have hB:P.outs P.src=P.sh 0::B:=hB
  obtain ⟨v,b,hv⟩:=cy (l:=P.outs P.src) (by rw [hB];simp)
  obtain ⟨h1,h2⟩:=(h.dJ P.src b).1 (by rw [hv];simp)
  exact ⟨b,h1,F.s1 hv,by rw [hl,h2]⟩
 ·have:=DJ h F ha
  exact ⟨a,this.1,rfl,this.2.1.symm⟩
end
def Mm (t h:Int→Int) (l:List Int) (x:Int):Int:=match l.find? (fun i=>decide (t i=x)) with
 |some i=>h i
 |none=>x
def Mn (t h:Int→Int) (l:List Int) (x:Int):Nat→Int
 |0=>x
 |k+1=>Mm t h l (Mn t h l x k)
section
variable (h:P.Ok) {L R:Int→Int} {f0 f1:Int} {low:Int→Int} (F:P.gJ L R f0 f1 low) {hi:Int→Int} (H:P.Hi R f0 f1 hi)
include h F H
end
end Go.Ab
end
section
namespace Go.Ab
open Go.Proofs
set_option maxRecDepth 10000
set_option linter.unusedSectionVars false
section
variable (g:Gr) (p:Pl)
def cK:Nat→Nat
 |0=>1
 |k+1=>cK k+((bw p (ak p k)).length - 1)
def G5 (e:Int):Nat:=(bw p (lp g e)).findIdx (fun i=>decide (i=e))
def ez (x:Int):Int:=(cw g p x).headD 0
def mC (x:Int):Int:=(cw g p x).getLastD 0
def LK:Nat→Int→Int
 |0,_=>0
 |k+1,e=>if lp g e=ak p k then (if G5 g p e=0 then (if k=0 then 0 else LK k (ez g p (ak p k))) else (cK p k:Int)+G5 g p e - 1) else LK k e
def RK (r:Int):Nat→Int→Int
 |0,_=>0
 |k+1,e=>if lp g e=ak p k then (if G5 g p e+1<(bw p (ak p k)).length then (cK p k:Int)+G5 g p e else (if k=0 then r else RK r k (mC g p (ak p k)))) else RK r k e
def gE:Nat→List Int
 |0=> [ak p 0]
 |k+1=>gE k++List.replicate ((bw p (ak p k)).length - 1) (ak p k)
end
section
variable {g:Gr} {p:Pl}
theorem fH:∀ {k:Nat},(gE p k).length=cK p k
 |0=>rfl
 |k+1=>by rw [gE,List.length_append,List.length_replicate,fH,cK]
theorem lz:∀ {k:Nat},0<cK p k
 |0=>by simp [cK]
 |k+1=>by rw [cK];have:= @lz k;omega
theorem lX {k:Nat} :∀ {d:Nat},cK p k≤cK p (k+d)
 |0=>Nat.le_refl _
 |d+1=>by
  have:= @lX k d
  show _≤cK p (k+d+1)
  rw [cK];omega
theorem um {k:Nat} {f:Nat} (hf:f<cK p k):∀ {d:Nat},(gE p (k+d)).getD f 0=(gE p k).getD f 0
 |0=>rfl
 |d+1=>by
  show (gE p (k+d+1)).getD f 0=_
  have:=lX (p:=p) (k:=k) (d:=d)
  rw [gE,List.getD_eq_getElem?_getD,List.getElem?_append_left (by rw [fH];omega), ← List.getD_eq_getElem?_getD,um hf]
theorem DM {k f:Nat} (h1:cK p k≤f) (h2:f<cK p (k+1)):(gE p (k+1)).getD f 0=ak p k:=by
 rw [gE,List.getD_eq_getElem?_getD,List.getElem?_append_right (by rw [fH];exact h1),List.getElem?_replicate,fH,if_pos (by rw [cK] at h2;omega)]
 rfl
variable (h:cu g p)
include h
theorem nk {k:Nat} (hk:k<g.n.toNat) {u v:List Int} {e:Int} (he:bw p (ak p k)=u++e::v):lp g e=ak p k∧G5 g p e=u.length:=by
 have hx:=aI h.2.1 hk
 have px:=bQ h.2.1 hx.1 hx.2
 have h1:=(bR.1 (px.mem_iff.1 (show e∈bw p (ak p k) by rw [he];simp))).2
 have h1:lp g e=ak p k:=h1
 refine ⟨h1, ?_⟩
 have ck:(bw p (ak p k)).Nodup:=px.nodup_iff.2 cT
 unfold G5
 rw [h1,he]
 rw [he,List.nodup_append] at ck
 rw [List.findIdx_append]
 have h2:u.findIdx (fun i=>decide (i=e))=u.length:=by
  rw [List.findIdx_eq_length]
  intro i hi
  exact decide_eq_false fun e2=>ck.2.2 i hi e (by simp) e2
 rw [h2,if_neg (by omega)]
 simp [List.findIdx_cons]
theorem zZ {e:Int} {k:Nat} (hk:k<g.n.toNat) (he:lp g e=ak p k):∀ {d:Nat},k+1+d≤g.n.toNat→LK g p (k+1+d) e=LK g p (k+1) e
 |0,_=>rfl
 |d+1,hd=>by
  show LK g p (k+1+d+1) e=_
  rw [LK,if_neg (fun e2=>by have:=dD h.2.1 hk (show k+1+d<g.n.toNat by omega) (he.symm.trans e2);omega),zZ hk he (by omega)]
theorem z1 {r:Int} {e:Int} {k:Nat} (hk:k<g.n.toNat) (he:lp g e=ak p k):∀ {d:Nat},k+1+d≤g.n.toNat→RK g p r (k+1+d) e=RK g p r (k+1) e
 |0,_=>rfl
 |d+1,hd=>by
  show RK g p r (k+1+d+1) e=_
  rw [RK,if_neg (fun e2=>by have:=dD h.2.1 hk (show k+1+d<g.n.toNat by omega) (he.symm.trans e2);omega),z1 hk he (by omega)]
theorem lB {e:Int} {k:Nat} (hk:k<g.n.toNat) (he:lp g e=ak p k) {j:Nat} (h1:k+1≤j) (h2:j≤g.n.toNat):LK g p j e=LK g p (k+1) e:=by
 obtain ⟨d,rfl⟩:=Nat.exists_eq_add_of_le h1
 exact zZ h hk he h2
theorem eo {r:Int} {e:Int} {k:Nat} (hk:k<g.n.toNat) (he:lp g e=ak p k) {j:Nat} (h1:k+1≤j) (h2:j≤g.n.toNat):RK g p r j e=RK g p r (k+1) e:=by
 obtain ⟨d,rfl⟩:=Nat.exists_eq_add_of_le h1
 exact z1 h hk he h2
theorem vC {k:Nat} (hk:k<g.n.toNat) {v:List Int} {e:Int} (he:bw p (ak p k)=e::v) {j:Nat} (h1:k+1≤j) (h2:j≤g.n.toNat):LK g p j e=if k=0 then 0 else LK g p k (ez g p (ak p k)):=by
 obtain ⟨a,b⟩:=nk h hk (u:= []) he
 rw [lB h hk a h1 h2,LK,if_pos a,if_pos (show G5 g p e=0 from b)]
theorem z2 {k:Nat} (hk:k<g.n.toNat) {u v:List Int} {e:Int} (he:bw p (ak p k)=u++e::v) (hu:u≠ []) {j:Nat} (h1:k+1≤j) (h2:j≤g.n.toNat):LK g p j e=(cK p k:Int)+u.length - 1:=by
 obtain ⟨a,b⟩:=nk h hk he
 have:=List.length_pos_iff.2 hu
 rw [lB h hk a h1 h2,LK,if_pos a,if_neg (by omega),b]
theorem sY {r:Int} {k:Nat} (hk:k<g.n.toNat) {u:List Int} {e:Int} (he:bw p (ak p k)=u++ [e]) {j:Nat} (h1:k+1≤j) (h2:j≤g.n.toNat):RK g p r j e=if k=0 then r else RK g p r k (mC g p (ak p k)):=by
 obtain ⟨a,b⟩:=nk h hk he
 rw [eo h hk a h1 h2,RK,if_pos a,if_neg (by rw [b,he];simp)]
theorem gP {r:Int} {k:Nat} (hk:k<g.n.toNat) {u v:List Int} {e c:Int} (he:bw p (ak p k)=u++e::c::v) {j:Nat} (h1:k+1≤j) (h2:j≤g.n.toNat):RK g p r j e=(cK p k:Int)+u.length:=by
 obtain ⟨a,b⟩:=nk h hk he
 rw [eo h hk a h1 h2,RK,if_pos a,if_pos (by rw [b,he];simp),b]
theorem pT {x:Int} {a:Int} {u:List Int} (hu:cw g p x=a::u):ez g p x=a:=by unfold ez;rw [hu];rfl
theorem lC {x:Int} {a:Int} {u:List Int} (hu:cw g p x=u++ [a]):mC g p x=a:=by unfold mC;rw [hu];simp
theorem xN {k:Nat} (hk:k<g.n.toNat) (hI:cw g p (ak p k)≠ []):k≠0:=fun h0=>by
 subst h0
 have:=jH h (aI h.2.1 hk)
 rw [fZ h] at this
 exact hI (List.eq_nil_of_length_eq_zero this)
theorem oM {k:Nat} (hk:k<g.n.toNat) {a:Int} (ha:a∈cw g p (ak p k)):∃j,j<k∧lp g a=ak p j:=by
 obtain ⟨h1,h2⟩:=((iB h (aI h.2.1 hk)).2 a).1 ha
 obtain ⟨j,h3,h4⟩:=sX h h1 hk h2
 exact ⟨j,h3,h4.symm⟩
def WK (g:Gr) (p:Pl) (k:Nat):List Int:=(jc (fK g p k).row).map (·.1)
theorem sZ (hn:0<g.n.toNat):WK g p 1=bw p (ak p 0):=by
 have hx:=aI h.2.1 hn
 have px:=bQ h.2.1 hx.1 hx.2
 have hno:fM (ak p 0) (fK g p 0).row:=fun t ht=>by cases ht
 have hf:(fK g p 1).row=aM g (ak p 0) (bw p (ak p 0)):=by
  show (aA g (fK g p 0) (ak p 0) _).2.row=_
  rw [lR _ hno]
  show _++ []=_
  simp
 unfold WK
 rw [hf,lU (fun i hi=>(bR.1 (px.mem_iff.1 hi)).1.1),List.map_map]
 have e7:((fun t:It=>t.1) ∘ fF g (ak p 0))=id:=rfl
 rw [e7,List.map_id]
theorem ke {k:Nat} (h0:k≠0) (hk:k<g.n.toNat):∃A C,WK g p k=A++cw g p (ak p k)++C∧cw g p (ak p k)≠ []∧WK g p (k+1)=A++bw p (ak p k)++C:=by
 have hm:=aE h.1
 obtain ⟨hi,gw,_⟩:=dF hm h.2.1 (k:=k) (by omega) fun j hj=>h.2.2 j (by omega)
 have hR:=h.2.2 k hk
 have hx:=aI h.2.1 hk
 have px:=bQ h.2.1 hx.1 hx.2
 have hn:bB g (ak p k)≠0:=fun hz=>by
  have O8:=aI h.2.1 (show 0<g.n.toNat by omega)
  have:=lS h.1 hx O8 hz (fZ h)
  exact h0 (dD h.2.1 hk (by omega) this)
 obtain ⟨a,c,e1,_,_,_,hl,e2⟩:=vv hm hi.togK hR hn (bw p (ak p k))
 refine ⟨a.map (·.1),c.map (·.1), ?_, ?_, ?_⟩
 ·rw [zY h hk];unfold WK;rw [e1,List.map_append,List.map_append];rfl
 ·intro h1
  have:=jH h hx
  rw [h1] at this
  exact hn this.symm
 ·unfold WK
  show (jc (aA g (fK g p k) (ak p k) _).2.row).map (·.1)=_
  rw [e2,List.map_append,List.map_append,lU (fun i hi=>(bR.1 (px.mem_iff.1 hi)).1.1),List.map_map]
  have e7:((fun t:It=>t.1) ∘ fF g (ak p k))=id:=rfl
  rw [e7,List.map_id]
theorem qN {k:Nat} (hk:k≤g.n.toNat) {a:Int} (ha:a∈WK g p k):∃j,j<k∧lp g a=ak p j:=by
 have hm:=aE h.1
 obtain ⟨hi,gw,_⟩:=dF hm h.2.1 (k:=k) (by omega) fun j hj=>h.2.2 j (by omega)
 obtain ⟨t,ht,rfl⟩:=List.mem_map.1 ha
 obtain ⟨h1,h2,_⟩:=oK hm hi.togK ht
 obtain ⟨h4,h5⟩:=iS.1 ht
 have:=hi.tail t h4 h5
 rw [gw,h2] at this
 obtain ⟨j,hj,e⟩:=zV (by rw [cj h.2.1];omega) this
 exact ⟨j,hj,e.symm⟩
theorem z6 {r:Int} {k:Nat} (hk:k<g.n.toNat) {j:Nat} (h1:k+1≤j) (h2:j≤g.n.toNat):fP (LK g p j) (RK g p r j) (if k=0 then 0 else LK g p k (ez g p (ak p k))) (bw p (ak p k)):=by
 refine oe (fun u a b v e=> ?_) fun a u e=>vC h hk e h1 h2
 rw [gP h hk e h1 h2,z2 h hk (u:=u++ [a]) (v:=v) (e:=b) (by rw [e];simp) (by simp) h1 h2]
 simp;omega
theorem z7 {r:Int} {k:Nat} (hk:k<g.n.toNat) {j:Nat} (h1:k+1≤j) (h2:j≤g.n.toNat) (hO:bw p (ak p k)≠ []) (f:Int):gO (RK g p r j) f (bw p (ak p k))=if k=0 then r else RK g p r k (mC g p (ak p k)):=by
 obtain ⟨v,b,hv⟩:=cy hO
 rw [hv,cI,sY h hk hv h1 h2]
theorem lD {L R L' R':Int→Int} :∀ {W:List Int} {f:Int},(∀a∈W,L a=L' a∧R a=R' a)→(fP L R f W↔fP L' R' f W)
 | [],_,_=>Iff.rfl
 |a::W,f,hh=>by
  have h1:=hh a (List.mem_cons_self ..)
  simp only [fP,h1.1,h1.2,lD (W:=W) fun b hb=>hh b (List.mem_cons_of_mem _ hb)]
theorem s4 {R R':Int→Int} :∀ {W:List Int} {f:Int},(∀a∈W,R a=R' a)→gO R f W=gO R' f W
 | [],_,_=>rfl
 |a::W,f,hh=>by
  simp only [gO,hh a (List.mem_cons_self ..),s4 (W:=W) fun b hb=>hh b (List.mem_cons_of_mem _ hb)]
theorem yX {r:Int} (hI:ku g=true):∀ {k:Nat},1≤k→k<g.n.toNat→WK g p k≠ []→fP (LK g p k) (RK g p r k) 0 (WK g p k)∧gO (RK g p r k) 0 (WK g p k)=r
 |0,h1,_,_=>by omega
 |k+1,_,hk,hW=>by
  by_cases h0:k=0
  ·subst h0
   rw [sZ h (by omega)] at hW ⊢
   have a:=z6 (r:=r) h (k:=0) (by omega) (j:=1) (Nat.le_refl _) (by omega)
   have b:=z7 (r:=r) h (k:=0) (by omega) (j:=1) (Nat.le_refl _) (by omega) hW 0
   rw [if_pos rfl] at a b
   exact ⟨a,b⟩
  ·obtain ⟨A,C,e1,hne,e2⟩:=ke h h0 (show k<g.n.toNat by omega)
   obtain ⟨l1,l2⟩:=yX hI (k:=k) (by omega) (by omega) (by rw [e1];simp [hne])
   have hO:bw p (ak p k)≠ []:=fun h1=>by
    have:=(ew h hI (aI h.2.1 (show k<g.n.toNat by omega))).1 h1
    have:=dD h.2.1 (show k<g.n.toNat by omega) (by omega) this
    omega
   have z8:∀a∈WK g p k,LK g p (k+1) a=LK g p k a∧RK g p r (k+1) a=RK g p r k a:=fun a ha=>by
    obtain ⟨j,hj,e⟩:=qN h (by omega) ha
    exact ⟨by rw [lB h (by omega) e (j:=k+1) (by omega) (by omega),lB h (by omega) e (j:=k) (by omega) (by omega)],by rw [eo h (by omega) e (j:=k+1) (by omega) (by omega),eo h (by omega) e (j:=k) (by omega) (by omega)]⟩
   rw [← lD h z8] at l1
   rw [← s4 h fun a ha=>(z8 a ha).2] at l2
   rw [e1] at l1 l2 z8
   rw [e2]
   obtain ⟨a0,u0,Fa⟩:=iN hne
   obtain ⟨u,a,hu⟩:=cy hne
   obtain ⟨l3,l5⟩:=bS.1 l1
   obtain ⟨l4,l6⟩:=bS.1 l3
   have Mo:LK g p (k+1) a0=gO (RK g p r (k+1)) 0 A:=by rw [Fa] at l6;exact l6.1
   have Ji:∀f,gO (RK g p r (k+1)) f (cw g p (ak p k))=RK g p r k (mC g p (ak p k)):=fun f=>by
    rw [lC h hu,hu,cI,(z8 a (by rw [hu];simp)).2]
   have hlk:=z6 (r:=r) h (k:=k) (by omega) (j:=k+1) (Nat.le_refl _) (by omega)
   have Mp:=z7 (r:=r) h (k:=k) (by omega) (j:=k+1) (Nat.le_refl _) (by omega) hO
   rw [if_neg h0] at hlk Mp
   rw [pT h Fa, ← (z8 a0 (by rw [Fa];simp)).1,Mo] at hlk
   refine ⟨?_, ?_⟩
   ·rw [bS,bS,cr,Mp]
    rw [cr,Ji] at l5
    exact ⟨⟨l4,hlk⟩,l5⟩
   ·rw [cr,cr,Mp]
    rw [cr,cr,Ji] at l2
    exact l2
theorem nq (hI:ku g=true) {r:Int} (hr:r<0∨cK p g.n.toNat≤r):(eu g p).gJ (LK g p g.n.toNat) (RK g p r g.n.toNat) 0 r (fun f=>(gE p g.n.toNat).getD f.toNat 0):=by
 have hm:=aE h.1
 have hn:=aT hm
 have E4:∀ {x:Int} {l:List Int},(eu g p).outs x=l→l≠ []→∃k,k<g.n.toNat∧ak p k=x∧bw p (ak p k)=l:=fun {x l} h1 h2=>by
  by_cases hx:oU g x
  ·obtain ⟨k,hk,rfl⟩:=fG h.2.1 hx.1 hx.2
   exact ⟨k,hk,rfl,by rw [← h1,gl hx]⟩
  ·rw [oJ hx] at h1;exact absurd h1.symm h2
 have Mq:∀ {x:Int} {l:List Int},(eu g p).ins x=l→l≠ []→∃k,k<g.n.toNat∧ak p k=x∧cw g p (ak p k)=l:=fun {x l} h1 h2=>by
  by_cases hx:oU g x
  ·obtain ⟨k,hk,rfl⟩:=fG h.2.1 hx.1 hx.2
   exact ⟨k,hk,rfl,by rw [← h1,gD hx]⟩
  ·rw [lV hx] at h1;exact absurd h1.symm h2
 have h0:(eu g p).src=ak p 0:=rfl
 have Ic:∀k,0<cK p k:=fun k=>lz
 exact {
  ne:=by have:=Ic g.n.toNat;omega
  gh:=fun {x u a b v} e=>by
   obtain ⟨k,hk,_,e2⟩:=E4 e (by simp)
   rw [gP h hk e2 (by omega) (Nat.le_refl _),z2 h hk (u:=u++ [a]) (v:=v) (e:=b) (by rw [e2];simp) (by simp) (by omega) (Nat.le_refl _)]
   simp;omega
  mU:=fun {x u a b v} e=>by
   obtain ⟨k,hk,_,e2⟩:=Mq e (by simp)
   have uL:=xN h hk (by rw [e2];simp)
   obtain ⟨A,C,e1,hne,_⟩:=ke h uL hk
   have l1:=(yX (r:=r) h hI (k:=k) (by omega) hk (by rw [e1];simp [hne])).1
   have z8:∀a∈WK g p k,LK g p g.n.toNat a=LK g p k a∧RK g p r g.n.toNat a=RK g p r k a:=fun a ha=>by
    obtain ⟨j,hj,e⟩:=qN h (by omega) ha
    exact ⟨by rw [lB h (by omega) e (j:=g.n.toNat) (by omega) (by omega),lB h (by omega) e (j:=k) (by omega) (by omega)],by rw [eo h (by omega) e (j:=g.n.toNat) (by omega) (by omega),eo h (by omega) e (j:=k) (by omega) (by omega)]⟩
   rw [← lD h z8,e1,e2,show A++(u++a::b::v)++C=(A++u)++a::b::(v++C) by simp] at l1
   exact Di l1
  fst:=fun {x a u b v} e1 e2=>by
   obtain ⟨k,hk,hx,e3⟩:=E4 e2 (by simp)
   have e4:cw g p (ak p k)=a::u:=by
    have Eo:oU g x:=by rw [← hx];exact aI h.2.1 hk
    rw [hx, ← gD Eo];exact e1
   have uL:=xN h hk (by rw [e4];simp)
   obtain ⟨j,hj,et⟩:=oM h hk (a:=a) (by rw [e4];simp)
   rw [vC h hk e3 (by omega) (Nat.le_refl _),if_neg uL,pT h e4,lB h (by omega) et (j:=g.n.toNat) (by omega) (Nat.le_refl _),lB h (by omega) et (j:=k) (by omega) (by omega)]
  Dg:=fun {x a u b v} e1 e2=>by
   obtain ⟨k,hk,hx,e3⟩:=E4 e2 (by simp)
   have e4:cw g p (ak p k)=u++ [a]:=by
    have Eo:oU g x:=by rw [← hx];exact aI h.2.1 hk
    rw [hx, ← gD Eo];exact e1
   have uL:=xN h hk (by rw [e4];simp)
   obtain ⟨j,hj,et⟩:=oM h hk (a:=a) (by rw [e4];simp)
   rw [sY h hk e3 (by omega) (Nat.le_refl _),if_neg uL,lC h e4,eo h (by omega) et (j:=g.n.toNat) (by omega) (Nat.le_refl _),eo h (by omega) et (j:=k) (by omega) (by omega)]
  s0:=fun {b v} e=>by
   obtain ⟨k,hk,hx,e3⟩:=E4 e (by simp)
   have:k=0:=dD h.2.1 hk (by omega) hx
   rw [vC h hk e3 (by omega) (Nat.le_refl _),if_pos this]
  s1:=fun {b v} e=>by
   obtain ⟨k,hk,hx,e3⟩:=E4 e (by simp)
   have:k=0:=dD h.2.1 hk (by omega) hx
   rw [sY h hk e3 (by omega) (Nat.le_refl _),if_pos this]
  new:=fun {x u a b v} e=>by
   obtain ⟨k,hk,hx,e3⟩:=E4 e (by simp)
   have hR:=gP (r:=r) h hk e3 (j:=g.n.toNat) (by omega) (Nat.le_refl _)
   have hl:(bw p (ak p k)).length=u.length+(v.length+2):=by rw [e3];simp
   have E3:cK p (k+1)=cK p k+((bw p (ak p k)).length - 1):=rfl
   obtain ⟨d,hd⟩:=Nat.exists_eq_add_of_le (show k+1≤g.n.toNat by omega)
   have hmo:=lX (p:=p) (k:=k+1) (d:=d)
   rw [← hd] at hmo
   have:=Ic k
   refine ⟨?_,by omega,by omega⟩
   show (gE p g.n.toNat).getD (RK g p r g.n.toNat a).toNat 0=x
   rw [hR,show ((cK p k:Int)+(u.length:Int)).toNat=cK p k+u.length by omega,hd,um (by omega),DM (by omega) (by omega),hx]
  new1:=fun {x u a b v u' a' b' v'} e1 e2 e3=>by
   obtain ⟨k,hk,hx,e4⟩:=E4 e1 (by simp)
   have e5:bw p (ak p k)=u'++a'::b'::v':=by
    have Eo:oU g x:=by rw [← hx];exact aI h.2.1 hk
    rw [hx, ← gl Eo];exact e2
   rw [gP h hk e4 (by omega) (Nat.le_refl _),gP h hk e5 (by omega) (Nat.le_refl _)] at e3
   have hl:u.length=u'.length:=by omega
   rw [e4] at e5
   have:=(List.append_inj e5 hl).2
   simp only [List.cons.injEq] at this
   exact this.1}
end
end Go.Ab
end
section
namespace Go.Ab
open Go.Proofs
attribute [local congr] ACall.congr gd.congr Nx.congr
set_option maxRecDepth 10000
set_option maxHeartbeats 8000000
def iC (A o:List Int) (f:Nat→Int):Nat→List Int
 |0=>A
 |j+1=>(iC A o f j).set (o.getD j 0).toNat (f j)
theorem fh {A o:List Int} {f:Nat→Int} :∀ {j:Nat},(iC A o f j).length=A.length
 |0=>rfl
 |j+1=>by rw [iC,List.length_set,fh]
def mD (A o:List Int) (left:Int) (c:Nat) (j:Nat):List Int:=iC A o (fun j=>if j=0 then left else (c:Int)+j - 1) j
def mE (A o:List Int) (right:Int) (c:Nat) (j:Nat):List Int:=iC A o (fun j=>if j+1<o.length then (c:Int)+j else right) j
theorem BA {A o:List Int} {left:Int} {c:Nat} {j:Nat} :(mD A o left c j).length=A.length:=fh
theorem BB {A o:List Int} {left:Int} {c:Nat} {j:Nat} :(mE A o left c j).length=A.length:=fh
theorem lZ {A o:List Int} {f:Nat→Int} {e:Nat} :∀ {j:Nat},(∀i,i<j→(o.getD i 0).toNat≠e)→(iC A o f j).getD e 0=A.getD e 0
 |0,_=>rfl
 |j+1,h=>by
  have h1:=h j (by omega)
  rw [iC,List.getD_eq_getElem?_getD,List.getElem?_set,if_neg h1, ← List.getD_eq_getElem?_getD,lZ fun i hi=>h i (by omega)]
theorem xO {A o:List Int} {f:Nat→Int} {i:Nat} (hA:(o.getD i 0).toNat<A.length):∀ {j:Nat},i<j→(∀k,k<j→(o.getD k 0).toNat=(o.getD i 0).toNat→k=i)→(iC A o f j).getD (o.getD i 0).toNat 0=f i
 |0,h,_=>by omega
 |j+1,h,hn=>by
  rw [iC,List.getD_eq_getElem?_getD,List.getElem?_set]
  by_cases e:(o.getD j 0).toNat=(o.getD i 0).toNat
  ·have:=hn j (by omega) e
   subst this
   rw [if_pos rfl,if_pos (by rw [fh];exact hA)];rfl
  ·have hji:j≠i:=fun e2=>e (by rw [e2])
   rw [if_neg e, ← List.getD_eq_getElem?_getD,xO hA (by omega) fun k hk=>hn k (by omega)]
def fk (c k:Nat):List Int:=(List.range k).map fun i:Nat=>((c+i:Nat):Int)
theorem yY {c k:Nat} :fk c (k+1)=fk c k++ [((c+k:Nat):Int)]:=by simp [fk,List.range_succ]
theorem jI {c k:Nat} :(fk c k).length=k:=by simp [fk]
def Fm (left:Int) (c d j:Nat):Int:=if min j (d - 1)=0 then left else (c:Int)+(min j (d - 1):Nat) - 1
def HJ (ed gp:D) (A B lo hi:List Int):List (Nat × AObj):= [(10000, .box [.d ed, .d gp, .ref 10001, .ref 10002, .ref 10003, .ref 10004]),(10001, .own 3 1 (A.map rI)),(10002, .own 3 1 (B.map rI)),(10003, .tip 3 1 (lo.map rI)),(10004, .own 3 1 (hi.map rI))]
def HK (ed gp:D) (A B lo hi:List Int):List (Nat × AObj):= [(10000, .box [.d ed, .d gp, .ref 10001, .ref 10002, .ref 10005, .ref 10006]),(10001, .own 3 1 (A.map rI)),(10002, .own 3 1 (B.map rI)),(10005, .tip 3 1 (lo.map rI)),(10006, .own 3 1 (hi.map rI))]
theorem uo (x left right:Int) (o:List Int) (ed gp:D) (A B lo hi:List Int) (ho:o.length≤100000) (hO:∀i∈o,0≤i∧i<A.length) (hB:B.length=A.length) (hlo:lo.length≤100000) (hhi:hi.length≤100000):
 Spec Tryz.prog 43 (Args [.ptr 10000 0,eN x, .d (sI o),eN left,eN right]) (HJ ed gp A B lo hi)
  (.d (sI (fk lo.length (o.length - 1)))) (HK ed gp (mD A o left lo.length o.length) (mE B o right lo.length o.length) (lo++List.replicate (o.length - 1) x) (hi++List.replicate (o.length - 1) 0)):=by
 unfold HJ HK
 generalize hc:lo.length=c at*
 (refine Spec.AI (C:=T.cfg [] []) (rs:= [.t 10]) [(10005,200),(10006,201)] (T.ai _ _) Tryz.func43 rfl rfl Tryz.ntmps43 Tryz.results43 (by simp [AObj.isNest]) (by simp [AObj.isNest]) (by first|(simp [look];done)|(simp [asN];done)|(intro l hl;simp only [asN];repeat (rw [if_neg (fun e=>by subst e;simp [look] at hl)]))) (by first|(simp [look];done)|(simp [asN];done)|(intro l hl;simp only [asN];repeat (rw [if_neg (fun e=>by subst e;simp [look] at hl)]))) (by kernel_rfl) T.mixed fun X hX hP hC aH bU=> ?_)
 repeat' (first|(show cl _ (.seq (.region 1 _ _) _) _ _;(refine jW hX 10 202 (.tip 3 1 []) (by simp only [go_sem,simprocAttr]) (by simp only [go_sem,simprocAttr]) (by decide) ⟨3,1,by decide, .inr rfl⟩ ?_;simp only [go_sem,simprocAttr]);(refine dW hX 10000 4 10003 200 rfl rfl rfl (by first|exact .inl rfl|exact .inr rfl) (by decide) (by decide) ?_;simp only [List.set_cons_zero,List.set_cons_succ,go_sem,simprocAttr]);(refine dW hX 10000 5 10004 201 rfl rfl rfl (by first|exact .inl rfl|exact .inr rfl) (by decide) (by decide) ?_;simp only [List.set_cons_zero,List.set_cons_succ,go_sem,simprocAttr]))|refine Rn.p ?_|(with_reducible apply And.intro)|((first|(refine hK _ ?_;clear hK K)|with_reducible intro K hK|refine Rs.p ?_|((with_reducible first|apply oP|apply oQ);exact rfl));try simp only [go_sem,simprocAttr])|((with_reducible refine oD ?_ ?_);kernel_rfl)|((with_reducible intro h);try simp only [go_sem,simprocAttr] at h)|omega|intro h)
 refine ag (fun j:Nat=>j≤o.length) (fun j=>⟨[(0, .ptr 10000 0),(1,eN x),(2, .d (sI o)),(3,eN (Fm left c o.length j)),(4,eN right),(10, .ref 202),(13, .d (sI o)),(14,eN o.length),(15,eN j)], [(10000, .box [.d ed, .d gp, .ref 10001, .ref 10002, .ref 200, .ref 201]),(10001, .own 3 1 ((mD A o left c j).map rI)),(10002, .own 3 1 ((mE B o right c j).map rI)),(200, .tip 3 1 ((lo++List.replicate (min j (o.length - 1)) x).map rI)),(201, .own 3 1 ((hi++List.replicate (min j (o.length - 1)) 0).map rI)),(202, .tip 3 1 ((fk c (min j (o.length - 1))).map rI))]⟩) (fun j=>o.length - j) 0 (by omega) ?_ ?_
 ·refine Le.of ?_ ?_<;>simp [go_sem,simprocAttr,Fm,mD,mE,iC,fk]
 rintro j hj
 rcases Nat.lt_or_ge j o.length with hjl|GL
 rotate_left
 ·have hb:decide ((j:Int)<(o.length:Int))=false:=decide_eq_false (by omega)
  obtain rfl:j=o.length:=by omega
  have hmin:min o.length (o.length - 1)=o.length - 1:=by omega
  rw [hmin]
  repeat' (first|refine Rn.p ?_|(with_reducible apply And.intro)|((first|(refine hK _ ?_;clear hK K)|with_reducible intro K hK|refine Rs.p ?_|((with_reducible first|apply oP|apply oQ);exact rfl));try simp only [go_sem,simprocAttr,hb])|((with_reducible refine oD ?_ ?_);kernel_rfl)|((with_reducible intro h);try simp only [go_sem,simprocAttr,hb] at h)|omega|intro h)
 have hb:decide ((j:Int)<(o.length:Int))=true:=decide_eq_true (by omega)
 have hin:=hO _ (aG (d:=0) hjl)
 have s7:=BA (A:=A) (o:=o) (left:=left) (c:=c) (j:=j)
 have kA:=BB (A:=B) (o:=o) (left:=right) (c:=c) (j:=j)
 have G6:mD A o left c (j+1)=(mD A o left c j).set (o.getD j 0).toNat (if j=0 then left else (c:Int)+j - 1):=rfl
 have BC:mE B o right c (j+1)=(mE B o right c j).set (o.getD j 0).toNat (if j+1<o.length then (c:Int)+j else right):=rfl
 have o3:min j (o.length - 1)=j:=by omega
 have hlf:Fm left c o.length j=if j=0 then left else (c:Int)+j - 1:=by unfold Fm;rw [o3]
 rw [o3,hlf]
 generalize Aa:o.getD j 0=v at hin G6 BC
 obtain ⟨i,rfl⟩:∃i:Nat,v=i:=⟨v.toNat,by omega⟩
 rw [Int.toNat_natCast] at G6 BC
 generalize (if j=0 then left else (c:Int)+j - 1)=lv at G6 hlf ⊢
 by_cases hj2:j+1<o.length
 ·have aq:decide ((j:Int)+1<(o.length:Int))=true:=decide_eq_true (by omega)
  have hm2:min (j+1) (o.length - 1)=j+1:=by omega
  rw [if_pos hj2] at BC
  have G7:Fm left c o.length (j+1)=((c+j:Nat):Int):=by unfold Fm;rw [hm2,if_neg (by omega)];omega
  have mq:(lo++List.replicate j x).length=c+j:=by rw [List.length_append,List.length_replicate,hc]
  have xP:(hi++List.replicate j (0:Int)).length=hi.length+j:=by rw [List.length_append,List.length_replicate]
  have Jy:lo++List.replicate (j+1) x=(lo++List.replicate j x)++ [x]:=by rw [List.replicate_succ', ← List.append_assoc]
  have Jz:hi++List.replicate (j+1) (0:Int)=(hi++List.replicate j 0)++ [0]:=by rw [List.replicate_succ', ← List.append_assoc]
  have tw:=jI (c:=c) (k:=j)
  have CH:=yY (c:=c) (k:=j)
  generalize lo++List.replicate j x=Qe at mq Jy
  generalize hi++List.replicate j (0:Int)=hi1 at xP Jz
  generalize fk c j=gs at tw CH
  generalize mD A o left c j=A1 at s7 G6
  generalize mE B o right c j=B1 at kA BC
  repeat' (first|(show cl _ (.seq (.region 8 _ _) _) _ _;(refine dW hX 10000 4 48 200 rfl rfl rfl (by first|exact .inl rfl|exact .inr rfl) (by decide) (by decide) ?_;simp only [List.set_cons_zero,List.set_cons_succ,go_sem,simprocAttr,hb,aq,Aa,s7,kA,mq,xP,tw]);(refine dW hX 10000 5 55 201 rfl rfl rfl (by first|exact .inl rfl|exact .inr rfl) (by decide) (by decide) ?_;simp only [List.set_cons_zero,List.set_cons_succ,go_sem,simprocAttr,hb,aq,Aa,s7,kA,mq,xP,tw]))|(show cl _ (.region 9 _ _) _ _;(refine mO hX 10 65 202 (by simp only [go_sem,simprocAttr,hb,aq,Aa,s7,kA,mq,xP,tw]) rfl (by first|exact .inl rfl|exact .inr rfl) (by decide) ?_;simp only [go_sem,simprocAttr,hb,aq,Aa,s7,kA,mq,xP,tw]))|refine Rn.p ?_|(with_reducible apply And.intro)|((first|(refine hK _ ?_;clear hK K)|with_reducible intro K hK|refine Rs.p ?_|((with_reducible first|apply oP|apply oQ);exact rfl));try simp only [go_sem,simprocAttr,hb,aq,Aa,s7,kA,mq,xP,tw])|((with_reducible refine oD ?_ ?_);kernel_rfl)|((with_reducible intro h);try simp only [go_sem,simprocAttr,hb,aq,Aa,s7,kA,mq,xP,tw] at h)|omega|intro h)
  refine ⟨j+1,by omega, ?_,by omega⟩
  rw [G6,BC,hm2,Jy,Jz,CH,G7]
  refine Le.of ?_ ?_<;>simp [go_sem,simprocAttr,hb,aq,Aa,s7,kA,mq,xP,tw,rI]
 ·have aq:decide ((j:Int)+1<(o.length:Int))=false:=decide_eq_false (by omega)
  have hm2:min (j+1) (o.length - 1)=j:=by omega
  have G7:Fm left c o.length (j+1)=Fm left c o.length j:=by unfold Fm;rw [hm2,o3]
  rw [if_neg hj2] at BC
  generalize mD A o left c j=A1 at s7 G6
  generalize mE B o right c j=B1 at kA BC
  repeat' (first|refine Rn.p ?_|(with_reducible apply And.intro)|((first|(refine hK _ ?_;clear hK K)|with_reducible intro K hK|refine Rs.p ?_|((with_reducible first|apply oP|apply oQ);exact rfl));try simp only [go_sem,simprocAttr,hb,aq,Aa,s7,kA])|((with_reducible refine oD ?_ ?_);kernel_rfl)|((with_reducible intro h);try simp only [go_sem,simprocAttr,hb,aq,Aa,s7,kA] at h)|omega|intro h)
  refine ⟨j+1,by omega, ?_,by omega⟩
  rw [G6,BC,hm2,G7,hlf]
  refine Le.of ?_ ?_<;>simp [go_sem,simprocAttr,hb,aq,Aa,s7,kA,rI]
end Go.Ab
end
section
namespace Go.Ab
open Go.Proofs
attribute [local congr] ACall.congr gd.congr Nx.congr
set_option maxRecDepth 10000
set_option maxHeartbeats 8000000
def jJ (A fs:List Int) (x:Int) (j:Nat):List Int:=iC A fs (fun _=>x) j
theorem jK {A fs:List Int} {x:Int} {j:Nat} :(jJ A fs x j).length=A.length:=fh
theorem jd (l items:List Int) (a b:Nat) (h0:0<(l.take a++items++l.drop b).length) (hr:l.length≤400000) (hi:items.length≤100000):Spec Tryz.prog 45 (Args [.d (.sl 1 [[.sl 1 (List.take a (l.map rI))], [.sl 1 (items.map rI)], [.sl 1 (List.drop b (l.map rI))]])]) [] (.d (sI (l.take a++items++l.drop b))) []:=by
 have hf: [l.take a,items,l.drop b].flatten=l.take a++items++l.drop b:=by simp
 have:=dP [l.take a,items,l.drop b] (by simp) (by rw [hf];exact h0) (by rw [hf];simp;omega)
 rw [hf] at this
 simpa only [vL,List.map_cons,List.map_nil,sI,List.map_take,List.map_drop] using this
theorem vD (x:Int) (o W G A B lo hi:List Int) (a b:Nat) (hab:a<b) (Qf:b<G.length) (Qg:b≤W.length) (hG:G.length≤100000) (hW:W.length≤100000) (hf:∀f∈(G.take b).drop (a+1),0≤f∧f<hi.length)
 (ho:o.length≤100000) (hO:∀i∈o,0≤i∧i<A.length) (hB:B.length=A.length) (hlo:lo.length≤100000) (hhi:hi.length≤100000):
 Spec Tryz.prog 47 (Args [.ptr 10000 0,eN x, .d (sI o),eN a,eN b]) (HJ (sI W) (sI G) A B lo hi) (.tup [])
  (HK (sI (if o= [] then W else W.take a++o++W.drop b)) (sI (G.take (a+1)++fk lo.length (o.length - 1)++G.drop b)) (mD A o (G.getD a 0) lo.length o.length) (mE B o (G.getD b 0) lo.length o.length) (lo++List.replicate (o.length - 1) x) (jJ hi ((G.take b).drop (a+1)) x ((G.take b).drop (a+1)).length++List.replicate (o.length - 1) 0)):=by
 have xX:List.drop (a+1) (List.take b (List.map rI G))=((G.take b).drop (a+1)).map rI:=by rw [List.map_drop,List.map_take]
 have hfl:((G.take b).drop (a+1)).length≤100000:=by simp;omega
 generalize (G.take b).drop (a+1)=fs at xX hf hfl ⊢
 have Ac:List.take G.length (List.map rI G)=List.map rI G:=List.take_of_length_le (by simp)
 have vl:List.take W.length (List.map rI W)=List.map rI W:=List.take_of_length_le (by simp)
 have hmn:min ((a:Int)+1) (b:Int)=((a+1:Nat):Int):=by omega
 have DN:=uo x (G.getD a 0) (G.getD b 0) o (sI W) (sI G) A B lo (jJ hi fs x fs.length) ho hO hB hlo (by rw [jK];exact hhi)
 have Mr:=jd G (fk lo.length (o.length - 1)) (a+1) b (by simp;omega) (by omega) (by rw [jI];omega)
 have Nq:=fun (h:o≠ [])=>jd W o a b (by have:=List.length_pos_iff.2 h;simp;omega) (by omega) (by omega)
 generalize hg:fk lo.length (o.length - 1)=gs at DN Mr
 unfold HJ HK at DN ⊢
 (refine Spec.AI (C:=T.cfg [] []) (rs:= []) [(10005,300),(10006,301)] (T.ai _ _) Tryz.func47 rfl rfl Tryz.ntmps47 Tryz.results47 (by simp [AObj.isNest]) (by simp [AObj.isNest]) (by first|(simp [look];done)|(simp [asN];done)|(intro l hl;simp only [asN];repeat (rw [if_neg (fun e=>by subst e;simp [look] at hl)]))) (by first|(simp [look];done)|(simp [asN];done)|(intro l hl;simp only [asN];repeat (rw [if_neg (fun e=>by subst e;simp [look] at hl)]))) (by kernel_rfl) T.mixed fun X hX hP hC aH bU=> ?_)
 repeat' (first|refine Rn.p ?_|(with_reducible apply And.intro)|((first|(refine hK _ ?_;clear hK K)|with_reducible intro K hK|refine Rs.p ?_|((with_reducible first|apply oP|apply oQ);exact rfl));try simp only [go_sem,simprocAttr,hmn,xX])|((with_reducible refine oD ?_ ?_);kernel_rfl)|((with_reducible intro h);try simp only [go_sem,simprocAttr,hmn,xX] at h)|omega|intro h)
 refine ag (fun j:Nat=>j≤fs.length) (fun j=>⟨[(0, .ptr 10000 0),(1,eN x),(2, .d (sI o)),(3,eN a),(4,eN b),(24, .d (sI fs)),(25,eN fs.length),(26,eN j)], [(10000, .box [.d (sI W), .d (sI G), .ref 10001, .ref 10002, .ref 10003, .ref 10004]),(10001, .own 3 1 (A.map rI)),(10002, .own 3 1 (B.map rI)),(10003, .tip 3 1 (lo.map rI)),(10004, .own 3 1 ((jJ hi fs x j).map rI))]⟩) (fun j=>fs.length - j) 0 (by omega) ?_ ?_
 ·refine Le.of ?_ ?_<;>simp [go_sem,simprocAttr,jJ,iC]
 rintro j hj
 rcases Nat.lt_or_ge j fs.length with hjl|GL
 ·have hb:decide ((j:Int)<(fs.length:Int))=true:=decide_eq_true (by omega)
  have hin:=hf _ (aG (d:=0) hjl)
  have xP:=jK (A:=hi) (fs:=fs) (x:=x) (j:=j)
  have Kc:jJ hi fs x (j+1)=(jJ hi fs x j).set (fs.getD j 0).toNat x:=rfl
  generalize Aa:fs.getD j 0=v at hin Kc
  obtain ⟨i,rfl⟩:∃i:Nat,v=i:=⟨v.toNat,by omega⟩
  rw [Int.toNat_natCast] at Kc
  generalize jJ hi fs x j=H1 at xP Kc
  repeat' (first|refine Rn.p ?_|(with_reducible apply And.intro)|((first|(refine hK _ ?_;clear hK K)|with_reducible intro K hK|refine Rs.p ?_|((with_reducible first|apply oP|apply oQ);exact rfl));try simp only [go_sem,simprocAttr,hb,Aa,xP])|((with_reducible refine oD ?_ ?_);kernel_rfl)|((with_reducible intro h);try simp only [go_sem,simprocAttr,hb,Aa,xP] at h)|omega|intro h)
  refine ⟨j+1,by omega, ?_,by omega⟩
  rw [Kc]
  refine Le.of ?_ ?_<;>simp [go_sem,simprocAttr,hb,Aa,xP,rI]
 have hb:decide ((j:Int)<(fs.length:Int))=false:=decide_eq_false (by omega)
 obtain rfl:j=fs.length:=by omega
 have x7:((a:Int)+1).toNat=a+1:=by omega
 by_cases hne:o= []
 ·have aq:decide ((o.length:Int)=0)=true:=decide_eq_true (by rw [hne];rfl)
  repeat' (first|refine Rn.p ?_|(with_reducible apply And.intro)|((first|(refine hK _ ?_;clear hK K)|with_reducible intro K hK|refine Rs.p ?_|((with_reducible first|apply oP|apply oQ);exact rfl)|(refine az hX hC hP [(10000,10000),(10001,10001),(10002,10002),(10003,10003),(10004,10004),(10005,300),(10006,301)] (DN) rfl rfl rfl ?_ ?_ ?_ ?_ ?_ ?_ ?_ ?_ ?_ ?_ ?_ ?_ ?_ ?_;(focus (simp only [go_sem,simprocAttr,hb,aq,if_pos hne,x7,Ac,vl];done));(iterate 12 (focus (simp [go_sem,simprocAttr,hb,aq,if_pos hne,x7,Ac,vl];done)));try simp only [List.map_cons,List.map_nil])|(refine aZ hX hC hP (Mr) rfl rfl rfl ?_ ?_ rfl ?_;iterate 2 (focus (simp only [go_sem,simprocAttr,hb,aq,if_pos hne,x7,Ac,vl];done)))|(refine aZ hX hC hP (Nq hne) rfl rfl rfl ?_ ?_ rfl ?_;iterate 2 (focus (simp only [go_sem,simprocAttr,hb,aq,if_pos hne,x7,Ac,vl];done))));try simp only [go_sem,simprocAttr,hb,aq,if_pos hne,x7,Ac,vl])|((with_reducible refine oD ?_ ?_);kernel_rfl)|((with_reducible intro h);try simp only [go_sem,simprocAttr,hb,aq,if_pos hne,x7,Ac,vl] at h)|omega|intro h)
  all_goals (first|rfl|(simp only [go_sem,simprocAttr,hb,aq,if_pos hne,x7,Ac,vl];done))
 ·have aq:decide ((o.length:Int)=0)=false:=decide_eq_false (by have:=List.length_pos_iff.2 hne;omega)
  repeat' (first|refine Rn.p ?_|(with_reducible apply And.intro)|((first|(refine hK _ ?_;clear hK K)|with_reducible intro K hK|refine Rs.p ?_|((with_reducible first|apply oP|apply oQ);exact rfl)|(refine az hX hC hP [(10000,10000),(10001,10001),(10002,10002),(10003,10003),(10004,10004),(10005,300),(10006,301)] (DN) rfl rfl rfl ?_ ?_ ?_ ?_ ?_ ?_ ?_ ?_ ?_ ?_ ?_ ?_ ?_ ?_;(focus (simp only [go_sem,simprocAttr,hb,aq,if_neg hne,x7,Ac,vl];done));(iterate 12 (focus (simp [go_sem,simprocAttr,hb,aq,if_neg hne,x7,Ac,vl];done)));try simp only [List.map_cons,List.map_nil])|(refine aZ hX hC hP (Mr) rfl rfl rfl ?_ ?_ rfl ?_;iterate 2 (focus (simp only [go_sem,simprocAttr,hb,aq,if_neg hne,x7,Ac,vl];done)))|(refine aZ hX hC hP (Nq hne) rfl rfl rfl ?_ ?_ rfl ?_;iterate 2 (focus (simp only [go_sem,simprocAttr,hb,aq,if_neg hne,x7,Ac,vl];done))));try simp only [go_sem,simprocAttr,hb,aq,if_neg hne,x7,Ac,vl])|((with_reducible refine oD ?_ ?_);kernel_rfl)|((with_reducible intro h);try simp only [go_sem,simprocAttr,hb,aq,if_neg hne,x7,Ac,vl] at h)|omega|intro h)
  all_goals (first|rfl|(simp only [go_sem,simprocAttr,hb,aq,if_neg hne,x7,Ac,vl];done))
end Go.Ab
end
section
namespace Go.Ab
open Go.Proofs
set_option maxRecDepth 10000
set_option linter.unusedSectionVars false
def arr (f:Int→Int) (m:Nat):List Int:=(List.range m).map fun i:Nat=>f (i:Int)
theorem cC {f:Int→Int} {m:Nat} :(arr f m).length=m:=by simp [arr]
theorem pU {f:Int→Int} {m i:Nat} (h:i<m):(arr f m).getD i 0=f (i:Int):=by
 simp [arr,List.getD_eq_getElem?_getD,List.getElem?_range h]
theorem DO {l m:List Int} (hl:l.length=m.length) (h:∀i,i<l.length→l.getD i 0=m.getD i 0):l=m:=by
 refine List.ext_getElem? fun i=> ?_
 by_cases hi:i<l.length
 ·have:=h i hi
  rw [List.getD_eq_getElem?_getD,List.getD_eq_getElem?_getD,List.getElem?_eq_getElem hi,List.getElem?_eq_getElem (by omega)] at this
  rw [List.getElem?_eq_getElem hi,List.getElem?_eq_getElem (by omega)]
  simpa using this
 ·rw [List.getElem?_eq_none (by omega),List.getElem?_eq_none (by omega)]
theorem jL {u v:List Int} {e:Int} :(u++e::v).getD u.length 0=e:=by
 rw [List.getD_eq_getElem?_getD,List.getElem?_append_right (Nat.le_refl _)];simp
section
variable {g:Gr} {p:Pl} (h:cu g p)
include h
theorem iT {k:Nat} (hk:k<g.n.toNat) {e:Int} (he:e∈bw p (ak p k)):(0≤e∧e<g.es.length)∧lp g e=ak p k:=by
 have hx:=aI h.2.1 hk
 exact bR.1 ((bQ h.2.1 hx.1 hx.2).mem_iff.1 he)
theorem DP {k:Nat} (hk:k<g.n.toNat):(bw p (ak p k)).Nodup:=by
 have hx:=aI h.2.1 hk
 exact (bQ h.2.1 hx.1 hx.2).nodup_iff.2 cT
theorem Ad {k:Nat} (hk:k<g.n.toNat) {e:Int} (he:0≤e∧e<g.es.length) (ht:lp g e=ak p k):∃u v,bw p (ak p k)=u++e::v:=by
 have hx:=aI h.2.1 hk
 exact List.append_of_mem ((bQ h.2.1 hx.1 hx.2).mem_iff.2 (bR.2 ⟨he,ht⟩))
theorem uq {k:Nat} (hk:k<g.n.toNat) {f F F':Int→Int} {v:Nat→Int} (hin:∀u w e,bw p (ak p k)=u++e::w→F' e=v u.length) (hout:∀e:Int,lp g e≠ak p k→F' e=F e):
 iC (arr F g.es.length) (bw p (ak p k)) v (bw p (ak p k)).length=arr F' g.es.length:=by
 refine DO (by rw [fh,cC,cC]) fun i hi=> ?_
 rw [fh,cC] at hi
 rw [pU hi]
 by_cases ht:lp g (i:Int)=ak p k
 ·obtain ⟨u,w,DQ⟩:=Ad h hk (e:=(i:Int)) (by omega) ht
  have e1:(bw p (ak p k)).getD u.length 0=(i:Int):=by rw [DQ];exact jL
  have:=xO (A:=arr F g.es.length) (o:=bw p (ak p k)) (f:=v) (i:=u.length) (by rw [e1,cC];simpa using hi) (j:=(bw p (ak p k)).length) (by rw [DQ];simp) fun q hq e2=>by
   rw [e1,Int.toNat_natCast] at e2
   have h2:=iT h hk (aG (d:=0) hq)
   have h3:(bw p (ak p k)).getD q 0=(i:Int):=by omega
   have ck:=DP h hk
   have:(bw p (ak p k))[q]'hq=(bw p (ak p k))[u.length]'(by rw [DQ];simp):=by
    rw [List.getD_eq_getElem?_getD,List.getElem?_eq_getElem hq] at h3
    rw [List.getD_eq_getElem?_getD,List.getElem?_eq_getElem (by rw [DQ];simp)] at e1
    simp only [Option.getD_some] at h3 e1
    rw [h3,e1]
   exact (List.getElem_inj ck).1 this
  rw [e1,Int.toNat_natCast] at this
  rw [this,hin u w (i:Int) DQ]
 ·rw [lZ fun q hq e2=> ?_,pU hi,hout _ ht]
  have h2:=iT h hk (aG (d:=0) hq)
  exact ht (by rw [← h2.2];congr 1;omega)
theorem JA {k:Nat} (hk:k<g.n.toNat):mD (arr (LK g p k) g.es.length) (bw p (ak p k)) (if k=0 then 0 else LK g p k (ez g p (ak p k))) (cK p k) (bw p (ak p k)).length=arr (LK g p (k+1)) g.es.length:=by
 refine uq (f:=fun _=>0) h hk (fun u w e DQ=> ?_) fun e he=>by rw [LK,if_neg he]
 obtain ⟨a,b⟩:=nk h hk DQ
 rw [LK,if_pos a,b]
theorem JB {r:Int} {k:Nat} (hk:k<g.n.toNat):mE (arr (RK g p r k) g.es.length) (bw p (ak p k)) (if k=0 then r else RK g p r k (mC g p (ak p k))) (cK p k) (bw p (ak p k)).length=arr (RK g p r (k+1)) g.es.length:=by
 refine uq (f:=fun _=>0) h hk (fun u w e DQ=> ?_) fun e he=>by rw [RK,if_neg he]
 obtain ⟨a,b⟩:=nk h hk DQ
 rw [RK,if_pos a,b]
theorem xQ (hI:ku g=true):∀ {k:Nat},k<g.n.toNat→∀t∈(fK g p k).row,0≤t.1
 |0,_,t,ht=>by cases ht
 |k+1,hk,t,ht=>by
  have hm:=aE h.1
  have ih:=xQ hI (k:=k) (by omega)
  obtain ⟨hi,_,_⟩:=dF hm h.2.1 (k:=k) (by omega) fun j hj=>h.2.2 j (by omega)
  obtain ⟨A,X,C,hr,_,_,_,hs⟩:=iA hm hi.togK (h.2.2 k (by omega))
  have hO:bw p (ak p k)≠ []:=fun h1=>by
   have:=(ew h hI (aI h.2.1 (show k<g.n.toNat by omega))).1 h1
   have:=dD h.2.1 (show k<g.n.toNat by omega) (by omega) this
   omega
  have ht:t∈(aA g (fK g p k) (ak p k) (bw p (ak p k))).2.row:=ht
  rw [hs] at ht
  simp only [List.mem_append] at ht
  rcases ht with (ht|ht)|ht
  ·exact ih t (by rw [hr];simp [ht])
  ·unfold aM at ht
   rw [if_neg hO] at ht
   obtain ⟨i,hi2,rfl⟩:=List.mem_map.1 ht
   exact (iT h (show k<g.n.toNat by omega) hi2).1.1
  ·exact ih t (by rw [hr];simp [ht])
theorem yZ (hI:ku g=true) {k:Nat} (hk:k<g.n.toNat):jc (ff g p k)=ff g p k:=by
 have hm:=aE h.1
 obtain ⟨hi,_,_⟩:=dF hm h.2.1 (k:=k) (by omega) fun j hj=>h.2.2 j (by omega)
 obtain ⟨A,X,C,hr,_,_,_,hs⟩:=iA hm hi.togK (h.2.2 k hk)
 have e:ff g p k=X:=by unfold ff;rw [hs]
 rw [e]
 refine List.filter_eq_self.2 fun t ht=>decide_eq_true (xQ h hI hk t ?_)
 rw [hr];simp [ht]
theorem DR (hI:ku g=true) {k:Nat} (hk:k<g.n.toNat):cw g p (ak p k)=(ff g p k).map (·.1):=by
 unfold cw
 rw [ox h.2.1 (Nat.le_refl _) hk,yZ h hI hk]
end
section
variable (g:Gr) (p:Pl)
def fI:Nat→List Int
 |0=>bw p (ak p 0)
 |j+1=>if bw p (ak p (j+1))= [] then fI j else (fI j).take (dm (fI j) (ez g p (ak p (j+1)))).toNat++bw p (ak p (j+1))++(fI j).drop ((dm (fI j) (ez g p (ak p (j+1)))).toNat+(cw g p (ak p (j+1))).length)
def lE:Nat→List Int
 |0=> [0]++fk 1 ((bw p (ak p 0)).length - 1)++ [-1]
 |j+1=>(lE j).take ((dm (fI g p j) (ez g p (ak p (j+1)))).toNat+1)++fk (cK p (j+1)) ((bw p (ak p (j+1))).length - 1)++(lE j).drop ((dm (fI g p j) (ez g p (ak p (j+1)))).toNat+(cw g p (ak p (j+1))).length)
def je (k:Nat):List Int:=((cw g p (ak p k)).dropLast).map (RK g p (-1) k)
def oN:Nat→List Int
 |0=> [ak p (g.n.toNat - 1)]
 |k+1=>jJ (oN k) (je g p k) (ak p k) (je g p k).length++List.replicate ((bw p (ak p k)).length - 1) 0
end
section
variable {g:Gr} {p:Pl}
theorem fJ:∀ {k:Nat},(oN g p k).length=cK p k
 |0=>rfl
 |k+1=>by rw [oN,List.length_append,jK,List.length_replicate,fJ,cK]
variable (h:cu g p)
include h
theorem DS {A I C:List Int} (ck:(A++I++C).Nodup) (hI:I≠ []):dm (A++I++C) (I.headD 0)=(A.length:Int):=by
 obtain ⟨a,u,rfl⟩:=iN hI
 obtain ⟨k,h1,h2,h3⟩:=di (l:=A++a::u++C) (x:=a) (by simp)
 have e:A++a::u++C=A++a::(u++C):=by simp
 have h4:(A++a::u++C).getD A.length 0=a:=by rw [e];exact jL
 show dm _ a=_
 rw [h1]
 have hA:A.length<(A++a::u++C).length:=by simp
 rw [List.getD_eq_getElem?_getD,List.getElem?_eq_getElem h2] at h3
 rw [List.getD_eq_getElem?_getD,List.getElem?_eq_getElem hA] at h4
 simp only [Option.getD_some] at h3 h4
 have:=(List.getElem_inj ck (h₀:=h2) (h₁:=hA)).1 (h3.trans h4.symm)
 omega
theorem DT {k:Nat} (hk:k≤g.n.toNat):(WK g p k).Nodup:=by
 have hm:=aE h.1
 obtain ⟨hi,_,_⟩:=dF hm h.2.1 (k:=k) (by omega) fun j hj=>h.2.2 j (by omega)
 exact DI hi
theorem DU {r:Int} {k:Nat} (hk:k<g.n.toNat) (hO:bw p (ak p k)≠ []) {j:Nat} (h1:k+1≤j) (h2:j≤g.n.toNat):(bw p (ak p k)).map (RK g p r j)=fk (cK p k) ((bw p (ak p k)).length - 1)++ [if k=0 then r else RK g p r k (mC g p (ak p k))]:=by
 obtain ⟨v,b,hv⟩:=cy hO
 have e1:((bw p (ak p k)).length - 1)=v.length:=by rw [hv];simp
 rw [e1]
 conv=>lhs;rw [hv]
 rw [List.map_append,List.map_cons,List.map_nil,sY h hk hv h1 h2]
 congr 1
 refine List.ext_getElem? fun i=> ?_
 by_cases hi:i<v.length
 ·rw [List.getElem?_map,List.getElem?_eq_getElem hi,fk,List.getElem?_map,List.getElem?_range hi,Option.map_some,Option.map_some]
  have hs:v=v.take i++v[i]::v.drop (i+1):=by simp
  obtain ⟨c,w,Ms⟩:∃c w,v.drop (i+1)++ [b]=c::w:=by
   cases hd:v.drop (i+1) with
   |nil=>exact ⟨b, [],rfl⟩
   |cons c w=>exact ⟨c,w++ [b],rfl⟩
  have h3:bw p (ak p k)=v.take i++v[i]::c::w:=by
   rw [hv]
   conv=>lhs;rw [hs]
   rw [List.append_assoc,List.cons_append,Ms]
  rw [gP h hk h3 h1 h2,List.length_take,Nat.min_eq_left (by omega)]
  congr 1
 ·rw [List.getElem?_eq_none (by simpa using hi),List.getElem?_eq_none (by rw [jI];omega)]
theorem vE (hI:ku g=true):∀ {j:Nat},j+1<g.n.toNat→fI g p j=WK g p (j+1)∧lE g p j=0::(WK g p (j+1)).map (RK g p (-1) (j+1))∧WK g p (j+1)≠ []
 |0,hj=>by
  have hO:bw p (ak p 0)≠ []:=fun h1=>by
   have:=(ew h hI (aI h.2.1 (show 0<g.n.toNat by omega))).1 h1
   have:=dD h.2.1 (show 0<g.n.toNat by omega) (by omega) this
   omega
  refine ⟨(sZ h (by omega)).symm, ?_,by rw [sZ h (by omega)];exact hO⟩
  rw [sZ h (by omega),DU h (by omega) hO (Nat.le_refl _) (by omega),if_pos rfl]
  rfl
 |j+1,hj=>by
  obtain ⟨i1,i2,i3⟩:=vE hI (j:=j) (by omega)
  obtain ⟨A,C,e1,hne,e2⟩:=ke h (k:=j+1) (by omega) (by omega)
  have hO:bw p (ak p (j+1))≠ []:=fun h1=>by
   have:=(ew h hI (aI h.2.1 (show j+1<g.n.toNat by omega))).1 h1
   have:=dD h.2.1 (show j+1<g.n.toNat by omega) (by omega) this
   omega
  have ck:=DT h (k:=j+1) (by omega)
  have HD:dm (WK g p (j+1)) (ez g p (ak p (j+1)))=(A.length:Int):=by
   rw [e1] at ck ⊢
   exact DS h ck hne
  have z8:∀a∈WK g p (j+1),RK g p (-1) (j+1+1) a=RK g p (-1) (j+1) a:=fun a ha=>by
   obtain ⟨i,hi,e⟩:=qN h (by omega) ha
   rw [eo h (by omega) e (j:=j+1+1) (by omega) (by omega),eo h (by omega) e (j:=j+1) (by omega) (by omega)]
  refine ⟨?_, ?_,by rw [e2];simp [hO]⟩
  ·rw [fI,if_neg hO,i1,HD,Int.toNat_natCast,e2]
   congr 1
   ·congr 1
    rw [e1,List.append_assoc,List.take_left]
   ·rw [e1, ← List.length_append,List.drop_left]
  ·rw [lE,i1,i2,HD,Int.toNat_natCast,List.take_succ_cons,e2]
   have e3:(WK g p (j+1)).map (RK g p (-1) (j+1))=A.map (RK g p (-1) (j+1))++((cw g p (ak p (j+1))).map (RK g p (-1) (j+1))++C.map (RK g p (-1) (j+1))):=by rw [e1];simp
   have hA:A.map (RK g p (-1) (j+1+1))=A.map (RK g p (-1) (j+1)):=List.map_congr_left fun a ha=>z8 a (by rw [e1];simp [ha])
   have hC:C.map (RK g p (-1) (j+1+1))=C.map (RK g p (-1) (j+1)):=List.map_congr_left fun a ha=>z8 a (by rw [e1];simp [ha])
   rw [List.map_append,List.map_append,hA,hC,DU h (by omega) hO (Nat.le_refl _) (by omega),if_neg (by omega)]
   rw [e3,List.take_append_of_le_length (by simp),List.take_of_length_le (by simp)]
   obtain ⟨u,a,hu⟩:=cy hne
   have hl:(cw g p (ak p (j+1))).length=u.length+1:=by rw [hu];simp
   rw [hl,show A.length+(u.length+1)=(A.length+u.length)+1 by omega,List.drop_succ_cons]
   have e4:(A.map (RK g p (-1) (j+1))++((cw g p (ak p (j+1))).map (RK g p (-1) (j+1))++C.map (RK g p (-1) (j+1)))).drop (A.length+u.length)=RK g p (-1) (j+1) (mC g p (ak p (j+1)))::C.map (RK g p (-1) (j+1)):=by
    rw [lC h hu,hu]
    have:A.map (RK g p (-1) (j+1))++((u++ [a]).map (RK g p (-1) (j+1))++C.map (RK g p (-1) (j+1)))=(A++u).map (RK g p (-1) (j+1))++(RK g p (-1) (j+1) a::C.map (RK g p (-1) (j+1))):=by simp
    rw [this,show A.length+u.length=((A++u).map (RK g p (-1) (j+1))).length by simp,List.drop_left]
   rw [e4]
   simp
theorem cV {A B:List Int} (h:B≠ []):(A++B).dropLast=A++B.dropLast:=by
 obtain ⟨u,a,rfl⟩:=cy h
 rw [← List.append_assoc,List.dropLast_concat,List.dropLast_concat]
theorem vF (hI:ku g=true):∀ {k:Nat},1≤k→k<g.n.toNat→∀a∈(WK g p k).dropLast,1≤RK g p (-1) k a∧RK g p (-1) k a<cK p k
 |0,h1,_,_,_=>by omega
 |k+1,_,hk,a,ha=>by
  have hO:bw p (ak p k)≠ []:=fun h1=>by
   have:=(ew h hI (aI h.2.1 (show k<g.n.toNat by omega))).1 h1
   have:=dD h.2.1 (show k<g.n.toNat by omega) (by omega) this
   omega
  have hc:cK p (k+1)=cK p k+((bw p (ak p k)).length - 1):=rfl
  have Ic:0<cK p k:=lz
  have hnew:∀b∈(bw p (ak p k)).dropLast,1≤RK g p (-1) (k+1) b∧RK g p (-1) (k+1) b<cK p (k+1):=fun b hb=>by
   obtain ⟨v,c,hv⟩:=cy hO
   rw [hv,List.dropLast_concat] at hb
   obtain ⟨u,w,DQ⟩:=List.append_of_mem hb
   obtain ⟨c',w',Ms⟩:∃c' w',w++ [c]=c'::w':=by
    cases w with
    |nil=>exact ⟨c, [],rfl⟩
    |cons d w=>exact ⟨d,w++ [c],rfl⟩
   have h3:bw p (ak p k)=u++b::c'::w':=by rw [hv,DQ, ← Ms];simp
   rw [gP h (show k<g.n.toNat by omega) h3 (Nat.le_refl _) (by omega)]
   have:(bw p (ak p k)).length=u.length+(w'.length+2):=by rw [h3];simp
   omega
  by_cases h0:k=0
  ·subst h0
   rw [sZ h (by omega)] at ha
   exact hnew a ha
  ·obtain ⟨A,C,e1,hne,e2⟩:=ke h h0 (show k<g.n.toNat by omega)
   have ih:=vF hI (k:=k) (by omega) (by omega)
   have z8:∀a∈WK g p k,RK g p (-1) (k+1) a=RK g p (-1) k a:=fun a ha=>by
    obtain ⟨i,hi,e⟩:=qN h (by omega) ha
    rw [eo h (by omega) e (j:=k+1) (by omega) (by omega),eo h (by omega) e (j:=k) (by omega) (by omega)]
   have old:∀b∈(WK g p k).dropLast,1≤RK g p (-1) (k+1) b∧RK g p (-1) (k+1) b<cK p (k+1):=fun b hb=>by
    rw [z8 b ((List.dropLast_sublist _).subset hb)]
    have:=ih b hb
    omega
   rw [e1] at old z8
   rw [e2] at ha
   by_cases hC:C= []
   ·subst hC
    rw [List.append_nil] at ha old
    rw [cV h hO] at ha
    rw [cV h hne] at old
    rcases List.mem_append.1 ha with ha|ha
    ·exact old a (by simp [ha])
    ·exact hnew a ha
   ·rw [cV h hC] at ha old
    rcases List.mem_append.1 ha with ha|ha
    ·rcases List.mem_append.1 ha with ha|ha
     ·exact old a (by simp [ha])
     ·obtain ⟨v,b,hv⟩:=cy hO
      rw [hv,List.mem_append,List.mem_singleton] at ha
      rcases ha with ha|rfl
      ·exact hnew a (by rw [hv,List.dropLast_concat];exact ha)
      ·obtain ⟨u,c,hu⟩:=cy hne
       rw [sY h (show k<g.n.toNat by omega) hv (Nat.le_refl _) (by omega),if_neg h0,lC h hu, ← z8 c (by rw [hu];simp)]
       exact old c (by rw [hu];simp)
    ·exact old a (by simp [ha])
theorem vG (hI:ku g=true) {k:Nat} (hk:k<g.n.toNat):∀f∈je g p k,0≤f∧f<(oN g p k).length:=by
 intro f hf
 rw [fJ]
 obtain ⟨a,ha,rfl⟩:=List.mem_map.1 hf
 have JC:cw g p (ak p k)≠ []:=fun h0=>by rw [h0] at ha;simp at ha
 have uL:=xN h hk JC
 obtain ⟨A,C,e1,hne,_⟩:=ke h uL hk
 have:=vF h hI (k:=k) (by omega) hk a (by
  rw [e1]
  by_cases hC:C= []
  ·subst hC;rw [List.append_nil,cV h hne];simp [ha]
  ·rw [cV h hC];simp [(List.dropLast_sublist _).subset ha])
 omega
theorem DV (hI:ku g=true) {j:Nat} (hj:j+1<g.n.toNat):∃a:Nat,dm (fI g p j) (ez g p (ak p (j+1)))=a∧0<(cw g p (ak p (j+1))).length∧a+(cw g p (ak p (j+1))).length≤(fI g p j).length∧
 (lE g p j).length=(fI g p j).length+1∧(lE g p j).getD a 0=LK g p (j+1) (ez g p (ak p (j+1)))∧(lE g p j).getD (a+(cw g p (ak p (j+1))).length) 0=RK g p (-1) (j+1) (mC g p (ak p (j+1)))∧
 ((lE g p j).take (a+(cw g p (ak p (j+1))).length)).drop (a+1)=je g p (j+1):=by
 obtain ⟨i1,i2,i3⟩:=vE h hI hj
 obtain ⟨A,C,e1,hne,e2⟩:=ke h (k:=j+1) (by omega) hj
 have ck:=DT h (k:=j+1) (by omega)
 have HD:dm (WK g p (j+1)) (ez g p (ak p (j+1)))=(A.length:Int):=by
  rw [e1] at ck ⊢
  exact DS h ck hne
 have hlk:=(yX (r:= -1) h hI (k:=j+1) (by omega) hj i3).1
 obtain ⟨u,c,hu⟩:=cy hne
 obtain ⟨c0,u0,Fa⟩:=iN hne
 have hl:(cw g p (ak p (j+1))).length=u.length+1:=by rw [hu];simp
 rw [i1,i2]
 refine ⟨A.length,HD,by omega,by rw [e1];simp,by simp, ?_, ?_, ?_⟩
 ·rw [e1,bS,bS] at hlk
  have h1:=hlk.1.2
  rw [Fa] at h1
  rw [pT h Fa,h1.1,e1]
  rcases List.eq_nil_or_concat A with hA|⟨A',t,hA⟩
  ·subst hA;rfl
  ·rw [List.concat_eq_append] at hA
   subst hA
   rw [cI]
   have:(0::(A'++ [t]++cw g p (ak p (j+1))++C).map (RK g p (-1) (j+1)))=(0::A'.map (RK g p (-1) (j+1)))++RK g p (-1) (j+1) t::((cw g p (ak p (j+1))++C).map (RK g p (-1) (j+1))):=by simp
   rw [this]
   have h2:(A'++ [t]).length=(0::A'.map (RK g p (-1) (j+1))).length:=by simp
   rw [h2];exact jL
 ·rw [lC h hu,e1,hl]
  have:(0::(A++cw g p (ak p (j+1))++C).map (RK g p (-1) (j+1)))=(0::(A++u).map (RK g p (-1) (j+1)))++RK g p (-1) (j+1) c::(C.map (RK g p (-1) (j+1))):=by rw [hu];simp
  rw [this]
  have h2:A.length+(u.length+1)=(0::(A++u).map (RK g p (-1) (j+1))).length:=by simp;omega
  rw [h2];exact jL
 ·rw [e1,hl]
  have:(0::(A++cw g p (ak p (j+1))++C).map (RK g p (-1) (j+1)))=(0::A.map (RK g p (-1) (j+1)))++(u.map (RK g p (-1) (j+1))++(RK g p (-1) (j+1) c::(C.map (RK g p (-1) (j+1))))):=by rw [hu];simp
  rw [this,List.take_append,List.drop_append]
  have h2:(0::A.map (RK g p (-1) (j+1))).length=A.length+1:=by simp
  rw [h2,List.take_of_length_le (by rw [h2];omega),List.drop_of_length_le (by rw [h2];omega),h2]
  rw [show A.length+(u.length+1) - (A.length+1)=u.length by omega,Nat.sub_self,List.drop_zero,List.nil_append]
  rw [List.take_append_of_le_length (by simp),List.take_of_length_le (by simp)]
  unfold je
  rw [hu,List.dropLast_concat]
end
end Go.Ab
end
section
namespace Go.Ab
open Go.Proofs
attribute [local congr] ACall.congr gd.congr Nx.congr
set_option maxRecDepth 10000
set_option maxHeartbeats 8000000
def swapT (l:List It) (k:Nat):List It:=(List.range l.length).map fun p=>if p<k∨l.length - 1<p+k then l.getD (l.length - 1 - p) (0,0,0) else l.getD p (0,0,0)
def Nr (rs:List Int) (l:List It):Int:=match l.find? (fun t=>decide (t.2.2∈rs)) with
 |some t=>t.2.2
 |none=>rs.headD (-1)
end Go.Ab
end
section
namespace Go.Ab
open Go.Proofs
attribute [local congr] ACall.congr gd.congr Nx.congr
set_option maxRecDepth 10000
set_option maxHeartbeats 8000000
def Qh (b:Bool) (g:Gr) (p:Pl):List Int × List Int × Int:=
 if (bJ b g p).2.1=0∧ku g=true then (Dt g p false g.n.toNat,Dt g p true g.n.toNat,0) else ([], [],1)
end Go.Ab
end
section
namespace Go.Ab
open Go.Proofs
attribute [local congr] ACall.congr gd.congr Nx.congr
set_option maxRecDepth 10000
set_option maxHeartbeats 8000000
theorem s5 {b:Bool} {g:Gr} {p:Pl} (hr:b=true↔(bF g).1=0∧bD g p) (h:cu g p):bJ b g p=((ee g p g.n.toNat,lg g p),(0,0)):=by
 obtain rfl:b=true:=hr.2 ⟨h.1,h.2.1⟩
 unfold bJ
 rw [if_neg (by simp),eS.2 h.2.2]
 rfl
theorem O9 (g:Gr) (p:Pl):∃b:Bool,(b=true↔(bF g).1=0∧bD g p):=by
 by_cases h:(bF g).1=0∧bD g p
 ·exact ⟨true,by simp [h]⟩
 ·exact ⟨false,by simp [h]⟩
end Go.Ab
end
section
namespace Go.Ab
open Go.Proofs
attribute [local congr] ACall.congr gd.congr Nx.congr
set_option maxRecDepth 60000
set_option maxHeartbeats 8000000
structure Fc where
 L:List Int
 R:List Int
 lo:List Int
 hi:List Int
def kE (g:Gr) (p:Pl) (f:Int):Int:=if f= -1 then (cK p g.n.toNat:Int) else f
def F5 (g:Gr) (p:Pl):Fc:=⟨arr (LK g p g.n.toNat) g.es.length,(arr (RK g p (-1) g.n.toNat) g.es.length).map (kE g p),gE p g.n.toNat++ [ak p 0],oN g p g.n.toNat++ [ak p (g.n.toNat - 1)]⟩
def y3:Fc:=⟨[], [], [], []⟩
def F6 (b:Bool) (g:Gr) (p:Pl):Fc × Int:=if ((bJ b g p).2.1=0∧ku g=true)∧0<g.es.length then (F5 g p,0) else (y3,1)
def kF (f:Fc):AV:= .agg [.d (sI f.L), .d (sI f.R), .d (sI f.lo), .d (sI f.hi)]
def lF (l:List Int) (f:Int→Int) (j:Nat):List Int:=(l.take j).map f++l.drop j
theorem DW {l:List Int} {f:Int→Int} {j:Nat} :(lF l f j).length=l.length:=by
 simp only [lF,List.length_append,List.length_map,List.length_take,List.length_drop];omega
theorem ur {l:List Int} {f:Int→Int} {j:Nat} (h:j<l.length):lF l f (j+1)=(lF l f j).set j (f (l.getD j 0)):=by
 have h1:((l.take j).map f).length=j:=by simp;omega
 have e:l.getD j 0=l[j]:=by rw [List.getD_eq_getElem?_getD,List.getElem?_eq_getElem h];rfl
 unfold lF
 have e2:l.take (j+1)=l.take j++ [l[j]]:=by rw [List.take_add_one,List.getElem?_eq_getElem h];rfl
 rw [List.drop_eq_getElem_cons h,List.set_append,h1,if_neg (by omega),Nat.sub_self,List.set_cons_zero,e2,e,List.map_append,List.append_assoc]
 rfl
theorem Ae {l:List Int} {f:Int→Int} {j:Nat} (h:j<l.length):(lF l f j).getD j 0=l.getD j 0:=by
 have h1:((l.take j).map f).length=j:=by simp;omega
 unfold lF
 rw [List.getD_eq_getElem?_getD,List.getElem?_append_right (by omega),h1,Nat.sub_self,List.drop_eq_getElem_cons h,List.getD_eq_getElem?_getD,List.getElem?_eq_getElem h];rfl
theorem DX {l:List Int} {f:Int→Int} :lF l f l.length=l.map f:=by simp [lF]
theorem BD {l:List Int} {f:Int→Int} {j:Nat} (h:j<l.length) (hf:f (l.getD j 0)=l.getD j 0):lF l f (j+1)=lF l f j:=by
 rw [ur h,hf]
 refine List.ext_getElem? fun i=> ?_
 rw [List.getElem?_set]
 split
 ·rename_i e;subst e
  split
  ·have:=Ae (l:=l) (f:=f) h
   rename_i hl
   rw [List.getD_eq_getElem?_getD,List.getElem?_eq_getElem hl] at this
   rw [List.getElem?_eq_getElem hl]
   simpa using this.symm
  ·rename_i hl;rw [List.getElem?_eq_none (by omega)]
 ·rfl
theorem uu {g:Gr} {p:Pl} (h:cu g p):0<(aV (·.2) g).length∧(aV (·.2) g).getD 0 0=ak p 0:=by
 have hn:=aT (aE h.1)
 have h0:=aI h.2.1 (k:=0) (by omega)
 have hm:ak p 0∈aV (·.2) g:=gW.2 ⟨h0,fZ h⟩
 have hl:=List.length_pos_of_mem hm
 refine ⟨hl, ?_⟩
 have:=gW.1 (aG (l:=aV (·.2) g) (m:=0) (d:=0) hl)
 exact lS h.1 this.1 h0 this.2 (fZ h)
theorem BE {g:Gr} {p:Pl} (h:cu g p) (hI:ku g=true):0<(aV (·.1) g).length∧(aV (·.1) g).getD 0 0=ak p (g.n.toNat - 1):=by
 have hn:=aT (aE h.1)
 have h0:=aI h.2.1 (k:=g.n.toNat - 1) (by omega)
 have hm:ak p (g.n.toNat - 1)∈aV (·.1) g:=fY.2 ⟨h0,(jG h.2.1 h0.1 h0.2).2 (pR h).1⟩
 have hl:=List.length_pos_of_mem hm
 refine ⟨hl, ?_⟩
 have:=fY.1 (aG (l:=aV (·.1) g) (m:=0) (d:=0) hl)
 exact (ew h hI this.1).1 ((jG h.2.1 this.1.1 this.1.2).1 this.2)
theorem F7 {g:Gr} {p:Pl} (h:cu g p):∀ {k:Nat},k≤g.n.toNat→cK p k≤1+k*g.es.length
 |0,_=>by simp [cK]
 |k+1,hk=>by
  have:=F7 h (k:=k) (by omega)
  have hx:=aI h.2.1 (show k<g.n.toNat by omega)
  have:=j9 h.2.1 hx.1 hx.2
  rw [cK,Nat.add_mul];omega
theorem qm {g:Gr} {p:Pl} (h:cu g p) {k:Nat} (hk:k≤g.n.toNat):cK p k≤100000∧(∀x:Int,(bw p x).length≤100000∨¬oU g x):=by
 have hn:=aT (aE h.1)
 have h1:=F7 h hk
 have h2:k*g.es.length≤64*128:=Nat.mul_le_mul (by omega) (by omega)
 refine ⟨by omega,fun x=> ?_⟩
 by_cases hx:oU g x
 ·have:=j9 h.2.1 hx.1 hx.2;exact .inl (by omega)
 ·exact .inr hx
theorem BF (g:Gr) (p:Pl) (hp:qj p) (hrun:cu g p) (hI:ku g=true) (hm0:0<g.es.length) (b:Bool) (hr:b=true↔(bF g).1=0∧bD g p):
 Spec Tryz.prog 11 (Args [eG g,ePl p]) [] (.tup [kF (F5 g p),eN 0]) []:=by
 have hm:=aE hrun.1
 have hn:=aT hm
 have hle:=cj hrun.2.1
 have hO:=mA g (by omega) p hp b hr
 have G8:=sV g (by omega)
 have Pa:=fC g hm
 have Pb:=dY g hm
 have Pc:=rY g hm
 obtain ⟨hs1,yh⟩:=uu hrun
 obtain ⟨Qi,hs4⟩:=BE hrun hI
 rw [s5 hr hrun] at hO
 simp only at hO
 rw [hI] at G8
 have hb0:decide ((g.es.length:Int)=0)=false:=decide_eq_false (by omega)
 have hn2:1<g.n.toNat:=by
  refine Decidable.byContradiction fun hc=> ?_
  have ht:=bL hm (i:=0) hm0
  have hh:=bX hm (i:=0) hm0
  obtain ⟨j,hj,_⟩:=sX hrun (e:=0) (by omega) (k:=0) (by omega) (by
   obtain ⟨k,hk,e⟩:=fG hrun.2.1 hh.1 hh.2
   obtain rfl:k=0:=by omega
   exact e.symm)
  omega
 obtain ⟨s0,hs0⟩:∃s:Nat,ak p 0=s:=by have:=aI hrun.2.1 (k:=0) (by omega);exact ⟨(ak p 0).toNat,by omega⟩
 have Mt:s0<p.outs.length:=by have:=aI hrun.2.1 (k:=0) (by omega);have:=hrun.2.1.1;omega
 have uG:=iO Mt
 have Mu:p.outs.getD s0 []=bw p (ak p 0):=by unfold bw;rw [hs0,Int.toNat_natCast]
 rw [Mu] at uG
 have Pd:=j9 hrun.2.1 (aI hrun.2.1 (k:=0) (by omega)).1 (aI hrun.2.1 (k:=0) (by omega)).2
 have DN:=uo (ak p 0) 0 (-1) (bw p (ak p 0)) (.sl 1 []) (sI [0, -1]) (arr (LK g p 0) g.es.length) (arr (RK g p (-1) 0) g.es.length) [ak p 0] [ak p (g.n.toNat - 1)] (by omega) (fun i hi=>by rw [cC];exact (iT hrun (by omega) hi).1) (by rw [cC,cC]) (by simp) (by simp)
 have Ns:=JA hrun (k:=0) (by omega)
 have Nt:=JB (r:= -1) hrun (k:=0) (by omega)
 rw [if_pos rfl] at Ns Nt
 have JD:cw g p (ak p 0)= []:=by
  have:=jH hrun (aI hrun.2.1 (k:=0) (by omega))
  rw [fZ hrun] at this
  exact List.eq_nil_of_length_eq_zero this
 have hi1:oN g p 1= [ak p (g.n.toNat - 1)]++List.replicate ((bw p (ak p 0)).length - 1) 0:=by
  have:je g p 0= []:=by unfold je;rw [JD];rfl
  show jJ (oN g p 0) (je g p 0) (ak p 0) (je g p 0).length++_=_
  rw [this];rfl
 have Mv:gE p 1= [ak p 0]++List.replicate ((bw p (ak p 0)).length - 1) (ak p 0):=rfl
 have hc1:([ak p 0]:List Int).length=cK p 0:=rfl
 rw [hc1,Ns,Nt, ← hi1, ← Mv] at DN
 have xJ:∀f:Int→Int,(∀e,f e=0)→List.replicate g.es.length [D.sc (.int .i64 0)]=(arr f g.es.length).map rI:=fun f hf=>by
  refine List.ext_getElem? fun i=> ?_
  simp only [arr,List.getElem?_replicate,List.getElem?_map]
  by_cases hi:i<g.es.length
  ·rw [if_pos hi,List.getElem?_range hi];simp [hf,rI]
  ·rw [if_neg hi,List.getElem?_eq_none (by simpa using hi)];rfl
 have iU:=xJ (LK g p 0) fun _=>rfl
 have F8:=kS (bw p (ak p 0)) (by omega)
 have Mw:=jd [0, -1] (fk (cK p 0) ((bw p (ak p 0)).length - 1)) 1 1 (by simp) (by simp) (by rw [jI];omega)
 have Gz:List.take 1 [(0:Int), -1]++fk (cK p 0) ((bw p (ak p 0)).length - 1)++List.drop 1 [(0:Int), -1]=lE g p 0:=rfl
 rw [Gz] at Mw
 have Pe:RK g p (-1) 0=LK g p 0:=by funext e;rfl
 rw [Pe] at DN
 have EY:fI g p 0=bw p (ak p 0):=rfl
 have F8:Spec Tryz.prog 44 (Args [.d (sI (bw p (s0:Int)))]) [] (.d (sI (fI g p 0))) []:=by
  rw [EY, ← hs0];exact F8
 generalize Nu:arr (LK g p 0) g.es.length=A0 at DN iU
 have tw:=jI (c:=cK p 0) (k:=(bw p (ak p 0)).length - 1)
 generalize fk (cK p 0) ((bw p (ak p 0)).length - 1)=gs at DN Mw tw
 unfold HJ HK at DN
 have BG:List.drop 1 (List.map rI p.ord)=(p.ord.drop 1).map rI:=by rw [List.map_drop]
 have hdl:(p.ord.drop 1).length=g.n.toNat - 1:=by rw [List.length_drop];omega
 have vR:List.take p.ord.length (List.map rI p.ord)=List.map rI p.ord:=List.take_of_length_le (by simp)
 generalize KF:g.n.toNat - 1=N1 at hdl
 (refine Spec.hd (C:=T.cfg [67] []) (rs:= [.c 4 32, .t 5]) (T.ai _ _) Tryz.func11 rfl rfl Tryz.ntmps11 Tryz.results11 (by simp [AObj.isNest]) (by simp [AObj.isNest]) (by kernel_rfl) T.mixed fun X hX hP hC aH bU=> ?_)
 repeat' (first|(show cl _ (.seq (.region 8 _ _) _) _ _;(refine nS 54 0 1 rfl rfl rfl ?_;simp only [List.set_cons_zero,List.set_cons_succ,go_sem,simprocAttr,hb0,yh,hs4,iU,hs0,uG,BG,hdl,rI]);(refine dh hX 52 rfl ?_;simp only [go_sem,simprocAttr,hb0,yh,hs4,iU,hs0,uG,BG,hdl,rI]))|refine Rn.p ?_|(with_reducible apply And.intro)|((first|(refine hK _ ?_;clear hK K)|with_reducible intro K hK|refine Rs.p ?_|((with_reducible first|apply oP|apply oQ);exact rfl)|refine aa hX hC hP (hO) rfl rfl rfl (by simp only [go_sem,simprocAttr,hb0,yh,hs4,iU,hs0,uG,BG,hdl,rI]) rfl ?_|refine aa hX hC hP (G8) rfl rfl rfl (by simp only [go_sem,simprocAttr,hb0,yh,hs4,iU,hs0,uG,BG,hdl,rI]) rfl ?_|refine aa hX hC hP (Pa) rfl rfl rfl (by simp only [go_sem,simprocAttr,hb0,yh,hs4,iU,hs0,uG,BG,hdl,rI]) rfl ?_|refine aa hX hC hP (Pb) rfl rfl rfl (by simp only [go_sem,simprocAttr,hb0,yh,hs4,iU,hs0,uG,BG,hdl,rI]) rfl ?_|refine aa hX hC hP (Pc) rfl rfl rfl (by simp only [go_sem,simprocAttr,hb0,yh,hs4,iU,hs0,uG,BG,hdl,rI]) rfl ?_|(refine az hX hC hP [(10000,54),(10001,59),(10002,63),(10003,65),(10004,67),(10005,300),(10006,301)] (DN) rfl rfl rfl ?_ ?_ ?_ ?_ ?_ ?_ ?_ ?_ ?_ ?_ ?_ ?_ ?_ ?_;(focus (simp only [go_sem,simprocAttr,hb0,yh,hs4,iU,hs0,uG,BG,hdl,rI];done));(iterate 12 (focus (simp [go_sem,simprocAttr,hb0,yh,hs4,iU,hs0,uG,BG,hdl,rI];done)));try simp only [List.map_cons,List.map_nil])|refine aa hX hC hP (F8) rfl rfl rfl (by simp only [go_sem,simprocAttr,hb0,yh,hs4,iU,hs0,uG,BG,hdl,rI]) rfl ?_|(refine aZ hX hC hP (Mw) rfl rfl rfl ?_ ?_ rfl ?_;iterate 2 (focus (simp only [go_sem,simprocAttr,hb0,yh,hs4,iU,hs0,uG,BG,hdl,rI];done))));try simp only [go_sem,simprocAttr,hb0,yh,hs4,iU,hs0,uG,BG,hdl,rI])|((with_reducible refine oD ?_ ?_);kernel_rfl)|((with_reducible intro h);try simp only [go_sem,simprocAttr,hb0,yh,hs4,iU,hs0,uG,BG,hdl,rI] at h)|omega|intro h)
 refine ag (fun j:Nat=>j≤N1) (fun j=>⟨[(3, .ptr 3 0),(4, .ptr 4 0),(6, .d (.sl 1 (vT (ee g p g.n.toNat)))),(10,eN s0),(11,eN (ak p N1)),(12, .ptr 54 0),(106, .d (sI (p.ord.drop 1))),(107,eN N1),(108,eN j)], [(54, .box [.d (sI (fI g p j)), .d (sI (lE g p j)), .ref 59, .ref 63, .ref 300, .ref 301]),(59, .own 3 1 ((arr (LK g p (j+1)) g.es.length).map rI)),(63, .own 3 1 ((arr (RK g p (-1) (j+1)) g.es.length).map rI)),(300, .tip 3 1 ((gE p (j+1)).map rI)),(301, .own 3 1 ((oN g p (j+1)).map rI)),(3, .box [.d (sI p.ord), .d (.sl 1 (vI p.outs))]),(4, .box [.nil 3, .nil 3, .nil 3, .nil 3])]⟩) (fun j=>N1 - j) 0 (by omega) ?_ ?_
 ·refine Le.of ?_ ?_<;>simp [go_sem,simprocAttr,KF,vR]
  omega
 rintro j hj
 rcases Nat.lt_or_ge j N1 with hjl|GL
 ·have hb:decide ((j:Int)<(N1:Int))=true:=decide_eq_true (by omega)
  have hjn:j+1<g.n.toNat:=by omega
  obtain ⟨a,p1,p2,p3,p4,p5,p6,p7⟩:=DV hrun hI hjn
  have Ep:=aI hrun.2.1 hjn
  have hx:(p.ord.drop 1).getD j 0=ak p (j+1):=by
   rw [List.getD_eq_getElem?_getD,List.getElem?_drop,Nat.add_comm 1 j]
   show _=p.ord.getD (j+1) 0
   rw [List.getD_eq_getElem?_getD]
  have jM:=fun i hi=>(iT hrun hjn (e:=i) hi).1
  have wh:=j9 hrun.2.1 Ep.1 Ep.2
  have JE:=ox hrun.2.1 (Nat.le_refl _) hjn
  have hel:=lf (g:=g) (p:=p) (k:=g.n.toNat)
  have Nv:=DR hrun hI hjn
  have hL:=JA hrun (k:=j+1) hjn
  have hR:=JB (r:= -1) hrun (k:=j+1) hjn
  rw [if_neg (by omega)] at hL hR
  have l8:gE p (j+1+1)=gE p (j+1)++List.replicate ((bw p (ak p (j+1))).length - 1) (ak p (j+1)):=rfl
  have hhi:oN g p (j+1+1)=jJ (oN g p (j+1)) (je g p (j+1)) (ak p (j+1)) (je g p (j+1)).length++List.replicate ((bw p (ak p (j+1))).length - 1) 0:=rfl
  have Mz:=vG hrun hI hjn
  have mq:=fH (p:=p) (k:=j+1)
  have xP:=fJ (g:=g) (p:=p) (k:=j+1)
  have Nw:=(qm hrun (k:=j+1) (by omega)).1
  have Ir:fI g p (j+1)=if bw p (ak p (j+1))= [] then fI g p j else (fI g p j).take (dm (fI g p j) (ez g p (ak p (j+1)))).toNat++bw p (ak p (j+1))++(fI g p j).drop ((dm (fI g p j) (ez g p (ak p (j+1)))).toNat+(cw g p (ak p (j+1))).length):=rfl
  have MA:lE g p (j+1)=(lE g p j).take ((dm (fI g p j) (ez g p (ak p (j+1)))).toNat+1)++fk (cK p (j+1)) ((bw p (ak p (j+1))).length - 1)++(lE g p j).drop ((dm (fI g p j) (ez g p (ak p (j+1)))).toNat+(cw g p (ak p (j+1))).length):=rfl
  rw [p1,Int.toNat_natCast] at Ir MA
  obtain ⟨r1,r2,r3⟩:=vE hrun hI hjn
  have Qj:(fI g p j).length≤10000:=by
   rw [r1]
   have:=e9 (m:=(List.range g.es.length).map Int.ofNat) (DT hrun (k:=j+1) (by omega)) fun e he=>by
    have hi:=dF hm hrun.2.1 (k:=j+1) (by omega) fun i hi=>hrun.2.2 i (by omega)
    obtain ⟨t,ht,rfl⟩:=List.mem_map.1 he
    obtain ⟨⟨h1,h2⟩,_⟩:=oK hm hi.1.togK ht
    exact List.mem_map.2 ⟨t.1.toNat,List.mem_range.2 (by omega),by simp;omega⟩
   simp at this
   omega
  have hfr:ez g p (ak p (j+1))=((ff g p (j+1)).getD 0 (0,0,0)).1:=by
   unfold ez
   rw [Nv]
   cases ff g p (j+1)<;>rfl
  rw [Nv,List.length_map] at p2 p3 p6 p7 Ir MA
  have hIx:=aQ (fI g p j) (ez g p (ak p (j+1))) (by omega)
  rw [p1] at hIx
  rw [hfr] at hIx p5
  have kD:=vD (ak p (j+1)) (bw p (ak p (j+1))) (fI g p j) (lE g p j) (arr (LK g p (j+1)) g.es.length) (arr (RK g p (-1) (j+1)) g.es.length) (gE p (j+1)) (oN g p (j+1)) a (a+(ff g p (j+1)).length) (by omega) (by omega) (by omega) (by omega) (by omega) (by rw [p7];exact Mz) (by omega) (fun i hi=>by rw [cC];exact jM i hi) (by rw [cC,cC]) (by omega) (by omega)
  rw [p7,p5,p6,mq, ← hhi, ← l8, ← Ir, ← MA] at kD
  rw [← hfr] at kD
  rw [hL,hR] at kD
  obtain ⟨x,MB⟩:∃x:Nat,ak p (j+1)=x:=⟨(ak p (j+1)).toNat,by omega⟩
  have kj:x<p.outs.length:=by have:=hrun.2.1.1;omega
  have hv:=iO kj
  have hla:p.outs.getD x []=bw p (ak p (j+1)):=by unfold bw;rw [MB,Int.toNat_natCast]
  rw [hla] at hv
  have DY:=fun d=>oo (ls:=ee g p g.n.toNat) (k:=x) (by omega) d
  have hex:(ee g p g.n.toNat).getD x []=ff g p (j+1):=by rw [← JE,MB,Int.toNat_natCast]
  rw [hex] at DY
  have hvl:(vT (ee g p g.n.toNat)).length=g.n.toNat:=by rw [vT_length,hel]
  have AP:x<g.n.toNat:=by omega
  obtain ⟨bb,qI⟩:∃bb:Nat,bb=a+(ff g p (j+1)).length:=⟨_,rfl⟩
  have vH:(a:Int)+((ff g p (j+1)).length:Int)=(bb:Int):=by omega
  rw [← qI] at kD
  have kA:bb≤10000:=by omega
  generalize bw p (ak p (j+1))=o at kD hv
  rw [MB] at kD hx
  generalize ff g p (j+1)=gn at hIx DY vH p2
  clear qI
  generalize GA:fI g p (j+1)=E2 at kD
  generalize fI g p j=E1 at kD hIx
  generalize hq1:lE g p (j+1)=G2 at kD
  generalize lE g p j=G1 at kD
  generalize EU:arr (LK g p (j+1+1)) g.es.length=A2 at kD
  generalize Pf:arr (RK g p (-1) (j+1+1)) g.es.length=B2 at kD
  generalize arr (LK g p (j+1)) g.es.length=A1 at kD
  generalize arr (RK g p (-1) (j+1)) g.es.length=B1 at kD
  generalize Pg:gE p (j+1+1)=L2 at kD
  generalize Ph:oN g p (j+1+1)=H2 at kD
  generalize gE p (j+1)=L1 at kD
  generalize oN g p (j+1)=H1 at kD
  generalize vT (ee g p g.n.toNat)=VE at DY hvl
  unfold HJ HK at kD
  repeat' (first|(show cl _ (.region 15 _ _) _ _;(refine dW hX 54 4 302 300 rfl rfl rfl (by first|exact .inl rfl|exact .inr rfl) (by decide) (by decide) ?_;simp only [List.set_cons_zero,List.set_cons_succ,go_sem,simprocAttr,hb,hx,hv,DY,hvl,vH]);(refine dW hX 54 5 303 301 rfl rfl rfl (by first|exact .inl rfl|exact .inr rfl) (by decide) (by decide) ?_;simp only [List.set_cons_zero,List.set_cons_succ,go_sem,simprocAttr,hb,hx,hv,DY,hvl,vH]))|refine Rn.p ?_|(with_reducible apply And.intro)|((first|(refine hK _ ?_;clear hK K)|with_reducible intro K hK|refine Rs.p ?_|((with_reducible first|apply oP|apply oQ);exact rfl)|refine aa hX hC hP (hIx) rfl rfl rfl (by simp only [go_sem,simprocAttr,hb,hx,hv,DY,hvl,vH]) rfl ?_|(refine az hX hC hP [(10000,54),(10001,59),(10002,63),(10003,300),(10004,301),(10005,302),(10006,303)] (kD) rfl rfl rfl ?_ ?_ ?_ ?_ ?_ ?_ ?_ ?_ ?_ ?_ ?_ ?_ ?_ ?_;(focus (simp only [go_sem,simprocAttr,hb,hx,hv,DY,hvl,vH];done));(iterate 12 (focus (simp [go_sem,simprocAttr,hb,hx,hv,DY,hvl,vH];done)));try simp only [List.map_cons,List.map_nil]));try simp only [go_sem,simprocAttr,hb,hx,hv,DY,hvl,vH])|((with_reducible refine oD ?_ ?_);kernel_rfl)|((with_reducible intro h);try simp only [go_sem,simprocAttr,hb,hx,hv,DY,hvl,vH] at h)|omega|intro h)
  refine ⟨j+1,by omega, ?_,by omega⟩
  rw [GA,hq1,EU,Pf,Pg,Ph]
  refine Le.of ?_ ?_<;>simp [go_sem,simprocAttr,hb,hx,hv,DY,hvl,vH]
 have hb:decide ((j:Int)<(N1:Int))=false:=decide_eq_false (by omega)
 obtain rfl:j=N1:=by omega
 have G9:j+1=g.n.toNat:=by omega
 rw [G9]
 have mq:=fH (p:=p) (k:=g.n.toNat)
 have xP:=fJ (g:=g) (p:=p) (k:=g.n.toNat)
 have Nw:=(qm hrun (k:=g.n.toNat) (by omega)).1
 have Pj:F5 g p=⟨arr (LK g p g.n.toNat) g.es.length,(arr (RK g p (-1) g.n.toNat) g.es.length).map (kE g p),gE p g.n.toNat++ [(s0:Int)],oN g p g.n.toNat++ [ak p j]⟩:=by unfold F5;rw [hs0,KF]
 have Pk:(arr (RK g p (-1) g.n.toNat) g.es.length).length=g.es.length:=cC
 rw [Pj]
 have hrf:∀f,kE g p f=if f= -1 then (cK p g.n.toNat:Int) else f:=fun f=>rfl
 generalize arr (RK g p (-1) g.n.toNat) g.es.length=RA at Pk
 generalize arr (LK g p g.n.toNat) g.es.length=LA
 generalize gE p g.n.toNat=LO at mq
 generalize oN g p g.n.toNat=HI at xP
 generalize fI g p j=E1
 generalize lE g p j=G1
 generalize cK p g.n.toNat=cc at mq xP Nw hrf
 repeat' (first|refine Rn.p ?_|(with_reducible apply And.intro)|((first|(refine hK _ ?_;clear hK K)|with_reducible intro K hK|refine Rs.p ?_|((with_reducible first|apply oP|apply oQ);exact rfl));try simp only [go_sem,simprocAttr,hb,mq])|((with_reducible refine oD ?_ ?_);kernel_rfl)|((with_reducible intro h);try simp only [go_sem,simprocAttr,hb,mq] at h)|omega|intro h)
 refine ag (fun i:Nat=>i≤RA.length) (fun i=>⟨[(4, .ptr 4 0),(12, .ptr 54 0),(17,eN cc),(175, .ref 63),(176,eN RA.length),(177,eN i)], [(54, .box [.d (sI E1), .d (sI G1), .ref 59, .ref 63, .ref 156, .ref 164]),(59, .own 3 1 (LA.map rI)),(63, .own 3 1 ((lF RA (kE g p) i).map rI)),(156, .tip 3 1 ((LO++ [(s0:Int)]).map rI)),(164, .own 3 1 ((HI++ [ak p j]).map rI)),(4, .box [.nil 3, .nil 3, .nil 3, .nil 3])]⟩) (fun i=>RA.length - i) 0 (by omega) ?_ ?_
 ·refine Le.of ?_ ?_<;>simp [go_sem,simprocAttr,lF,rI]
 rintro i hi
 rcases Nat.lt_or_ge i RA.length with hil|J7
 ·have vJ:decide ((i:Int)<(RA.length:Int))=true:=decide_eq_true (by omega)
  have hml:=DW (l:=RA) (f:=kE g p) (j:=i)
  have hma:=Ae (f:=kE g p) hil
  by_cases AJ:RA.getD i 0= -1
  ·have au:decide ((lF RA (kE g p) i).getD i 0= -1)=true:=decide_eq_true (by rw [hma,AJ])
   have dI:=ur (f:=kE g p) hil
   rw [hrf,if_pos AJ] at dI
   generalize lF RA (kE g p) i=M at hml au dI
   repeat' (first|refine Rn.p ?_|(with_reducible apply And.intro)|((first|(refine hK _ ?_;clear hK K)|with_reducible intro K hK|refine Rs.p ?_|((with_reducible first|apply oP|apply oQ);exact rfl));try simp only [go_sem,simprocAttr,vJ,au,hml])|((with_reducible refine oD ?_ ?_);kernel_rfl)|((with_reducible intro h);try simp only [go_sem,simprocAttr,vJ,au,hml] at h)|omega|intro h)
   refine ⟨i+1,by omega, ?_,by omega⟩
   rw [dI]
   refine Le.of ?_ ?_<;>simp [go_sem,simprocAttr,vJ,au,hml,rI]
  ·have au:decide ((lF RA (kE g p) i).getD i 0= -1)=false:=decide_eq_false (by rw [hma];exact AJ)
   have dI:=BD (f:=kE g p) hil (by rw [hrf,if_neg AJ])
   generalize lF RA (kE g p) i=M at hml au dI
   repeat' (first|refine Rn.p ?_|(with_reducible apply And.intro)|((first|(refine hK _ ?_;clear hK K)|with_reducible intro K hK|refine Rs.p ?_|((with_reducible first|apply oP|apply oQ);exact rfl));try simp only [go_sem,simprocAttr,vJ,au,hml])|((with_reducible refine oD ?_ ?_);kernel_rfl)|((with_reducible intro h);try simp only [go_sem,simprocAttr,vJ,au,hml] at h)|omega|intro h)
   refine ⟨i+1,by omega, ?_,by omega⟩
   rw [dI]
   refine Le.of ?_ ?_<;>simp [go_sem,simprocAttr,vJ,au,hml,rI]
 have vJ:decide ((i:Int)<(RA.length:Int))=false:=decide_eq_false (by omega)
 obtain rfl:i=RA.length:=by omega
 rw [DX]
 repeat' (first|refine Rn.p ?_|(with_reducible apply And.intro)|((first|(refine hK _ ?_;clear hK K)|with_reducible intro K hK|refine Rs.p ?_|((with_reducible first|apply oP|apply oQ);exact rfl));try simp only [go_sem,simprocAttr,vJ,kF])|((with_reducible refine oD ?_ ?_);kernel_rfl)|((with_reducible intro h);try simp only [go_sem,simprocAttr,vJ,kF] at h)|omega|intro h)
end Go.Ab
end
section
namespace Go.Ab
open Go.Proofs
set_option maxRecDepth 10000
set_option linter.unusedSectionVars false
section
variable (g:Gr) (p:Pl)
def cN:Nat:=cK p g.n.toNat
def Lf (e:Int):Int:=LK g p g.n.toNat e
def Rf (e:Int):Int:=RK g p (cN g p) g.n.toNat e
def Fo:List Int:=gE p g.n.toNat++ [ak p 0]
def HL:List Int:=oN g p g.n.toNat++ [ak p (g.n.toNat - 1)]
def Ny (f:Int):Int:=(Fo g p).getD f.toNat 0
def Pm (f:Int):Int:=(HL g p).getD f.toNat 0
end
section
variable {g:Gr} {p:Pl}
theorem Fp:(Fo g p).length=cN g p+1:=by simp [Fo,fH,cN]
variable (h:cu g p) (hI:ku g=true)
include h hI
theorem JF {a:Int} (ha:(eu g p).F3 a):∃k u b v,k<g.n.toNat∧lp g a=ak p k∧bw p (ak p k)=u++a::b::v:=by
 obtain ⟨x,u,b,v,e⟩:=ha
 by_cases hx:oU g x
 ·obtain ⟨k,hk,rfl⟩:=fG h.2.1 hx.1 hx.2
  rw [gl hx] at e
  exact ⟨k,u,b,v,hk,(nk h hk e).1,e⟩
 ·rw [oJ hx] at e;cases u<;>cases e
theorem Af {a:Int} (ha:(eu g p).F3 a):∃f:Nat,1≤f∧f<cN g p∧∀r,RK g p r g.n.toNat a=f:=by
 obtain ⟨k,u,b,v,hk,_,e⟩:=JF h hI ha
 have hl:(bw p (ak p k)).length=u.length+(v.length+2):=by rw [e];simp
 have E3:cK p (k+1)=cK p k+((bw p (ak p k)).length - 1):=rfl
 obtain ⟨d,hd⟩:=Nat.exists_eq_add_of_le (show k+1≤g.n.toNat by omega)
 have hmo:=lX (p:=p) (k:=k+1) (d:=d)
 rw [← hd] at hmo
 have hp:0<cK p k:=lz
 have H8:cN g p=cK p g.n.toNat:=rfl
 exact ⟨cK p k+u.length,by omega,by omega,fun r=>by rw [gP h hk e (by omega) (Nat.le_refl _)];omega⟩
theorem DZ {f:Nat} (h1:1≤f) (h2:f<cN g p):∃a,(eu g p).F3 a∧Rf g p a=f:=by
 have key:∀n,n≤g.n.toNat→f<cK p n→∃k,k<n∧cK p k≤f∧f<cK p (k+1):=by
  intro n
  induction n with
  |zero=>intro _ h3;have:f<1:=h3;omega
  |succ n ih=>
   intro h3 h4
   by_cases h5:f<cK p n
   ·obtain ⟨k,h6,h7⟩:=ih (by omega) h5;exact ⟨k,by omega,h7⟩
   ·exact ⟨n,by omega,by omega,h4⟩
 obtain ⟨k,hk,h3,h4⟩:=key g.n.toNat (Nat.le_refl _) h2
 have E3:cK p (k+1)=cK p k+((bw p (ak p k)).length - 1):=rfl
 have hu:f - cK p k+1<(bw p (ak p k)).length:=by omega
 have e:bw p (ak p k)=(bw p (ak p k)).take (f - cK p k)++(bw p (ak p k))[f - cK p k]::(bw p (ak p k))[f - cK p k+1]::(bw p (ak p k)).drop (f - cK p k+2):=by
  rw [← List.drop_eq_getElem_cons hu, ← List.drop_eq_getElem_cons (by omega),List.take_append_drop]
 have hx:=aI h.2.1 (show k<g.n.toNat by omega)
 refine ⟨(bw p (ak p k))[f - cK p k],⟨ak p k,_,_,_,by rw [gl hx];exact e⟩, ?_⟩
 unfold Rf
 rw [gP h (by omega) e (by omega) (Nat.le_refl _),List.length_take]
 omega
theorem eA:(eu g p).gJ (Lf g p) (Rf g p) 0 (cN g p) (Ny g p):=by
 have F:=nq h hI (r:=cN g p) (.inr (Int.le_refl _))
 exact {F with
  new:=fun {x u a b v} e=>by
   obtain ⟨h1,h2,h3⟩:=F.new e
   obtain ⟨f,_,h5,h6⟩:=Af h hI (a:=a) ⟨x,u,b,v,e⟩
   have h7:Rf g p a=f:=h6 _
   have h8:RK g p (cN g p) g.n.toNat a=f:=h6 _
   refine ⟨?_,h2,h3⟩
   rw [h8] at h1
   show (gE p g.n.toNat++ [ak p 0]).getD (Rf g p a).toNat 0=x
   rw [h7, ← h1,Int.toNat_natCast,fD (by rw [fH];exact h5)]}
theorem D2 {e:Int} (he:0≤e∧e<g.es.length):kE g p (RK g p (-1) g.n.toNat e)=Rf g p e:=by
 have F:=nq h hI (r:= -1) (.inl (by omega))
 have F':=nq h hI (r:=cN g p) (.inr (Int.le_refl _))
 rcases DK (mB h hI) F F' (d:=_+1) (Nat.lt_succ_self _) (e:=e) he with ⟨h1,h2⟩|⟨a,h1,_,h2,h3⟩
 ·rw [h1];unfold kE Rf;rw [if_pos rfl,h2];rfl
 ·obtain ⟨f,h4,_,h5⟩:=Af h hI h1
  unfold kE Rf
  rw [h2,h3,h5,h5,if_neg (by omega)]
theorem He:F5 g p=⟨arr (Lf g p) g.es.length,arr (Rf g p) g.es.length,Fo g p,HL g p⟩:=by
 unfold F5
 have:(arr (RK g p (-1) g.n.toNat) g.es.length).map (kE g p)=arr (Rf g p) g.es.length:=by
  unfold arr
  rw [List.map_map]
  refine List.map_congr_left fun i hi=> ?_
  have:=List.mem_range.1 hi
  exact D2 h hI (e:=(i:Int)) (by omega)
 rw [this];rfl
theorem y4 {x x':Int} {u u' v v':List Int} {a b a' b':Int} (e1:(eu g p).ins x=u++a::b::v) (e2:(eu g p).ins x'=u'++a'::b'::v') (hR:Rf g p a=Rf g p a'):x=x':=by
 have hok:=mB h hI
 have F:=eA h hI
 obtain ⟨ha,Cr⟩:=(hok.b8 x a).1 (by rw [e1];simp)
 obtain ⟨hb,td⟩:=(hok.b8 x b).1 (by rw [e1];simp)
 obtain ⟨Ct,JG⟩:=(hok.b8 x' a').1 (by rw [e2];simp)
 obtain ⟨hb',MC⟩:=(hok.b8 x' b').1 (by rw [e2];simp)
 by_cases hne:a=a'
 ·rw [← Cr, ← JG,hne]
 ·exfalso
  have l1:=F.mU e1
  have l2:=F.mU e2
  rcases Bb hok F ha Ct hne with h1|h1|h1|h1
  ·rw [Cr, ← td] at h1
   exact om hok F hb Ct h1 (by rw [← hR,l1];exact .refl)
  ·rw [JG, ← MC] at h1
   exact om hok F hb' ha h1 (by rw [hR,l2];exact .refl)
  ·rw [hR] at h1
   exact ld hok F Ct Ct h1 h1
  ·rw [← hR] at h1
   exact ld hok F ha ha h1 h1
theorem BH {k:Nat} (hk:k<g.n.toNat) {a:Int} (ha:a∈(cw g p (ak p k)).dropLast):∃u b v,cw g p (ak p k)=u++a::b::v:=by
 have hne:cw g p (ak p k)≠ []:=fun h0=>by rw [h0] at ha;cases ha
 obtain ⟨w,c,hw⟩:=cy hne
 rw [hw,List.dropLast_concat] at ha
 obtain ⟨u,v,rfl⟩:=List.append_of_mem ha
 cases v with
 |nil=>exact ⟨u,c, [],by rw [hw];simp⟩
 |cons b v=>exact ⟨u,b,v++ [c],by rw [hw];simp⟩
theorem qO {k:Nat} (hk:k<g.n.toNat) {f:Int} (hf:f∈je g p k):1≤f∧∃u a b v,cw g p (ak p k)=u++a::b::v∧Rf g p a=f:=by
 obtain ⟨a,ha,rfl⟩:=List.mem_map.1 hf
 obtain ⟨u,b,v,e⟩:=BH h hI hk ha
 have uL:=xN h hk (by rw [e];simp)
 obtain ⟨j,hj,et⟩:=oM h hk (a:=a) (by rw [e];simp)
 have h1:RK g p (-1) k a=RK g p (-1) g.n.toNat a:=by
  rw [eo h (by omega) et (j:=g.n.toNat) (by omega) (by omega),eo h (by omega) et (j:=k) (by omega) (by omega)]
 obtain ⟨A,C,e1,hne,_⟩:=ke h uL hk
 have h2:=vF h hI (k:=k) (by omega) hk a (by
  rw [e1]
  by_cases hC:C= []
  ·subst hC;rw [List.append_nil,cV h hne];simp [ha]
  ·rw [cV h hC];simp [(List.dropLast_sublist _).subset ha])
 refine ⟨h2.1,u,a,b,v,e, ?_⟩
 have MD:0≤a∧a<g.es.length:=((iB h (aI h.2.1 hk)).2 a).1 (by rw [e];simp) |>.1
 rw [← D2 h hI MD, ← h1]
 unfold kE
 rw [if_neg (by omega)]
theorem xR:∀ {k:Nat},k≤g.n.toNat→(oN g p k).getD 0 0=ak p (g.n.toNat - 1)
 |0,_=>rfl
 |k+1,hk=>by
  have ih:=xR (k:=k) (by omega)
  have hl:(oN g p k).length=cK p k:=fJ
  have hp:0<cK p k:=lz
  rw [oN,fD (by rw [jK];omega)]
  unfold jJ
  rw [lZ fun i hi=> ?_,ih]
  have:=(qO h hI (k:=k) (by omega) (f:=(je g p k).getD i 0) (aG hi)).1
  omega
theorem D3 {j:Nat} (hj:j<g.n.toNat) {f:Int} (hf:f∈je g p j):∀ {k:Nat},j+1≤k→k≤g.n.toNat→(oN g p k).getD f.toNat 0=ak p j
 |0,h1,_=>by omega
 |k+1,h1,hk=>by
  have G4:=vG h hI hj f hf
  have hl:(oN g p j).length=cK p j:=fJ
  have hlk:(oN g p k).length=cK p k:=fJ
  obtain ⟨d,rfl⟩:=Nat.exists_eq_add_of_le (show j≤k by omega)
  have hmo:=lX (p:=p) (k:=j) (d:=d)
  rw [oN,fD (by rw [jK];omega)]
  unfold jJ
  by_cases hd:d=0
  ·subst hd
   obtain ⟨i,hi,e⟩:=List.mem_iff_getElem.1 hf
   have e2:(je g p (j+0)).getD i 0=f:=by rw [List.getD_eq_getElem?_getD,List.getElem?_eq_getElem (by exact hi)];exact e
   have:∀n,i<n→n≤(je g p j).length→(iC (oN g p j) (je g p j) (fun _=>ak p j) n).getD f.toNat 0=ak p j:=by
    intro n
    induction n with
    |zero=>intro h2;omega
    |succ n ih=>
     intro h2 h3
     rw [iC,List.getD_eq_getElem?_getD,List.getElem?_set]
     by_cases h4:((je g p j).getD n 0).toNat=f.toNat
     ·rw [if_pos h4,if_pos (by rw [fh];omega)];rfl
     ·rw [if_neg h4, ← List.getD_eq_getElem?_getD]
      by_cases h5:i=n
      ·subst h5;exact absurd (by rw [show (je g p j).getD i 0=f from e2]) h4
      ·exact ih (by omega) (by omega)
   exact this _ hi (Nat.le_refl _)
  ·rw [lZ fun i hi e=> ?_,D3 hj hf (k:=j+d) (by omega) (by omega)]
   obtain ⟨g1,u,a,b,v,g2,g3⟩:=qO h hI (k:=j+d) (by omega) (f:=(je g p (j+d)).getD i 0) (aG hi)
   obtain ⟨g4,u',a',b',v',g5,g6⟩:=qO h hI hj hf
   have:=y4 h hI (x:=ak p (j+d)) (x':=ak p j) (by rw [gD (aI h.2.1 (by omega))];exact g2) (by rw [gD (aI h.2.1 hj)];exact g5) (by rw [g3,g6];omega)
   have:=dD h.2.1 (show j+d<g.n.toNat by omega) hj this
   omega
theorem JH:(eu g p).Hi (Rf g p) 0 (cN g p) (Pm g p) where
 mid:=fun {x u a b v} e=>by
  by_cases hx:oU g x
  rotate_left
  ·rw [lV hx] at e;cases u<;>cases e
  obtain ⟨k,hk,rfl⟩:=fG h.2.1 hx.1 hx.2
  rw [gD hx] at e
  have ha:a∈(cw g p (ak p k)).dropLast:=by
   rw [e,show u++a::b::v=(u++ [a])++(b::v) by simp,cV h (by simp)];simp
  have hf:RK g p (-1) k a∈je g p k:=List.mem_map_of_mem ha
  obtain ⟨j,hj,et⟩:=oM h hk (a:=a) (by rw [e];simp)
  have h1:RK g p (-1) k a=RK g p (-1) g.n.toNat a:=by
   rw [eo h (by omega) et (j:=g.n.toNat) (by omega) (by omega),eo h (by omega) et (j:=k) (by omega) (by omega)]
  have h2:=(qO h hI hk hf).1
  have MD:0≤a∧a<g.es.length:=((iB h (aI h.2.1 hk)).2 a).1 (by rw [e];simp) |>.1
  have h3:Rf g p a=RK g p (-1) k a:=by
   rw [← D2 h hI MD, ← h1];unfold kE;rw [if_neg (by omega)]
  have h4:=D3 h hI hk hf (k:=g.n.toNat) (by omega) (Nat.le_refl _)
  have G4:=vG h hI hk _ hf
  have hl:(oN g p k).length=cK p k:=fJ
  obtain ⟨d,hd⟩:=Nat.exists_eq_add_of_le (show k≤g.n.toNat by omega)
  have hmo:=lX (p:=p) (k:=k) (d:=d)
  rw [← hd] at hmo
  show (oN g p g.n.toNat++_).getD (Rf g p a).toNat 0=_
  rw [h3,fD (by rw [fJ];omega),h4]
 h0:=by
  have hp:0<cK p g.n.toNat:=lz
  show (oN g p g.n.toNat++_).getD 0 0=_
  rw [fD (by rw [fJ];exact hp),xR h hI (Nat.le_refl _)];rfl
 h1:=by
  show (oN g p g.n.toNat++_).getD ((cN g p:Int)).toNat 0=_
  rw [Int.toNat_natCast,show cN g p=(oN g p g.n.toNat).length by rw [fJ];rfl]
  exact jL
theorem Fq:Ny g p (cN g p)=ak p 0:=by
 show (gE p g.n.toNat++ [ak p 0]).getD ((cN g p:Int)).toNat 0=_
 rw [Int.toNat_natCast,show cN g p=(gE p g.n.toNat).length by rw [fH];rfl]
 exact jL
theorem D4 {e:Int} (he:0≤e∧e<g.es.length):1≤Rf g p e∧Rf g p e≤cN g p:=by
 have hp:0<cK p g.n.toNat:=lz
 rcases DK (mB h hI) (eA h hI) (eA h hI) (d:=_+1) (Nat.lt_succ_self _) (e:=e) he with ⟨h1,_⟩|⟨a,h1,_,h2,_⟩
 ·rw [h1];have:cN g p=cK p g.n.toNat:=rfl;omega
 ·obtain ⟨f,h3,h4,h5⟩:=Af h hI h1
  have h5:Rf g p a=f:=h5 _
  omega
theorem Ag {e:Int} (he:0≤e∧e<g.es.length):0≤Lf g p e∧Lf g p e<cN g p:=by
 have hp:0<cK p g.n.toNat:=lz
 rcases F4 (mB h hI) (eA h hI) (eA h hI) (d:=_+1) (Nat.lt_succ_self _) (e:=e) he with ⟨h1,_⟩|⟨a,h1,h2,_⟩
 ·rw [h1];have:cN g p=cK p g.n.toNat:=rfl;omega
 ·obtain ⟨f,h3,h4,h5⟩:=Af h hI h1
  have h5:Rf g p a=f:=h5 _
  omega
theorem F9:(cN g p:Int)=g.es.length - g.n+2:=by
 have hm:=aE h.1
 have hn:=aT hm
 have tQ:bw p (ak p (g.n.toNat - 1))= []:=(ew h hI (aI h.2.1 (by omega))).2 rfl
 have key:∀k,k<g.n.toNat→(cK p k:Int)=1+((List.range k).flatMap fun j=>bw p (ak p j)).length - k:=by
  intro k
  induction k with
  |zero=>intro _;simp [cK]
  |succ k ih=>
   intro hk
   have hO:bw p (ak p k)≠ []:=fun h1=>by
    have:=(ew h hI (aI h.2.1 (show k<g.n.toNat by omega))).1 h1
    have:=dD h.2.1 (show k<g.n.toNat by omega) (by omega) this
    omega
   have:=List.length_pos_iff.2 hO
   have ih:=ih (by omega)
   have e1:((List.range (k+1)).flatMap fun j=>bw p (ak p j))=((List.range k).flatMap fun j=>bw p (ak p j))++bw p (ak p k):=by rw [List.range_succ,List.flatMap_append];simp
   rw [e1,List.length_append,cK]
   omega
 have hall:((List.range (g.n.toNat - 1)).flatMap fun j=>bw p (ak p j)).length=g.es.length:=by
  have ck:∀k,k≤g.n.toNat→((List.range k).flatMap fun j=>bw p (ak p j)).Nodup:=by
   intro k
   induction k with
   |zero=>intro _;simp
   |succ k ih=>
    intro hk
    rw [List.range_succ,List.flatMap_append,List.nodup_append]
    refine ⟨ih (by omega),by simpa using DP h (by omega),fun a ha b hb e=> ?_⟩
    subst e
    obtain ⟨j,hj,hja⟩:=List.mem_flatMap.1 ha
    have hj:=List.mem_range.1 hj
    have hb:a∈bw p (ak p k):=by simpa using hb
    have t1:=(iT h (by omega) hja).2
    have t2:=(iT h (by omega) hb).2
    have:=dD h.2.1 (show j<g.n.toNat by omega) (by omega) (t1.symm.trans t2)
    omega
  have JI:∀e:Int,0≤e→e<g.es.length→e∈((List.range (g.n.toNat - 1)).flatMap fun j=>bw p (ak p j)):=fun e h1 h2=>by
   have ht:=bL hm (i:=e.toNat) (by omega)
   obtain ⟨k,hk,e1⟩:=fG h.2.1 ht.1 ht.2
   have e1:ak p k=lp g e:=e1
   obtain ⟨u,v,e2⟩:=Ad h hk ⟨h1,h2⟩ e1.symm
   refine List.mem_flatMap.2 ⟨k,List.mem_range.2 ?_,by rw [e2];simp⟩
   refine Decidable.byContradiction fun hc=> ?_
   obtain rfl:k=g.n.toNat - 1:=by omega
   rw [tQ] at e2;cases u<;>cases e2
  have h1:=pG JI
  have h2:=e9 (m:=(List.range g.es.length).map Int.ofNat) (ck (g.n.toNat - 1) (by omega)) fun e he=>by
   obtain ⟨j,hj,hja⟩:=List.mem_flatMap.1 he
   have hj:=List.mem_range.1 hj
   have:=(iT h (by omega) hja).1
   exact List.mem_map.2 ⟨e.toNat,List.mem_range.2 (by omega),by simp;omega⟩
  rw [List.length_map,List.length_range] at h2
  omega
 have h1:=key (g.n.toNat - 1) (by omega)
 rw [hall] at h1
 have h2:cN g p=cK p (g.n.toNat - 1):=by
  show cK p g.n.toNat=_
  rw [show g.n.toNat=(g.n.toNat - 1)+1 by omega,cK,show g.n.toNat - 1+1 - 1=g.n.toNat - 1 by omega,tQ];rfl
 omega
theorem Hf (h0:0<g.es.length):2≤g.n:=by
 have hm:=aE h.1
 have ht:=bL hm (i:=0) h0
 have hh:=bX hm (i:=0) h0
 obtain ⟨k,hk,e⟩:=fG h.2.1 hh.1 hh.2
 obtain ⟨j,hj,_⟩:=sX h (e:=0) (by omega) hk e.symm
 omega
end
end Go.Ab
end
section
namespace Go.Ab
open Go.Proofs
set_option maxRecDepth 10000
def D5 (q:Nat→Bool):Nat→Nat
 |0=>0
 |n+1=>D5 q n ||| (if q n then 2 ^ n else 0)
theorem oO {q:Nat→Bool} {y:Nat} :∀ {n:Nat},(D5 q n).testBit y=(decide (y<n)&&q y)
 |0=>by simp [D5]
 |n+1=>by
  rw [D5,Nat.testBit_or,oO]
  by_cases h:y=n
  ·subst h
   cases hq:q y<;>simp [Nat.testBit_two_pow_self]
  ·have h2:(if q n then 2 ^ n else 0).testBit y=false:=by
    split
    ·rw [Nat.testBit_two_pow];exact decide_eq_false fun e=>h e.symm
    ·simp
   rw [h2,Bool.or_false]
   congr 1
   rw [decide_eq_decide];omega
inductive BR (g:Gr) (both:Bool) (c:Nat→Bool) (x:Nat):Nat→Prop
 |refl:BR g both c x x
 |fwd {i:Nat} :i<g.es.length→c i=true→BR g both c x (tl g i).toNat→BR g both c x (hd g i).toNat
 |Nz {i:Nat} :i<g.es.length→c i=true→both=true→BR g both c x (hd g i).toNat→BR g both c x (tl g i).toNat
theorem BR.trans {g:Gr} {both:Bool} {c:Nat→Bool} {x y z:Nat} (h1:BR g both c x y) (h2:BR g both c y z):BR g both c x z:=by
 induction h2 with
 |refl=>exact h1
 |fwd a b _ ih=>exact .fwd a b ih
 |Nz a b d _ ih=>exact .Nz a b d ih
open Classical in
noncomputable def ME (g:Gr) (both:Bool) (c:Nat→Bool) (x:Nat):Nat:=D5 (fun y=>decide (BR g both c x y)) g.n.toNat
noncomputable def Pn (g:Gr) (both:Bool) (c:Nat→Bool):List Nat:=(List.range g.n.toNat).map (ME g both c)
open Classical in
theorem Ke {g:Gr} {both:Bool} {c:Nat→Bool} {x y:Nat} :(ME g both c x).testBit y=true↔y<g.n.toNat∧BR g both c x y:=by
 unfold ME
 rw [oO]
 simp
def JJ (g:Gr) (both:Bool) (c:Nat→Bool) (a:List Nat):Nat→List Nat × Bool
 |0=>(a,false)
 |k+1=>
  let s:=JJ g both c a k
  if c k=true then
   let t:=s.1.getD (tl g k).toNat 0 ||| s.1.getD (hd g k).toNat 0
   let h:=if both=true then t else s.1.getD (hd g k).toNat 0
   ((s.1.set (tl g k).toNat t).set (hd g k).toNat h,s.2||(decide (t≠s.1.getD (tl g k).toNat 0)||decide (h≠s.1.getD (hd g k).toNat 0)))
  else s
structure NA (g:Gr) (both:Bool) (c:Nat→Bool) (a:List Nat):Prop where
 len:a.length=g.n.toNat
 own:∀x,x<g.n.toNat→(a.getD x 0).testBit x=true
 snd:∀x y,x<g.n.toNat→(a.getD x 0).testBit y=true→y<g.n.toNat∧BR g both c x y
theorem NA.lt {g:Gr} {both:Bool} {c:Nat→Bool} {a:List Nat} (h:NA g both c a) (hn:g.n.toNat≤64) (x:Nat):a.getD x 0<18446744073709551616:=by
 by_cases hx:x<g.n.toNat
 ·have:a.getD x 0<2 ^ 64:=Nat.lt_pow_two_of_testBit _ fun i hi=>by
   cases hb:(a.getD x 0).testBit i with
   |false=>rfl
   |true=>have:=(h.snd x i hx hb).1;omega
  simpa using this
 ·rw [List.getD_eq_getElem?_getD,List.getElem?_eq_none (by rw [h.len];omega)];simp
def Po (a:List Nat):Nat:=a.foldr (· + ·) 0
end Go.Ab
end
section
namespace Go.Ab
open Go.Proofs
attribute [local congr] ACall.congr gd.congr Nx.congr
set_option maxRecDepth 20000
set_option maxHeartbeats 8000000
def rU (n:Nat):List D:= [.sc (.int .u64 (n:Int))]
def eU (n:Nat):AV:= .d (.sc (.int .u64 (n:Int)))
def sU (l:List Nat):D:= .sl 1 (l.map rU)
theorem getD_rU (ps:List Nat) (i:Nat):(ps.map rU).getD i [.sc (.int .u64 0)]= [.sc (.int .u64 ((ps.getD i 0:Nat):Int))]:=by
 rw [List.getD_eq_getElem?_getD,List.getElem?_map,List.getD_eq_getElem?_getD]
 cases ps[i]? <;>rfl
attribute [go_sem] eU sU getD_rU InU
end Go.Ab
end
section
namespace Go.Ab
open Go.Proofs
attribute [local congr] ACall.congr gd.congr Nx.congr
set_option maxRecDepth 20000
set_option maxHeartbeats 8000000
def MF (k:Nat):List Nat:=(List.range k).map fun x=>2 ^ x
def NB (g:Gr):List Nat:=if aN g=true then MF g.n.toNat else []
theorem FY {l:List Nat} :∀r∈l.map rU,∀x∈r,∃v,x=D.sc v:=by
 intro r hr x hx
 obtain ⟨y,_,rfl⟩:=List.mem_map.1 hr
 simp only [rU,List.mem_singleton] at hx
 exact ⟨_,hx⟩
noncomputable def Qk (g:Gr):List Nat:=if aN g=true then Pn g false (fun _=>true) else []
end Go.Ab
end
section
namespace Go.Ab
open Go.Proofs
set_option maxRecDepth 10000
set_option linter.unusedSectionVars false
def Pp (s:Nat) (x:Int):Bool:=decide (0≤x)&&decide (x<64)&&s.testBit x.toNat
section
variable {P:PS} (h:P.Ok) {L R:Int→Int} {f0 f1:Int} {low:Int→Int} (F:P.gJ L R f0 f1 low)
def Fs (P:PS) (R:Int→Int) (f:Int):Nat→Nat
 |0=>0
 |j+1=>if R (P.sh j)=f then j+1 else Fs P R f j
theorem Ah {i:Nat} {f:Int} (hf:R (P.sh i)=f):∀ {m:Nat},i<m→i+1≤Fs P R f m
 |0,h=>by omega
 |m+1,h=>by
  unfold Fs
  split
  ·omega
  ·rename_i hne
   by_cases e:i=m
   ·subst e;exact absurd hf hne
   ·exact Ah hf (by omega)
theorem D6 {i:Nat} {f:Int} :∀ {m:Nat},(∀j,j<m→R (P.sh j)=f→j<i)→Fs P R f m≤i
 |0,_=>Nat.zero_le _
 |m+1,hj=>by
  unfold Fs
  split
  ·rename_i e;exact hj m (by omega) e
  ·exact D6 fun j h1 h2=>hj j (by omega) h2
include h F
theorem Ft {e:Int} (he:P.E e):Fs P R (L e) P.m<Fs P R (R e) P.m:=by
 obtain ⟨i,hi,rfl⟩:=dL h he
 have h1:=Ah (P:=P) (R:=R) (i:=i) (f:=R (P.sh i)) rfl hi
 have h2:Fs P R (L (P.sh i)) P.m≤i:=D6 fun j hj hR=>tT h F hj hi (by rw [hR];exact .refl)
 omega
end
theorem s6 {f:Edge→Int} {g:Gr} {x:Int} (h:∀y,y∈aV f g↔y=x):aV f g= [x]:=by
 have hn:=ni (f:=f) (g:=g)
 match hb:aV f g with
 | []=>have:=(h x).2 rfl;rw [hb] at this;cases this
 | [a]=>have:=(h a).1 (by rw [hb];simp);rw [this]
 |a::c::l=>
  have h1:=(h a).1 (by rw [hb];simp)
  have h2:=(h c).1 (by rw [hb];simp)
  rw [hb,h1,h2] at hn
  simp at hn
theorem pV {g:Gr} {y:Int} :y∈aV (·.1) g↔(0≤y∧y<g.n)∧∀i,i<g.es.length→tl g i≠y:=by
 rw [fY]
 refine and_congr_right fun _=> ?_
 constructor
 ·intro h i hi e
  have:((i:Nat):Int)∈aL (fun e=>e.1) g.es g.es.length y:=bR.2 ⟨by omega,by simp only [Int.toNat_natCast];exact e⟩
  rw [h] at this;cases this
 ·intro h
  refine List.eq_nil_iff_forall_not_mem.2 fun e he=> ?_
  obtain ⟨h1,h2⟩:=bR.1 he
  exact h e.toNat (by omega) h2
section
variable (g:Gr) (p:Pl)
def kz:Gr:=⟨(cN g p:Int)+1,(List.range g.es.length).map fun i:Nat=>(Lf g p i,Rf g p i)⟩
end
section
variable {g:Gr} {p:Pl}
theorem kf:(kz g p).es.length=g.es.length:=by simp [kz]
theorem y5 {i:Nat} (hi:i<g.es.length):tl (kz g p) i=Lf g p i:=by
 show ((kz g p).es.getD i (0,0)).1=_
 simp [kz,List.getD_eq_getElem?_getD,List.getElem?_range hi]
theorem y6 {i:Nat} (hi:i<g.es.length):hd (kz g p) i=Rf g p i:=by
 show ((kz g p).es.getD i (0,0)).2=_
 simp [kz,List.getD_eq_getElem?_getD,List.getElem?_range hi]
variable (h:cu g p) (hI:ku g=true)
include h hI
theorem Ai (h0:0<g.es.length) (hl:g.es.length≤60):aN (kz g p)=true:=by
 have he:=F9 h hI
 have hn:=Hf h hI h0
 unfold aN
 have hn:(kz g p).n=(cN g p:Int)+1:=rfl
 rw [kf,hn]
 simp only [Bool.and_eq_true,decide_eq_true_eq,Bool.not_eq_true',List.any_eq_false]
 refine ⟨⟨⟨by omega,by omega⟩,by omega⟩,fun e hm=> ?_⟩
 obtain ⟨i,hi,rfl⟩:=List.mem_map.1 hm
 have hi:=List.mem_range.1 hi
 have h1:=Ag h hI (e:=(i:Int)) (by omega)
 have h2:=D4 h hI (e:=(i:Int)) (by omega)
 simp only [nT,tf,hn,Bool.or_eq_true,decide_eq_true_eq]
 omega
theorem y7 (hm:aN (kz g p)=true):mu (kz g p)=true:=(qE hm).2 ⟨fun f=>Fs (eu g p) (Rf g p) f (eu g p).m,fun i hi=>by
 rw [kf] at hi
 rw [y5 hi,y6 hi]
 exact Ft (mB h hI) (eA h hI) (e:=(i:Int)) ⟨by omega,by show (i:Int)<(g.es.length:Int);omega⟩⟩
theorem JK {a:Int} (ha:(eu g p).F3 a):0≤a∧a<g.es.length:=(DJ (mB h hI) (eA h hI) ha).1
theorem Hg (h0:0<g.es.length) {f:Nat} (h1:1≤f) (h2:f≤cN g p):∃e:Int,(0≤e∧e<g.es.length)∧Rf g p e=f:=by
 rcases Nat.lt_or_ge f (cN g p) with hlt|hge
 ·obtain ⟨a,ha,e⟩:=DZ h hI h1 hlt
  exact ⟨a,JK h hI ha,e⟩
 ·obtain rfl:f=cN g p:=by omega
  obtain ⟨e,h3,h4,_⟩:=DL (mB h hI) (eA h hI) (JH h hI) h0 (Fq h hI) (k:=(cN g p:Int)) (.inl rfl)
  exact ⟨e,h3,h4⟩
theorem D7 (h0:0<g.es.length) {f:Nat} (h2:f<cN g p):∃e:Int,(0≤e∧e<g.es.length)∧Lf g p e=f:=by
 have F:=eA h hI
 by_cases hf:f=0
 ·subst hf
  obtain ⟨B,hB⟩:=eL (mB h hI) (j:=0) h0
  have hB:(eu g p).outs (eu g p).src=(eu g p).sh 0::B:=hB
  exact ⟨(eu g p).sh 0,og (mB h hI) h0,F.s0 hB⟩
 ·obtain ⟨a,⟨x,u,b,v,e1⟩,e⟩:=DZ h hI (f:=f) (by omega) h2
  have hb:=((mB h hI).dJ x b).1 (by rw [e1];simp)
  exact ⟨b,hb.1,by rw [← F.gh e1,e]⟩
theorem Fu (h0:0<g.es.length):aV (·.1) (kz g p)= [(cN g p:Int)]:=by
 refine s6 fun y=> ?_
 rw [pV]
 have hn:(kz g p).n=(cN g p:Int)+1:=rfl
 constructor
 ·rintro ⟨⟨h1,h2⟩,h3⟩
  refine Decidable.byContradiction fun hy=> ?_
  obtain ⟨e,he,e2⟩:=D7 h hI h0 (f:=y.toNat) (by omega)
  refine h3 e.toNat (by rw [kf];omega) ?_
  rw [y5 (by omega),show ((e.toNat:Nat):Int)=e by omega,e2];omega
 ·rintro rfl
  refine ⟨⟨by omega,by omega⟩,fun i hi e=> ?_⟩
  rw [kf] at hi
  rw [y5 hi] at e
  have:=Ag h hI (e:=(i:Int)) (by omega)
  omega
theorem Fv (h0:0<g.es.length):aV (·.2) (kz g p)= [0]:=by
 have hmem:∀y,y∈aV (·.2) (kz g p)↔y=0:=fun y=>by
  rw [dU]
  constructor
  ·rintro ⟨⟨h1,h2⟩,h3⟩
   refine Decidable.byContradiction fun hy=> ?_
   have hn:(kz g p).n=(cN g p:Int)+1:=rfl
   obtain ⟨e,he,e2⟩:=Hg h hI h0 (f:=y.toNat) (by omega) (by omega)
   refine h3 e.toNat (by rw [kf];omega) ?_
   rw [y6 (by omega),show ((e.toNat:Nat):Int)=e by omega,e2];omega
  ·rintro rfl
   refine ⟨⟨by omega,by show (0:Int)<(cN g p:Int)+1;omega⟩,fun i hi e=> ?_⟩
   rw [kf] at hi
   rw [y6 hi] at e
   have:=D4 h hI (e:=(i:Int)) (by omega)
   omega
 exact s6 hmem
end
end Go.Ab
end
section
namespace Go.Ab
open Go.Proofs
attribute [local congr] ACall.congr gd.congr Nx.congr
set_option maxRecDepth 10000
set_option maxHeartbeats 16000000
theorem BI (g:Gr) (hl:g.es.length≤9223372036854775807) (p:Pl) (hp:qj p) (b:Bool) (hr:b=true↔(bF g).1=0∧bD g p):Spec Tryz.prog 37 (Args [eG g,ePl p]) [] (eB (decide ((bJ b g p).2.1=0))) []:=by
 have hO:=xK g hl p hp b hr
 generalize bJ b g p=R at hO
 (refine Spec.hd (C:=T.cfg [] []) (rs:= [.t 4]) (T.ai _ _) Tryz.func37 rfl rfl Tryz.ntmps37 Tryz.results37 (by simp [AObj.isNest]) (by simp [AObj.isNest]) (by kernel_rfl) T.mixed fun X hX hP hC aH bU=> ?_)
 repeat' (first|refine Rn.p ?_|(with_reducible apply And.intro)|((first|(refine hK _ ?_;clear hK K)|with_reducible intro K hK|refine Rs.p ?_|((with_reducible first|apply oP|apply oQ);exact rfl)|refine aa hX hC hP (hO) rfl rfl rfl (by simp only [go_sem,simprocAttr]) rfl ?_);try simp only [go_sem,simprocAttr])|((with_reducible refine oD ?_ ?_);kernel_rfl)|((with_reducible intro h);try simp only [go_sem,simprocAttr] at h)|omega|intro h)
end Go.Ab
end
section
namespace Go.Ab
open Go.Proofs
attribute [local congr] ACall.congr gd.congr Nx.congr
set_option maxRecDepth 20000
set_option maxHeartbeats 8000000
theorem xS (g:Gr) (hl:g.es.length≤1000) (p:Pl) (hp:qj p) (b:Bool) (hr:b=true↔(bF g).1=0∧bD g p):
 Spec Tryz.prog 11 (Args [eG g,ePl p]) [] (.tup [kF (F6 b g p).1,eN (F6 b g p).2]) []:=by
 have hO:=mA g hl p hp b hr
 have G8:=sV g hl
 by_cases h0:(bJ b g p).2.1=0
 rotate_left
 ·have hK:F6 b g p=(y3,1):=if_neg fun h=>h0 h.1.1
  have hb0:decide ((bJ b g p).2.1=0)=false:=decide_eq_false h0
  rw [hK]
  (refine Spec.hd (C:=T.cfg [] []) (rs:= [.c 4 32, .t 5]) (T.ai _ _) Tryz.func11 rfl rfl Tryz.ntmps11 Tryz.results11 (by simp [AObj.isNest]) (by simp [AObj.isNest]) (by kernel_rfl) T.mixed fun X hX hP hC aH bU=> ?_)
  repeat' (first|refine Rn.p ?_|(with_reducible apply And.intro)|((first|(refine hK _ ?_;clear hK K)|with_reducible intro K hK|refine Rs.p ?_|((with_reducible first|apply oP|apply oQ);exact rfl)|refine aa hX hC hP (hO) rfl rfl rfl (by simp only [go_sem,simprocAttr,hb0,kF,y3,List.map_nil]) rfl ?_);try simp only [go_sem,simprocAttr,hb0,kF,y3,List.map_nil])|((with_reducible refine oD ?_ ?_);kernel_rfl)|((with_reducible intro h);try simp only [go_sem,simprocAttr,hb0,kF,y3,List.map_nil] at h)|omega|intro h)
 obtain ⟨hrun,hR⟩:=pO hr h0
 cases hI:ku g with
 |false=>
  have hK:F6 b g p=(y3,1):=if_neg fun h=>by rw [hI] at h;cases h.1.2
  rw [hR] at hO
  simp only at hO
  rw [hI] at G8
  rw [hK]
  (refine Spec.hd (C:=T.cfg [] []) (rs:= [.c 4 32, .t 5]) (T.ai _ _) Tryz.func11 rfl rfl Tryz.ntmps11 Tryz.results11 (by simp [AObj.isNest]) (by simp [AObj.isNest]) (by kernel_rfl) T.mixed fun X hX hP hC aH bU=> ?_)
  repeat' (first|refine Rn.p ?_|(with_reducible apply And.intro)|((first|(refine hK _ ?_;clear hK K)|with_reducible intro K hK|refine Rs.p ?_|((with_reducible first|apply oP|apply oQ);exact rfl)|refine aa hX hC hP (hO) rfl rfl rfl (by simp only [go_sem,simprocAttr,kF,y3,List.map_nil]) rfl ?_|refine aa hX hC hP (G8) rfl rfl rfl (by simp only [go_sem,simprocAttr,kF,y3,List.map_nil]) rfl ?_);try simp only [go_sem,simprocAttr,kF,y3,List.map_nil])|((with_reducible refine oD ?_ ?_);kernel_rfl)|((with_reducible intro h);try simp only [go_sem,simprocAttr,kF,y3,List.map_nil] at h)|omega|intro h)
 |true=>
  by_cases hm:0<g.es.length
  ·have hK:F6 b g p=(F5 g p,0):=if_pos ⟨⟨h0,hI⟩,hm⟩
   rw [hK]
   exact BF g p hp hrun hI hm b hr
  ·have hK:F6 b g p=(y3,1):=if_neg fun h=>hm h.2
   have au:decide ((g.es.length:Int)=0)=true:=decide_eq_true (by omega)
   rw [hR] at hO
   simp only at hO
   rw [hI] at G8
   rw [hK]
   (refine Spec.hd (C:=T.cfg [] []) (rs:= [.c 4 32, .t 5]) (T.ai _ _) Tryz.func11 rfl rfl Tryz.ntmps11 Tryz.results11 (by simp [AObj.isNest]) (by simp [AObj.isNest]) (by kernel_rfl) T.mixed fun X hX hP hC aH bU=> ?_)
   repeat' (first|refine Rn.p ?_|(with_reducible apply And.intro)|((first|(refine hK _ ?_;clear hK K)|with_reducible intro K hK|refine Rs.p ?_|((with_reducible first|apply oP|apply oQ);exact rfl)|refine aa hX hC hP (hO) rfl rfl rfl (by simp only [go_sem,simprocAttr,au,kF,y3,List.map_nil]) rfl ?_|refine aa hX hC hP (G8) rfl rfl rfl (by simp only [go_sem,simprocAttr,au,kF,y3,List.map_nil]) rfl ?_);try simp only [go_sem,simprocAttr,au,kF,y3,List.map_nil])|((with_reducible refine oD ?_ ?_);kernel_rfl)|((with_reducible intro h);try simp only [go_sem,simprocAttr,au,kF,y3,List.map_nil] at h)|omega|intro h)
end Go.Ab
end
section
namespace Go.Ab
open Go.Proofs
attribute [local congr] ACall.congr gd.congr Nx.congr
set_option maxRecDepth 20000
set_option maxHeartbeats 8000000
def D8 (f:Fc) (k:Nat):List Edge:=(List.range k).map fun i:Nat=>(f.L.getD i 0,f.R.getD i 0)
theorem Fw {f:Fc} {k:Nat} :(D8 f k).length=k:=by simp [D8]
theorem D9 {f:Fc} {k:Nat} :(D8 f (k+1)).map rE=(D8 f k).map rE++ [rE (f.L.getD k 0,f.R.getD k 0)]:=by simp [D8,List.range_succ]
theorem xT (f:Fc) (h1:f.L.length≤100000) (h2:f.R.length=f.L.length):Spec Tryz.prog 54 (Args [kF f]) [] (eG ⟨f.lo.length,D8 f f.L.length⟩) []:=by
 have hmin:min (f.L.length:Int) (f.R.length:Int)=f.L.length:=by rw [h2];simp
 (refine Spec.hd (C:=T.cfg [] []) (rs:= [.c 2 24]) (T.ai _ _) Tryz.func54 rfl rfl Tryz.ntmps54 Tryz.results54 (by simp [AObj.isNest]) (by simp [AObj.isNest]) (by kernel_rfl) T.mixed fun X hX hP hC aH bU=> ?_)
 repeat' (first|(show cl _ (.seq (.region 2 _ _) _) _ _;(refine kQ hX 3 1 200 (.tip 56 2 []) rfl rfl rfl (by simp only [go_sem,simprocAttr,kF,hmin]) (by decide) (by simp [go_sem,simprocAttr,kF,hmin]) ⟨56,2,by decide, .inr rfl⟩ ?_;simp only [List.set_cons_zero,List.set_cons_succ,go_sem,simprocAttr,kF,hmin]))|refine Rn.p ?_|(with_reducible apply And.intro)|((first|(refine hK _ ?_;clear hK K)|with_reducible intro K hK|refine Rs.p ?_|((with_reducible first|apply oP|apply oQ);exact rfl));try simp only [go_sem,simprocAttr,kF,hmin])|((with_reducible refine oD ?_ ?_);kernel_rfl)|((with_reducible intro h);try simp only [go_sem,simprocAttr,kF,hmin] at h)|omega|intro h)
 refine ag (fun k:Nat=>k≤f.L.length) (fun k=>⟨[(1, .ptr 1 0),(2, .ptr 2 0),(3, .ptr 3 0),(15,eN f.L.length),(16,eN k)], [(1, .box [.d (sI f.L), .d (sI f.R), .d (sI f.lo), .d (sI f.hi)]),(2, .box [eN 0, .nil 56]),(3, .box [eN f.lo.length, .ref 200]),(200, .tip 56 2 ((D8 f k).map rE))]⟩) (fun k=>f.L.length - k) 0 (by omega) ?_ ?_
 ·refine Le.of ?_ ?_<;>simp [go_sem,simprocAttr,kF,hmin,D8]
 rintro k hk
 rcases Nat.lt_or_ge k f.L.length with hlt|hge
 ·have hb:decide ((k:Int)<(f.L.length:Int))=true:=decide_eq_true (by omega)
  have dI:=D9 (f:=f) (k:=k)
  have EZ:=Fw (f:=f) (k:=k)
  generalize D8 f k=G at dI EZ
  repeat' (first|(show cl _ (.region 6 _ _) _ _;(refine dW hX 3 1 33 200 rfl rfl rfl (by first|exact .inl rfl|exact .inr rfl) (by decide) (by decide) ?_;simp only [List.set_cons_zero,List.set_cons_succ,go_sem,simprocAttr,hb,EZ]))|refine Rn.p ?_|(with_reducible apply And.intro)|((first|(refine hK _ ?_;clear hK K)|with_reducible intro K hK|refine Rs.p ?_|((with_reducible first|apply oP|apply oQ);exact rfl));try simp only [go_sem,simprocAttr,hb,EZ])|((with_reducible refine oD ?_ ?_);kernel_rfl)|((with_reducible intro h);try simp only [go_sem,simprocAttr,hb,EZ] at h)|omega|intro h)
  refine ⟨k+1,by omega, ?_,by omega⟩
  rw [dI]
  refine Le.of ?_ ?_<;>simp [go_sem,simprocAttr,hb,EZ,rE]
 ·have hb:decide ((k:Int)<(f.L.length:Int))=false:=decide_eq_false (by omega)
  obtain rfl:k=f.L.length:=by omega
  repeat' (first|refine Rn.p ?_|(with_reducible apply And.intro)|((first|(refine hK _ ?_;clear hK K)|with_reducible intro K hK|refine Rs.p ?_|((with_reducible first|apply oP|apply oQ);exact rfl));try simp only [go_sem,simprocAttr,hb])|((with_reducible refine oD ?_ ?_);kernel_rfl)|((with_reducible intro h);try simp only [go_sem,simprocAttr,hb] at h)|omega|intro h)
def xU (b:Bool) (g:Gr) (p:Pl):Bool:= !pP g p&&ku g&&decide ((bJ b g p).2.1=0)&&decide (0<(g.es.length:Int))&&decide ((g.es.length:Int)≤60)
theorem vK (g:Gr) (hl:g.es.length≤9223372036854775807) (p:Pl) (hp:zU p) (b:Bool) (hr:b=true↔(bF g).1=0∧bD g p):Spec Tryz.prog 10 (Args [eG g,ePl p]) [] (eB (xU b g p)) []:=by
 have hG:=vt g p hl hp
 cases hB:pP g p with
 |true=>
  rw [hB] at hG
  have ha:xU b g p=false:=by unfold xU;rw [hB];rfl
  rw [ha]
  (refine Spec.hd (C:=T.cfg [] []) (rs:= [.t 4]) (T.ai _ _) Tryz.func10 rfl rfl Tryz.ntmps10 Tryz.results10 (by simp [AObj.isNest]) (by simp [AObj.isNest]) (by kernel_rfl) T.mixed fun X hX hP hC aH bU=> ?_)
  repeat' (first|refine Rn.p ?_|(with_reducible apply And.intro)|((first|(refine hK _ ?_;clear hK K)|with_reducible intro K hK|refine Rs.p ?_|((with_reducible first|apply oP|apply oQ);exact rfl)|refine aa hX hC hP (hG) rfl rfl rfl (by simp only [go_sem,simprocAttr]) rfl ?_);try simp only [go_sem,simprocAttr])|((with_reducible refine oD ?_ ?_);kernel_rfl)|((with_reducible intro h);try simp only [go_sem,simprocAttr] at h)|omega|intro h)
 |false=>
  rw [hB] at hG
  have hI:=yU g (by have:=(qK hB).1;omega)
  have BC:=BI g hl p (sS hB) b hr
  have ha:xU b g p=(ku g&&decide ((bJ b g p).2.1=0)&&decide (0<(g.es.length:Int))&&decide ((g.es.length:Int)≤60)):=by unfold xU;rw [hB];rfl
  rw [ha]
  cases hi:ku g with
  |false=>
   rw [hi] at hI
   (refine Spec.hd (C:=T.cfg [] []) (rs:= [.t 4]) (T.ai _ _) Tryz.func10 rfl rfl Tryz.ntmps10 Tryz.results10 (by simp [AObj.isNest]) (by simp [AObj.isNest]) (by kernel_rfl) T.mixed fun X hX hP hC aH bU=> ?_)
   repeat' (first|refine Rn.p ?_|(with_reducible apply And.intro)|((first|(refine hK _ ?_;clear hK K)|with_reducible intro K hK|refine Rs.p ?_|((with_reducible first|apply oP|apply oQ);exact rfl)|refine aa hX hC hP (hG) rfl rfl rfl (by simp only [go_sem,simprocAttr,Bool.false_and]) rfl ?_|refine aa hX hC hP (hI) rfl rfl rfl (by simp only [go_sem,simprocAttr,Bool.false_and]) rfl ?_);try simp only [go_sem,simprocAttr,Bool.false_and])|((with_reducible refine oD ?_ ?_);kernel_rfl)|((with_reducible intro h);try simp only [go_sem,simprocAttr,Bool.false_and] at h)|omega|intro h)
  |true=>
   rw [hi] at hI
   cases hd:decide ((bJ b g p).2.1=0) with
   |false=>
    rw [hd] at BC
    (refine Spec.hd (C:=T.cfg [] []) (rs:= [.t 4]) (T.ai _ _) Tryz.func10 rfl rfl Tryz.ntmps10 Tryz.results10 (by simp [AObj.isNest]) (by simp [AObj.isNest]) (by kernel_rfl) T.mixed fun X hX hP hC aH bU=> ?_)
    repeat' (first|refine Rn.p ?_|(with_reducible apply And.intro)|((first|(refine hK _ ?_;clear hK K)|with_reducible intro K hK|refine Rs.p ?_|((with_reducible first|apply oP|apply oQ);exact rfl)|refine aa hX hC hP (hG) rfl rfl rfl (by simp only [go_sem,simprocAttr,Bool.false_and,Bool.true_and]) rfl ?_|refine aa hX hC hP (hI) rfl rfl rfl (by simp only [go_sem,simprocAttr,Bool.false_and,Bool.true_and]) rfl ?_|refine aa hX hC hP (BC) rfl rfl rfl (by simp only [go_sem,simprocAttr,Bool.false_and,Bool.true_and]) rfl ?_);try simp only [go_sem,simprocAttr,Bool.false_and,Bool.true_and])|((with_reducible refine oD ?_ ?_);kernel_rfl)|((with_reducible intro h);try simp only [go_sem,simprocAttr,Bool.false_and,Bool.true_and] at h)|omega|intro h)
   |true=>
    rw [hd] at BC
    (refine Spec.hd (C:=T.cfg [] []) (rs:= [.t 4]) (T.ai _ _) Tryz.func10 rfl rfl Tryz.ntmps10 Tryz.results10 (by simp [AObj.isNest]) (by simp [AObj.isNest]) (by kernel_rfl) T.mixed fun X hX hP hC aH bU=> ?_)
    repeat' (first|refine Rn.p ?_|(with_reducible apply And.intro)|((first|(refine hK _ ?_;clear hK K)|with_reducible intro K hK|refine Rs.p ?_|((with_reducible first|apply oP|apply oQ);exact rfl)|refine aa hX hC hP (hG) rfl rfl rfl (by simp only [go_sem,simprocAttr,Bool.false_and,Bool.true_and]) rfl ?_|refine aa hX hC hP (hI) rfl rfl rfl (by simp only [go_sem,simprocAttr,Bool.false_and,Bool.true_and]) rfl ?_|refine aa hX hC hP (BC) rfl rfl rfl (by simp only [go_sem,simprocAttr,Bool.false_and,Bool.true_and]) rfl ?_);try simp only [go_sem,simprocAttr,Bool.false_and,Bool.true_and])|((with_reducible refine oD ?_ ?_);kernel_rfl)|((with_reducible intro h);try simp only [go_sem,simprocAttr,Bool.false_and,Bool.true_and] at h)|omega|intro h)
    all_goals (simp [*];omega)
theorem Hh {b:Bool} {g:Gr} {p:Pl} (hr:b=true↔(bF g).1=0∧bD g p) (h:xU b g p=true):pP g p=false∧ku g=true∧cu g p∧0<g.es.length∧g.es.length≤60:=by
 simp only [xU,Bool.and_eq_true,Bool.not_eq_true',decide_eq_true_eq] at h
 exact ⟨h.1.1.1.1,h.1.1.1.2,(pO hr h.1.1.2).1,by omega,by omega⟩
theorem Hj {b:Bool} {g:Gr} {p:Pl} (hr:b=true↔(bF g).1=0∧bD g p) (hrun:cu g p) (hI:ku g=true) (h0:0<g.es.length):F6 b g p=(⟨arr (Lf g p) g.es.length,arr (Rf g p) g.es.length,Fo g p,HL g p⟩,0):=by
 have:F6 b g p=(F5 g p,0):=if_pos ⟨⟨by rw [s5 hr hrun],hI⟩,h0⟩
 rw [this,He hrun hI]
theorem Fx {g:Gr} {p:Pl} :(⟨((Fo g p).length:Nat),D8 ⟨arr (Lf g p) g.es.length,arr (Rf g p) g.es.length,Fo g p,HL g p⟩ (arr (Lf g p) g.es.length).length⟩:Gr)=kz g p:=by
 unfold kz D8
 rw [Fp,cC]
 congr 1
 refine List.map_congr_left fun i hi=> ?_
 have hi:=List.mem_range.1 hi
 rw [pU hi,pU hi]
def Fy:Gr:=⟨4, [(0,1),(1,3),(0,2),(2,3)]⟩
def HM:Pl:=⟨[0,1,2,3], [[0,2], [1], [3], []]⟩
theorem JL:(true=true)↔(bF Fy).1=0∧bD Fy HM:=⟨fun _=>⟨by decide,⟨rfl,by decide,by decide⟩⟩,fun _=>rfl⟩
end Go.Ab
end
section
namespace Go.Ab
open Go.Proofs
attribute [local congr] ACall.congr gd.congr Nx.congr
set_option maxRecDepth 20000
set_option maxHeartbeats 16000000
structure Br where
 y:List Int
 fr:List Int
 to:List Int
 x:List Int
def dG (b:Br):AV:= .agg [.d (sI b.y), .d (sI b.fr), .d (sI b.to), .d (sI b.x)]
section
variable (g:Gr) (p:Pl)
def Aj (f:Int):Int:=(gX (kz g p)).getD f.toNat 0
def BS (e:Int):Int:=Aj g p (Lf g p e)
def Ak (l:List Int):Int:=if l= [] then 0 else Aj g p (Lf g p (l.getD 0 0))
def toV (l:List Int):Int:=(if l= [] then Aj g p (cN g p) else Aj g p (Rf g p (l.getD (l.length - 1) 0))) - 1
def oW:Br:=⟨gX g,p.outs.map (Ak g p),p.outs.map (toV g p),arr (BS g p) g.es.length⟩
end
theorem Ea {f:Int→Int} {k:Nat} :(arr f (k+1)).map rI=(arr f k).map rI++ [rI (f k)]:=by simp [arr,List.range_succ]
theorem vM {g:Gr} (hc:(bF g).1=0):mu g=true:=by
 rcases By (aE hc) with h|h|h|h|h
 ·rw [h.1] at hc;cases hc
 ·rw [h.1] at hc;cases hc
 ·rw [h.1] at hc;cases hc
 ·rw [h.1] at hc;cases hc
 ·exact h.2.2
theorem uv (g:Gr) (p:Pl) (hB:pP g p=false) (hrun:cu g p) (hI:ku g=true) (h0:0<g.es.length) (Hl:g.es.length≤60) (b:Bool) (hr:b=true↔(bF g).1=0∧bD g p):
 Spec Tryz.prog 16 (Args [eG g,ePl p]) [] (.tup [dG (oW g p),eN 0]) []:=by
 have hm:=aE hrun.1
 have hn:=aT hm
 have hm2:=Ai hrun hI h0 Hl
 have hD:=xS g (by omega) p (sS hB) b hr
 rw [Hj hr hrun hI h0] at hD
 simp only at hD
 have NC:=xT ⟨arr (Lf g p) g.es.length,arr (Rf g p) g.es.length,Fo g p,HL g p⟩ (by simp only [cC];omega) (by simp only [cC])
 simp only [Fx] at NC
 have Pq:=ql g hm (vM hrun.1)
 have Pr:=ql (kz g p) hm2 (y7 hrun hI hm2)
 obtain ⟨k1,k2,k3,k4⟩:=nj hm2 (y7 hrun hI hm2)
 have JM:(kz g p).n.toNat=cN g p+1:=by show ((cN g p:Int)+1).toNat=_;omega
 rw [JM] at k1
 have hbd:∀v:Nat,(gX (kz g p)).getD v 0≤100000:=fun v=>by
  have:=(lW (g:=kz g p) (k:=(bH (kz g p)).length) v).2
  have h1:=vf hm2
  rw [kf] at this
  have h2:(bH (kz g p)).length*g.es.length≤64*128:=Nat.mul_le_mul h1 (by omega)
  have h3:gX (kz g p)=oV (kz g p) (bH (kz g p)).length:=rfl
  rw [h3];omega
 have Ql:=F9 hrun hI
 have hac:∀f:Nat,Aj g p f=(gX (kz g p)).getD f 0:=fun f=>by unfold Aj;rw [Int.toNat_natCast]
 have a1:=fun (i:Nat) (hi:i<g.es.length)=>pU (f:=Lf g p) hi
 have a2:=fun (i:Nat) (hi:i<g.es.length)=>pU (f:=Rf g p) hi
 have c1:(arr (Lf g p) g.es.length).length=g.es.length:=cC
 have c2:(arr (Rf g p) g.es.length).length=g.es.length:=cC
 have JN:=fun (i:Nat) (hi:i<g.es.length)=>Ag hrun hI (e:=(i:Int)) (by omega)
 have Pt:=fun (i:Nat) (hi:i<g.es.length)=>D4 hrun hI (e:=(i:Int)) (by omega)
 have Pu:∀k,k<g.es.length→BS g p k=Aj g p ((arr (Lf g p) g.es.length).getD k 0):=fun k hk=>by rw [a1 k hk];rfl
 have hout:∀x,x<p.outs.length→∀e∈p.outs.getD x [],0≤e∧e<g.es.length:=fun x hx e he=>by
  have AP:x<g.n.toNat:=by have:=hrun.2.1.1;omega
  have:=(hrun.2.1.2.2 x AP).mem_iff.1 he
  exact (bR.1 this).1
 have wh:=sS hB
 have MG:=(qK hB).2.2.2
 have Qm:=(qK hB).2.2.1
 have Kf:oW g p=⟨gX g,p.outs.map (Ak g p),p.outs.map (toV g p),arr (BS g p) g.es.length⟩:=rfl
 rw [Kf]
 have hfr:∀l,Ak g p l=if l= [] then 0 else Aj g p (Lf g p (l.getD 0 0)):=fun _=>rfl
 have hto:∀l,toV g p l=(if l= [] then Aj g p (cN g p) else Aj g p (Rf g p (l.getD (l.length - 1) 0))) - 1:=fun _=>rfl
 generalize Qn:arr (Lf g p) g.es.length=LL at*
 generalize Qo:arr (Rf g p) g.es.length=RR at*
 generalize Fo g p=lo at*
 generalize HL g p=hi at*
 generalize Pv:gX (kz g p)=ac at*
 generalize kz g p=G2 at*
 generalize gX g=yl at*
 (refine Spec.hd (C:=T.cfg [] []) (rs:= [.c 4 42, .t 5]) (T.ai _ _) Tryz.func16 rfl rfl Tryz.ntmps16 Tryz.results16 (by simp [AObj.isNest]) (by simp [AObj.isNest]) (by kernel_rfl) T.mixed fun X hX hP hC aH bU=> ?_)
 repeat' (first|refine Rn.p ?_|(with_reducible apply And.intro)|((first|(refine hK _ ?_;clear hK K)|with_reducible intro K hK|refine Rs.p ?_|((with_reducible first|apply oP|apply oQ);exact rfl)|refine aa hX hC hP (hD) rfl rfl rfl (by simp only [go_sem,simprocAttr,kF,dG,c1]) rfl ?_|refine aa hX hC hP (NC) rfl rfl rfl (by simp only [go_sem,simprocAttr,kF,dG,c1]) rfl ?_|refine aa hX hC hP (Pq) rfl rfl rfl (by simp only [go_sem,simprocAttr,kF,dG,c1]) rfl ?_|refine aa hX hC hP (Pr) rfl rfl rfl (by simp only [go_sem,simprocAttr,kF,dG,c1]) rfl ?_);try simp only [go_sem,simprocAttr,kF,dG,c1])|((with_reducible refine oD ?_ ?_);kernel_rfl)|((with_reducible intro h);try simp only [go_sem,simprocAttr,kF,dG,c1] at h)|omega|intro h)
 (refine kQ hX 10 3 200 (.tip 3 1 []) rfl rfl rfl (by simp only [go_sem,simprocAttr,kF,dG,c1]) (by decide) (by simp [go_sem,simprocAttr,kF,dG,c1]) ⟨3,1,by decide, .inr rfl⟩ ?_;simp only [List.set_cons_zero,List.set_cons_succ,go_sem,simprocAttr,kF,dG,c1])
 (refine kQ hX 10 1 201 (.tip 3 1 []) rfl rfl rfl (by simp only [go_sem,simprocAttr,kF,dG,c1]) (by decide) (by simp [go_sem,simprocAttr,kF,dG,c1]) ⟨3,1,by decide, .inr rfl⟩ ?_;simp only [List.set_cons_zero,List.set_cons_succ,go_sem,simprocAttr,kF,dG,c1])
 (refine kQ hX 10 2 202 (.tip 3 1 []) rfl rfl rfl (by simp only [go_sem,simprocAttr,kF,dG,c1]) (by decide) (by simp [go_sem,simprocAttr,kF,dG,c1]) ⟨3,1,by decide, .inr rfl⟩ ?_;simp only [List.set_cons_zero,List.set_cons_succ,go_sem,simprocAttr,kF,dG,c1])
 refine ag (fun k:Nat=>k≤g.es.length) (fun k=>⟨[(2, .ptr 2 0),(3, .ptr 3 0),(4, .ptr 4 0),(6, .ptr 6 0),(8, .d (sI ac)),(10, .ptr 10 0),(41, .d (sI LL)),(42,eN g.es.length),(43,eN k)], [(2, .box [eN g.n, .d (sE g.es)]),(3, .box [.d (sI p.ord), .d (.sl 1 (vI p.outs))]),(4, .box [.nil 3, .nil 3, .nil 3, .nil 3]),(6, .box [.d (sI LL), .d (sI RR), .d (sI lo), .d (sI hi)]),(10, .box [.d (sI yl), .ref 201, .ref 202, .ref 200]),(200, .tip 3 1 ((arr (BS g p) k).map rI)),(201, .tip 3 1 []),(202, .tip 3 1 [])]⟩) (fun k=>g.es.length - k) 0 (by omega) ?_ ?_
 ·refine Le.of ?_ ?_
  ·simp [go_sem,simprocAttr,arr]
  ·simp [go_sem,simprocAttr,arr]
 rintro k hk
 rcases Nat.lt_or_ge k g.es.length with bM|zj
 ·have hb:decide ((k:Int)<(g.es.length:Int))=true:=decide_eq_true (by omega)
  have iJ:=JN k bM
  rw [← a1 k bM] at iJ
  have hx1:=Pu k bM
  have dI:=Ea (f:=BS g p) (k:=k)
  have s7:(arr (BS g p) k).length=k:=cC
  generalize arr (BS g p) k=XA at dI s7
  obtain ⟨f,hf⟩:∃f:Nat,LL.getD k 0=f:=⟨(LL.getD k 0).toNat,by omega⟩
  rw [hf] at iJ hx1
  rw [hac] at hx1
  repeat' (first|(show cl _ (.region 11 _ _) _ _;(refine dW hX 10 3 54 200 rfl rfl rfl (by first|exact .inl rfl|exact .inr rfl) (by decide) (by decide) ?_;simp only [List.set_cons_zero,List.set_cons_succ,go_sem,simprocAttr,hb,hf,k1,c1,s7]))|refine Rn.p ?_|(with_reducible apply And.intro)|((first|(refine hK _ ?_;clear hK K)|with_reducible intro K hK|refine Rs.p ?_|((with_reducible first|apply oP|apply oQ);exact rfl));try simp only [go_sem,simprocAttr,hb,hf,k1,c1,s7])|((with_reducible refine oD ?_ ?_);kernel_rfl)|((with_reducible intro h);try simp only [go_sem,simprocAttr,hb,hf,k1,c1,s7] at h)|omega|intro h)
  refine ⟨k+1,by omega, ?_,by omega⟩
  rw [dI,hx1]
  refine Le.of ?_ ?_<;>simp [go_sem,simprocAttr,hb,hf,k1,c1,s7,rI]
 have hb:decide ((k:Int)<(g.es.length:Int))=false:=decide_eq_false (by omega)
 obtain rfl:k=g.es.length:=by omega
 generalize arr (BS g p) g.es.length=XA
 repeat' (first|refine Rn.p ?_|(with_reducible apply And.intro)|((first|(refine hK _ ?_;clear hK K)|with_reducible intro K hK|refine Rs.p ?_|((with_reducible first|apply oP|apply oQ);exact rfl));try simp only [go_sem,simprocAttr,hb])|((with_reducible refine oD ?_ ?_);kernel_rfl)|((with_reducible intro h);try simp only [go_sem,simprocAttr,hb] at h)|omega|intro h)
 refine ag (fun k:Nat=>k≤p.outs.length) (fun k=>⟨[(2, .ptr 2 0),(3, .ptr 3 0),(4, .ptr 4 0),(6, .ptr 6 0),(8, .d (sI ac)),(10, .ptr 10 0),(58, .d (.sl 1 (vI p.outs))),(59,eN p.outs.length),(60,eN k)], [(2, .box [eN g.n, .d (sE g.es)]),(3, .box [.d (sI p.ord), .d (.sl 1 (vI p.outs))]),(4, .box [.nil 3, .nil 3, .nil 3, .nil 3]),(6, .box [.d (sI LL), .d (sI RR), .d (sI lo), .d (sI hi)]),(10, .box [.d (sI yl), .ref 201, .ref 202, .ref 200]),(200, .tip 3 1 (XA.map rI)),(201, .tip 3 1 (((p.outs.take k).map (Ak g p)).map rI)),(202, .tip 3 1 (((p.outs.take k).map (toV g p)).map rI))]⟩) (fun k=>p.outs.length - k) 0 (by omega) ?_ ?_
 ·refine Le.of ?_ ?_<;>simp [go_sem,simprocAttr]
 rintro k hk
 rcases Nat.lt_or_ge k p.outs.length with bM|zj
 rotate_left
 ·have hb:decide ((k:Int)<(p.outs.length:Int))=false:=decide_eq_false (by omega)
  obtain rfl:k=p.outs.length:=by omega
  rw [List.take_length]
  repeat' (first|refine Rn.p ?_|(with_reducible apply And.intro)|((first|(refine hK _ ?_;clear hK K)|with_reducible intro K hK|refine Rs.p ?_|((with_reducible first|apply oP|apply oQ);exact rfl));try simp only [go_sem,simprocAttr,hb,dG])|((with_reducible refine oD ?_ ?_);kernel_rfl)|((with_reducible intro h);try simp only [go_sem,simprocAttr,hb,dG] at h)|omega|intro h)
 have hb:decide ((k:Int)<(p.outs.length:Int))=true:=decide_eq_true (by omega)
 have hv:=iO bM
 have ho:=hout k bM
 have hlb:=MG _ (aG (d:= []) bM)
 have yV:(p.outs.take (k+1)).map (Ak g p)=(p.outs.take k).map (Ak g p)++ [Ak g p (p.outs.getD k [])]:=sH bM
 have hn2:(p.outs.take (k+1)).map (toV g p)=(p.outs.take k).map (toV g p)++ [toV g p (p.outs.getD k [])]:=sH bM
 have yz:((p.outs.take k).map (Ak g p)).length=k:=by rw [List.length_map,List.length_take];omega
 have x6:((p.outs.take k).map (toV g p)).length=k:=by rw [List.length_map,List.length_take];omega
 have tq:(((cN g p+1:Nat):Int) - 1)=((cN g p:Nat):Int):=by omega
 have Qp:=hbd (cN g p)
 have hk2:=k2 (cN g p)
 generalize p.outs.getD k []=l at hv ho hlb yV hn2
 generalize (p.outs.take k).map (Ak g p)=F1 at yV yz
 generalize (p.outs.take k).map (toV g p)=F2 at hn2 x6
 by_cases hl:l= []
 ·subst hl
  have e1:Ak g p []=0:=rfl
  have e2:toV g p []=ac.getD (cN g p) 0 - 1:=by rw [hto,if_pos rfl,hac]
  rw [e1] at yV
  rw [e2] at hn2
  repeat' (first|(show cl _ (.region 20 _ _) _ _;(refine dW hX 10 1 100 201 rfl rfl rfl (by first|exact .inl rfl|exact .inr rfl) (by decide) (by decide) ?_;simp only [List.set_cons_zero,List.set_cons_succ,go_sem,simprocAttr,hb,hv,k1,tq,yz,x6,List.map_nil,List.length_nil]);(refine dW hX 10 2 106 202 rfl rfl rfl (by first|exact .inl rfl|exact .inr rfl) (by decide) (by decide) ?_;simp only [List.set_cons_zero,List.set_cons_succ,go_sem,simprocAttr,hb,hv,k1,tq,yz,x6,List.map_nil,List.length_nil]))|refine Rn.p ?_|(with_reducible apply And.intro)|((first|(refine hK _ ?_;clear hK K)|with_reducible intro K hK|refine Rs.p ?_|((with_reducible first|apply oP|apply oQ);exact rfl));try simp only [go_sem,simprocAttr,hb,hv,k1,tq,yz,x6,List.map_nil,List.length_nil])|((with_reducible refine oD ?_ ?_);kernel_rfl)|((with_reducible intro h);try simp only [go_sem,simprocAttr,hb,hv,k1,tq,yz,x6,List.map_nil,List.length_nil] at h)|omega|intro h)
  refine ⟨k+1,by omega, ?_,by omega⟩
  rw [yV,hn2]
  refine Le.of ?_ ?_<;>simp [go_sem,simprocAttr,hb,hv,k1,tq,yz,x6,List.map_nil,List.length_nil,rI]
 ·have hlp:=List.length_pos_iff.2 hl
  have aq:decide (0<(l.length:Int))=true:=decide_eq_true (by omega)
  have o1:=ho _ (aG (d:=0) (show 0<l.length by omega))
  have o2:=ho _ (aG (d:=0) (show l.length - 1<l.length by omega))
  have JO:((l.length:Int) - 1)=((l.length - 1:Nat):Int):=by omega
  obtain ⟨e,he⟩:∃e:Nat,l.getD 0 0=e:=⟨(l.getD 0 0).toNat,by omega⟩
  obtain ⟨f,hf⟩:∃f:Nat,l.getD (l.length - 1) 0=f:=⟨(l.getD (l.length - 1) 0).toNat,by omega⟩
  have r1:=JN e (by omega)
  have r2:=Pt f (by omega)
  rw [← a1 e (by omega)] at r1
  rw [← a2 f (by omega)] at r2
  obtain ⟨u,hu⟩:∃u:Nat,LL.getD e 0=u:=⟨(LL.getD e 0).toNat,by omega⟩
  obtain ⟨w,hw⟩:∃w:Nat,RR.getD f 0=w:=⟨(RR.getD f 0).toNat,by omega⟩
  have e1:Ak g p l=ac.getD u 0:=by rw [hfr,if_neg hl,he, ← a1 e (by omega),hu,hac]
  have e2:toV g p l=ac.getD w 0 - 1:=by rw [hto,if_neg hl,hf, ← a2 f (by omega),hw,hac]
  rw [hu] at r1
  rw [hw] at r2
  have Qq:=k2 w
  have Qr:=hbd w
  rw [e1] at yV
  rw [e2] at hn2
  repeat' (first|(show cl _ (.region 20 _ _) _ _;(refine dW hX 10 1 100 201 rfl rfl rfl (by first|exact .inl rfl|exact .inr rfl) (by decide) (by decide) ?_;simp only [List.set_cons_zero,List.set_cons_succ,go_sem,simprocAttr,hb,aq,hv,k1,c1,c2,tq,yz,x6,JO,he,hf,hu,hw]);(refine dW hX 10 2 106 202 rfl rfl rfl (by first|exact .inl rfl|exact .inr rfl) (by decide) (by decide) ?_;simp only [List.set_cons_zero,List.set_cons_succ,go_sem,simprocAttr,hb,aq,hv,k1,c1,c2,tq,yz,x6,JO,he,hf,hu,hw]))|refine Rn.p ?_|(with_reducible apply And.intro)|((first|(refine hK _ ?_;clear hK K)|with_reducible intro K hK|refine Rs.p ?_|((with_reducible first|apply oP|apply oQ);exact rfl));try simp only [go_sem,simprocAttr,hb,aq,hv,k1,c1,c2,tq,yz,x6,JO,he,hf,hu,hw])|((with_reducible refine oD ?_ ?_);kernel_rfl)|((with_reducible intro h);try simp only [go_sem,simprocAttr,hb,aq,hv,k1,c1,c2,tq,yz,x6,JO,he,hf,hu,hw] at h)|omega|intro h)
  refine ⟨k+1,by omega, ?_,by omega⟩
  rw [yV,hn2]
  refine Le.of ?_ ?_<;>simp [go_sem,simprocAttr,hb,aq,hv,k1,c1,c2,tq,yz,x6,JO,he,hf,hu,hw,rI]
end Go.Ab
end
section
namespace Go.Ab
open Go.Proofs
set_option maxRecDepth 10000
set_option linter.unusedSectionVars false
def iD (l:List Int):Nat→List (List Int × Int)
 |0=> []
 |j+1=>qo (iD l j) [l.getD j 0] (fu (iD l j) [l.getD j 0]+1)
theorem Fz {aj:List (List Int × Int)} {k:List Int} {v:Int} (hn:(aj.map (·.1)).Nodup) (h:(k,v)∈aj):fu aj k=v:=by
 unfold fu
 cases hf:cJ aj k with
 |none=>exact absurd rfl (mJ hf _ h)
 |some i=>
  obtain ⟨p,hp,e⟩:=gZ hf
  obtain ⟨j,hj,e2⟩:=List.mem_iff_getElem.1 h
  have hi:=(List.getElem?_eq_some_iff.1 hp).1
  have:i=j:=by
   have h1:(aj.map (·.1))[i]'(by simpa using hi)=(aj.map (·.1))[j]'(by simpa using hj):=by
    rw [List.getElem_map,List.getElem_map,e2]
    have:=(List.getElem?_eq_some_iff.1 hp).2
    rw [this,e]
   exact (List.getElem_inj hn).1 h1
  subst this
  simp only [hp,Option.map_some,Option.getD_some]
  have h2:=(List.getElem?_eq_some_iff.1 hp).2
  rw [e2] at h2
  rw [← h2]
theorem BJ {aj:List (List Int × Int)} {k:List Int} (h:∀p∈aj,p.1≠k):fu aj k=0:=by
 unfold fu
 cases hf:cJ aj k with
 |none=>rfl
 |some i=>
  obtain ⟨p,hp,e⟩:=gZ hf
  exact absurd e (h p (List.mem_of_getElem? hp))
theorem l7 {aj:List (List Int × Int)} {i:Nat} {v:Int} :(kH aj i v).map (·.1)=aj.map (·.1):=by
 refine List.ext_getElem? fun j=> ?_
 rw [List.getElem?_map,List.getElem?_map,kH,List.getElem?_modify]
 cases aj[j]? with
 |none=>rfl
 |some p=>by_cases h:i=j<;>simp [h]
theorem xV {aj:List (List Int × Int)} {i:Nat} {v:Int} {p:List Int × Int} (h:p∈kH aj i v):p∈aj∨p.2=v:=by
 obtain ⟨j,hj,e⟩:=List.mem_iff_getElem.1 h
 have h1:(kH aj i v)[j]? =some p:=by rw [List.getElem?_eq_getElem hj,e]
 rw [kH,List.getElem?_modify] at h1
 cases hq:aj[j]? with
 |none=>rw [hq] at h1;simp at h1
 |some q=>
  rw [hq] at h1
  by_cases hij:i=j
  ·simp [hij] at h1;right;rw [← h1]
  ·simp [hij] at h1;left;rw [← h1];exact List.mem_of_getElem? hq
structure uw (aj:List (List Int × Int)) (j:Nat) (S:Int→Prop):Prop where
 nd:(aj.map (·.1)).Nodup
 mem:∀k,k∈aj.map (·.1)↔∃x,S x∧k= [x]
 Dl:∀p∈aj,1≤p.2∧p.2≤j
theorem uw.val {aj:List (List Int × Int)} {j:Nat} {S:Int→Prop} (h:uw aj j S) (x:Int):0≤fu aj [x]∧fu aj [x]≤j∧(S x→1≤fu aj [x]):=by
 by_cases hx:S x
 ·have:=(h.mem [x]).2 ⟨x,hx,rfl⟩
  obtain ⟨p,hp,e⟩:=List.mem_map.1 this
  have hr:=h.Dl p hp
  have hv:fu aj [x]=p.2:=Fz h.nd (by rw [← e];exact hp)
  rw [hv]
  exact ⟨by omega,hr.2,fun _=>hr.1⟩
 ·have:fu aj [x]=0:=BJ fun p hp e=>by
   obtain ⟨y,hy,e2⟩:=(h.mem p.1).1 (List.mem_map.2 ⟨p,hp,rfl⟩)
   rw [e] at e2
   have:x=y:=by injection e2
   subst this;exact hx hy
  rw [this]
  exact ⟨by omega,by omega,fun h=>absurd h hx⟩
theorem uw.step {aj:List (List Int × Int)} {j:Nat} {S:Int→Prop} (h:uw aj j S) (x:Int):uw (qo aj [x] (fu aj [x]+1)) (j+1) (fun y=>S y∨y=x):=by
 obtain ⟨v1,v2,v3⟩:=h.val x
 unfold qo gA jN
 cases hf:cJ aj [x] with
 |some i=>
  simp only
  obtain ⟨p,hp,e⟩:=gZ hf
  have hx:S x:=by
   obtain ⟨y,hy,e2⟩:=(h.mem p.1).1 (List.mem_map.2 ⟨p,List.mem_of_getElem? hp,rfl⟩)
   rw [e] at e2
   have:x=y:=by injection e2
   subst this;exact hy
  refine ⟨by rw [l7];exact h.nd,fun k=> ?_,fun q hq=> ?_⟩
  ·rw [l7,h.mem]
   constructor
   ·rintro ⟨y,hy,e⟩;exact ⟨y, .inl hy,e⟩
   ·rintro ⟨y,hy|hy,e⟩
    ·exact ⟨y,hy,e⟩
    ·subst hy;exact ⟨y,hx, ‹k= [y]›⟩
  ·rcases xV hq with h1|h1
   ·have:=h.Dl q h1;omega
   ·omega
 |none=>
  simp only
  have hnk:([x]:List Int)∉aj.map (·.1):=fun hm=>by
   obtain ⟨p,hp,e⟩:=List.mem_map.1 hm
   exact mJ hf p hp e
  refine ⟨?_,fun k=> ?_,fun q hq=> ?_⟩
  ·rw [l7,List.map_append,List.nodup_append]
   exact ⟨h.nd,by simp,fun a ha b hb e=>by
    simp only [List.map_cons,List.map_nil,List.mem_singleton] at hb
    subst hb;subst e;exact hnk ha⟩
  ·rw [l7,List.map_append,List.mem_append,h.mem]
   simp only [List.map_cons,List.map_nil,List.mem_singleton]
   constructor
   ·rintro (⟨y,hy,e⟩|e)
    ·exact ⟨y, .inl hy,e⟩
    ·exact ⟨x, .inr rfl,e⟩
   ·rintro ⟨y,hy|rfl,e⟩
    ·exact .inl ⟨y,hy,e⟩
    ·exact .inr e
  ·rcases xV hq with h1|h1
   ·rw [List.mem_append,List.mem_singleton] at h1
    rcases h1 with h1|rfl
    ·have:=h.Dl q h1;omega
    ·
     exfalso
     obtain ⟨i,hi,e⟩:=List.mem_iff_getElem.1 hq
     have h2:(kH (aj++ [([x],0)]) aj.length (fu aj [x]+1))[i]? =some ([x],0):=by rw [List.getElem?_eq_getElem hi,e]
     rw [kH,List.getElem?_modify] at h2
     by_cases hie:aj.length=i
     ·subst hie;simp at h2;omega
     ·simp only [hie,if_false] at h2
      rcases Nat.lt_or_ge i aj.length with h3|h3
      ·rw [List.getElem?_append_left h3] at h2
       have h4:(([x],0):List Int × Int)∈aj:=by
        simp at h2;exact List.mem_of_getElem? h2
       exact hnk (List.mem_map.2 ⟨_,h4,rfl⟩)
      ·rw [List.getElem?_eq_none (by simp;omega)] at h2;simp at h2
   ·omega
theorem vN {l:List Int} :∀ {j:Nat},j≤l.length→uw (iD l j) j (fun x=>x∈l.take j)
 |0,_=>⟨by simp [iD],fun k=>by simp [iD],fun p hp=>by simp [iD] at hp⟩
 |j+1,hj=>by
  have h:=(vN (l:=l) (j:=j) (by omega)).step (l.getD j 0)
  have e:(fun x=>x∈l.take (j+1))=fun y=>y∈l.take j∨y=l.getD j 0:=by
   funext y
   rw [List.take_add_one,List.getElem?_eq_getElem (by omega),List.getD_eq_getElem?_getD,List.getElem?_eq_getElem (by omega)]
   simp only [Option.toList_some,Option.getD_some,List.mem_append,List.mem_singleton]
  rw [e];exact h
theorem Al {l:List Int} {L:Nat} (hr:∀x∈l,0≤x∧x<L) (ha:∀k:Nat,k<L→(k:Int)∈l):(iD l l.length).length=L∧∀k:Nat,k<L→fu (iD l l.length) [(k:Int)]≠0:=by
 have h:=vN (l:=l) (Nat.le_refl _)
 rw [List.take_length] at h
 constructor
 ·have hp:((iD l l.length).map (·.1)).Perm ((List.range L).map fun k:Nat=> [(k:Int)]):=by
   refine (List.perm_ext_iff_of_nodup h.nd ?_).2 fun k=> ?_
   ·have:((List.range L).map fun k:Nat=> [(k:Int)]).Nodup:=by
     rw [List.nodup_iff_pairwise_ne,List.pairwise_map]
     exact List.nodup_range.imp fun {a b} hab e=>hab (by injection e with e;omega)
    exact this
   ·rw [h.mem,List.mem_map]
    constructor
    ·rintro ⟨x,hx,rfl⟩
     have:=hr x hx
     exact ⟨x.toNat,List.mem_range.2 (by omega),by rw [Int.toNat_of_nonneg this.1]⟩
    ·rintro ⟨k,hk,rfl⟩
     exact ⟨k,ha k (List.mem_range.1 hk),rfl⟩
  have:=hp.length_eq
  simpa using this
 ·intro k hk e
  have:=(h.val (k:Int)).2.2 (ha k hk)
  omega
theorem vO {g:Gr} (hm:aN g=true) (hok:mu g=true):∀(n:Nat) {v:Nat},v<g.n.toNat→(gX g).getD v 0=n→∀ {k:Nat},k≤n→∃u:Nat,u<g.n.toNat∧(gX g).getD u 0=k
 |n,v,hv,hl,k,hk=>by
  obtain ⟨_,h1,h2,h3⟩:=nj hm hok
  by_cases hkn:k=n
  ·exact ⟨v,hv,by rw [hkn];exact hl⟩
  ·rcases h3 v hv with h4|⟨i,hi,h4,h5⟩
   ·omega
   ·have ht:=bL hm hi
    obtain ⟨n',rfl⟩:∃n',n=n'+1:=⟨n - 1,by omega⟩
    exact vO hm hok n' (v:=(tl g i).toNat) (by omega) (by omega) (by omega)
theorem Eb {g:Gr} (hm:aN g=true) (hok:mu g=true) {t:Int} (ht:aV (·.1) g= [t]) {v:Nat} (hv:v<g.n.toNat):(gX g).getD v 0≤(gX g).getD t.toNat 0∧((v:Int)≠t→(gX g).getD v 0<(gX g).getD t.toNat 0):=by
 obtain ⟨_,h1,h2,h3⟩:=nj hm hok
 have hB:∀v:Nat,(gX g).getD v 0≤((bH g).length*g.es.length:Nat):=fun v=>(lW (g:=g) (k:=(bH g).length) v).2
 have hone:∀v:Nat,v<g.n.toNat→(v:Int)≠t→∃i,i<g.es.length∧tl g i=v:=fun v hv hne=>by
  refine Decidable.byContradiction fun hno=>hne ?_
  have:(v:Int)∈aV (·.1) g:=pV.2 ⟨by omega,fun i hi e=>hno ⟨i,hi,e⟩⟩
  rw [ht,List.mem_singleton] at this
  exact this
 have key:∀(d:Nat) (v:Nat),v<g.n.toNat→(((bH g).length*g.es.length:Nat):Int) - (gX g).getD v 0=d→(gX g).getD v 0≤(gX g).getD t.toNat 0∧((v:Int)≠t→(gX g).getD v 0<(gX g).getD t.toNat 0):=by
  intro d
  induction d using Nat.strongRecOn with
  |_ d ih=>
   intro v hv hd'
   by_cases e:(v:Int)=t
   ·rw [← e,Int.toNat_natCast]
    exact ⟨Int.le_refl _,fun h=>absurd rfl h⟩
   ·obtain ⟨i,hi,e2⟩:=hone v hv e
    have h4:=h2 i hi
    rw [e2,Int.toNat_natCast] at h4
    have hh:=bX hm hi
    have hb:=hB (hd g i).toNat
    have:=(ih (((bH g).length*g.es.length:Nat) - (gX g).getD (hd g i).toNat 0).toNat (by omega) (hd g i).toNat (by omega) (by omega)).1
    omega
 have hb:=hB v
 exact key (((bH g).length*g.es.length:Nat) - (gX g).getD v 0).toNat v hv (by omega)
theorem Am {g:Gr} (hm:aN g=true) (hok:mu g=true) {s:Int} (hs:s∈aV (·.2) g):(gX g).getD s.toNat 0=0:=by
 obtain ⟨_,h1,h2,h3⟩:=nj hm hok
 obtain ⟨hr,hno⟩:=dU.1 hs
 rcases h3 s.toNat (by omega) with h|⟨i,hi,e,_⟩
 ·exact h
 ·exact absurd (by omega) (hno i hi)
section
variable {g:Gr} {p:Pl} (hrun:cu g p) (hI:ku g=true) (h0:0<g.es.length) (Hl:g.es.length≤60)
include hrun hI h0 Hl
theorem FA:∃(s t L H:Nat),aV (·.2) g= [(s:Int)]∧aV (·.1) g= [(t:Int)]∧s<g.n.toNat∧t<g.n.toNat∧p.outs.length=g.n.toNat∧0<L∧
 (∀x∈(oW g p).x,0≤x∧x<L)∧(∀k:Nat,k<L→(k:Int)∈(oW g p).x)∧(∀y∈(oW g p).y,0≤y∧y<H)∧(∀k:Nat,k<H→(k:Int)∈(oW g p).y)∧
 (oW g p).fr.getD s 0=0∧(oW g p).fr.getD t 0=0∧(oW g p).to.getD s 0=(L:Int) - 1∧(oW g p).to.getD t 0=(L:Int) - 1∧(oW g p).y.getD s 0=0∧(oW g p).y.getD t 0=(H:Int) - 1∧L≤100000∧H≤100000:=by
 have hm:=aE hrun.1
 have hok:=vM hrun.1
 have hn:=aT hm
 have hm2:=Ai hrun hI h0 Hl
 have FB:=y7 hrun hI hm2
 have hlen:=hrun.2.1.1
 have MH:=Fu hrun hI h0
 have hsrc:=Fv hrun hI h0
 obtain ⟨k1,k2,k3,k4⟩:=nj hm hok
 obtain ⟨f1,f2,f3,f4⟩:=nj hm2 FB
 have JM:(kz g p).n.toNat=cN g p+1:=by show ((cN g p:Int)+1).toNat=_;omega
 rw [JM] at f1
 obtain ⟨b1,b2⟩:=uu hrun
 have hs0:ak p 0∈aV (·.2) g:=by rw [← b2];exact aG b1
 have hS:aV (·.2) g= [ak p 0]:=s6 fun y=>⟨fun hy=>by
  obtain ⟨h1,h2⟩:=gW.1 hy
  obtain ⟨h3,h4⟩:=gW.1 hs0
  exact lS hrun.1 h1 h3 h2 h4,fun e=>e ▸ hs0⟩
 have JC:=hI
 unfold ku at JC
 rw [Bool.and_eq_true,decide_eq_true_eq,decide_eq_true_eq] at JC
 obtain ⟨t,ht⟩:=List.length_eq_one_iff.1 JC.2
 have Kg:t∈aV (·.1) g:=by rw [ht];simp
 obtain ⟨htr,htn⟩:=pV.1 Kg
 obtain ⟨Kh,BN⟩:=dU.1 hs0
 have hlt:=fun v hv=>Eb hm hok ht (v:=v) hv
 have hls:=Am hm hok hs0
 have hne:bw p (ak p 0)≠ []:=fun e=>by
  have h1:ak p 0∈aV (·.1) g:=fY.2 ⟨Kh,(jG hrun.2.1 Kh.1 Kh.2).2 e⟩
  rw [ht,List.mem_singleton] at h1
  have h2:=k3 0 h0
  have h3:=k2 (tl g 0).toNat
  have h4:=bX hm h0
  have h5:=(hlt (hd g 0).toNat (by omega)).1
  rw [← h1,hls] at h5
  omega
 have hte:bw p t= []:=(jG hrun.2.1 htr.1 htr.2).1 (fY.1 Kg).2
 obtain ⟨s,hs⟩:∃s:Nat,ak p 0=s:=⟨(ak p 0).toNat,by omega⟩
 obtain ⟨t',rfl⟩:∃t':Nat,t=t':=⟨t.toNat,by omega⟩
 have hF:=eA hrun hI
 have hin:oU g (ak p 0):=Kh
 have ho:(eu g p).outs (eu g p).src=bw p (ak p 0):=gl hin
 have hfl:=fun v hv=>Eb hm2 FB MH (v:=v) hv
 rw [JM] at hfl
 rw [Int.toNat_natCast] at hfl
 have FO:=Am hm2 FB (s:=0) (by rw [hsrc];simp)
 have hla:∀x:Nat,bw p (x:Int)=p.outs.getD x []:=fun x=>by unfold bw;rw [Int.toNat_natCast]
 have hac:∀f:Nat,Aj g p f=(gX (kz g p)).getD f 0:=fun f=>by unfold Aj;rw [Int.toNat_natCast]
 have hfr:∀x,x<g.n.toNat→(oW g p).fr.getD x 0=Ak g p (p.outs.getD x []):=fun x hx=>by
  show (p.outs.map (Ak g p)).getD x 0=_
  rw [List.getD_eq_getElem?_getD,List.getElem?_map,List.getElem?_eq_getElem (by omega),List.getD_eq_getElem?_getD,List.getElem?_eq_getElem (by omega)];rfl
 have hto:∀x,x<g.n.toNat→(oW g p).to.getD x 0=toV g p (p.outs.getD x []):=fun x hx=>by
  show (p.outs.map (toV g p)).getD x 0=_
  rw [List.getD_eq_getElem?_getD,List.getElem?_map,List.getElem?_eq_getElem (by omega),List.getD_eq_getElem?_getD,List.getElem?_eq_getElem (by omega)];rfl
 have JN:=fun (e:Int) (he:0≤e∧e<g.es.length)=>Ag hrun hI he
 have hbd:∀ {G:Gr},aN G=true→∀v:Nat,(gX G).getD v 0≤64*128:=fun {G} hG v=>by
  have h1:=(lW (g:=G) (k:=(bH G).length) v).2
  have h2:=vf hG
  have h3:=aT hG
  have h4:(bH G).length*G.es.length≤64*128:=Nat.mul_le_mul h2 (by omega)
  have h5:(gX G).getD v 0=(oV G (bH G).length).getD v 0:=rfl
  rw [h5];omega
 have au:=hbd hm2 (cN g p)
 have aq:=hbd hm t'
 rw [Int.toNat_natCast] at hlt
 rw [hs,Int.toNat_natCast] at hls
 have Mh:0<cN g p:=by have:=JN 0 (by omega);omega
 have Mo:0<(gX (kz g p)).getD (cN g p) 0:=by
  have h1:=(hfl 0 (by omega)).2 (by omega)
  have h2:(gX (kz g p)).getD 0 0=0:=FO
  omega
 obtain ⟨L,hL⟩:∃L:Nat,(gX (kz g p)).getD (cN g p) 0=L:=⟨((gX (kz g p)).getD (cN g p) 0).toNat,by omega⟩
 obtain ⟨H,hH⟩:∃H:Nat,(gX g).getD t' 0=H:=⟨((gX g).getD t' 0).toNat,by have:=k2 t';omega⟩
 refine ⟨s,t',L,H+1,by rw [hS,hs],ht,by omega,by omega,hlen,by omega,fun x hx=> ?_,fun k hk=> ?_,fun y hy=> ?_,fun k hk=> ?_, ?_, ?_, ?_, ?_,hls, ?_,by omega,by omega⟩
 ·obtain ⟨i,hi,rfl⟩:=List.mem_map.1 (show x∈(List.range g.es.length).map (fun i:Nat=>BS g p (i:Int)) from hx)
  have hi:=List.mem_range.1 hi
  have h1:=JN (i:Int) (by omega)
  obtain ⟨f,hf⟩:∃f:Nat,Lf g p (i:Int)=f:=⟨(Lf g p (i:Int)).toNat,by omega⟩
  unfold BS
  rw [hf,hac]
  have h2:=f2 f
  have h3:=(hfl f (by omega)).2 (by omega)
  omega
 ·obtain ⟨u,hu,MI⟩:=vO hm2 FB L (v:=cN g p) (by omega) hL (k:=k) (by omega)
  rw [JM] at hu
  have GU:u≠cN g p:=fun e=>by subst e;omega
  obtain ⟨e,he,tB⟩:=D7 hrun hI h0 (f:=u) (by omega)
  show (k:Int)∈(List.range g.es.length).map (fun i:Nat=>BS g p (i:Int))
  refine List.mem_map.2 ⟨e.toNat,List.mem_range.2 (by omega), ?_⟩
  rw [show ((e.toNat:Nat):Int)=e by omega]
  unfold BS
  rw [tB,hac,MI]
 ·obtain ⟨i,hi,rfl⟩:=List.getElem_of_mem hy
  have hi':i<(gX g).length:=hi
  show 0≤(gX g)[i]∧(gX g)[i]<_
  have h1:(gX g)[i]=(gX g).getD i 0:=by
   rw [List.getD_eq_getElem?_getD,List.getElem?_eq_getElem hi'];rfl
  rw [h1]
  have h2:=k2 i
  have h3:=(hlt i (by omega)).1
  omega
 ·obtain ⟨u,hu,MI⟩:=vO hm hok H (v:=t') (by omega) hH (k:=k) (by omega)
  show (k:Int)∈gX g
  rw [← MI]
  exact aG (by omega)
 ·rw [hfr s (by omega), ← hla, ← hs]
  unfold Ak
  rw [if_neg hne]
  obtain ⟨b,v,EK⟩:∃b v,bw p (ak p 0)=b::v:=List.exists_cons_of_ne_nil hne
  rw [EK]
  have:=hF.s0 (ho.trans EK)
  show Aj g p (Lf g p b)=0
  rw [this]
  exact FO
 ·rw [hfr t' (by omega), ← hla,hte];rfl
 ·rw [hto s (by omega), ← hla, ← hs]
  unfold toV
  rw [if_neg hne]
  obtain ⟨v,b,EK⟩:∃v b,bw p (ak p 0)=v++ [b]:=⟨_,_,(List.dropLast_concat_getLast hne).symm⟩
  have:=hF.s1 (ho.trans EK)
  rw [EK,List.length_append,List.length_singleton,Nat.add_sub_cancel,List.getD_eq_getElem?_getD,List.getElem?_append_right (Nat.le_refl _),Nat.sub_self]
  show Aj g p (Rf g p b) - 1=_
  rw [this,hac,hL]
 ·rw [hto t' (by omega), ← hla,hte]
  unfold toV
  rw [if_pos rfl,hac,hL]
 ·show (gX g).getD t' 0=_
  omega
end
end Go.Ab
end
section
namespace Go.Ab
open Go.Proofs
attribute [local congr] ACall.congr gd.congr Nx.congr
set_option maxRecDepth 20000
set_option maxHeartbeats 16000000
def hasB (b:Br) (x:Nat) (q:Int):Bool:=decide (b.fr.getD x 0≤q)&&decide (q≤b.to.getD x 0)
theorem y8 (b:Br) (x:Nat) (q:Int) (h1:x<b.fr.length) (h2:x<b.to.length) (hl:b.fr.length≤100000):Spec Tryz.prog 146 (Args [dG b,eN x,eN q]) [] (eB (hasB b x q)) []:=by
 cases hc:decide (b.fr.getD x 0≤q) with
 |false=>
  have hr:hasB b x q=false:=by unfold hasB;rw [hc];rfl
  rw [hr]
  (refine Spec.hd (C:=T.cfg [] []) (rs:= [.t 6]) (T.ai _ _) Tryz.func146 rfl rfl Tryz.ntmps146 Tryz.results146 (by simp [AObj.isNest]) (by simp [AObj.isNest]) (by kernel_rfl) T.mixed fun X hX hP hC aH bU=> ?_)
  repeat' (first|refine Rn.p ?_|(with_reducible apply And.intro)|((first|(refine hK _ ?_;clear hK K)|with_reducible intro K hK|refine Rs.p ?_|((with_reducible first|apply oP|apply oQ);exact rfl));try simp only [go_sem,simprocAttr,dG,hc])|((with_reducible refine oD ?_ ?_);kernel_rfl)|((with_reducible intro h);try simp only [go_sem,simprocAttr,dG,hc] at h)|omega|intro h)
 |true=>
  have hr:hasB b x q=decide (q≤b.to.getD x 0):=by unfold hasB;rw [hc];rfl
  rw [hr]
  (refine Spec.hd (C:=T.cfg [] []) (rs:= [.t 6]) (T.ai _ _) Tryz.func146 rfl rfl Tryz.ntmps146 Tryz.results146 (by simp [AObj.isNest]) (by simp [AObj.isNest]) (by kernel_rfl) T.mixed fun X hX hP hC aH bU=> ?_)
  repeat' (first|refine Rn.p ?_|(with_reducible apply And.intro)|((first|(refine hK _ ?_;clear hK K)|with_reducible intro K hK|refine Rs.p ?_|((with_reducible first|apply oP|apply oQ);exact rfl));try simp only [go_sem,simprocAttr,dG,hc])|((with_reducible refine oD ?_ ?_);kernel_rfl)|((with_reducible intro h);try simp only [go_sem,simprocAttr,dG,hc] at h)|omega|intro h)
def FC (b:Br) (x z:Nat):Bool:=decide (b.y.getD z 0=b.y.getD x 0)&&decide (b.fr.getD z 0≤b.to.getD x 0)&&decide (b.fr.getD x 0≤b.to.getD z 0)
def JP (b:Br) (x:Nat):Bool:=decide (b.fr.getD x 0≤b.to.getD x 0)&&(List.range x).all fun z=> !FC b x z
def pW (b:Br):Bool:=(List.range b.y.length).all (JP b)
theorem nr {n:Nat} {f:Nat→Bool} {k:Nat} (hk:k<n) (h:f k=false):(List.range n).all f=false:=List.all_eq_false.2 ⟨k,List.mem_range.2 hk,by rw [h];decide⟩
theorem oR {n:Nat} {f:Nat→Bool} (h:∀k,k<n→f k=true):(List.range n).all f=true:=List.all_eq_true.2 fun k hk=>h k (List.mem_range.1 hk)
theorem apart_spec (b:Br) (h1:b.fr.length=b.y.length) (h2:b.to.length=b.y.length) (hl:b.y.length≤100000):Spec Tryz.prog 97 (Args [dG b]) [] (eB (pW b)) []:=by
 (refine Spec.hd (C:=T.cfg [] []) (rs:= [.t 2]) (T.ai _ _) Tryz.func97 rfl rfl Tryz.ntmps97 Tryz.results97 (by simp [AObj.isNest]) (by simp [AObj.isNest]) (by kernel_rfl) T.mixed fun X hX hP hC aH bU=> ?_)
 repeat' (first|refine Rn.p ?_|(with_reducible apply And.intro)|((first|(refine hK _ ?_;clear hK K)|with_reducible intro K hK|refine Rs.p ?_|((with_reducible first|apply oP|apply oQ);exact rfl));try simp only [go_sem,simprocAttr,dG])|((with_reducible refine oD ?_ ?_);kernel_rfl)|((with_reducible intro h);try simp only [go_sem,simprocAttr,dG] at h)|omega|intro h)
 refine ag (fun k:Nat=>k≤b.y.length∧∀j,j<k→JP b j=true) (fun k=>⟨[(1, .ptr 1 0),(7, .d (sI b.y)),(8,eN b.y.length),(9,eN k)], [(1, .box [.d (sI b.y), .d (sI b.fr), .d (sI b.to), .d (sI b.x)])]⟩) (fun k=>b.y.length - k) 0 ⟨by omega,fun j hj=>by omega⟩ ?_ ?_
 ·refine Le.of ?_ ?_<;>simp [go_sem,simprocAttr]
 rintro k ⟨hk,hin⟩
 rcases Nat.lt_or_ge k b.y.length with bM|zj
 rotate_left
 ·have hb:decide ((k:Int)<(b.y.length:Int))=false:=decide_eq_false (by omega)
  obtain rfl:k=b.y.length:=by omega
  have hr:pW b=true:=oR hin
  rw [hr]
  repeat' (first|refine Rn.p ?_|(with_reducible apply And.intro)|((first|(refine hK _ ?_;clear hK K)|with_reducible intro K hK|refine Rs.p ?_|((with_reducible first|apply oP|apply oQ);exact rfl));try simp only [go_sem,simprocAttr,hb])|((with_reducible refine oD ?_ ?_);kernel_rfl)|((with_reducible intro h);try simp only [go_sem,simprocAttr,hb] at h)|omega|intro h)
 have hb:decide ((k:Int)<(b.y.length:Int))=true:=decide_eq_true (by omega)
 by_cases hc:b.fr.getD k 0≤b.to.getD k 0
 rotate_left
 ·have hc1:decide (b.to.getD k 0<b.fr.getD k 0)=true:=decide_eq_true (by omega)
  have hr:pW b=false:=nr bM (by unfold JP;rw [decide_eq_false hc];rfl)
  rw [hr]
  repeat' (first|refine Rn.p ?_|(with_reducible apply And.intro)|((first|(refine hK _ ?_;clear hK K)|with_reducible intro K hK|refine Rs.p ?_|((with_reducible first|apply oP|apply oQ);exact rfl));try simp only [go_sem,simprocAttr,hb,hc1])|((with_reducible refine oD ?_ ?_);kernel_rfl)|((with_reducible intro h);try simp only [go_sem,simprocAttr,hb,hc1] at h)|omega|intro h)
 have hc1:decide (b.to.getD k 0<b.fr.getD k 0)=false:=decide_eq_false (by omega)
 repeat' (first|refine Rn.p ?_|(with_reducible apply And.intro)|((first|(refine hK _ ?_;clear hK K)|with_reducible intro K hK|refine Rs.p ?_|((with_reducible first|apply oP|apply oQ);exact rfl));try simp only [go_sem,simprocAttr,hb,hc1])|((with_reducible refine oD ?_ ?_);kernel_rfl)|((with_reducible intro h);try simp only [go_sem,simprocAttr,hb,hc1] at h)|omega|intro h)
 refine ag (fun z:Nat=>z≤k∧∀j,j<z→FC b k j=false) (fun z=>⟨[(1, .ptr 1 0),(3,eN k),(4,eN (b.y.getD k 0)),(7, .d (sI b.y)),(8,eN b.y.length),(9,eN k),(25,eN k),(26,eN z)], [(1, .box [.d (sI b.y), .d (sI b.fr), .d (sI b.to), .d (sI b.x)])]⟩) (fun z=>k - z) 0 ⟨by omega,fun j hj=>by omega⟩ ?_ ?_
 ·refine Le.of ?_ ?_<;>simp [go_sem,simprocAttr]
 rintro z ⟨hz,JQ⟩
 rcases Nat.lt_or_ge z k with hzl|M4
 rotate_left
 ·have hbz:decide ((z:Int)<(k:Int))=false:=decide_eq_false (by omega)
  obtain rfl:z=k:=by omega
  repeat' (first|refine Rn.p ?_|(with_reducible apply And.intro)|((first|(refine hK _ ?_;clear hK K)|with_reducible intro K hK|refine Rs.p ?_|((with_reducible first|apply oP|apply oQ);exact rfl));try simp only [go_sem,simprocAttr,hbz])|((with_reducible refine oD ?_ ?_);kernel_rfl)|((with_reducible intro h);try simp only [go_sem,simprocAttr,hbz] at h)|omega|intro h)
  refine ⟨z+1,⟨by omega,fun j hj=> ?_⟩, ?_,by omega⟩
  ·by_cases As:j=z
   ·subst As
    unfold JP
    rw [decide_eq_true hc,oR (f:=fun z=> !FC b j z) (fun i hi=>by rw [JQ i hi];rfl)];rfl
   ·exact hin j (by omega)
  ·refine Le.of ?_ ?_<;>simp [go_sem,simprocAttr,hbz]
 have hbz:decide ((z:Int)<(k:Int))=true:=decide_eq_true (by omega)
 have hap:FC b k z=(decide (b.y.getD z 0=b.y.getD k 0)&&decide (b.fr.getD z 0≤b.to.getD k 0)&&decide (b.fr.getD k 0≤b.to.getD z 0)):=rfl
 have hno:FC b k z=true→pW b=false:=fun h1=>nr bM (by unfold JP;rw [nr (f:=fun z=> !FC b k z) hzl (by rw [h1];rfl),Bool.and_false])
 have hyes:FC b k z=false→∀j,j<z+1→FC b k j=false:=fun h1 j hj=>by
  by_cases As:j=z
  ·subst As;exact h1
  ·exact JQ j (by omega)
 generalize FC b k z=av at*
 cases BT:decide (b.y.getD z 0=b.y.getD k 0)<;>cases BU:decide (b.fr.getD z 0≤b.to.getD k 0)<;>cases Er:decide (b.fr.getD k 0≤b.to.getD z 0)<;>rw [BT,BU,Er] at hap<;>simp only [Bool.and_true,Bool.and_false,Bool.true_and,Bool.false_and] at hap<;>subst hap
 all_goals (
 repeat' (first|refine Rn.p ?_|(with_reducible apply And.intro)|((first|(refine hK _ ?_;clear hK K)|with_reducible intro K hK|refine Rs.p ?_|((with_reducible first|apply oP|apply oQ);exact rfl));try simp only [go_sem,simprocAttr,hbz,BT,BU,Er])|((with_reducible refine oD ?_ ?_);kernel_rfl)|((with_reducible intro h);try simp only [go_sem,simprocAttr,hbz,BT,BU,Er] at h)|omega|intro h))
 all_goals (first|(rw [hno rfl];done)|(exact hno rfl)|(exact (hno rfl).symm)|(refine ⟨z+1,⟨by omega,hyes rfl⟩, ?_,by omega⟩;refine Le.of ?_ ?_<;>simp [go_sem];done)|trace_state)
end Go.Ab
end
