/- A part of the proof. -/
import Derived.Test.YtchjjbfhlchpfaaGreatL3P16
set_option linter.unusedSimpArgs false
set_option linter.unusedVariables false
section
namespace Go.Ab
open Go.Proofs
set_option maxRecDepth 10000
def sj (g:Gr) (p:Pl) (f:Fr) (x:Int):Fr:=(az g f x (cl p x)).2
def vo (g:Gr) (p:Pl):Nat→Fr→Prop
 |0,f=>(f.pl.length:Int)=g.n
 |m+1,f=>∃x,ak g f x=true∧vo g p m (sj g p f x)
theorem vp {g:Gr} {p:Pl} :∀ {m:Nat} {f f':Fr},f.row=f'.row→f.pl.Perm f'.pl→vo g p m f→vo g p m f'
 |0,f,f',_,hp,h=>by
  have h:(f.pl.length:Int)=g.n:=h
  show (f'.pl.length:Int)=g.n
  rw [← hp.length_eq];exact h
 |m+1,f,f',hr,hp,⟨x,h1,h2⟩=>by
  refine ⟨x,by rw [← si hr hp];exact h1,vp ?_ ?_ h2⟩
  ·simp only [sj,az,hr]
  ·exact hp.append_right _
theorem AG {g:Gr} (hc:(bL g).1=0) {p:Pl} (hp:aU g p):∀ {m:Nat} {f:Fr},xF g f→(f.pl.length:Int)+(m+1:Nat)=g.n→vo g p (m+1) f→∀ {x:Int},ak g f x=true→vo g p m (sj g p f x)
 |m,f,hi,hl,⟨y,sR,hcan⟩,x,hR=>by
  have hm:=an hc
  by_cases hxy:x=y
  ·subst hxy;exact hcan
  have py:=bX hp (aB sR).1 (aB sR).2.1
  have px:=bX hp (aB hR).1 (aB hR).2.1
  have i2:=iw hm hi sR py
  match m,hl,hcan with
  |0,hl,hcan=>
   exfalso
   have h1:=kU i2.toer (by show ((f.pl++ [y]).length:Int)=g.n;simp;omega) (x:=x) ⟨(aB hR).1,(aB hR).2.1⟩
   have h2:x∈f.pl++ [y]:=h1
   simp [(aB hR).2.2,hxy] at h2
  |m+1,hl,hcan=>
   obtain ⟨h4,h5,h6,_⟩:=xG hc hi hxy hR sR px py
   have h3:=AG hc hp i2 (by show (((f.pl++ [y]).length:Nat):Int)+_=_;simp;omega) hcan h5
   refine ⟨y,h4,vp h6.symm ?_ h3⟩
   show (f.pl++ [y]++ [x]).Perm (f.pl++ [x]++ [y])
   rw [List.append_assoc,List.append_assoc]
   exact List.Perm.append_left _ (List.Perm.swap ..)
theorem AH {g:Gr} {p:Pl} (h:aX g p):∀ {d k:Nat},k+d=g.n.toNat→vo g p d (fK g p k)
 |0,k,hk=>by
  have hn:=aC (an h.1)
  obtain ⟨_,cJ,_⟩:=bS (an h.1) h.2.1 (k:=k) (by omega) fun j hj=>h.2.2 j (by omega)
  show ((fK g p k).pl.length:Int)=g.n
  rw [cJ,List.length_take,aR h.2.1];omega
 |d+1,k,hk=>⟨aE p k,h.2.2 k (by omega),AH h (k:=k+1) (by omega)⟩
def fY (rev:Bool) (l:List It):List It:=if rev=true then l.reverse else l
def fZ (g:Gr) (f:Fr) (rev:Bool):Int:=match (fY rev f.row).find? (fun t=>ak g f t.2.2) with
 |some t=>t.2.2
 |none=>(fk g f).headD (-1)
def bz (g:Gr) (p:Pl) (rev:Bool):Nat→Fr
 |0=>⟨[], []⟩
 |k+1=>sj g p (bz g p rev k) (fZ g (bz g p rev k) rev)
def ej (g:Gr) (p:Pl) (rev:Bool):Nat→List Int
 |0=>List.replicate g.n.toNat 0
 |k+1=>(ej g p rev k).set (fZ g (bz g p rev k) rev).toNat (k:Int)
theorem nv {g:Gr} {p:Pl} {rev:Bool} :∀ {k:Nat},(ej g p rev k).length=g.n.toNat
 |0=>by simp [ej]
 |k+1=>by rw [ej,List.length_set,nv]
theorem iy {g:Gr} (hm:aN g=true) {f:Fr} (hi:er g f) {x:Int} :x∈fk g f↔ak g f x=true:=by
 simp only [fk,ki,List.mem_map,List.mem_filter,List.mem_range]
 constructor
 ·rintro ⟨k,⟨h1,h2⟩,rfl⟩
  rw [← jz hm hi];exact h2
 ·intro h
  obtain ⟨h1,h2,_⟩:=aB h
  have e:((x.toNat:Nat):Int)=x:=by omega
  refine ⟨x.toNat,⟨by omega, ?_⟩,e⟩
  rw [e,jz hm hi];exact h
theorem vq {g:Gr} (hm:aN g=true) {f:Fr} (hi:er g f) (h:∃x,ak g f x=true) (rev:Bool):ak g f (fZ g f rev)=true:=by
 unfold fZ
 cases hf:(fY rev f.row).find? (fun t=>ak g f t.2.2) with
 |some t=>
  have h2:=List.find?_some (p:=fun t:It=>ak g f t.2.2) hf
  exact h2
 |none=>
  obtain ⟨x,hx⟩:=h
  have hx:=(iy hm hi).2 hx
  match hL:fk g f with
  | []=>rw [hL] at hx;cases hx
  |y::l=>exact (iy hm hi).1 (by rw [hL];simp)
theorem qg {g:Gr} {p:Pl} (h:aX g p) (rev:Bool):∀ {k:Nat},k≤g.n.toNat→xF g (bz g p rev k)∧(bz g p rev k).pl.length=k∧vo g p (g.n.toNat - k) (bz g p rev k)∧(bz g p rev k).row.length≤k*(g.es.length+1)
 |0,_=>⟨qe g,rfl,AH h (k:=0) (by omega),by simp [bz]⟩
 |k+1,hk=>by
  have hm:=an h.1
  have hn:=aC hm
  obtain ⟨h1,h2,h3,h4⟩:=qg h rev (k:=k) (by omega)
  obtain ⟨m,hmm⟩:∃m,g.n.toNat - k=m+1:=⟨g.n.toNat - k - 1,by omega⟩
  rw [hmm] at h3
  have hR:=vq hm h1.toer (by obtain ⟨x,hx,_⟩:=h3;exact ⟨x,hx⟩) rev
  have hx:=aB hR
  have hp:=bX h.2.1 hx.1 hx.2.1
  have hl:=xD (g:=g) (f:=bz g p rev k) (x:=fZ g (bz g p rev k) rev) (o:=cl p (fZ g (bz g p rev k) rev))
  have GL:=nu h.2.1 hx.1 hx.2.1
  refine ⟨iw hm h1 hR hp,hl.2.trans (by rw [h2]), ?_, ?_⟩
  ·rw [show g.n.toNat - (k+1)=m by omega]
   exact AG h.1 h.2.1 h1 (by omega) h3 hR
  ·show (az _ _ _ _).2.row.length≤_
   rw [Nat.add_mul];omega
theorem vr {g:Gr} {p:Pl} (h:aX g p) (rev:Bool) {k:Nat} (hk:k<g.n.toNat):ak g (bz g p rev k) (fZ g (bz g p rev k) rev)=true∧fk g (bz g p rev k)≠ []:=by
 have hm:=an h.1
 obtain ⟨h1,h2,h3,_⟩:=qg h rev (k:=k) (by omega)
 obtain ⟨m,hmm⟩:∃m,g.n.toNat - k=m+1:=⟨g.n.toNat - k - 1,by omega⟩
 rw [hmm] at h3
 have hR:=vq hm h1.toer (by obtain ⟨x,hx,_⟩:=h3;exact ⟨x,hx⟩) rev
 exact ⟨hR,fun e=>by
  have:=(iy hm h1.toer).2 hR
  rw [e] at this;cases this⟩
def S6 (g:Gr) (p:Pl) (rev:Bool):List Int:=(List.range g.n.toNat).map fun k=>fZ g (bz g p rev k) rev
end Go.Ab
end
section
namespace Go.Ab
open Go.Proofs
set_option maxRecDepth 10000
def oM (f:Fr):Fr:=⟨f.row.reverse,f.pl⟩
def ew (p:Pl):Pl:=⟨p.ord,p.outs.map List.reverse⟩
theorem EI {f:Fr} :oM (oM f)=f:=by simp [oM]
theorem Dl {g:Gr} {f:Fr} (h:er g f):er g (oM f):=⟨fun t ht=>h.it t (List.mem_reverse.1 ht),h.pl,h.qd⟩
theorem fX.rev {x:Int} {l:List It} (h:fX x l):fX x l.reverse:=fun t ht=>h t (List.mem_reverse.1 ht)
theorem Mid.rev {x:Int} {X:List It} (h:Mid x X):Mid x X.reverse:=
 ⟨by obtain ⟨X',q,h1,h2⟩:=h.K6;exact ⟨q,X'.reverse,by simp [h1],h2⟩,by obtain ⟨p,X',h1,h2⟩:=h.fst;exact ⟨X'.reverse,p,by simp [h1],h2⟩,fun t ht=>h.al t (List.mem_reverse.1 ht)⟩
theorem vt {g:Gr} (hm:aN g=true) {f:Fr} (hi:er g f) {x:Int} (hR:ak g f x=true):ak g (oM f) x=true:=by
 obtain ⟨h0,h1,h2⟩:=aB hR
 by_cases hn:bf g x=0
 ·unfold ak
  rw [if_neg (by rintro (h|h|h);omega;omega;exact h2 h),if_pos hn]
 ·obtain ⟨A,X,C,hr,hA,hC,hX,hc⟩:=bV hm hi hR hn
  exact jA hm (Dl hi) h0 h1 h2 (A:=C.reverse) (X:=X.reverse) (C:=A.reverse) (by simp [oM,hr]) hC.rev hA.rev hX.rev (by rw [List.countP_reverse,hc])
theorem EJ {g:Gr} (hm:aN g=true) {f:Fr} (hi:er g f) (x:Int):ak g (oM f) x=ak g f x:=by
 rw [Bool.eq_iff_iff]
 refine ⟨fun h=> ?_,vt hm hi⟩
 have:=vt hm (Dl hi) h
 rwa [EI] at this
theorem xH {g:Gr} {x:Int} {o:List Int} :aL g x o.reverse=(aL g x o).reverse:=by
 unfold aL
 by_cases h:o= []
 ·rw [if_pos h,if_pos (by rw [h];rfl)];rfl
 ·rw [if_neg h,if_neg (by simpa using h),List.map_reverse]
theorem AI {g:Gr} (hc:(bL g).1=0) {f:Fr} (hi:xF g f) {x:Int} (hR:ak g f x=true) (o:List Int):
 az g (oM f) x o.reverse=(((az g f x o).1.1.reverse,0),oM (az g f x o).2):=by
 have hm:=an hc
 obtain ⟨h0,h1,h2⟩:=aB hR
 by_cases hn:bf g x=0
 ·have hrow:f.row= []:=by
   rcases hi.src with ⟨_,h⟩|⟨s,hs,hz⟩
   ·exact h
   ·have:=jU hc (x:=s) (y:=x) (hi.qd s hs) ⟨h0,h1⟩ hz hn
    exact absurd (this ▸ hs) h2
  have hno:fX x f.row:=by rw [hrow];intro t ht;cases ht
  have Qo:fX x (oM f).row:=hno.rev
  rw [eY _ hno,eY _ Qo]
  simp [oM,hrow,xH]
 ·obtain ⟨A,X,C,hr,hA,hC,hX,_⟩:=bV hm hi.toer hR hn
  rw [eX o hr hA hC hX,eX (f:=oM f) (A:=C.reverse) (X:=X.reverse) (C:=A.reverse) o.reverse (by simp [oM,hr]) hC.rev hA.rev hX.rev]
  simp [oM,xH]
theorem y4 {p:Pl} {x:Int} :cl (ew p) x=(cl p x).reverse:=by
 unfold cl ew
 simp only [List.getD_eq_getElem?_getD,List.getElem?_map]
 cases p.outs[x.toNat]? <;>simp
theorem Ci {g:Gr} {p:Pl} (h:aU g p):aU g (ew p):=by
 refine ⟨by simpa [ew] using h.1,h.2.1,fun x hx=> ?_⟩
 have e:(ew p).outs.getD x []=(p.outs.getD x []).reverse:=by
  have:=y4 (p:=p) (x:=(x:Int))
  unfold cl at this
  simpa using this
 rw [e]
 exact (List.reverse_perm _).trans (h.2.2 x hx)
theorem y5 {g:Gr} {p:Pl} (h:aX g p):∀ {k:Nat},k≤g.n.toNat→fK g (ew p) k=oM (fK g p k)∧∀j,j<k→o5 g (ew p) j=true
 |0,_=>⟨rfl,fun j hj=>by omega⟩
 |k+1,hk=>by
  have hm:=an h.1
  obtain ⟨h1,h2⟩:=y5 h (k:=k) (by omega)
  obtain ⟨hi,_,_⟩:=bS hm h.2.1 (k:=k) (by omega) fun j hj=>h.2.2 j (by omega)
  have hR:ak g (fK g p k) (aE p k)=true:=h.2.2 k (by omega)
  have ho:aE (ew p) k=aE p k:=rfl
  have hok:o5 g (ew p) k=true:=by
   show ak g (fK g (ew p) k) (aE (ew p) k)=true
   rw [h1,ho,EJ hm hi.toer,hR]
  refine ⟨?_,fun j hj=> ?_⟩
  ·show (az g (fK g (ew p) k) (aE (ew p) k) (cl (ew p) (aE (ew p) k))).2=_
   rw [h1,ho,y4,AI h.1 hi hR]
   rfl
  ·by_cases e:j=k
   ·subst e;exact hok
   ·exact h2 j (by omega)
theorem G9 {g:Gr} {p:Pl} (h:aX g p):aX g (ew p):=
 ⟨h.1,Ci h.2.1,fun k hk=>(y5 h (k:=k+1) (by omega)).2 k (by omega)⟩
theorem He {g:Gr} {p:Pl} (h:aX g p) {k:Nat} (hk:k<g.n.toNat):cn g (ew p) k=(cn g p k).reverse:=by
 have hm:=an h.1
 obtain ⟨hi,_,_⟩:=bS hm h.2.1 (k:=k) (by omega) fun j hj=>h.2.2 j (by omega)
 have ho:aE (ew p) k=aE p k:=rfl
 show (az g (fK g (ew p) k) (aE (ew p) k) (cl (ew p) (aE (ew p) k))).1.1=_
 rw [(y5 h (by omega)).1,ho,y4,AI h.1 hi (h.2.2 k hk)]
 rfl
end Go.Ab
end
section
namespace Go.Ab
open Go.Proofs
set_option maxRecDepth 10000
def loose (l:List It):List Int:=(l.filter fun t=>decide (t.1<0)).map fun t=>t.2.1
theorem cg {a b:List It} :loose (a++b)=loose a++loose b:=by simp [loose]
def ck (g:Gr) (p:Pl):Nat→List Edge
 |0=> []
 |k+1=>ck g p k++(loose (cn g p k)).map fun v=>(v,aE p k)
def aS (g:Gr) (p:Pl):List It:=(fK g p g.n.toNat).row
def newL (g:Gr) (p:Pl):List Edge:=if 1<(aS g p).length then (loose (aS g p)).map fun v=>(v,g.n) else []
def aV (g:Gr) (p:Pl):List Edge:=ck g p g.n.toNat++newL g p
def ah (g:Gr) (p:Pl):Gr:=⟨if 1<(aS g p).length then g.n+1 else g.n,g.es++aV g p⟩
def dF:Nat→List Edge→List (List Int)→List (List Int)
 |_, [],O=>O
 |m,e::N,O=>dF (m+1) N (O.set e.1.toNat [(m:Int)])
def bB (g:Gr) (p:Pl):Pl:=⟨if 1<(aS g p).length then p.ord++ [g.n] else p.ord,dF g.es.length (aV g p) (if 1<(aS g p).length then p.outs++ [[]] else p.outs)⟩
def Cj (g:Gr) (p:Pl) (x:Gr):List (List Int):=(List.range x.n.toNat).map fun v=>if 0<(p.outs.getD v []).length then p.outs.getD v [] else aY x (v:Int)
theorem iz:∀ {m:Nat} {N:List Edge} {O:List (List Int)},(dF m N O).length=O.length
 |_, [],_=>rfl
 |m,e::N,O=>by rw [dF,iz,List.length_set]
theorem qh:∀ {m:Nat} {N M:List Edge} {O:List (List Int)},dF m (N++M) O=dF (m+N.length) M (dF m N O)
 |_, [],_,_=>rfl
 |m,e::N,M,O=>by
  rw [List.cons_append,dF,dF,qh,List.length_cons]
  congr 1
  omega
theorem xI:∀ {m:Nat} {N:List Edge} {O:List (List Int)},(∀e∈N,e.1.toNat<O.length)→dF m N (O++ [[]])=dF m N O++ [[]]
 |_, [],_,_=>rfl
 |m,e::N,O,h=>by
  rw [dF,dF,List.set_append_left _ _ (h e (List.mem_cons_self ..))]
  exact xI fun e' he=>by rw [List.length_set];exact h e' (List.mem_cons_of_mem _ he)
theorem vu {v:Nat} :∀ {m:Nat} {N:List Edge} {O:List (List Int)},(∀e∈N,e.1.toNat<O.length)→(∀e∈N,e.1.toNat≠v)→(dF m N O).getD v []=O.getD v []
 |_, [],_,_,_=>rfl
 |m,e::N,O,h,hv=>by
  rw [dF,vu (fun e' he=>by rw [List.length_set];exact h e' (List.mem_cons_of_mem _ he)) fun e' he=>hv e' (List.mem_cons_of_mem _ he),qW (h e (List.mem_cons_self ..)),if_neg (Ne.symm (hv e (List.mem_cons_self ..)))]
theorem Dm:∀ {m:Nat} {N:List Edge} {O:List (List Int)},(∀e∈N,0≤e.1∧e.1.toNat<O.length)→(N.map (·.1)).Nodup→∀ {j:Nat},j<N.length→(dF m N O).getD (N.getD j (0,0)).1.toNat []= [((m+j:Nat):Int)]
 |m,e::N,O,h,hd,0,_=>by
  rw [List.map_cons,List.nodup_cons] at hd
  rw [dF,List.getD_cons_zero,vu (fun e' he=>by rw [List.length_set];exact (h e' (List.mem_cons_of_mem _ he)).2) (fun e' he h2=>hd.1 ?_),qW (h e (List.mem_cons_self ..)).2,if_pos rfl]
  ·rfl
  ·have h3:=(h e (List.mem_cons_self ..)).1
   have h4:=(h e' (List.mem_cons_of_mem _ he)).1
   exact List.mem_map.2 ⟨e',he,by omega⟩
 |m,e::N,O,h,hd,j+1,hj=>by
  rw [List.map_cons,List.nodup_cons] at hd
  rw [dF,List.getD_cons_succ,Dm (fun e' he=>by rw [List.length_set];exact h e' (List.mem_cons_of_mem _ he)) hd.2 (by simpa using hj)]
  congr 2
  omega
theorem qX {f:Edge→Int} {es N:List Edge} {x:Int} :aM f (es++N) (es++N).length x=aM f es es.length x++(aM f N N.length x).map (· +(es.length:Int)):=by
 unfold aM
 rw [List.length_append,List.range_add,List.filter_append,List.map_append,List.filter_map,List.map_map,List.map_map]
 congr 1
 ·congr 1
  refine List.filter_congr fun i hi=> ?_
  have:=List.mem_range.1 hi
  rw [List.getD_eq_getElem?_getD,List.getElem?_append_left this, ← List.getD_eq_getElem?_getD]
 ·have e1:(List.range N.length).filter ((fun i=>decide (f ((es++N).getD i (0,0))=x)) ∘ fun x=>es.length+x)=(List.range N.length).filter fun i=>decide (f (N.getD i (0,0))=x):=by
   refine List.filter_congr fun i hi=> ?_
   simp only [Function.comp]
   rw [List.getD_eq_getElem?_getD,List.getElem?_append_right (by omega),Nat.add_sub_cancel_left, ← List.getD_eq_getElem?_getD]
  rw [e1]
  refine List.map_congr_left fun i _=> ?_
  simp only [Function.comp]
  show ((es.length+i:Nat):Int)=(i:Int)+(es.length:Int)
  omega
theorem filter_one {j:Nat} :∀ {n:Nat},j<n→(List.range n).filter (fun i=>decide (i=j))= [j]
 |n+1,h=>by
  rw [List.range_succ,List.filter_append]
  by_cases e:j=n
  ·subst e
   have:(List.range j).filter (fun i=>decide (i=j))= []:=List.filter_eq_nil_iff.2 fun i hi=>by
    have:=List.mem_range.1 hi
    simp;omega
   rw [this];simp
  ·rw [filter_one (by omega)]
   have: [n].filter (fun i=>decide (i=j))= []:=List.filter_eq_nil_iff.2 fun i hi=>by
    rw [List.mem_singleton] at hi
    simp;omega
   rw [this];simp
theorem AJ {N:List Edge} (hd:(N.map (·.1)).Nodup) {j:Nat} (hj:j<N.length):aM (·.1) N N.length (N.getD j (0,0)).1= [(j:Int)]:=by
 unfold aM
 have:(List.range N.length).filter (fun i=>decide ((N.getD i (0,0)).1=(N.getD j (0,0)).1))=(List.range N.length).filter (fun i=>decide (i=j)):=by
  refine List.filter_congr fun i hi=> ?_
  have hi:=List.mem_range.1 hi
  rw [decide_eq_decide]
  constructor
  ·intro h
   have e1:∀k,k<N.length→(N.map (·.1)).getD k 0=(N.getD k (0,0)).1:=fun k hk=>by
    simp [List.getD_eq_getElem?_getD,List.getElem?_eq_getElem hk]
   refine jv hd (by simpa using hi) (by simpa using hj) ?_
   rw [e1 i hi,e1 j hj,h]
  ·rintro rfl;rfl
 rw [this,filter_one hj]
 rfl
theorem jd {f:Edge→Int} {N:List Edge} {v:Int} (h:∀e∈N,f e≠v):aM f N N.length v= []:=by
 unfold aM
 rw [List.map_eq_nil_iff,List.filter_eq_nil_iff]
 intro i hi
 have:=h _ (aD (d:=(0,0)) (List.mem_range.1 hi))
 simpa using this
theorem AK {g:Gr} {x:Int} {o:List Int} (ho:∀i∈o,i∈aY g x):loose (aL g x o)=if o= [] then [x] else []:=by
 unfold aL
 split
 ·rfl
 ·simp only [loose,List.map_eq_nil_iff,List.filter_eq_nil_iff,List.mem_map]
  rintro t ⟨i,hi,rfl⟩
  obtain ⟨k,rfl,_⟩:=iu (ho i hi)
  simp [eL]
theorem kY {g:Gr} (hm:aN g=true) {p:Pl} (h:aU g p):∀ {k:Nat},k≤g.n.toNat→(∀j,j<k→o5 g p j=true)→
 ((ck g p k).map (·.1)++loose (fK g p k).row).Nodup∧∀v∈(ck g p k).map (·.1)++loose (fK g p k).row,v∈(fK g p k).pl∧cl p v= []
 |0,_,_=>by simp [ck,fK,loose]
 |k+1,hk,hok=>by
  obtain ⟨h1,h2⟩:=kY hm h (k:=k) (by omega) fun j hj=>hok j (by omega)
  obtain ⟨hi,cJ,_⟩:=bS hm h (k:=k) (by omega) fun j hj=>hok j (by omega)
  have hR:ak g (fK g p k) (aE p k)=true:=hok k (by omega)
  obtain ⟨x0,x1⟩:=bI h (k:=k) (by omega)
  have hx:=(aB hR).2.2
  have Di:=bX h x0 x1
  obtain ⟨A,X,C,hr,_,_,_,hs⟩:=fG hm hi.toer hR
  have Ns:cn g p k=X:=by unfold cn;rw [hs]
  have hrow:(fK g p (k+1)).row=A++aL g (aE p k) (cl p (aE p k))++C:=by show (az _ _ _ _).2.row=_;rw [hs]
  have qJ:(fK g p (k+1)).pl=(fK g p k).pl++ [aE p k]:=rfl
  have hla:=AK (g:=g) (x:=aE p k) (o:=cl p (aE p k)) fun i hi=>Di.mem_iff.1 hi
  have e1:(ck g p (k+1)).map (·.1)=(ck g p k).map (·.1)++loose X:=by
   rw [ck,Ns,List.map_append,List.map_map]
   congr 1
   simp [Function.comp_def]
  have e2:loose (fK g p (k+1)).row=loose A++(if cl p (aE p k)= [] then [aE p k] else [])++loose C:=by rw [hrow,cg,cg,hla]
  have e3:loose (fK g p k).row=loose A++loose X++loose C:=by rw [hr,cg,cg]
  rw [e3] at h1 h2
  have hP:((ck g p (k+1)).map (·.1)++loose (fK g p (k+1)).row).Perm (((ck g p k).map (·.1)++(loose A++loose X++loose C))++(if cl p (aE p k)= [] then [aE p k] else [])):=by
   rw [e1,e2,List.perm_iff_count]
   intro a
   simp only [List.count_append]
   omega
  constructor
  ·rw [hP.nodup_iff,List.nodup_append]
   refine ⟨h1,by split<;>simp,fun a ha b hb e=>hx ?_⟩
   split at hb
   ·rw [List.mem_singleton] at hb
    rw [← hb, ← e]
    exact (h2 a ha).1
   ·cases hb
  ·intro v hv
   rw [hP.mem_iff,List.mem_append] at hv
   rw [qJ,List.mem_append,List.mem_singleton]
   rcases hv with hv|hv
   ·exact ⟨.inl (h2 v hv).1,(h2 v hv).2⟩
   ·split at hv
    ·rw [List.mem_singleton] at hv
     subst hv
     exact ⟨.inr rfl,by assumption⟩
    ·cases hv
theorem eZ {g:Gr} {p:Pl} (hr:aX g p):((aV g p).map (·.1)).Nodup∧∀e∈aV g p,(0≤e.1∧e.1<g.n)∧cl p e.1= []:=by
 obtain ⟨hc,h,hok⟩:=hr
 have hm:=an hc
 obtain ⟨h1,h2⟩:=kY hm h (k:=g.n.toNat) (Nat.le_refl _) hok
 obtain ⟨hi,_⟩:=bS hm h (k:=g.n.toNat) (Nat.le_refl _) hok
 have e1:(aV g p).map (·.1)=(ck g p g.n.toNat).map (·.1)++if 1<(aS g p).length then loose (aS g p) else []:=by
  rw [aV,newL,List.map_append]
  congr 1
  split
  ·rw [List.map_map];simp [Function.comp_def]
  ·rfl
 have hsub:∀v∈(aV g p).map (·.1),v∈(ck g p g.n.toNat).map (·.1)++loose (aS g p):=by
  intro v hv
  rw [e1,List.mem_append] at hv
  rw [List.mem_append]
  rcases hv with hv|hv
  ·exact .inl hv
  ·split at hv
   ·exact .inr hv
   ·cases hv
 constructor
 ·rw [e1]
  split
  ·exact h1
  ·rw [List.append_nil]
   exact (List.nodup_append.1 h1).1
 ·intro e he
  have:=h2 e.1 (hsub _ (List.mem_map.2 ⟨e,he,rfl⟩))
  exact ⟨hi.qd _ this.1,this.2⟩
theorem kZ {g:Gr} {p:Pl} (h:aU g p) {v:Int} (h0:0≤v) (h1:v<g.n):aY g v= []↔cl p v= []:=by
 have hp:=bX h h0 h1
 constructor
 ·intro e;rw [e] at hp;exact hp.eq_nil
 ·intro e;rw [e] at hp;exact hp.symm.eq_nil
theorem qi {g:Gr} {p:Pl} (hr:aX g p):(bB g p).outs=Cj g p (ah g p):=by
 obtain ⟨sJ,BA⟩:=eZ hr
 have h:=hr.2.1
 have hm:=an hr.1
 have hn:=aC hm
 generalize hO:(if 1<(aS g p).length then p.outs++ [[]] else p.outs)=O
 have LZ:O.length=(ah g p).n.toNat:=by
  rw [← hO]
  unfold ah
  split
  ·rw [List.length_append,h.1];simp;omega
  ·rw [h.1]
 have S7:∀v,O.getD v []=p.outs.getD v []:=by
  intro v
  rw [← hO]
  split
  ·rw [List.getD_eq_getElem?_getD,List.getD_eq_getElem?_getD,List.getElem?_append]
   split
   ·rfl
   ·rename_i hv
    rw [List.getElem?_eq_none (by omega:p.outs.length≤v)]
    cases o6:v - p.outs.length<;>simp
  ·rfl
 have UE:g.n.toNat≤O.length:=by rw [← hO];split<;>simp [h.1]
 have oN:∀e∈aV g p,0≤e.1∧e.1.toNat<O.length:=fun e he=>by
  have:=(BA e he).1;omega
 have Qb:∀e∈aV g p,e.1.toNat<O.length:=fun e he=>(oN e he).2
 show dF g.es.length (aV g p) (if 1<(aS g p).length then p.outs++ [[]] else p.outs)=_
 rw [hO]
 refine List.ext_getElem (by rw [iz,LZ];simp [Cj]) fun v D6 Gt=> ?_
 rw [iz] at D6
 have hL:(dF g.es.length (aV g p) O).getD v []=(dF g.es.length (aV g p) O)[v]'(by rw [iz];exact D6):=by
  rw [List.getD_eq_getElem?_getD,List.getElem?_eq_getElem (by rw [iz];exact D6)];rfl
 rw [← hL]
 have hD:(Cj g p (ah g p))[v]=if 0<(p.outs.getD v []).length then p.outs.getD v [] else aY (ah g p) (v:Int):=by simp [Cj]
 rw [hD]
 have hlv:cl p (v:Int)=p.outs.getD v []:=by unfold cl;rw [Int.toNat_natCast]
 have hout:aY (ah g p) (v:Int)=aY g (v:Int)++(aM (·.1) (aV g p) (aV g p).length (v:Int)).map (· +(g.es.length:Int)):=qX
 by_cases hin:∃j,j<(aV g p).length∧((aV g p).getD j (0,0)).1=v
 ·obtain ⟨j,hj,e⟩:=hin
  have hmem:=aD (d:=(0,0)) hj
  obtain ⟨⟨q0,q1⟩,q2⟩:=BA _ hmem
  rw [e] at q0 q1 q2
  rw [hlv] at q2
  rw [q2,if_neg (by simp),hout,(kZ h q0 q1).2 (by rw [hlv];exact q2), ← e,AJ sJ hj]
  have:=Dm (m:=g.es.length) oN sJ hj
  rw [e,Int.toNat_natCast] at this
  rw [this]
  simp
  omega
 ·have hno:∀e∈aV g p,e.1≠(v:Int):=fun e he h2=>hin (by
   obtain ⟨j,hj,e1⟩:=List.mem_iff_getElem.1 he
   exact ⟨j,hj,by rw [List.getD_eq_getElem?_getD,List.getElem?_eq_getElem hj,Option.getD_some,e1,h2]⟩)
  rw [vu Qb (fun e he h2=>hno e he (by have:=(oN e he).1;omega)),S7,hout,jd hno]
  simp only [List.map_nil,List.append_nil]
  split
  ·rfl
  ·rename_i hl
   have hl:p.outs.getD v []= []:=List.eq_nil_of_length_eq_zero (by omega)
   rw [hl]
   by_cases Ll:v<g.n.toNat
   ·exact ((kZ h (v:=(v:Int)) (by omega) (by omega)).2 (by rw [hlv];exact hl)).symm
   ·symm
    refine jd fun e he h2=> ?_
    obtain ⟨i,hi,rfl⟩:=List.mem_iff_getElem.1 he
    have:=(cM hm hi).1
    rw [List.getD_eq_getElem?_getD,List.getElem?_eq_getElem hi,Option.getD_some] at this
    omega
end Go.Ab
end
section
namespace Go.Ab
open Go.Proofs
set_option maxRecDepth 10000
abbrev Act:=Int × List Int
def rA (a:Act):List D:= [.sc (.int .i64 a.1),sI a.2]
def sA (as':List Act):D:= .sl 2 (as'.map rA)
attribute [go_sem] sA
def Nt (g:Gr) (Lm:List Act):Nat→Fr
 |0=>⟨[], []⟩
 |k+1=>(cy g (Nt g Lm k) (Lm.getD k (0, [])).1 (Lm.getD k (0, [])).2).2
theorem Kb {g:Gr} {f:Fr} (hi:er g f):(f.pl.length:Int)≤g.n∨f.pl= []:=by
 by_cases h:f.pl= []
 ·exact .inr h
 ·left
  obtain ⟨y,hy⟩:=List.exists_mem_of_ne_nil _ h
  have:=hi.qd y hy
  have h3:=gR hi.pl (m:=(List.range g.n.toNat).map Int.ofNat) (fun y hy=>by
   rw [List.mem_map]
   have:=hi.qd y hy
   exact ⟨y.toNat,List.mem_range.2 (by omega),by simp;omega⟩)
  simp at h3
  omega
theorem sk (g:Gr) (hm:aN g=true) (f:Fr) (hi:xF g f) (x:Int) (outs:List Int) (hr:f.row.length≤300000) (hp:f.pl.length≤100000) (ho:outs.length≤17592186043904):
 Spec Tryz.prog 83 (Args [.ptr 10000 0,eN x, .d (sI outs)]) (jL g f) (.tup [.d (sT (cy g f x outs).1.1),eN (cy g f x outs).1.2]) (qE g (cy g f x outs).2):=by
 rw [← G4 hm hi.toer]
 exact Cg g hm f x outs hr hp ho
end Go.Ab
end
section
namespace Go.Ab
open Go.Proofs
attribute [local congr] ACall.congr gd.congr Nx.congr
set_option maxRecDepth 10000
set_option maxHeartbeats 4000000
def ePl (p:Pl):AV:= .agg [.d (sI p.ord), .d (.sl 1 (vI p.outs))]
attribute [go_sem] ePl
structure gE (p:Pl):Prop where
 ord:p.ord.length≤17592186043904
 outs:p.outs.length≤9223372036854775807
 each:∀l∈p.outs,l.length≤17592186043904
theorem Hf (g:Gr) (hm:aN g=true) (p:Pl) (hp:gE p) (res:Bool) (hr:res=true↔aU g p):Spec Tryz.prog 82 (Args [.d (vw g),ePl p]) [] (eB res) []:=by
 rw [← Ji hm] at hr
 have hn:=aC hm
 have ho:=hp.ord
 have Me:=hp.outs
 by_cases h1:p.outs.length=g.n.toNat∧p.ord.length=g.n.toNat
 rotate_left
 ·have hres:res=false:=by
   rw [← Bool.not_eq_true,hr]
   rintro ⟨h2,h3,_⟩
   exact h1 ⟨h2,h3⟩
  subst hres
  by_cases h2:(p.outs.length:Int)=g.n
  ·have hb1:decide ((p.outs.length:Int)=g.n)=true:=decide_eq_true h2
   have hb2:decide ((p.ord.length:Int)=g.n)=false:=decide_eq_false fun h3=>h1 ⟨by omega,by omega⟩
   (refine Spec.hd (C:=T.cfg [] []) (rs:= [.t 4]) (T.ai _ _) Tryz.func82 rfl rfl Tryz.ntmps82 Tryz.results82 (by simp [AObj.isNest]) (by simp [AObj.isNest]) (by kernel_rfl) T.mixed fun X hX hP hC aH bU=> ?_)
   repeat' (first|refine Rn.p ?_|(with_reducible apply And.intro)|((first|(refine hK _ ?_;clear hK K)|with_reducible intro K hK|refine Rs.p ?_|((with_reducible first|apply oP|apply oQ);exact rfl));try simp only [go_sem,simprocAttr,aA,hb1,hb2])|((with_reducible refine oD ?_ ?_);kernel_rfl)|((with_reducible intro h);try simp only [go_sem,simprocAttr,aA,hb1,hb2] at h)|omega|intro h)
  ·have hb1:decide ((p.outs.length:Int)=g.n)=false:=decide_eq_false h2
   (refine Spec.hd (C:=T.cfg [] []) (rs:= [.t 4]) (T.ai _ _) Tryz.func82 rfl rfl Tryz.ntmps82 Tryz.results82 (by simp [AObj.isNest]) (by simp [AObj.isNest]) (by kernel_rfl) T.mixed fun X hX hP hC aH bU=> ?_)
   repeat' (first|refine Rn.p ?_|(with_reducible apply And.intro)|((first|(refine hK _ ?_;clear hK K)|with_reducible intro K hK|refine Rs.p ?_|((with_reducible first|apply oP|apply oQ);exact rfl));try simp only [go_sem,simprocAttr,aA,hb1])|((with_reducible refine oD ?_ ?_);kernel_rfl)|((with_reducible intro h);try simp only [go_sem,simprocAttr,aA,hb1] at h)|omega|intro h)
 have hb1:decide ((p.outs.length:Int)=g.n)=true:=decide_eq_true (by omega)
 have hb2:decide ((p.ord.length:Int)=g.n)=true:=decide_eq_true (by omega)
 have Fm:=fE p.ord
 (refine Spec.hd (C:=T.cfg [] []) (rs:= [.t 4]) (T.ai _ _) Tryz.func82 rfl rfl Tryz.ntmps82 Tryz.results82 (by simp [AObj.isNest]) (by simp [AObj.isNest]) (by kernel_rfl) T.mixed fun X hX hP hC aH bU=> ?_)
 repeat' (first|refine Rn.p ?_|(with_reducible apply And.intro)|((first|(refine hK _ ?_;clear hK K)|with_reducible intro K hK|refine Rs.p ?_|((with_reducible first|apply oP|apply oQ);exact rfl)|(refine aq hX hC hP [(10000,31)] (cP p.ord) rfl rfl rfl ?_ ?_ ?_ ?_ ?_ ?_ ?_ ?_ ?_ ?_ ?_ ?_ ?_ ?_;(focus (simp only [go_sem,simprocAttr,aA,hb1,hb2];done));(iterate 12 (focus (simp [go_sem,simprocAttr,aA,hb1,hb2];done)));try simp only [List.map_cons,List.map_nil])|(refine aJ hX hC hP [(10000,31)] (cw p.ord ho) rfl rfl rfl ?_ ?_ ?_ ?_ ?_ ?_ rfl rfl ?_ ?_;(focus (simp only [go_sem,simprocAttr,aA,hb1,hb2];done));(iterate 6 (focus (simp [go_sem,simprocAttr,aA,hb1,hb2];done)));try simp only [List.map_cons,List.map_nil]));try simp only [go_sem,simprocAttr,aA,hb1,hb2])|((with_reducible refine oD ?_ ?_);kernel_rfl)|((with_reducible intro h);try simp only [go_sem,simprocAttr,aA,hb1,hb2] at h)|omega|intro h)
 clear hb1 hb2
 refine ag (fun k:Nat=>k≤(iI p.ord).length∧∀i:Nat,i<k→(iI p.ord).getD i 0=i) (fun k=>⟨[(0, .d (vw g)),(3, .ptr 3 0),(32, .d (sI (iI p.ord))),(33,eN (iI p.ord).length),(34,eN k)], [(3, .box [.d (sI p.ord), .d (.sl 1 (vI p.outs))])]⟩) (fun k=>(iI p.ord).length - k) 0 (by simp) ?_ ?_
 ·(refine Le.of ?_ ?_<;>simp [go_sem,simprocAttr,aA])
 rintro k ⟨hk,hg⟩
 rcases Nat.lt_or_ge k (iI p.ord).length with hlt|hge
 ·have hb:decide ((k:Int)<((iI p.ord).length:Int))=true:=decide_eq_true (by omega)
  by_cases he:(iI p.ord).getD k 0=k
  ·have hb2:decide ((iI p.ord).getD k 0=(k:Int))=true:=decide_eq_true he
   repeat' (first|refine Rn.p ?_|(with_reducible apply And.intro)|((first|(refine hK _ ?_;clear hK K)|with_reducible intro K hK|refine Rs.p ?_|((with_reducible first|apply oP|apply oQ);exact rfl)|(refine aq hX hC hP [(10000,31)] (cP p.ord) rfl rfl rfl ?_ ?_ ?_ ?_ ?_ ?_ ?_ ?_ ?_ ?_ ?_ ?_ ?_ ?_;(focus (simp only [go_sem,simprocAttr,aA,hb,hb2];done));(iterate 12 (focus (simp [go_sem,simprocAttr,aA,hb,hb2];done)));try simp only [List.map_cons,List.map_nil])|(refine aJ hX hC hP [(10000,31)] (cw p.ord ho) rfl rfl rfl ?_ ?_ ?_ ?_ ?_ ?_ rfl rfl ?_ ?_;(focus (simp only [go_sem,simprocAttr,aA,hb,hb2];done));(iterate 6 (focus (simp [go_sem,simprocAttr,aA,hb,hb2];done)));try simp only [List.map_cons,List.map_nil]));try simp only [go_sem,simprocAttr,aA,hb,hb2])|((with_reducible refine oD ?_ ?_);kernel_rfl)|((with_reducible intro h);try simp only [go_sem,simprocAttr,aA,hb,hb2] at h)|omega|intro h)
   refine ⟨k+1,⟨by omega,fun i hi=> ?_⟩, ?_,by omega⟩
   ·by_cases hik:i=k
    ·subst hik;exact he
    ·exact hg i (by omega)
   ·(refine Le.of ?_ ?_<;>simp [go_sem,simprocAttr,aA,hb,hb2])
  ·have hb2:decide ((iI p.ord).getD k 0=(k:Int))=false:=decide_eq_false he
   have hres:res=false:=by
    rw [← Bool.not_eq_true,hr]
    rintro ⟨_,_,h3,_⟩
    exact he (h3 k hlt)
   subst hres
   repeat' (first|refine Rn.p ?_|(with_reducible apply And.intro)|((first|(refine hK _ ?_;clear hK K)|with_reducible intro K hK|refine Rs.p ?_|((with_reducible first|apply oP|apply oQ);exact rfl)|(refine aq hX hC hP [(10000,31)] (cP p.ord) rfl rfl rfl ?_ ?_ ?_ ?_ ?_ ?_ ?_ ?_ ?_ ?_ ?_ ?_ ?_ ?_;(focus (simp only [go_sem,simprocAttr,aA,hb,hb2];done));(iterate 12 (focus (simp [go_sem,simprocAttr,aA,hb,hb2];done)));try simp only [List.map_cons,List.map_nil])|(refine aJ hX hC hP [(10000,31)] (cw p.ord ho) rfl rfl rfl ?_ ?_ ?_ ?_ ?_ ?_ rfl rfl ?_ ?_;(focus (simp only [go_sem,simprocAttr,aA,hb,hb2];done));(iterate 6 (focus (simp [go_sem,simprocAttr,aA,hb,hb2];done)));try simp only [List.map_cons,List.map_nil]));try simp only [go_sem,simprocAttr,aA,hb,hb2])|((with_reducible refine oD ?_ ?_);kernel_rfl)|((with_reducible intro h);try simp only [go_sem,simprocAttr,aA,hb,hb2] at h)|omega|intro h)
 have hb:decide ((k:Int)<((iI p.ord).length:Int))=false:=decide_eq_false (by omega)
 repeat' (first|refine Rn.p ?_|(with_reducible apply And.intro)|((first|(refine hK _ ?_;clear hK K)|with_reducible intro K hK|refine Rs.p ?_|((with_reducible first|apply oP|apply oQ);exact rfl)|(refine aq hX hC hP [(10000,31)] (cP p.ord) rfl rfl rfl ?_ ?_ ?_ ?_ ?_ ?_ ?_ ?_ ?_ ?_ ?_ ?_ ?_ ?_;(focus (simp only [go_sem,simprocAttr,aA,hb];done));(iterate 12 (focus (simp [go_sem,simprocAttr,aA,hb];done)));try simp only [List.map_cons,List.map_nil])|(refine aJ hX hC hP [(10000,31)] (cw p.ord ho) rfl rfl rfl ?_ ?_ ?_ ?_ ?_ ?_ rfl rfl ?_ ?_;(focus (simp only [go_sem,simprocAttr,aA,hb];done));(iterate 6 (focus (simp [go_sem,simprocAttr,aA,hb];done)));try simp only [List.map_cons,List.map_nil]));try simp only [go_sem,simprocAttr,aA,hb])|((with_reducible refine oD ?_ ?_);kernel_rfl)|((with_reducible intro h);try simp only [go_sem,simprocAttr,aA,hb] at h)|omega|intro h)
 obtain rfl:k=(iI p.ord).length:=by omega
 clear hb hk
 refine ag (fun x:Nat=>x≤p.outs.length∧∀i:Nat,i<x→iI (p.outs.getD i [])=bF (·.1) g i) (fun x=>⟨[(0, .d (vw g)),(44, .d (.sl 1 (vI p.outs))),(45,eN p.outs.length),(46,eN x)], []⟩) (fun x=>p.outs.length - x) 0 (by simp) ?_ ?_
 ·refine Le.of ?_ ?_<;>simp [go_sem,simprocAttr,aA]
 rintro x ⟨hx,y6⟩
 rcases Nat.lt_or_ge x p.outs.length with hxl|Rq
 ·have hb:decide ((x:Int)<(p.outs.length:Int))=true:=decide_eq_true (by omega)
  have hv:=dx hxl
  have hl:=hp.each _ (aD (d:= []) hxl)
  have hn2:∀h:iI (p.outs.getD x [])=bF (·.1) g x,∀i:Nat,i<x+1→iI (p.outs.getD i [])=bF (·.1) g i:=fun h i hi=>by
   by_cases Ln:i=x
   ·subst Ln;exact h
   ·exact y6 i (by omega)
  have rS:¬iI (p.outs.getD x [])=bF (·.1) g x→res=false:=fun h=>by
   rw [← Bool.not_eq_true,hr]
   rintro ⟨_,_,_,h4⟩
   exact h (h4 x hxl)
  generalize p.outs.getD x []=l at hv hl hn2 rS
  have S8:=fE l
  by_cases he:iI l=bF (·.1) g x
  ·have hb2:decide (iI l=bF (·.1) g (x:Int))=true:=decide_eq_true he
   repeat' (first|refine Rn.p ?_|(with_reducible apply And.intro)|((first|(refine hK _ ?_;clear hK K)|with_reducible intro K hK|refine Rs.p ?_|((with_reducible first|apply oP|apply oQ);exact rfl)|(refine aq hX hC hP [(10000,52)] (cP l) rfl rfl rfl ?_ ?_ ?_ ?_ ?_ ?_ ?_ ?_ ?_ ?_ ?_ ?_ ?_ ?_;(focus (simp only [go_sem,simprocAttr,hb,hv,hb2];done));(iterate 12 (focus (simp [go_sem,simprocAttr,hb,hv,hb2];done)));try simp only [List.map_cons,List.map_nil])|(refine aJ hX hC hP [(10000,52)] (cw l hl) rfl rfl rfl ?_ ?_ ?_ ?_ ?_ ?_ rfl rfl ?_ ?_;(focus (simp only [go_sem,simprocAttr,hb,hv,hb2];done));(iterate 6 (focus (simp [go_sem,simprocAttr,hb,hv,hb2];done)));try simp only [List.map_cons,List.map_nil])|refine aa hX hC hP (jc g hm (x:Int)) rfl rfl rfl (by simp only [go_sem,simprocAttr,hb,hv,hb2]) rfl ?_|refine aa hX hC hP (fW (iI l) (bF (·.1) g x) (by omega)) rfl rfl rfl (by simp only [go_sem,simprocAttr,hb,hv,hb2]) rfl ?_);try simp only [go_sem,simprocAttr,hb,hv,hb2])|((with_reducible refine oD ?_ ?_);kernel_rfl)|((with_reducible intro h);try simp only [go_sem,simprocAttr,hb,hv,hb2] at h)|omega|intro h)
   refine ⟨x+1,⟨by omega,hn2 he⟩, ?_,by omega⟩
   (refine Le.of ?_ ?_<;>simp [go_sem,simprocAttr,hb,hv,hb2])
  ·have hb2:decide (iI l=bF (·.1) g (x:Int))=false:=decide_eq_false he
   have hres:=rS he
   subst hres
   repeat' (first|refine Rn.p ?_|(with_reducible apply And.intro)|((first|(refine hK _ ?_;clear hK K)|with_reducible intro K hK|refine Rs.p ?_|((with_reducible first|apply oP|apply oQ);exact rfl)|(refine aq hX hC hP [(10000,52)] (cP l) rfl rfl rfl ?_ ?_ ?_ ?_ ?_ ?_ ?_ ?_ ?_ ?_ ?_ ?_ ?_ ?_;(focus (simp only [go_sem,simprocAttr,hb,hv,hb2];done));(iterate 12 (focus (simp [go_sem,simprocAttr,hb,hv,hb2];done)));try simp only [List.map_cons,List.map_nil])|(refine aJ hX hC hP [(10000,52)] (cw l hl) rfl rfl rfl ?_ ?_ ?_ ?_ ?_ ?_ rfl rfl ?_ ?_;(focus (simp only [go_sem,simprocAttr,hb,hv,hb2];done));(iterate 6 (focus (simp [go_sem,simprocAttr,hb,hv,hb2];done)));try simp only [List.map_cons,List.map_nil])|refine aa hX hC hP (jc g hm (x:Int)) rfl rfl rfl (by simp only [go_sem,simprocAttr,hb,hv,hb2]) rfl ?_|refine aa hX hC hP (fW (iI l) (bF (·.1) g x) (by omega)) rfl rfl rfl (by simp only [go_sem,simprocAttr,hb,hv,hb2]) rfl ?_);try simp only [go_sem,simprocAttr,hb,hv,hb2])|((with_reducible refine oD ?_ ?_);kernel_rfl)|((with_reducible intro h);try simp only [go_sem,simprocAttr,hb,hv,hb2] at h)|omega|intro h)
 ·have hb:decide ((x:Int)<(p.outs.length:Int))=false:=decide_eq_false (by omega)
  obtain rfl:x=p.outs.length:=by omega
  have hres:res=true:=hr.2 ⟨h1.1,h1.2,fun i hi=>hg i (by omega),y6⟩
  subst hres
  repeat' (first|refine Rn.p ?_|(with_reducible apply And.intro)|((first|(refine hK _ ?_;clear hK K)|with_reducible intro K hK|refine Rs.p ?_|((with_reducible first|apply oP|apply oQ);exact rfl)|(refine aq hX hC hP [(10000,52)] (cP l) rfl rfl rfl ?_ ?_ ?_ ?_ ?_ ?_ ?_ ?_ ?_ ?_ ?_ ?_ ?_ ?_;(focus (simp only [go_sem,simprocAttr,hb];done));(iterate 12 (focus (simp [go_sem,simprocAttr,hb];done)));try simp only [List.map_cons,List.map_nil])|(refine aJ hX hC hP [(10000,52)] (cw l hl) rfl rfl rfl ?_ ?_ ?_ ?_ ?_ ?_ rfl rfl ?_ ?_;(focus (simp only [go_sem,simprocAttr,hb];done));(iterate 6 (focus (simp [go_sem,simprocAttr,hb];done)));try simp only [List.map_cons,List.map_nil])|refine aa hX hC hP (jc g hm (x:Int)) rfl rfl rfl (by simp only [go_sem,simprocAttr,hb]) rfl ?_|refine aa hX hC hP (fW (iI l) (bF (·.1) g x) (by omega)) rfl rfl rfl (by simp only [go_sem,simprocAttr,hb]) rfl ?_);try simp only [go_sem,simprocAttr,hb])|((with_reducible refine oD ?_ ?_);kernel_rfl)|((with_reducible intro h);try simp only [go_sem,simprocAttr,hb] at h)|omega|intro h)
end Go.Ab
end
section
namespace Go.Ab
open Go.Proofs
attribute [local congr] ACall.congr gd.congr Nx.congr
set_option maxRecDepth 10000
set_option maxHeartbeats 8000000
def oO (m:Nat) (fl:List Int):List Int:=(List.range m).map fun i:Nat=>if (i:Int)∈fl then (1:Int) else 0
theorem AL {m:Nat} {fl:List Int} :(oO m fl).length=m:=by simp [oO]
theorem EK {m:Nat} :oO m []=List.replicate m 0:=by
 refine List.ext_getElem (by simp [oO]) fun i h1 h2=> ?_
 simp [oO]
theorem Dn {m:Nat} {fl:List Int} {i:Nat} (h:i<m):(oO m fl).getD i 0=if (i:Int)∈fl then 1 else 0:=by
 simp [oO,List.getD_eq_getElem?_getD,List.getElem?_range h]
theorem Hg {m:Nat} {fl:List Int} {i:Nat} (h:i<m):(oO m fl).set i 1=oO m (fl++ [(i:Int)]):=by
 refine List.ext_getElem (by simp [oO]) fun j h1 h2=> ?_
 rw [List.getElem_set]
 simp only [oO,List.getElem_map,List.getElem_range,List.mem_append,List.mem_singleton]
 by_cases e:i=j
 ·subst e;simp
 ·rw [if_neg e]
  have:¬(j:Int)=(i:Int):=by omega
  simp [this]
theorem Hh {outs:List (List Int)} {x k:Nat} (hx:x<outs.length):((outs.take x).flatten++(outs.getD x []).take k).Sublist outs.flatten:=by
 have e:outs=outs.take x++outs.getD x []::outs.drop (x+1):=by
  conv=>lhs;rw [← List.take_append_drop x outs]
  congr 1
  rw [List.drop_eq_getElem_cons hx,List.getD_eq_getElem?_getD,List.getElem?_eq_getElem hx]
  rfl
 conv=>rhs;rw [e]
 rw [List.flatten_append,List.flatten_cons]
 exact List.Sublist.append (List.Sublist.refl _) ((List.take_sublist _ _).trans (List.sublist_append_left _ _))
theorem Ck {l:List Int} {k:Nat} (h:k<l.length):l.take (k+1)=l.take k++ [l.getD k 0]:=by
 rw [List.take_add_one,List.getD_eq_getElem?_getD,List.getElem?_eq_getElem h];rfl
theorem mJ {g:Gr} {x i:Int} :i∈aY g x↔(0≤i∧i<g.es.length)∧(g.es.getD i.toNat (0,0)).1=x:=by
 constructor
 ·exact gO
 ·rintro ⟨⟨h1,h2⟩,h3⟩
  simp only [aY,aM,List.mem_map,List.mem_filter,List.mem_range,decide_eq_true_eq]
  exact ⟨i.toNat,⟨by omega,h3⟩,by simp;omega⟩
theorem Hj (g:Gr) (hl:g.es.length≤9223372036854775807) (p:Pl) (hp:gE p) (res:Bool) (hr:res=true↔(bL g).1=0∧aU g p):Spec Tryz.prog 110 (Args [eG g,ePl p]) [] (eB res) []:=by
 have ho:p.ord.length≤9223372036854775807:=by have:=hp.ord;omega
 have Me:=hp.outs
 by_cases hc:(bL g).1=0
 rotate_left
 ·have hres:res=false:=by
   rw [← Bool.not_eq_true,hr]
   rintro ⟨h,_⟩
   exact hc h
  subst hres
  have hb1:decide ((bL g).1=0)=false:=decide_eq_false hc
  (refine Spec.hd (C:=T.cfg [] []) (rs:= [.t 4]) (T.ai _ _) Tryz.func110 rfl rfl Tryz.ntmps110 Tryz.results110 (by simp [AObj.isNest]) (by simp [AObj.isNest]) (by kernel_rfl) T.mixed fun X hX hP hC aH bU=> ?_)
  repeat' (first|refine Rn.p ?_|(with_reducible apply And.intro)|((first|(refine hK _ ?_;clear hK K)|with_reducible intro K hK|refine Rs.p ?_|((with_reducible first|apply oP|apply oQ);exact rfl)|refine aa hX hC hP (bg g hl) rfl rfl rfl (by simp only [go_sem,simprocAttr,hb1]) rfl ?_);try simp only [go_sem,simprocAttr,hb1])|((with_reducible refine oD ?_ ?_);kernel_rfl)|((with_reducible intro h);try simp only [go_sem,simprocAttr,hb1] at h)|omega|intro h)
 have hb1:decide ((bL g).1=0)=true:=decide_eq_true hc
 have hm:=an hc
 have hn:=aC hm
 have hr:res=true↔aU g p:=by rw [hr];exact ⟨fun h=>h.2,fun h=>⟨hc,h⟩⟩
 rw [← Jj hm] at hr
 by_cases he:gD p.ord g.n=true∧p.outs.length=g.n.toNat
 rotate_left
 ·have hres:res=false:=by
   rw [← Bool.not_eq_true,hr]
   rintro ⟨h2,h3,_⟩
   exact he ⟨h2,h3⟩
  subst hres
  cases h2:gD p.ord g.n with
  |false=>
   (refine Spec.hd (C:=T.cfg [] []) (rs:= [.t 4]) (T.ai _ _) Tryz.func110 rfl rfl Tryz.ntmps110 Tryz.results110 (by simp [AObj.isNest]) (by simp [AObj.isNest]) (by kernel_rfl) T.mixed fun X hX hP hC aH bU=> ?_)
   repeat' (first|refine Rn.p ?_|(with_reducible apply And.intro)|((first|(refine hK _ ?_;clear hK K)|with_reducible intro K hK|refine Rs.p ?_|((with_reducible first|apply oP|apply oQ);exact rfl)|refine aa hX hC hP (bg g hl) rfl rfl rfl (by simp only [go_sem,simprocAttr,hb1,h2]) rfl ?_|refine aa hX hC hP (cH p.ord g.n ho) rfl rfl rfl (by simp only [go_sem,simprocAttr,hb1,h2]) rfl ?_);try simp only [go_sem,simprocAttr,hb1,h2])|((with_reducible refine oD ?_ ?_);kernel_rfl)|((with_reducible intro h);try simp only [go_sem,simprocAttr,hb1,h2] at h)|omega|intro h)
  |true=>
   have hb2:decide ((p.outs.length:Int)=g.n)=false:=decide_eq_false fun h3=>he ⟨h2,by omega⟩
   (refine Spec.hd (C:=T.cfg [] []) (rs:= [.t 4]) (T.ai _ _) Tryz.func110 rfl rfl Tryz.ntmps110 Tryz.results110 (by simp [AObj.isNest]) (by simp [AObj.isNest]) (by kernel_rfl) T.mixed fun X hX hP hC aH bU=> ?_)
   repeat' (first|refine Rn.p ?_|(with_reducible apply And.intro)|((first|(refine hK _ ?_;clear hK K)|with_reducible intro K hK|refine Rs.p ?_|((with_reducible first|apply oP|apply oQ);exact rfl)|refine aa hX hC hP (bg g hl) rfl rfl rfl (by simp only [go_sem,simprocAttr,hb1,h2,hb2]) rfl ?_|refine aa hX hC hP (cH p.ord g.n ho) rfl rfl rfl (by simp only [go_sem,simprocAttr,hb1,h2,hb2]) rfl ?_);try simp only [go_sem,simprocAttr,hb1,h2,hb2])|((with_reducible refine oD ?_ ?_);kernel_rfl)|((with_reducible intro h);try simp only [go_sem,simprocAttr,hb1,h2,hb2] at h)|omega|intro h)
 obtain ⟨s9,BO⟩:=he
 have hb2:decide ((p.outs.length:Int)=g.n)=true:=decide_eq_true (by omega)
 (refine Spec.hd (C:=T.cfg [] []) (rs:= [.t 4]) (T.ai _ _) Tryz.func110 rfl rfl Tryz.ntmps110 Tryz.results110 (by simp [AObj.isNest]) (by simp [AObj.isNest]) (by kernel_rfl) T.mixed fun X hX hP hC aH bU=> ?_)
 repeat' (first|refine Rn.p ?_|(with_reducible apply And.intro)|((first|(refine hK _ ?_;clear hK K)|with_reducible intro K hK|refine Rs.p ?_|((with_reducible first|apply oP|apply oQ);exact rfl)|refine aa hX hC hP (bg g hl) rfl rfl rfl (by simp only [go_sem,simprocAttr,hb1,s9,hb2]) rfl ?_|refine aa hX hC hP (cH p.ord g.n ho) rfl rfl rfl (by simp only [go_sem,simprocAttr,hb1,s9,hb2]) rfl ?_);try simp only [go_sem,simprocAttr,hb1,s9,hb2])|((with_reducible refine oD ?_ ?_);kernel_rfl)|((with_reducible intro h);try simp only [go_sem,simprocAttr,hb1,s9,hb2] at h)|omega|intro h)
 clear hb1 hb2
 have EL:List.replicate g.es.length [D.sc (.int .i64 0)]=(oO g.es.length []).map rI:=by rw [EK,List.map_replicate];rfl
 rw [EL]
 clear EL
 refine ag (fun x:Nat=>x≤p.outs.length∧(p.outs.take x).flatten.Nodup∧∀y:Nat,y<x→∀i∈p.outs.getD y [],i∈aY g y) (fun x=>⟨[(2, .ptr 2 0),(3, .ptr 3 0),(5, .ref 32),(6,eN x)], [(32, .own 3 1 ((oO g.es.length (p.outs.take x).flatten).map rI)),(3, .box [.d (sI p.ord), .d (.sl 1 (vI p.outs))]),(2, .box [eN g.n, .d (sE g.es)])]⟩) (fun x=>p.outs.length - x) 0 (by simp) ?_ ?_
 ·refine Le.of ?_ ?_<;>simp [go_sem,simprocAttr]
 rintro x ⟨hx,b9,y6⟩
 rcases Nat.lt_or_ge x p.outs.length with hxl|Rq
 ·have hb:decide ((x:Int)<(p.outs.length:Int))=true:=decide_eq_true (by omega)
  have hv:=dx hxl
  have hle:=hp.each _ (aD (d:= []) hxl)
  have hpre:=fun k=>Hh (k:=k) hxl
  have hnext:(p.outs.take (x+1)).flatten=(p.outs.take x).flatten++p.outs.getD x []:=by
   rw [List.take_add_one,List.flatten_append,List.getD_eq_getElem?_getD,List.getElem?_eq_getElem hxl];simp
  have iF:∀i∈p.outs.getD x [],i∉aY g x→res=false:=fun i hi hn=>by
   rw [← Bool.not_eq_true,hr]
   rintro ⟨_,_,h3,_⟩
   exact hn (h3 x hxl i hi)
  have rS:∀k,¬((p.outs.take x).flatten++(p.outs.getD x []).take k).Nodup→res=false:=fun k hn=>by
   rw [← Bool.not_eq_true,hr]
   rintro ⟨_,_,_,h4,_⟩
   exact hn (List.Nodup.sublist (hpre k) h4)
  have J2:(∀i∈p.outs.getD x [],i∈aY g x)→∀y:Nat,y<x+1→∀i∈p.outs.getD y [],i∈aY g y:=fun h y hy=>by
   by_cases e:y=x
   ·subst e;exact h
   ·exact y6 y (by omega)
  generalize p.outs.getD x []=l at hv hle hpre hnext iF rS J2
  generalize (p.outs.take x).flatten=fl at b9 hpre hnext rS
  clear hpre
  repeat' (first|refine Rn.p ?_|(with_reducible apply And.intro)|((first|(refine hK _ ?_;clear hK K)|with_reducible intro K hK|refine Rs.p ?_|((with_reducible first|apply oP|apply oQ);exact rfl)|refine aa hX hC hP (bg g hl) rfl rfl rfl (by simp only [go_sem,simprocAttr,hb,hv]) rfl ?_|refine aa hX hC hP (cH p.ord g.n ho) rfl rfl rfl (by simp only [go_sem,simprocAttr,hb,hv]) rfl ?_);try simp only [go_sem,simprocAttr,hb,hv])|((with_reducible refine oD ?_ ?_);kernel_rfl)|((with_reducible intro h);try simp only [go_sem,simprocAttr,hb,hv] at h)|omega|intro h)
  clear hb
  refine ag (fun k:Nat=>k≤l.length∧(fl++l.take k).Nodup∧∀i∈l.take k,i∈aY g x) (fun k=>⟨[(2, .ptr 2 0),(3, .ptr 3 0),(5, .ref 32),(6,eN x),(7,eN k)], [(32, .own 3 1 ((oO g.es.length (fl++l.take k)).map rI)),(3, .box [.d (sI p.ord), .d (.sl 1 (vI p.outs))]),(2, .box [eN g.n, .d (sE g.es)])]⟩) (fun k=>l.length - k) 0 (by simpa using b9) ?_ ?_
  ·refine Le.of ?_ ?_<;>simp [go_sem,simprocAttr]
  rintro k ⟨hk,DZ,Fu⟩
  rcases Nat.lt_or_ge k l.length with bK|Fo
  ·have dn:decide ((k:Int)<(l.length:Int))=true:=decide_eq_true (by omega)
   have qR:=Ck bK
   have him:=aD (d:=0) bK
   have hcl:=AL (m:=g.es.length) (fl:=fl++l.take k)
   generalize hi:l.getD k 0=i at qR him
   by_cases h0:i<0
   ·have hres:=iF i him (fun h=>by have:=(mJ.1 h).1;omega)
    subst hres
    have hb1:decide (i<0)=true:=decide_eq_true h0
    repeat' (first|refine Rn.p ?_|(with_reducible apply And.intro)|((first|(refine hK _ ?_;clear hK K)|with_reducible intro K hK|refine Rs.p ?_|((with_reducible first|apply oP|apply oQ);exact rfl)|refine aa hX hC hP (bg g hl) rfl rfl rfl (by simp only [go_sem,simprocAttr,dn,hv,hi,hb1]) rfl ?_|refine aa hX hC hP (cH p.ord g.n ho) rfl rfl rfl (by simp only [go_sem,simprocAttr,dn,hv,hi,hb1]) rfl ?_);try simp only [go_sem,simprocAttr,dn,hv,hi,hb1])|((with_reducible refine oD ?_ ?_);kernel_rfl)|((with_reducible intro h);try simp only [go_sem,simprocAttr,dn,hv,hi,hb1] at h)|omega|intro h)
   have hb1:decide (i<0)=false:=decide_eq_false h0
   by_cases h1:(g.es.length:Int)≤i
   ·have hres:=iF i him (fun h=>by have:=(mJ.1 h).1;omega)
    subst hres
    have hb2:decide ((g.es.length:Int)≤i)=true:=decide_eq_true h1
    repeat' (first|refine Rn.p ?_|(with_reducible apply And.intro)|((first|(refine hK _ ?_;clear hK K)|with_reducible intro K hK|refine Rs.p ?_|((with_reducible first|apply oP|apply oQ);exact rfl)|refine aa hX hC hP (bg g hl) rfl rfl rfl (by simp only [go_sem,simprocAttr,dn,hv,hi,hb1,hb2,hcl]) rfl ?_|refine aa hX hC hP (cH p.ord g.n ho) rfl rfl rfl (by simp only [go_sem,simprocAttr,dn,hv,hi,hb1,hb2,hcl]) rfl ?_);try simp only [go_sem,simprocAttr,dn,hv,hi,hb1,hb2,hcl])|((with_reducible refine oD ?_ ?_);kernel_rfl)|((with_reducible intro h);try simp only [go_sem,simprocAttr,dn,hv,hi,hb1,hb2,hcl] at h)|omega|intro h)
   have hb2:decide ((g.es.length:Int)≤i)=false:=decide_eq_false h1
   obtain ⟨e,rfl⟩:∃e:Nat,i=e:=⟨i.toNat,by omega⟩
   have hel:e<g.es.length:=by omega
   by_cases h2:(g.es.getD e (0,0)).1=x
   rotate_left
   ·have hres:=iF _ him (fun h=>h2 (by have:=(mJ.1 h).2;rwa [Int.toNat_natCast] at this))
    subst hres
    have hb3:decide ((g.es.getD e (0,0)).1=(x:Int))=false:=decide_eq_false h2
    repeat' (first|refine Rn.p ?_|(with_reducible apply And.intro)|((first|(refine hK _ ?_;clear hK K)|with_reducible intro K hK|refine Rs.p ?_|((with_reducible first|apply oP|apply oQ);exact rfl)|refine aa hX hC hP (bg g hl) rfl rfl rfl (by simp only [go_sem,simprocAttr,dn,hv,hi,hb1,hb2,hb3,hcl]) rfl ?_|refine aa hX hC hP (cH p.ord g.n ho) rfl rfl rfl (by simp only [go_sem,simprocAttr,dn,hv,hi,hb1,hb2,hb3,hcl]) rfl ?_);try simp only [go_sem,simprocAttr,dn,hv,hi,hb1,hb2,hb3,hcl])|((with_reducible refine oD ?_ ?_);kernel_rfl)|((with_reducible intro h);try simp only [go_sem,simprocAttr,dn,hv,hi,hb1,hb2,hb3,hcl] at h)|omega|intro h)
   have hb3:decide ((g.es.getD e (0,0)).1=(x:Int))=true:=decide_eq_true h2
   have vv:=Dn (fl:=fl++l.take k) hel
   by_cases h3:(e:Int)∈fl++l.take k
   ·have hres:=rS (k+1) (fun h=>by
     rw [qR, ← List.append_assoc,List.nodup_append] at h
     exact h.2.2 _ h3 _ (List.mem_singleton.2 rfl) rfl)
    subst hres
    rw [if_pos h3] at vv
    repeat' (first|refine Rn.p ?_|(with_reducible apply And.intro)|((first|(refine hK _ ?_;clear hK K)|with_reducible intro K hK|refine Rs.p ?_|((with_reducible first|apply oP|apply oQ);exact rfl)|refine aa hX hC hP (bg g hl) rfl rfl rfl (by simp only [go_sem,simprocAttr,dn,hv,hi,hb1,hb2,hb3,hcl,vv]) rfl ?_|refine aa hX hC hP (cH p.ord g.n ho) rfl rfl rfl (by simp only [go_sem,simprocAttr,dn,hv,hi,hb1,hb2,hb3,hcl,vv]) rfl ?_);try simp only [go_sem,simprocAttr,dn,hv,hi,hb1,hb2,hb3,hcl,vv])|((with_reducible refine oD ?_ ?_);kernel_rfl)|((with_reducible intro h);try simp only [go_sem,simprocAttr,dn,hv,hi,hb1,hb2,hb3,hcl,vv] at h)|omega|intro h)
   ·rw [if_neg h3] at vv
    have cI:=Hg (fl:=fl++l.take k) hel
    rw [List.append_assoc, ← qR] at cI
    repeat' (first|refine Rn.p ?_|(with_reducible apply And.intro)|((first|(refine hK _ ?_;clear hK K)|with_reducible intro K hK|refine Rs.p ?_|((with_reducible first|apply oP|apply oQ);exact rfl)|refine aa hX hC hP (bg g hl) rfl rfl rfl (by simp only [go_sem,simprocAttr,dn,hv,hi,hb1,hb2,hb3,hcl,vv]) rfl ?_|refine aa hX hC hP (cH p.ord g.n ho) rfl rfl rfl (by simp only [go_sem,simprocAttr,dn,hv,hi,hb1,hb2,hb3,hcl,vv]) rfl ?_);try simp only [go_sem,simprocAttr,dn,hv,hi,hb1,hb2,hb3,hcl,vv])|((with_reducible refine oD ?_ ?_);kernel_rfl)|((with_reducible intro h);try simp only [go_sem,simprocAttr,dn,hv,hi,hb1,hb2,hb3,hcl,vv] at h)|omega|intro h)
    refine ⟨k+1,⟨by omega, ?_, ?_⟩, ?_,by omega⟩
    ·rw [qR, ← List.append_assoc,List.nodup_append]
     exact ⟨DZ,by simp,fun a ha b hb h=>h3 (by rw [List.mem_singleton] at hb;rw [← hb, ← h];exact ha)⟩
    ·intro j hj
     rw [qR,List.mem_append,List.mem_singleton] at hj
     rcases hj with hj|rfl
     ·exact Fu j hj
     ·exact mJ.2 ⟨⟨by omega,by omega⟩,by rw [Int.toNat_natCast];exact h2⟩
    ·rw [← cI]
     refine Le.of ?_ ?_<;>simp [go_sem,simprocAttr,dn,hv,hi,hb1,hb2,hb3,hcl,vv,rI]
  ·have dn:decide ((k:Int)<(l.length:Int))=false:=decide_eq_false (by omega)
   obtain rfl:k=l.length:=by omega
   rw [List.take_length] at DZ Fu
   repeat' (first|refine Rn.p ?_|(with_reducible apply And.intro)|((first|(refine hK _ ?_;clear hK K)|with_reducible intro K hK|refine Rs.p ?_|((with_reducible first|apply oP|apply oQ);exact rfl)|refine aa hX hC hP (bg g hl) rfl rfl rfl (by simp only [go_sem,simprocAttr,dn,hv]) rfl ?_|refine aa hX hC hP (cH p.ord g.n ho) rfl rfl rfl (by simp only [go_sem,simprocAttr,dn,hv]) rfl ?_);try simp only [go_sem,simprocAttr,dn,hv])|((with_reducible refine oD ?_ ?_);kernel_rfl)|((with_reducible intro h);try simp only [go_sem,simprocAttr,dn,hv] at h)|omega|intro h)
   refine ⟨x+1,⟨by omega,by rw [hnext];exact DZ,J2 Fu⟩, ?_,by omega⟩
   rw [hnext]
   refine Le.of ?_ ?_<;>simp [go_sem,simprocAttr,dn,hv]
 have hb:decide ((x:Int)<(p.outs.length:Int))=false:=decide_eq_false (by omega)
 obtain rfl:x=p.outs.length:=by omega
 rw [List.take_length] at b9
 rw [List.take_length]
 have hcl:=AL (m:=g.es.length) (fl:=p.outs.flatten)
 repeat' (first|refine Rn.p ?_|(with_reducible apply And.intro)|((first|(refine hK _ ?_;clear hK K)|with_reducible intro K hK|refine Rs.p ?_|((with_reducible first|apply oP|apply oQ);exact rfl)|refine aa hX hC hP (bg g hl) rfl rfl rfl (by simp only [go_sem,simprocAttr,hb]) rfl ?_|refine aa hX hC hP (cH p.ord g.n ho) rfl rfl rfl (by simp only [go_sem,simprocAttr,hb]) rfl ?_);try simp only [go_sem,simprocAttr,hb])|((with_reducible refine oD ?_ ?_);kernel_rfl)|((with_reducible intro h);try simp only [go_sem,simprocAttr,hb] at h)|omega|intro h)
 clear hb
 refine ag (fun k:Nat=>k≤g.es.length∧∀i:Nat,i<k→(i:Int)∈p.outs.flatten) (fun k=>⟨[(5, .ref 32),(9,eN k)], [(32, .own 3 1 ((oO g.es.length p.outs.flatten).map rI))]⟩) (fun k=>g.es.length - k) 0 (by simp) ?_ ?_
 ·refine Le.of ?_ ?_<;>simp [go_sem,simprocAttr]
 rintro k ⟨hk,Fu⟩
 rcases Nat.lt_or_ge k g.es.length with bK|Fo
 ·have dn:decide ((k:Int)<(g.es.length:Int))=true:=decide_eq_true (by omega)
  have vv:=Dn (fl:=p.outs.flatten) bK
  by_cases h3:(k:Int)∈p.outs.flatten
  ·rw [if_pos h3] at vv
   repeat' (first|refine Rn.p ?_|(with_reducible apply And.intro)|((first|(refine hK _ ?_;clear hK K)|with_reducible intro K hK|refine Rs.p ?_|((with_reducible first|apply oP|apply oQ);exact rfl)|refine aa hX hC hP (bg g hl) rfl rfl rfl (by simp only [go_sem,simprocAttr,dn,hcl,vv]) rfl ?_|refine aa hX hC hP (cH p.ord g.n ho) rfl rfl rfl (by simp only [go_sem,simprocAttr,dn,hcl,vv]) rfl ?_);try simp only [go_sem,simprocAttr,dn,hcl,vv])|((with_reducible refine oD ?_ ?_);kernel_rfl)|((with_reducible intro h);try simp only [go_sem,simprocAttr,dn,hcl,vv] at h)|omega|intro h)
   refine ⟨k+1,⟨by omega,fun i hi=> ?_⟩, ?_,by omega⟩
   ·by_cases e:i=k
    ·subst e;exact h3
    ·exact Fu i (by omega)
   ·(refine Le.of ?_ ?_<;>simp [go_sem,simprocAttr,dn,hcl,vv])
  ·rw [if_neg h3] at vv
   have hres:res=false:=by
    rw [← Bool.not_eq_true,hr]
    rintro ⟨_,_,_,_,h5⟩
    exact h3 (h5 k bK)
   subst hres
   repeat' (first|refine Rn.p ?_|(with_reducible apply And.intro)|((first|(refine hK _ ?_;clear hK K)|with_reducible intro K hK|refine Rs.p ?_|((with_reducible first|apply oP|apply oQ);exact rfl)|refine aa hX hC hP (bg g hl) rfl rfl rfl (by simp only [go_sem,simprocAttr,dn,hcl,vv]) rfl ?_|refine aa hX hC hP (cH p.ord g.n ho) rfl rfl rfl (by simp only [go_sem,simprocAttr,dn,hcl,vv]) rfl ?_);try simp only [go_sem,simprocAttr,dn,hcl,vv])|((with_reducible refine oD ?_ ?_);kernel_rfl)|((with_reducible intro h);try simp only [go_sem,simprocAttr,dn,hcl,vv] at h)|omega|intro h)
 ·have dn:decide ((k:Int)<(g.es.length:Int))=false:=decide_eq_false (by omega)
  obtain rfl:k=g.es.length:=by omega
  have hres:res=true:=hr.2 ⟨s9,BO,y6,b9,Fu⟩
  subst hres
  repeat' (first|refine Rn.p ?_|(with_reducible apply And.intro)|((first|(refine hK _ ?_;clear hK K)|with_reducible intro K hK|refine Rs.p ?_|((with_reducible first|apply oP|apply oQ);exact rfl)|refine aa hX hC hP (bg g hl) rfl rfl rfl (by simp only [go_sem,simprocAttr,dn,hcl]) rfl ?_|refine aa hX hC hP (cH p.ord g.n ho) rfl rfl rfl (by simp only [go_sem,simprocAttr,dn,hcl]) rfl ?_);try simp only [go_sem,simprocAttr,dn,hcl])|((with_reducible refine oD ?_ ?_);kernel_rfl)|((with_reducible intro h);try simp only [go_sem,simprocAttr,dn,hcl] at h)|omega|intro h)
end Go.Ab
end
section
namespace Go.Ab
open Go.Proofs
attribute [local congr] ACall.congr gd.congr Nx.congr
set_option maxRecDepth 10000
set_option maxHeartbeats 8000000
def bA (b:Bool) (g:Gr) (p:Pl):(List (List It) × List It) × Int × Int:=
 if b=false then (([], []),(1,0)) else
 match jV g p g.n.toNat with
 |some i=>(([], []),(3,(i:Int)))
 |none=>((dY g p g.n.toNat,(fK g p g.n.toNat).row),(0,0))
theorem Hl {n:Nat} :List.replicate n [D.sl 3 []]=vT (List.replicate n []):=by simp [vT,sT]
theorem Ho {ls:List (List It)} {k:Nat} {l:List It} :(vT ls).set k [sT l]=vT (ls.set k l):=by simp [vT,List.map_set]
theorem xJ {g:Gr} {p:Pl} {k:Nat} :dY g p (k+1)=(dY g p k).set (aE p k).toNat (cn g p k):=rfl
theorem sn (g:Gr) (hl:g.es.length≤9223372036854775807) (p:Pl) (hp:gE p) (b:Bool) (hr:b=true↔(bL g).1=0∧aU g p):
 Spec Tryz.prog 58 (Args [eG g,ePl p]) [] (.tup [.d (.sl 1 (vT (bA b g p).1.1)), .d (sT (bA b g p).1.2),eN (bA b g p).2.1,eN (bA b g p).2.2]) []:=by
 have hO:=Hj g hl p hp b hr
 cases b with
 |false=>
  have hR:bA false g p=(([], []),(1,0)):=rfl
  rw [hR]
  (refine Spec.hd (C:=T.cfg [] []) (rs:= [.t 4, .t 5, .t 6, .t 7]) (T.ai _ _) Tryz.func58 rfl rfl Tryz.ntmps58 Tryz.results58 (by simp [AObj.isNest]) (by simp [AObj.isNest]) (by kernel_rfl) T.mixed fun X hX hP hC aH bU=> ?_)
  repeat' (first|refine Rn.p ?_|(with_reducible apply And.intro)|((first|(refine hK _ ?_;clear hK K)|with_reducible intro K hK|refine Rs.p ?_|((with_reducible first|apply oP|apply oQ);exact rfl)|refine aa hX hC hP (hO) rfl rfl rfl (by simp only [go_sem,simprocAttr,vT,List.map_nil]) rfl ?_);try simp only [go_sem,simprocAttr,vT,List.map_nil])|((with_reducible refine oD ?_ ?_);kernel_rfl)|((with_reducible intro h);try simp only [go_sem,simprocAttr,vT,List.map_nil] at h)|omega|intro h)
 |true=>
 obtain ⟨hc,mK⟩:=hr.1 rfl
 have hm:=an hc
 have hn:=aC hm
 have hle:=aR mK
 have hR:bA true g p=match jV g p g.n.toNat with
  |some i=>(([], []),(3,(i:Int)))
  |none=>((dY g p g.n.toNat,(fK g p g.n.toNat).row),(0,0)):=rfl
 generalize bA true g p=R at hR
 (refine Spec.hd (C:=T.cfg [] []) (rs:= [.t 4, .t 5, .t 6, .t 7]) (T.ai _ _) Tryz.func58 rfl rfl Tryz.ntmps58 Tryz.results58 (by simp [AObj.isNest]) (by simp [AObj.isNest]) (by kernel_rfl) T.mixed fun X hX hP hC aH bU=> ?_)
 repeat' (first|(show bM _ (.seq (.region 4 _ _) _) _ _;(refine kF 20 2 3 rfl rfl rfl ?_;simp only [List.set_cons_zero,List.set_cons_succ,go_sem,simprocAttr]);(refine kF 20 3 1 rfl rfl rfl ?_;simp only [List.set_cons_zero,List.set_cons_succ,go_sem,simprocAttr]))|refine Rn.p ?_|(with_reducible apply And.intro)|((first|(refine hK _ ?_;clear hK K)|with_reducible intro K hK|refine Rs.p ?_|((with_reducible first|apply oP|apply oQ);exact rfl)|refine aa hX hC hP (hO) rfl rfl rfl (by simp only [go_sem,simprocAttr]) rfl ?_);try simp only [go_sem,simprocAttr])|((with_reducible refine oD ?_ ?_);kernel_rfl)|((with_reducible intro h);try simp only [go_sem,simprocAttr] at h)|omega|intro h)
 rw [Hl]
 refine ag (fun k:Nat=>k≤g.n.toNat∧∀j,j<k→o5 g p j=true) (fun k=>⟨[(2, .ptr 2 0),(3, .ptr 3 0),(8, .ptr 20 0),(9, .ref 23),(10,eN k)], [(23, .own 64 1 (vT (dY g p k))),(20, .box (gy g (fK g p k))),(3, .box [.d (sI p.ord), .d (.sl 1 (vI p.outs))]),(2, .box [eN g.n, .d (sE g.es)])]⟩) (fun k=>g.n.toNat - k) 0 (by simp) ?_ ?_
 ·refine Le.of ?_ ?_<;>simp [go_sem,simprocAttr,gy,fK,dY]
 rintro k ⟨hk,hok⟩
 obtain ⟨hi,_,hrl⟩:=bS hm mK hk hok
 have hel:=kX (g:=g) (p:=p) (k:=k)
 rcases Nat.lt_or_ge k g.n.toNat with hlt|hge
 ·have hb:decide ((k:Int)<(p.ord.length:Int))=true:=decide_eq_true (by omega)
  have Hp:=bI mK hlt
  have bw:=xJ (g:=g) (p:=p) (k:=k)
  have EM:fK g p (k+1)=(az g (fK g p k) (aE p k) (cl p (aE p k))).2:=rfl
  have y6:cn g p k=(az g (fK g p k) (aE p k) (cl p (aE p k))).1.1:=rfl
  have hpk:=AD mK hlt
  have Hq:=AE (g:=g) (p:=p) (k:=k)
  have hsk:o5 g p k=false→R=(([], []),(3,(k:Int))):=fun h=>by
   rw [hR,oL.2 ⟨hlt,h,hok⟩]
  have hmul:k*(g.es.length+1)≤64*129:=Nat.mul_le_mul (by omega) (by omega)
  have fO:=nu mK Hp.1 Hp.2
  have eo:p.ord.getD k 0=aE p k:=rfl
  have Hr:(fK g p k).pl.length≤64:=by
   rcases Kb hi.toer with h|h
   ·omega
   ·rw [h];simp
  obtain ⟨x,hx⟩:∃x:Nat,aE p k=x:=⟨(aE p k).toNat,by omega⟩
  rw [hx] at eo EM y6 hpk Hq Hp fO bw
  have hxl:x<p.outs.length:=by have:=mK.1;omega
  have hv:=dx hxl
  have hla:cl p (x:Int)=p.outs.getD x []:=by unfold cl;rw [Int.toNat_natCast]
  rw [hla] at EM y6 hpk Hq fO
  rw [Int.toNat_natCast] at bw
  have sq:=r9 g (by omega) (fK g p k) (x:Int) (p.outs.getD x []) (by omega) (by omega) (by omega)
  have cI:=Ho (ls:=dY g p k) (k:=x) (l:=cn g p k)
  generalize p.outs.getD x []=o at hv EM y6 hpk Hq sq
  rw [← bw] at cI
  generalize fK g p k=f at EM y6 hpk Hq sq hi hrl Hr
  cases y7:o5 g p k with
  |false=>
   rw [Hq y7] at sq
   have Qp:=hsk y7
   subst Qp
   repeat' (first|refine Rn.p ?_|(with_reducible apply And.intro)|((first|(refine hK _ ?_;clear hK K)|with_reducible intro K hK|refine Rs.p ?_|((with_reducible first|apply oP|apply oQ);exact rfl)|(refine aq hX hC hP [(10000,20)] (sq) rfl rfl rfl ?_ ?_ ?_ ?_ ?_ ?_ ?_ ?_ ?_ ?_ ?_ ?_ ?_ ?_;(focus (simp only [go_sem,simprocAttr,hb,eo,hv,gy,vT,List.map_nil];done));(iterate 12 (focus (simp [go_sem,simprocAttr,hb,eo,hv,gy,vT,List.map_nil];done)));try simp only [List.map_cons,List.map_nil]));try simp only [go_sem,simprocAttr,hb,eo,hv,gy,vT,List.map_nil])|((with_reducible refine oD ?_ ?_);kernel_rfl)|((with_reducible intro h);try simp only [go_sem,simprocAttr,hb,eo,hv,gy,vT,List.map_nil] at h)|omega|intro h)
  |true=>
   rw [hpk y7] at sq
   have jW:(az g f (x:Int) o).1.2=0:=rfl
   rw [y6] at cI
   generalize az g f (x:Int) o=su at EM y6 sq jW cI
   have Jk:x<(dY g p k).length:=by omega
   generalize S9:dY g p k=E at cI Jk hel
   have hvl:(vT E).length=E.length:=vT_length
   have AM:=fun d=>nh Jk d
   repeat' (first|refine Rn.p ?_|(with_reducible apply And.intro)|((first|(refine hK _ ?_;clear hK K)|with_reducible intro K hK|refine Rs.p ?_|((with_reducible first|apply oP|apply oQ);exact rfl)|(refine aq hX hC hP [(10000,20)] (sq) rfl rfl rfl ?_ ?_ ?_ ?_ ?_ ?_ ?_ ?_ ?_ ?_ ?_ ?_ ?_ ?_;(focus (simp only [go_sem,simprocAttr,hb,eo,hv,gy,jW,cI,AM,List.drop_succ_cons,List.drop_zero];done));(iterate 12 (focus (simp [go_sem,simprocAttr,hb,eo,hv,gy,jW,cI,AM,List.drop_succ_cons,List.drop_zero];done)));try simp only [List.map_cons,List.map_nil]));try simp only [go_sem,simprocAttr,hb,eo,hv,gy,jW,cI,AM,List.drop_succ_cons,List.drop_zero])|((with_reducible refine oD ?_ ?_);kernel_rfl)|((with_reducible intro h);try simp only [go_sem,simprocAttr,hb,eo,hv,gy,jW,cI,AM,List.drop_succ_cons,List.drop_zero] at h)|omega|intro h)
   refine ⟨k+1,⟨by omega,fun j hj=> ?_⟩, ?_,by omega⟩
   ·by_cases e:j=k
    ·subst e;exact y7
    ·exact hok j (by omega)
   ·rw [EM]
    have Hs:(vT E).set x [D.sl 3 (List.map rT su.1.1)]=vT (dY g p (k+1)):=cI
    refine Le.of ?_ ?_<;>simp [go_sem,simprocAttr,hb,eo,hv,gy,jW,cI,AM,List.drop_succ_cons,List.drop_zero,Hs]
 have hb:decide ((k:Int)<(p.ord.length:Int))=false:=decide_eq_false (by omega)
 obtain rfl:k=g.n.toNat:=by omega
 rw [fH.2 hok] at hR
 subst hR
 repeat' (first|refine Rn.p ?_|(with_reducible apply And.intro)|((first|(refine hK _ ?_;clear hK K)|with_reducible intro K hK|refine Rs.p ?_|((with_reducible first|apply oP|apply oQ);exact rfl));try simp only [go_sem,simprocAttr,hb,gy])|((with_reducible refine oD ?_ ?_);kernel_rfl)|((with_reducible intro h);try simp only [go_sem,simprocAttr,hb,gy] at h)|omega|intro h)
end Go.Ab
end
section
namespace Go.Ab
open Go.Proofs
attribute [local congr] ACall.congr gd.congr Nx.congr
set_option maxRecDepth 10000
set_option maxHeartbeats 8000000
theorem gY (g:Gr) (hl:g.es.length≤1000) (p:Pl) (hp:gE p) (b:Bool) (hr:b=true↔(bL g).1=0∧aU g p):
 Spec Tryz.prog 37 (Args [eG g,ePl p]) [] (.tup [.d (.sl 1 (vT (bA b g p).1.1)), .d (sT (bA b g p).1.2),eF ((bA b g p).2.1,(bA b g p).2.2, [])]) []:=by
 by_cases hc:(bL g).1=0
 rotate_left
 ·obtain rfl:b=false:=by
   rw [← Bool.not_eq_true,hr]
   exact fun h=>hc h.1
  have hR:bA false g p=(([], []),(1,0)):=rfl
  rw [hR]
  (refine Spec.hd (C:=T.cfg [] []) (rs:= [.t 4, .t 5, .c 6 66]) (T.ai _ _) Tryz.func37 rfl rfl Tryz.ntmps37 Tryz.results37 (by simp [AObj.isNest]) (by simp [AObj.isNest]) (by kernel_rfl) T.mixed fun X hX hP hC aH bU=> ?_)
  repeat' (first|refine Rn.p ?_|(with_reducible apply And.intro)|((first|(refine hK _ ?_;clear hK K)|with_reducible intro K hK|refine Rs.p ?_|((with_reducible first|apply oP|apply oQ);exact rfl)|refine aa hX hC hP (EC g hl hc) rfl rfl rfl (by simp only [go_sem,simprocAttr,vT,List.map_nil]) rfl ?_);try simp only [go_sem,simprocAttr,vT,List.map_nil])|((with_reducible refine oD ?_ ?_);kernel_rfl)|((with_reducible intro h);try simp only [go_sem,simprocAttr,vT,List.map_nil] at h)|omega|intro h)
 have hm:=an hc
 have hn:=aC hm
 have hr:b=true↔aU g p:=by rw [hr];exact ⟨fun h=>h.2,fun h=>⟨hc,h⟩⟩
 have hO:=Hf g hm p hp b hr
 cases b with
 |false=>
  have hR:bA false g p=(([], []),(1,0)):=rfl
  rw [hR]
  (refine Spec.hd (C:=T.cfg [] []) (rs:= [.t 4, .t 5, .c 6 66]) (T.ai _ _) Tryz.func37 rfl rfl Tryz.ntmps37 Tryz.results37 (by simp [AObj.isNest]) (by simp [AObj.isNest]) (by kernel_rfl) T.mixed fun X hX hP hC aH bU=> ?_)
  repeat' (first|refine Rn.p ?_|(with_reducible apply And.intro)|((first|(refine hK _ ?_;clear hK K)|with_reducible intro K hK|refine Rs.p ?_|((with_reducible first|apply oP|apply oQ);exact rfl)|(refine jl hX hC hP [(10000,13)] (qS g hl hc hm) rfl rfl rfl ?_ ?_ ?_ ?_ ?_ ?_ ?_ ?_ ?_ ?_ ?_ ?_ ?_ ?_;(focus (simp only [go_sem,simprocAttr,vT,List.map_nil];done));(iterate 12 (focus (simp [go_sem,simprocAttr,vT,List.map_nil];done)));try simp only [List.map_cons,List.map_nil])|refine aa hX hC hP (iM g hm) rfl rfl rfl (by simp only [go_sem,simprocAttr,vT,List.map_nil]) rfl ?_|refine aa hX hC hP (hO) rfl rfl rfl (by simp only [go_sem,simprocAttr,vT,List.map_nil]) rfl ?_);try simp only [go_sem,simprocAttr,vT,List.map_nil])|((with_reducible refine oD ?_ ?_);kernel_rfl)|((with_reducible intro h);try simp only [go_sem,simprocAttr,vT,List.map_nil] at h)|omega|intro h)
 |true=>
 have mK:=hr.1 rfl
 have hle:=aR mK
 have hR:bA true g p=match jV g p g.n.toNat with
  |some i=>(([], []),(3,(i:Int)))
  |none=>((dY g p g.n.toNat,(fK g p g.n.toNat).row),(0,0)):=rfl
 generalize bA true g p=R at hR
 (refine Spec.hd (C:=T.cfg [] []) (rs:= [.t 4, .t 5, .c 6 66]) (T.ai _ _) Tryz.func37 rfl rfl Tryz.ntmps37 Tryz.results37 (by simp [AObj.isNest]) (by simp [AObj.isNest]) (by kernel_rfl) T.mixed fun X hX hP hC aH bU=> ?_)
 repeat' (first|(show bM _ (.seq (.region 5 _ _) _) _ _;(refine kF 13 0 3 rfl rfl rfl ?_;simp only [List.set_cons_zero,List.set_cons_succ,go_sem,simprocAttr]);(refine dZ hX 13 2 100 (.tip 3 1 []) rfl rfl rfl (by simp only [go_sem,simprocAttr]) (by decide) (by simp [go_sem,simprocAttr]) ⟨3,1,by decide, .inr rfl⟩ ?_;simp only [List.set_cons_zero,List.set_cons_succ,go_sem,simprocAttr]))|refine Rn.p ?_|(with_reducible apply And.intro)|((first|(refine hK _ ?_;clear hK K)|with_reducible intro K hK|refine Rs.p ?_|((with_reducible first|apply oP|apply oQ);exact rfl)|(refine jl hX hC hP [(10000,13)] (qS g hl hc hm) rfl rfl rfl ?_ ?_ ?_ ?_ ?_ ?_ ?_ ?_ ?_ ?_ ?_ ?_ ?_ ?_;(focus (simp only [go_sem,simprocAttr];done));(iterate 12 (focus (simp [go_sem,simprocAttr];done)));try simp only [List.map_cons,List.map_nil])|refine aa hX hC hP (iM g hm) rfl rfl rfl (by simp only [go_sem,simprocAttr]) rfl ?_|refine aa hX hC hP (hO) rfl rfl rfl (by simp only [go_sem,simprocAttr]) rfl ?_);try simp only [go_sem,simprocAttr])|((with_reducible refine oD ?_ ?_);kernel_rfl)|((with_reducible intro h);try simp only [go_sem,simprocAttr] at h)|omega|intro h)
 rw [Hl]
 refine ag (fun k:Nat=>k≤g.n.toNat∧∀j,j<k→o5 g p j=true) (fun k=>⟨[(3, .ptr 3 0),(4, .ref 28),(6, .ptr 6 0),(7, .ptr 13 0),(30, .d (sI p.ord)),(31,eN p.ord.length),(32,eN k)], [(28, .own 64 1 (vT (dY g p k))),(13, .box [.d (sT (fK g p k).row), .d (vw g), .ref 100]),(100, .tip 3 1 ((fK g p k).pl.map rI)),(6, .box [eN 0,eN 0, .nil 3]),(3, .box [.d (sI p.ord), .d (.sl 1 (vI p.outs))])]⟩) (fun k=>g.n.toNat - k) 0 (by simp) ?_ ?_
 ·refine Le.of ?_ ?_<;>simp [go_sem,simprocAttr,gy,fK,dY]
 rintro k ⟨hk,hok⟩
 obtain ⟨hi,_,hrl⟩:=bS hm mK hk hok
 have hel:=kX (g:=g) (p:=p) (k:=k)
 have hmul:k*(g.es.length+1)≤64*129:=Nat.mul_le_mul (by omega) (by omega)
 rcases Nat.lt_or_ge k g.n.toNat with hlt|hge
 ·have hb:decide ((k:Int)<(p.ord.length:Int))=true:=decide_eq_true (by omega)
  have Hp:=bI mK hlt
  have bw:=xJ (g:=g) (p:=p) (k:=k)
  have EM:fK g p (k+1)=(az g (fK g p k) (aE p k) (cl p (aE p k))).2:=rfl
  have y6:cn g p k=(az g (fK g p k) (aE p k) (cl p (aE p k))).1.1:=rfl
  have hpk:=AD mK hlt
  have Hq:=AE (g:=g) (p:=p) (k:=k)
  have hsk:o5 g p k=false→R=(([], []),(3,(k:Int))):=fun h=>by
   rw [hR,oL.2 ⟨hlt,h,hok⟩]
  have fO:=nu mK Hp.1 Hp.2
  have eo:p.ord.getD k 0=aE p k:=rfl
  have Hr:(fK g p k).pl.length≤64:=by
   rcases Kb hi.toer with h|h
   ·omega
   ·rw [h];simp
  obtain ⟨x,hx⟩:∃x:Nat,aE p k=x:=⟨(aE p k).toNat,by omega⟩
  rw [hx] at eo EM y6 hpk Hq Hp fO bw
  have hxl:x<p.outs.length:=by have:=mK.1;omega
  have hv:=dx hxl
  have hla:cl p (x:Int)=p.outs.getD x []:=by unfold cl;rw [Int.toNat_natCast]
  rw [hla] at EM y6 hpk Hq fO
  rw [Int.toNat_natCast] at bw
  have sq:=sk g hm (fK g p k) hi (x:Int) (p.outs.getD x []) (by omega) (by omega) (by omega)
  have cI:=Ho (ls:=dY g p k) (k:=x) (l:=cn g p k)
  generalize p.outs.getD x []=o at hv EM y6 hpk Hq sq
  rw [← bw] at cI
  generalize fK g p k=f at EM y6 hpk Hq sq hi hrl Hr
  have Jk:x<(dY g p k).length:=by omega
  have hvl:(vT (dY g p k)).length=(dY g p k).length:=vT_length
  cases y7:o5 g p k with
  |false=>
   rw [Hq y7] at sq
   simp only at sq
   have Qp:=hsk y7
   subst Qp
   repeat' (first|refine Rn.p ?_|(with_reducible apply And.intro)|((first|(refine hK _ ?_;clear hK K)|with_reducible intro K hK|refine Rs.p ?_|((with_reducible first|apply oP|apply oQ);exact rfl)|(refine aq hX hC hP [(10000,13),(10001,100),(10002,101)] (sq) rfl rfl rfl ?_ ?_ ?_ ?_ ?_ ?_ ?_ ?_ ?_ ?_ ?_ ?_ ?_ ?_;(focus (simp only [go_sem,simprocAttr,hb,eo,hv,jL,qE,List.map_nil];done));(iterate 12 (focus (simp [go_sem,simprocAttr,hb,eo,hv,jL,qE,List.map_nil];done)));try simp only [List.map_cons,List.map_nil]));try simp only [go_sem,simprocAttr,hb,eo,hv,jL,qE,List.map_nil])|((with_reducible refine oD ?_ ?_);kernel_rfl)|((with_reducible intro h);try simp only [go_sem,simprocAttr,hb,eo,hv,jL,qE,List.map_nil] at h)|omega|intro h)
   all_goals rfl
  |true=>
   rw [hpk y7] at sq
   have jW:(az g f (x:Int) o).1.2=0:=rfl
   rw [y6] at cI
   generalize az g f (x:Int) o=su at EM y6 sq jW cI
   generalize S9:dY g p k=E at cI Jk hel hvl
   have AM:=fun d=>nh Jk d
   repeat' (first|(show bM _ (.region 11 _ _) _ _;(refine bt hX 13 2 101 100 rfl rfl rfl (by first|exact .inl rfl|exact .inr rfl) (by decide) (by decide) ?_;simp only [List.set_cons_zero,List.set_cons_succ,go_sem,simprocAttr,hb,eo,hv,jL,qE,jW,cI,AM,List.drop_succ_cons,List.drop_zero]))|refine Rn.p ?_|(with_reducible apply And.intro)|((first|(refine hK _ ?_;clear hK K)|with_reducible intro K hK|refine Rs.p ?_|((with_reducible first|apply oP|apply oQ);exact rfl)|(refine aq hX hC hP [(10000,13),(10001,100),(10002,101)] (sq) rfl rfl rfl ?_ ?_ ?_ ?_ ?_ ?_ ?_ ?_ ?_ ?_ ?_ ?_ ?_ ?_;(focus (simp only [go_sem,simprocAttr,hb,eo,hv,jL,qE,jW,cI,AM,List.drop_succ_cons,List.drop_zero];done));(iterate 12 (focus (simp [go_sem,simprocAttr,hb,eo,hv,jL,qE,jW,cI,AM,List.drop_succ_cons,List.drop_zero];done)));try simp only [List.map_cons,List.map_nil]));try simp only [go_sem,simprocAttr,hb,eo,hv,jL,qE,jW,cI,AM,List.drop_succ_cons,List.drop_zero])|((with_reducible refine oD ?_ ?_);kernel_rfl)|((with_reducible intro h);try simp only [go_sem,simprocAttr,hb,eo,hv,jL,qE,jW,cI,AM,List.drop_succ_cons,List.drop_zero] at h)|omega|intro h)
   refine ⟨k+1,⟨by omega,fun j hj=> ?_⟩, ?_,by omega⟩
   ·by_cases e:j=k
    ·subst e;exact y7
    ·exact hok j (by omega)
   ·rw [EM]
    have Hs:(vT E).set x [D.sl 3 (List.map rT su.1.1)]=vT (dY g p (k+1)):=cI
    refine Le.of ?_ ?_<;>simp [go_sem,simprocAttr,hb,eo,hv,jL,qE,jW,cI,AM,List.drop_succ_cons,List.drop_zero,Hs]
 have hb:decide ((k:Int)<(p.ord.length:Int))=false:=decide_eq_false (by omega)
 obtain rfl:k=g.n.toNat:=by omega
 rw [fH.2 hok] at hR
 subst hR
 repeat' (first|refine Rn.p ?_|(with_reducible apply And.intro)|((first|(refine hK _ ?_;clear hK K)|with_reducible intro K hK|refine Rs.p ?_|((with_reducible first|apply oP|apply oQ);exact rfl)|(refine mC hX hC hP 60 (EA [vw g,sI (fK g p g.n.toNat).pl] (fK g p g.n.toNat).row (by omega)) rfl rfl rfl ?_ ?_ (by first|exact ⟨_,_,_,rfl,u9⟩|exact ⟨_,_,_,rfl,va⟩|exact ⟨_,_,_,rfl,vf⟩) rfl (by decide) ?_;(iterate 2 (focus (simp only [go_sem,simprocAttr,hb];done)));simp only [go_sem,simprocAttr,hb]));try simp only [go_sem,simprocAttr,hb])|((with_reducible refine oD ?_ ?_);kernel_rfl)|((with_reducible intro h);try simp only [go_sem,simprocAttr,hb] at h)|omega|intro h)
end Go.Ab
end
section
namespace Go.Ab
open Go.Proofs
attribute [local congr] ACall.congr gd.congr Nx.congr
set_option maxRecDepth 10000
set_option maxHeartbeats 8000000
def xK (n:Int) (es:List Edge) (ord:List Int) (O:List (List Int)):List (Nat × AObj):= [(10000, .box [eN n, .ref 10001, .ref 10002, .ref 10003]),(10001, .tip 73 2 (es.map rE)),(10002, .tip 3 1 (ord.map rI)),(10003, .own 31 1 (vI O))]
def xL (n:Int) (es:List Edge) (ord:List Int) (O:List (List Int)):List (Nat × AObj):= [(10000, .box [eN n, .ref 10004, .ref 10002, .ref 10003]),(10004, .tip 73 2 (es.map rE)),(10002, .tip 3 1 (ord.map rI)),(10003, .own 31 1 (vI O))]
def cz (x:Int) (items:List It):List Edge:=(loose items).map fun v=>(v,x)
theorem vA {x:Int} {a b:List It} :cz x (a++b)=cz x a++cz x b:=by simp [cz,cg]
theorem Lo {ls:List (List Int)} {k:Nat} {l:List Int} :(vI ls).set k [sI l]=vI (ls.set k l):=by simp [vI,List.map_set]
theorem nw {items:List It} :(loose items).length≤items.length:=by
 unfold loose
 rw [List.length_map]
 exact List.length_filter_le _ _
theorem AO (n:Int) (es:List Edge) (ord:List Int) (O:List (List Int)) (x:Int) (items:List It) (hl:es.length+items.length≤100000) (hO:∀v∈loose items,0≤v∧v<O.length):
 Spec Tryz.prog 117 (Args [.ptr 10000 0,eN x, .d (sT items)]) (xK n es ord O) (.tup []) (xL n (es++cz x items) ord (dF es.length (cz x items) O)):=by
 unfold xK xL
 (refine Spec.tg (C:=T.cfg [] []) (rs:= []) [(10004,50)] (T.ai _ _) Tryz.func117 rfl rfl Tryz.ntmps117 Tryz.results117 (by simp [AObj.isNest]) (by simp [AObj.isNest]) (by first|(simp [look];done)|(simp [asN];done)|(intro l hl;simp only [asN];repeat (rw [if_neg (fun e=>by subst e;simp [look] at hl)]))) (by first|(simp [look];done)|(simp [asN];done)|(intro l hl;simp only [asN];repeat (rw [if_neg (fun e=>by subst e;simp [look] at hl)]))) (by kernel_rfl) T.mixed fun X hX hP hC aH bU=> ?_)
 repeat' (first|refine Rn.p ?_|(with_reducible apply And.intro)|((first|(refine hK _ ?_;clear hK K)|with_reducible intro K hK|refine Rs.p ?_|((with_reducible first|apply oP|apply oQ);exact rfl));try simp only [go_sem,simprocAttr])|((with_reducible refine oD ?_ ?_);kernel_rfl)|((with_reducible intro h);try simp only [go_sem,simprocAttr] at h)|omega|intro h)
 (refine bt hX 10000 1 10001 50 rfl rfl rfl (by first|exact .inl rfl|exact .inr rfl) (by decide) (by decide) ?_;simp only [List.set_cons_zero,List.set_cons_succ,go_sem,simprocAttr])
 refine ag (fun k:Nat=>k≤items.length) (fun k=>⟨[(0, .ptr 10000 0),(1,eN x),(8, .d (sT items)),(9,eN items.length),(10,eN k)], [(10000, .box [eN n, .ref 50, .ref 10002, .ref 10003]),(50, .tip 73 2 ((es++cz x (items.take k)).map rE)),(10002, .tip 3 1 (ord.map rI)),(10003, .own 31 1 (vI (dF es.length (cz x (items.take k)) O)))]⟩) (fun k=>items.length - k) 0 (by simp) ?_ ?_
 ·refine Le.of ?_ ?_<;>simp [go_sem,simprocAttr,cz,loose,dF]
 rintro k hk
 rcases Nat.lt_or_ge k items.length with hlt|hge
 ·have hb:decide ((k:Int)<(items.length:Int))=true:=decide_eq_true (by omega)
  have qR:items.take (k+1)=items.take k++ [items.getD k (0,0,0)]:=nr hlt
  have Ta:=aD (d:=(0,0,0)) hlt
  have mS:cz x (items.take (k+1))=cz x (items.take k)++cz x [items.getD k (0,0,0)]:=by rw [qR,vA]
  have Rr:(items.getD k (0,0,0)).1<0→0≤(items.getD k (0,0,0)).2.1∧(items.getD k (0,0,0)).2.1<O.length:=fun h=>hO _ (by
   unfold loose
   exact List.mem_map.2 ⟨_,List.mem_filter.2 ⟨Ta,decide_eq_true h⟩,rfl⟩)
  have fO:(cz x (items.take k)).length≤k:=by
   unfold cz
   rw [List.length_map]
   refine Nat.le_trans nw ?_
   rw [List.length_take];omega
  have Is:=qh (m:=es.length) (N:=cz x (items.take k)) (M:=cz x [items.getD k (0,0,0)]) (O:=O)
  have LZ:(dF es.length (cz x (items.take k)) O).length=O.length:=iz
  rw [← mS] at Is
  generalize iD:items.getD k (0,0,0)=t at mS Rr Is
  generalize dF es.length (cz x (items.take k)) O=O' at Is LZ
  generalize cz x (items.take k)=N at mS fO Is
  by_cases h0:0≤t.1
  ·have hb1:decide (0≤t.1)=true:=decide_eq_true h0
   have he:cz x [t]= []:=by
    have:¬t.1<0:=by omega
    simp [cz,loose,this]
   rw [he] at mS Is
   rw [List.append_nil] at mS
   repeat' (first|refine Rn.p ?_|(with_reducible apply And.intro)|((first|(refine hK _ ?_;clear hK K)|with_reducible intro K hK|refine Rs.p ?_|((with_reducible first|apply oP|apply oQ);exact rfl));try simp only [go_sem,simprocAttr,hb,hb1,iD])|((with_reducible refine oD ?_ ?_);kernel_rfl)|((with_reducible intro h);try simp only [go_sem,simprocAttr,hb,hb1,iD] at h)|omega|intro h)
   refine ⟨k+1,by omega, ?_,by omega⟩
   rw [Is,mS]
   refine Le.of ?_ ?_<;>simp [go_sem,simprocAttr,hb,hb1,iD,dF]
  ·have hb1:decide (0≤t.1)=false:=decide_eq_false h0
   have he:cz x [t]= [(t.2.1,x)]:=by
    have:t.1<0:=by omega
    simp [cz,loose,this]
   rw [he] at mS Is
   obtain ⟨Mm,D6⟩:=Rr (by omega)
   obtain ⟨vn,Ll⟩:∃vn:Nat,t.2.1=vn:=⟨t.2.1.toNat,by omega⟩
   have hvl:vn<O'.length:=by omega
   have AM:=fun d=>dx hvl d
   have Qq:dF es.length (cz x (items.take (k+1))) O=O'.set vn [((es.length+N.length:Nat):Int)]:=by
    rw [Is,Ll]
    show O'.set ((vn:Int).toNat) _=_
    rw [Int.toNat_natCast]
   rw [Ll] at mS
   have hrow:rI ((es.length:Int)+(N.length:Int))= [D.sc (.int .i64 ((es.length:Int)+(N.length:Int)))]:=rfl
   have cI:=Lo (ls:=O') (k:=vn) (l:= [((es.length+N.length:Nat):Int)])
   repeat' (first|(show bM _ (.region 6 _ _) _ _;(refine bt hX 10000 1 43 50 rfl rfl rfl (by first|exact .inl rfl|exact .inr rfl) (by decide) (by decide) ?_;simp only [List.set_cons_zero,List.set_cons_succ,go_sem,simprocAttr,hb,hb1,iD,Ll,AM,List.drop_succ_cons,List.drop_zero,List.length_append]))|refine Rn.p ?_|(with_reducible apply And.intro)|((first|(refine hK _ ?_;clear hK K)|with_reducible intro K hK|refine Rs.p ?_|((with_reducible first|apply oP|apply oQ);exact rfl));try simp only [go_sem,simprocAttr,hb,hb1,iD,Ll,AM,List.drop_succ_cons,List.drop_zero,List.length_append])|((with_reducible refine oD ?_ ?_);kernel_rfl)|((with_reducible intro h);try simp only [go_sem,simprocAttr,hb,hb1,iD,Ll,AM,List.drop_succ_cons,List.drop_zero,List.length_append] at h)|omega|intro h)
   refine ⟨k+1,by omega, ?_,by omega⟩
   rw [Qq,mS]
   refine Le.of ?_ ?_<;>simp [go_sem,simprocAttr,hb,hb1,iD,Ll,AM,List.drop_succ_cons,List.drop_zero,List.length_append]
   refine ⟨rfl, ?_⟩
   simp only [Int.natCast_add] at cI
   exact cI
 ·have hb:decide ((k:Int)<(items.length:Int))=false:=decide_eq_false (by omega)
  obtain rfl:k=items.length:=by omega
  have ht:items.take items.length=items:=List.take_length
  repeat' (first|refine Rn.p ?_|(with_reducible apply And.intro)|((first|(refine hK _ ?_;clear hK K)|with_reducible intro K hK|refine Rs.p ?_|((with_reducible first|apply oP|apply oQ);exact rfl));try simp only [go_sem,simprocAttr,hb,ht])|((with_reducible refine oD ?_ ?_);kernel_rfl)|((with_reducible intro h);try simp only [go_sem,simprocAttr,hb,ht] at h)|omega|intro h)
end Go.Ab
end
section
namespace Go.Ab
open Go.Proofs
attribute [local congr] ACall.congr gd.congr Nx.congr
set_option maxRecDepth 10000
set_option maxHeartbeats 16000000
theorem y8 (ps:List Edge) (hl:ps.length≤1000000):
 Spec Tryz.prog 97 (Args [.d (sE ps)]) [] (.ref 10000) [(10000, .tip 73 2 (ps.map rE))]:=by
 (refine Spec.tg (C:=T.cfg [] []) (rs:= [.t 2]) [(10000,7)] (T.ai _ _) Tryz.func97 rfl rfl Tryz.ntmps97 Tryz.results97 (by simp [AObj.isNest]) (by simp [AObj.isNest]) (by first|(simp [look];done)|(simp [asN];done)|(intro l hl;simp only [asN];repeat (rw [if_neg (fun e=>by subst e;simp [look] at hl)]))) (by first|(simp [look];done)|(simp [asN];done)|(intro l hl;simp only [asN];repeat (rw [if_neg (fun e=>by subst e;simp [look] at hl)]))) (by kernel_rfl) T.mixed fun X hX hP hC aH bU=> ?_)
 repeat' (first|(show bM _ .ret _ _;(try simp only [go_sem,simprocAttr]);refine dW hX 2 7 (.tip 73 2 []) ?_ ?_ (by decide) ⟨73,2,by decide, .inr rfl⟩ ?_;(iterate 2 (focus (simp only [go_sem,simprocAttr];done)));simp only [go_sem,simprocAttr])|refine Rn.p ?_|(with_reducible apply And.intro)|((first|(refine hK _ ?_;clear hK K)|with_reducible intro K hK|refine Rs.p ?_|((with_reducible first|apply oP|apply oQ);exact rfl));try simp only [go_sem,simprocAttr])|((with_reducible refine oD ?_ ?_);kernel_rfl)|((with_reducible intro h);try simp only [go_sem,simprocAttr] at h)|omega|intro h)
 exact h.symm
def pz:Pl:=⟨[], []⟩
def gS (b:Bool) (g:Gr) (p:Pl):Gr × Pl × Int:=
 if (bA b g p).2.1≠0 then (gz,pz,1) else if 64<(ah g p).n∨128<(ah g p).es.length then (gz,pz,10) else (ah g p,bB g p,0)
theorem gT {b:Bool} {g:Gr} {p:Pl} (hr:b=true↔(bL g).1=0∧aU g p) (h:(bA b g p).2.1=0):aX g p∧bA b g p=((dY g p g.n.toNat,aS g p),(0,0)):=by
 cases b with
 |false=>simp [bA] at h
 |true=>
  have hR:bA true g p=match jV g p g.n.toNat with
   |some i=>(([], []),(3,(i:Int)))
   |none=>((dY g p g.n.toNat,(fK g p g.n.toNat).row),(0,0)):=rfl
  cases hs:jV g p g.n.toNat with
  |some i=>rw [hR,hs] at h;simp at h
  |none=>
   obtain ⟨h1,h2⟩:=hr.1 rfl
   exact ⟨⟨h1,h2,fH.1 hs⟩,by rw [hR,hs];rfl⟩
theorem xM {g:Gr} {p:Pl} {k:Nat} :ck g p (k+1)=ck g p k++cz (aE p k) (cn g p k):=rfl
theorem y9 {g:Gr} {p:Pl} (hr:aX g p) {k:Nat} (hk:k≤g.n.toNat):(ck g p k).length≤g.n.toNat∧∀e∈ck g p k,0≤e.1∧e.1<g.n:=by
 obtain ⟨hc,h,hok⟩:=hr
 have hm:=an hc
 obtain ⟨h1,h2⟩:=kY hm h hk fun j hj=>hok j (by omega)
 obtain ⟨hi,_⟩:=bS hm h hk fun j hj=>hok j (by omega)
 have hv:∀v∈(ck g p k).map (·.1),0≤v∧v<g.n:=fun v hv=>hi.qd v (h2 v (List.mem_append_left _ hv)).1
 refine ⟨?_,fun e he=>hv _ (List.mem_map.2 ⟨e,he,rfl⟩)⟩
 have:=gR (List.nodup_append.1 h1).1 (m:=eu g.n.toNat) fun v FR=>cU.2 (by have:=hv v FR;omega)
 rw [jB,List.length_map] at this
 exact this
theorem za (g:Gr) (hl:g.es.length≤1000) (p:Pl) (hp:gE p) (hp1:p.ord.length≤1000) (hp2:p.outs.length≤1000) (Kc:∀l∈p.outs,l.length≤1000) (b:Bool) (hr:b=true↔(bL g).1=0∧aU g p):
 Spec Tryz.prog 75 (Args [eG g,ePl p]) [] (.tup [eG (gS b g p).1,ePl (gS b g p).2.1,eN (gS b g p).2.2]) []:=by
 have hO:=gY g hl p hp b hr
 by_cases h0:(bA b g p).2.1=0
 rotate_left
 ·have qY:gS b g p=(gz,pz,1):=if_pos h0
  rw [qY]
  have hb1:decide ((bA b g p).2.1=0)=false:=decide_eq_false h0
  (refine Spec.hd (C:=T.cfg [] []) (rs:= [.c 4 24, .c 5 34, .t 6]) (T.ai _ _) Tryz.func75 rfl rfl Tryz.ntmps75 Tryz.results75 (by simp [AObj.isNest]) (by simp [AObj.isNest]) (by kernel_rfl) T.mixed fun X hX hP hC aH bU=> ?_)
  repeat' (first|refine Rn.p ?_|(with_reducible apply And.intro)|((first|(refine hK _ ?_;clear hK K)|with_reducible intro K hK|refine Rs.p ?_|((with_reducible first|apply oP|apply oQ);exact rfl)|refine aa hX hC hP (hO) rfl rfl rfl (by simp only [go_sem,simprocAttr,hb1,gz,pz,vI,List.map_nil]) rfl ?_);try simp only [go_sem,simprocAttr,hb1,gz,pz,vI,List.map_nil])|((with_reducible refine oD ?_ ?_);kernel_rfl)|((with_reducible intro h);try simp only [go_sem,simprocAttr,hb1,gz,pz,vI,List.map_nil] at h)|omega|intro h)
 obtain ⟨hrun,hR⟩:=gT hr h0
 rw [hR] at hO
 simp only at hO
 have qY:gS b g p=if 64<(ah g p).n∨128<(ah g p).es.length then (gz,pz,10) else (ah g p,bB g p,0):=by
  unfold gS;rw [if_neg (by rw [h0];simp)]
 generalize gS b g p=AR at qY
 have hm:=an hrun.1
 have hn:=aC hm
 have mK:=hrun.2.1
 have hle:=aR mK
 have qz:=mK.1
 (refine Spec.hd (C:=T.cfg [55,98] []) (rs:= [.c 4 24, .c 5 34, .t 6]) (T.ai _ _) Tryz.func75 rfl rfl Tryz.ntmps75 Tryz.results75 (by simp [AObj.isNest]) (by simp [AObj.isNest]) (by kernel_rfl) T.mixed fun X hX hP hC aH bU=> ?_)
 repeat' (first|(show bM _ (.seq (.region 5 _ _) _) _ _;(refine bt hX 38 1 31 200 rfl rfl rfl (by first|exact .inl rfl|exact .inr rfl) (by decide) (by decide) ?_;simp only [List.set_cons_zero,List.set_cons_succ,go_sem,simprocAttr]);(refine dZ hX 38 3 201 (.own 31 1 []) rfl rfl rfl (by simp only [go_sem,simprocAttr]) (by decide) (by simp [go_sem,simprocAttr]) ⟨31,1,by decide, .inl rfl⟩ ?_;simp only [List.set_cons_zero,List.set_cons_succ,go_sem,simprocAttr]))|refine Rn.p ?_|(with_reducible apply And.intro)|((first|(refine hK _ ?_;clear hK K)|with_reducible intro K hK|refine Rs.p ?_|((with_reducible first|apply oP|apply oQ);exact rfl)|refine aa hX hC hP (hO) rfl rfl rfl (by simp only [go_sem,simprocAttr]) rfl ?_|(refine jl hX hC hP [(10000,31)] (y8 g.es (by omega)) rfl rfl rfl ?_ ?_ ?_ ?_ ?_ ?_ ?_ ?_ ?_ ?_ ?_ ?_ ?_ ?_;(focus (simp only [go_sem,simprocAttr];done));(iterate 12 (focus (simp [go_sem,simprocAttr];done)));try simp only [List.map_cons,List.map_nil])|(refine jl hX hC hP [(10000,35)] (yX p.ord (by omega)) rfl rfl rfl ?_ ?_ ?_ ?_ ?_ ?_ ?_ ?_ ?_ ?_ ?_ ?_ ?_ ?_;(focus (simp only [go_sem,simprocAttr];done));(iterate 12 (focus (simp [go_sem,simprocAttr];done)));try simp only [List.map_cons,List.map_nil]));try simp only [go_sem,simprocAttr])|((with_reducible refine oD ?_ ?_);kernel_rfl)|((with_reducible intro h);try simp only [go_sem,simprocAttr] at h)|omega|intro h)
 refine ag (fun x:Nat=>x≤p.outs.length) (fun x=>⟨[(2, .ptr 2 0),(3, .ptr 3 0),(4, .ptr 4 0),(5, .ptr 5 0),(7, .d (.sl 1 (vT (dY g p g.n.toNat)))),(8, .d (sT (aS g p))),(10, .ptr 38 0),(40, .d (.sl 1 (vI p.outs))),(41,eN p.outs.length),(42,eN x)], [(2, .box [eN g.n, .d (sE g.es)]),(3, .box [.d (sI p.ord), .d (.sl 1 (vI p.outs))]),(4, .box [eN 0, .nil 73]),(5, .box [.nil 3, .nil 31]),(38, .box [eN g.n, .ref 200, .ref 35, .ref 201]),(200, .tip 73 2 (g.es.map rE)),(35, .tip 3 1 (p.ord.map rI)),(201, .own 31 1 (vI (p.outs.take x)))]⟩) (fun x=>p.outs.length - x) 0 (by simp) ?_ ?_
 ·refine Le.of ?_ ?_<;>simp [go_sem,simprocAttr,vI]
 rintro x hx
 rcases Nat.lt_or_ge x p.outs.length with hxl|Rq
 ·have hb:decide ((x:Int)<(p.outs.length:Int))=true:=decide_eq_true (by omega)
  have hv:=dx hxl
  have fO:=Kc _ (aD (d:= []) hxl)
  have qR:vI (p.outs.take (x+1))=vI (p.outs.take x)++ [[sI (p.outs.getD x [])]]:=by
   unfold vI
   rw [oK (d:= []) hxl]
  have htl:(p.outs.take x).length=x:=by rw [List.length_take];omega
  have Qr:=jR (p.outs.getD x []) (by omega)
  generalize p.outs.getD x []=l at hv fO qR Qr
  repeat' (first|(show bM _ (.region 9 _ _) _ _;(refine bt hX 38 3 55 201 rfl rfl rfl (by first|exact .inl rfl|exact .inr rfl) (by decide) (by decide) ?_;simp only [List.set_cons_zero,List.set_cons_succ,go_sem,simprocAttr,hb,hv,htl]))|refine Rn.p ?_|(with_reducible apply And.intro)|((first|(refine hK _ ?_;clear hK K)|with_reducible intro K hK|refine Rs.p ?_|((with_reducible first|apply oP|apply oQ);exact rfl)|refine aa hX hC hP (Qr) rfl rfl rfl (by simp only [go_sem,simprocAttr,hb,hv,htl]) rfl ?_);try simp only [go_sem,simprocAttr,hb,hv,htl])|((with_reducible refine oD ?_ ?_);kernel_rfl)|((with_reducible intro h);try simp only [go_sem,simprocAttr,hb,hv,htl] at h)|omega|intro h)
  refine ⟨x+1,by omega, ?_,by omega⟩
  rw [qR]
  refine Le.of ?_ ?_<;>simp [go_sem,simprocAttr,hb,hv,htl]
 have hb:decide ((x:Int)<(p.outs.length:Int))=false:=decide_eq_false (by omega)
 obtain rfl:x=p.outs.length:=by omega
 repeat' (first|refine Rn.p ?_|(with_reducible apply And.intro)|((first|(refine hK _ ?_;clear hK K)|with_reducible intro K hK|refine Rs.p ?_|((with_reducible first|apply oP|apply oQ);exact rfl)|refine aa hX hC hP (Qr) rfl rfl rfl (by simp only [go_sem,simprocAttr,hb,List.take_length]) rfl ?_);try simp only [go_sem,simprocAttr,hb,List.take_length])|((with_reducible refine oD ?_ ?_);kernel_rfl)|((with_reducible intro h);try simp only [go_sem,simprocAttr,hb,List.take_length] at h)|omega|intro h)
 clear hb hx
 refine ag (fun k:Nat=>k≤g.n.toNat) (fun k=>⟨[(2, .ptr 2 0),(4, .ptr 4 0),(5, .ptr 5 0),(7, .d (.sl 1 (vT (dY g p g.n.toNat)))),(8, .d (sT (aS g p))),(10, .ptr 38 0),(61, .d (sI p.ord)),(62,eN p.ord.length),(63,eN k)], [(2, .box [eN g.n, .d (sE g.es)]),(4, .box [eN 0, .nil 73]),(5, .box [.nil 3, .nil 31]),(38, .box [eN g.n, .ref 200, .ref 35, .ref 201]),(200, .tip 73 2 ((g.es++ck g p k).map rE)),(35, .tip 3 1 (p.ord.map rI)),(201, .own 31 1 (vI (dF g.es.length (ck g p k) p.outs)))]⟩) (fun k=>g.n.toNat - k) 0 (by simp) ?_ ?_
 ·refine Le.of ?_ ?_<;>simp [go_sem,simprocAttr,ck,dF]
 rintro k hk
 obtain ⟨hnl,Ir⟩:=y9 hrun hk
 have LZ:(dF g.es.length (ck g p k) p.outs).length=p.outs.length:=iz
 rcases Nat.lt_or_ge k g.n.toNat with bK|Fo
 ·have hb:decide ((k:Int)<(p.ord.length:Int))=true:=decide_eq_true (by omega)
  have Hp:=bI mK bK
  have Im:=tE mK (k:=g.n.toNat) (Nat.le_refl _) bK
  have eo:p.ord.getD k 0=aE p k:=rfl
  have bw:=xM (g:=g) (p:=p) (k:=k)
  obtain ⟨sS,Qs⟩:=y9 hrun (k:=k+1) (by omega)
  have zE:(cn g p k).length≤(fK g p k).row.length:=by unfold cn az;simp;omega
  obtain ⟨_,_,hrl⟩:=bS hm mK (k:=k) (by omega) fun j hj=>hrun.2.2 j (by omega)
  have hmul:k*(g.es.length+1)≤64*129:=Nat.mul_le_mul (by omega) (by omega)
  have Is:dF g.es.length (ck g p (k+1)) p.outs=dF (g.es++ck g p k).length (cz (aE p k) (cn g p k)) (dF g.es.length (ck g p k) p.outs):=by
   rw [bw,qh,List.length_append]
  have Fv:=AO g.n (g.es++ck g p k) p.ord (dF g.es.length (ck g p k) p.outs) (aE p k) (cn g p k) (by rw [List.length_append];omega) (fun v hv=>by
   have:=Qs (v,aE p k) (by rw [bw];exact List.mem_append_right _ (List.mem_map.2 ⟨v,hv,rfl⟩))
   simp only at this
   omega)
  rw [← Is] at Fv
  have Bx:g.es++ck g p k++cz (aE p k) (cn g p k)=g.es++ck g p (k+1):=by rw [bw,List.append_assoc]
  rw [Bx] at Fv
  obtain ⟨x,hx⟩:∃x:Nat,aE p k=x:=⟨(aE p k).toNat,by omega⟩
  rw [hx] at eo Im Fv Hp
  rw [Int.toNat_natCast] at Im
  have hel:=kX (g:=g) (p:=p) (k:=g.n.toNat)
  have Jk:x<(dY g p g.n.toNat).length:=by omega
  have EN:=nh Jk
  rw [Im] at EN
  have hvl:(vT (dY g p g.n.toNat)).length=(dY g p g.n.toNat).length:=vT_length
  repeat' (first|(show bM _ (.region 14 _ _) _ _;(refine bt hX 38 1 202 200 rfl rfl rfl (by first|exact .inl rfl|exact .inr rfl) (by decide) (by decide) ?_;simp only [List.set_cons_zero,List.set_cons_succ,go_sem,simprocAttr,hb,eo,EN,hvl,xK,xL]))|refine Rn.p ?_|(with_reducible apply And.intro)|((first|(refine hK _ ?_;clear hK K)|with_reducible intro K hK|refine Rs.p ?_|((with_reducible first|apply oP|apply oQ);exact rfl)|(refine aq hX hC hP [(10000,38),(10001,200),(10002,35),(10003,201),(10004,202)] (Fv) rfl rfl rfl ?_ ?_ ?_ ?_ ?_ ?_ ?_ ?_ ?_ ?_ ?_ ?_ ?_ ?_;(focus (simp only [go_sem,simprocAttr,hb,eo,EN,hvl,xK,xL];done));(iterate 12 (focus (simp [go_sem,simprocAttr,hb,eo,EN,hvl,xK,xL];done)));try simp only [List.map_cons,List.map_nil]));try simp only [go_sem,simprocAttr,hb,eo,EN,hvl,xK,xL])|((with_reducible refine oD ?_ ?_);kernel_rfl)|((with_reducible intro h);try simp only [go_sem,simprocAttr,hb,eo,EN,hvl,xK,xL] at h)|omega|intro h)
  refine ⟨k+1,by omega, ?_,by omega⟩
  refine Le.of ?_ ?_<;>simp [go_sem,simprocAttr,hb,eo,EN,hvl,xK,xL]
 have hb:decide ((k:Int)<(p.ord.length:Int))=false:=decide_eq_false (by omega)
 obtain rfl:k=g.n.toNat:=by omega
 by_cases h1:1<(aS g p).length
 ·have hb1:decide ((1:Int)<((aS g p).length:Int))=true:=decide_eq_true (by omega)
  obtain ⟨_,_,hrl⟩:=bS hm mK (k:=g.n.toNat) (Nat.le_refl _) hrun.2.2
  have hmul:g.n.toNat*(g.es.length+1)≤64*129:=Nat.mul_le_mul (by omega) (by omega)
  have hrl:(aS g p).length≤g.n.toNat*(g.es.length+1):=hrl
  obtain ⟨sJ,BA⟩:=eZ hrun
  have sS:newL g p=cz g.n (aS g p):=if_pos h1
  have Fv:=AO (g.n+1) (g.es++ck g p g.n.toNat) (p.ord++ [g.n]) (dF g.es.length (ck g p g.n.toNat) p.outs++ [[]]) g.n (aS g p) (by rw [List.length_append];omega) (fun v hv=>by
   have:=(BA (v,g.n) (by unfold aV;rw [sS];exact List.mem_append_right _ (List.mem_map.2 ⟨v,hv,rfl⟩))).1
   simp only at this
   rw [List.length_append,iz];omega)
  have hq:dF (g.es++ck g p g.n.toNat).length (cz g.n (aS g p)) (dF g.es.length (ck g p g.n.toNat) p.outs++ [[]])=(bB g p).outs:=by
   show _=dF g.es.length (aV g p) (if 1<(aS g p).length then p.outs++ [[]] else p.outs)
   have mS:=xI (m:=g.es.length) (N:=ck g p g.n.toNat) (O:=p.outs) (fun e he=>by
    have:=Ir e he
    omega)
   rw [if_pos h1,aV,sS,qh,List.length_append,mS]
  have he:g.es++ck g p g.n.toNat++cz g.n (aS g p)=(ah g p).es:=by
   show _=g.es++aV g p
   rw [aV,sS,List.append_assoc]
  have ho:p.ord++ [g.n]=(bB g p).ord:=(if_pos h1).symm
  have hg:g.n+1=(ah g p).n:=(if_pos h1).symm
  have hvs:vI (dF g.es.length (ck g p g.n.toNat) p.outs)++ [[D.sl 1 []]]=vI (dF g.es.length (ck g p g.n.toNat) p.outs++ [[]]):=by simp [vI,sI]
  have hos:p.ord.map rI++ [[D.sc (.int .i64 g.n)]]=(p.ord++ [g.n]).map rI:=by simp [rI]
  rw [hq,he] at Fv
  have sN:(ah g p).es.length≤1000:=by
   rw [← he,List.length_append,List.length_append]
   have:(cz g.n (aS g p)).length≤g.n.toNat:=by
    have:=gR (List.nodup_append.1 (by rw [aV,List.map_append] at sJ;exact sJ)).2.1 (m:=eu g.n.toNat) fun v FR=>cU.2 (by
     obtain ⟨e,he,rfl⟩:=List.mem_map.1 FR
     have:=(BA e (List.mem_append_right _ he)).1
     omega)
    rw [jB,List.length_map,sS] at this
    exact this
   omega
  have Jl:AR=if 64<(ah g p).n∨128<(ah g p).es.length then (gz,pz,10) else (ah g p,bB g p,0):=qY
  clear qY
  have Rb:(bB g p).outs.length=(bB g p).outs.length:=rfl
  have KB:bB g p=⟨(bB g p).ord,(bB g p).outs⟩:=rfl
  generalize ah g p=G at he hg Fv Jl sN
  rw [ho] at Fv hos
  generalize bB g p=Q at hq ho Fv Jl hos
  by_cases h2:64<G.n
  ·have hb2:decide (64<G.n)=true:=decide_eq_true h2
   rw [if_pos (.inl h2)] at Jl
   subst Jl
   repeat' (first|refine Rn.p ?_|(with_reducible apply And.intro)|((first|(refine hK _ ?_;clear hK K)|with_reducible intro K hK|refine Rs.p ?_|((with_reducible first|apply oP|apply oQ);exact rfl)|(refine aq hX hC hP [(10000,38),(10001,200),(10002,87),(10003,98),(10004,203)] (Fv) rfl rfl rfl ?_ ?_ ?_ ?_ ?_ ?_ ?_ ?_ ?_ ?_ ?_ ?_ ?_ ?_;(focus (simp only [go_sem,simprocAttr,hb,hb1,hb2,xK,xL,hvs,hos,hg,gz,pz,vI,List.map_nil];done));(iterate 12 (focus (simp [go_sem,simprocAttr,hb,hb1,hb2,xK,xL,hvs,hos,hg,gz,pz,vI,List.map_nil];done)));try simp only [List.map_cons,List.map_nil]));try simp only [go_sem,simprocAttr,hb,hb1,hb2,xK,xL,hvs,hos,hg,gz,pz,vI,List.map_nil])|((with_reducible refine oD ?_ ?_);kernel_rfl)|((with_reducible intro h);try simp only [go_sem,simprocAttr,hb,hb1,hb2,xK,xL,hvs,hos,hg,gz,pz,vI,List.map_nil] at h)|omega|intro h)
  ·have hb2:decide (64<G.n)=false:=decide_eq_false h2
   by_cases h3:128<G.es.length
   ·have hb3:decide (128<(G.es.length:Int))=true:=decide_eq_true (by omega)
    rw [if_pos (.inr h3)] at Jl
    subst Jl
    repeat' (first|refine Rn.p ?_|(with_reducible apply And.intro)|((first|(refine hK _ ?_;clear hK K)|with_reducible intro K hK|refine Rs.p ?_|((with_reducible first|apply oP|apply oQ);exact rfl)|(refine aq hX hC hP [(10000,38),(10001,200),(10002,87),(10003,98),(10004,203)] (Fv) rfl rfl rfl ?_ ?_ ?_ ?_ ?_ ?_ ?_ ?_ ?_ ?_ ?_ ?_ ?_ ?_;(focus (simp only [go_sem,simprocAttr,hb,hb1,hb2,hb3,xK,xL,hvs,hos,hg,gz,pz];done));(iterate 12 (focus (simp [go_sem,simprocAttr,hb,hb1,hb2,hb3,xK,xL,hvs,hos,hg,gz,pz];done)));try simp only [List.map_cons,List.map_nil]));try simp only [go_sem,simprocAttr,hb,hb1,hb2,hb3,xK,xL,hvs,hos,hg,gz,pz])|((with_reducible refine oD ?_ ?_);kernel_rfl)|((with_reducible intro h);try simp only [go_sem,simprocAttr,hb,hb1,hb2,hb3,xK,xL,hvs,hos,hg,gz,pz] at h)|omega|intro h)
    all_goals rfl
   ·have hb3:decide (128<(G.es.length:Int))=false:=decide_eq_false (by omega)
    rw [if_neg (by rintro (h|h);exact h2 h;exact h3 h)] at Jl
    subst Jl
    repeat' (first|refine Rn.p ?_|(with_reducible apply And.intro)|((first|(refine hK _ ?_;clear hK K)|with_reducible intro K hK|refine Rs.p ?_|((with_reducible first|apply oP|apply oQ);exact rfl)|(refine aq hX hC hP [(10000,38),(10001,200),(10002,87),(10003,98),(10004,203)] (Fv) rfl rfl rfl ?_ ?_ ?_ ?_ ?_ ?_ ?_ ?_ ?_ ?_ ?_ ?_ ?_ ?_;(focus (simp only [go_sem,simprocAttr,hb,hb1,hb2,hb3,xK,xL,hvs,hos,hg];done));(iterate 12 (focus (simp [go_sem,simprocAttr,hb,hb1,hb2,hb3,xK,xL,hvs,hos,hg];done)));try simp only [List.map_cons,List.map_nil]));try simp only [go_sem,simprocAttr,hb,hb1,hb2,hb3,xK,xL,hvs,hos,hg])|((with_reducible refine oD ?_ ?_);kernel_rfl)|((with_reducible intro h);try simp only [go_sem,simprocAttr,hb,hb1,hb2,hb3,xK,xL,hvs,hos,hg] at h)|omega|intro h)
 ·have hb1:decide ((1:Int)<((aS g p).length:Int))=false:=decide_eq_false (by omega)
  have sS:newL g p= []:=if_neg h1
  have he:g.es++ck g p g.n.toNat=(ah g p).es:=by
   show _=g.es++aV g p
   rw [aV,sS,List.append_nil]
  have hq:dF g.es.length (ck g p g.n.toNat) p.outs=(bB g p).outs:=by
   show _=dF g.es.length (aV g p) (if 1<(aS g p).length then p.outs++ [[]] else p.outs)
   rw [if_neg h1,aV,sS,List.append_nil]
  have ho:p.ord=(bB g p).ord:=(if_neg h1).symm
  have hg:g.n=(ah g p).n:=(if_neg h1).symm
  have hml:(g.es++ck g p g.n.toNat).map rE=(ah g p).es.map rE:=by rw [he]
  have Qt:(ah g p).es.length=g.es.length+(ck g p g.n.toNat).length:=by rw [← he,List.length_append]
  have N8:p.ord.map rI=(bB g p).ord.map rI:=by rw [← ho]
  generalize ah g p=G at he hg qY hml Qt
  generalize bB g p=Q at hq ho qY N8
  by_cases h2:64<G.n
  ·omega
  ·have hb2:decide (64<G.n)=false:=decide_eq_false h2
   by_cases h3:128<G.es.length
   ·have hb3:decide (128<(G.es.length:Int))=true:=decide_eq_true (by omega)
    rw [if_pos (.inr h3)] at qY
    subst qY
    rw [he]
    repeat' (first|refine Rn.p ?_|(with_reducible apply And.intro)|((first|(refine hK _ ?_;clear hK K)|with_reducible intro K hK|refine Rs.p ?_|((with_reducible first|apply oP|apply oQ);exact rfl));try simp only [go_sem,simprocAttr,hb,hb1,hb2,hb3,hg,gz,pz])|((with_reducible refine oD ?_ ?_);kernel_rfl)|((with_reducible intro h);try simp only [go_sem,simprocAttr,hb,hb1,hb2,hb3,hg,gz,pz] at h)|omega|intro h)
    all_goals rfl
   ·have hb3:decide (128<(G.es.length:Int))=false:=decide_eq_false (by omega)
    rw [if_neg (by rintro (h|h);exact h2 h;exact h3 h)] at qY
    subst qY
    rw [he,hq]
    have Nu:=N8.symm
    have Io:=hg.symm
    rw [Io] at hb2
    repeat' (first|refine Rn.p ?_|(with_reducible apply And.intro)|((first|(refine hK _ ?_;clear hK K)|with_reducible intro K hK|refine Rs.p ?_|((with_reducible first|apply oP|apply oQ);exact rfl));try simp only [go_sem,simprocAttr,hb,hb1,hb2,hb3,Io,Nu])|((with_reducible refine oD ?_ ?_);kernel_rfl)|((with_reducible intro h);try simp only [go_sem,simprocAttr,hb,hb1,hb2,hb3,Io,Nu] at h)|omega|intro h)
end Go.Ab
end
section
namespace Go.Ab
open Go.Proofs
attribute [local congr] ACall.congr gd.congr Nx.congr
set_option maxRecDepth 10000
set_option maxHeartbeats 16000000
def iA (p:Pl) (x:Gr) (k:Nat):List (List Int):=(List.range k).map fun v=>if 0<(p.outs.getD v []).length then p.outs.getD v [] else aY x (v:Int)
theorem xN {p:Pl} {x:Gr} {k:Nat} :iA p x (k+1)=iA p x k++ [if 0<(p.outs.getD k []).length then p.outs.getD k [] else aY x (k:Int)]:=by
 simp [iA,List.range_succ]
theorem AQ {p:Pl} {x:Gr} {k:Nat} :(iA p x k).length=k:=by simp [iA]
theorem Cl {g:Gr} (hm:aN g=true) {t:It} (h:Ch g t):t.2.2<0↔t.1<0:=by
 have:=h.head hm
 omega
theorem Ht {g:Gr} {p:Pl} {k:Nat} {t:It} (h:t∈cn g p k):t∈(fK g p k).row:=by
 unfold cn az at h
 exact List.mem_of_mem_take (List.mem_of_mem_drop h)
theorem oR {g:Gr} {p:Pl} (hr:aX g p):∀t∈aS g p,t.1<0:=by
 obtain ⟨hc,h,hok⟩:=hr
 have hm:=an hc
 have hn:=aC hm
 obtain ⟨hi,cJ,_⟩:=bS hm h (k:=g.n.toNat) (Nat.le_refl _) hok
 intro t ht
 refine Decidable.byContradiction fun h0=> ?_
 rcases hi.it t ht with ⟨h1,_⟩|⟨h1,h2,_,h4⟩
 ·omega
 ·have P9:=(cM hm (k:=t.1.toNat) (by omega)).2
  rw [← h4] at P9
  refine hi.head t ht h1 (kU hi.toer ?_ P9)
  rw [cJ,List.length_take,aR h];omega
theorem Hu {es:List Edge} {l:List It} {x:Int} {j:Nat} (h:∀t∈l,t.1<0) (hj:j<l.length):cz x (l.take (j+1))=cz x (l.take j)++ [((l.getD j (0,0,0)).2.1,x)]:=by
 rw [nr hj,vA]
 congr 1
 have:=h _ (aD (d:=(0,0,0)) hj)
 simp only [cz,loose,List.filter_cons,this,decide_true,if_true,List.filter_nil,List.map_cons,List.map_nil]
theorem sV (g:Gr) (hl:g.es.length≤1000) (p:Pl) (hp:gE p) (hp1:p.ord.length≤1000) (hp2:p.outs.length≤1000) (Kc:∀l∈p.outs,l.length≤1000) (b:Bool) (hr:b=true↔(bL g).1=0∧aU g p):
 Spec Tryz.prog 78 (Args [eG g,ePl p]) [] (.tup [eG (gS b g p).1,ePl (gS b g p).2.1,eN (gS b g p).2.2]) []:=by
 have hO:=sn g (by omega) p hp b hr
 by_cases h0:(bA b g p).2.1=0
 rotate_left
 ·have hA:gS b g p=(gz,pz,1):=if_pos h0
  rw [hA]
  have hb1:decide ((bA b g p).2.1=0)=false:=decide_eq_false h0
  (refine Spec.hd (C:=T.cfg [] []) (rs:= [.c 4 24, .c 5 34, .t 6]) (T.ai _ _) Tryz.func78 rfl rfl Tryz.ntmps78 Tryz.results78 (by simp [AObj.isNest]) (by simp [AObj.isNest]) (by kernel_rfl) T.mixed fun X hX hP hC aH bU=> ?_)
  repeat' (first|refine Rn.p ?_|(with_reducible apply And.intro)|((first|(refine hK _ ?_;clear hK K)|with_reducible intro K hK|refine Rs.p ?_|((with_reducible first|apply oP|apply oQ);exact rfl)|refine aa hX hC hP (hO) rfl rfl rfl (by simp only [go_sem,simprocAttr,hb1,gz,pz,vI,List.map_nil]) rfl ?_);try simp only [go_sem,simprocAttr,hb1,gz,pz,vI,List.map_nil])|((with_reducible refine oD ?_ ?_);kernel_rfl)|((with_reducible intro h);try simp only [go_sem,simprocAttr,hb1,gz,pz,vI,List.map_nil] at h)|omega|intro h)
 obtain ⟨hrun,hR⟩:=gT hr h0
 rw [hR] at hO
 simp only at hO
 have qY:gS b g p=if 64<(ah g p).n∨128<(ah g p).es.length then (gz,pz,10) else (ah g p,bB g p,0):=by
  unfold gS;rw [if_neg (by rw [h0];simp)]
 generalize gS b g p=AR at qY
 have hm:=an hrun.1
 have hn:=aC hm
 have mK:=hrun.2.1
 have hle:=aR mK
 have qz:=mK.1
 have L0:iA p (ah g p) (ah g p).n.toNat=(bB g p).outs:=(qi hrun).symm
 (refine Spec.hd (C:=T.cfg [] []) (rs:= [.c 4 24, .c 5 34, .t 6]) (T.ai _ _) Tryz.func78 rfl rfl Tryz.ntmps78 Tryz.results78 (by simp [AObj.isNest]) (by simp [AObj.isNest]) (by kernel_rfl) T.mixed fun X hX hP hC aH bU=> ?_)
 repeat' (first|(show bM _ (.seq (.region 5 _ _) _) _ _;(refine bt hX 11 1 35 210 rfl rfl rfl (by first|exact .inl rfl|exact .inr rfl) (by decide) (by decide) ?_;simp only [List.set_cons_zero,List.set_cons_succ,go_sem,simprocAttr]))|refine Rn.p ?_|(with_reducible apply And.intro)|((first|(refine hK _ ?_;clear hK K)|with_reducible intro K hK|refine Rs.p ?_|((with_reducible first|apply oP|apply oQ);exact rfl)|refine aa hX hC hP (hO) rfl rfl rfl (by simp only [go_sem,simprocAttr]) rfl ?_);try simp only [go_sem,simprocAttr])|((with_reducible refine oD ?_ ?_);kernel_rfl)|((with_reducible intro h);try simp only [go_sem,simprocAttr] at h)|omega|intro h)
 refine ag (fun k:Nat=>k≤g.n.toNat) (fun k=>⟨[(2, .ptr 2 0),(3, .ptr 3 0),(4, .ptr 4 0),(5, .ptr 5 0),(11, .ptr 11 0),(7, .d (.sl 1 (vT (dY g p g.n.toNat)))),(8, .d (sT (aS g p))),(12,eN k)], [(2, .box [eN g.n, .d (sE g.es)]),(3, .box [.d (sI p.ord), .d (.sl 1 (vI p.outs))]),(4, .box [eN 0, .nil 73]),(5, .box [.nil 3, .nil 31]),(11, .box [eN g.n, .ref 210]),(210, .tip 73 2 ((g.es++ck g p k).map rE))]⟩) (fun k=>g.n.toNat - k) 0 (by simp) ?_ ?_
 ·refine Le.of ?_ ?_<;>simp [go_sem,simprocAttr,List.take_length,ck]
 rintro k hk
 obtain ⟨hnl,Ir⟩:=y9 hrun hk
 rcases Nat.lt_or_ge k g.n.toNat with bK|Fo
 ·have hb:decide ((k:Int)<(p.ord.length:Int))=true:=decide_eq_true (by omega)
  have Hp:=bI mK bK
  have Im:=tE mK (k:=g.n.toNat) (Nat.le_refl _) bK
  have eo:p.ord.getD k 0=aE p k:=rfl
  have bw:=xM (g:=g) (p:=p) (k:=k)
  have zE:(cn g p k).length≤(fK g p k).row.length:=by unfold cn az;simp;omega
  obtain ⟨hi,_,hrl⟩:=bS hm mK (k:=k) (by omega) fun j hj=>hrun.2.2 j (by omega)
  have hmul:k*(g.es.length+1)≤64*129:=Nat.mul_le_mul (by omega) (by omega)
  have Fp:∀t∈cn g p k,(t.2.2<0↔t.1<0):=fun t ht=>Cl hm (hi.it t (Ht ht))
  obtain ⟨x,hx⟩:∃x:Nat,aE p k=x:=⟨(aE p k).toNat,by omega⟩
  rw [hx] at eo Im Hp bw
  rw [Int.toNat_natCast] at Im
  have hel:=kX (g:=g) (p:=p) (k:=g.n.toNat)
  have Jk:x<(dY g p g.n.toNat).length:=by omega
  have EN:=nh Jk
  rw [Im] at EN
  have hvl:(vT (dY g p g.n.toNat)).length=(dY g p g.n.toNat).length:=vT_length
  generalize cn g p k=items at EN bw zE Fp
  generalize Tb:ck g p (k+1)=N' at bw
  generalize ck g p k=N at hnl Ir bw
  repeat' (first|refine Rn.p ?_|(with_reducible apply And.intro)|((first|(refine hK _ ?_;clear hK K)|with_reducible intro K hK|refine Rs.p ?_|((with_reducible first|apply oP|apply oQ);exact rfl)|refine aa hX hC hP (hO) rfl rfl rfl (by simp only [go_sem,simprocAttr,hb,eo,EN,hvl]) rfl ?_);try simp only [go_sem,simprocAttr,hb,eo,EN,hvl])|((with_reducible refine oD ?_ ?_);kernel_rfl)|((with_reducible intro h);try simp only [go_sem,simprocAttr,hb,eo,EN,hvl] at h)|omega|intro h)
  refine ag (fun j:Nat=>j≤items.length) (fun j=>⟨[(2, .ptr 2 0),(3, .ptr 3 0),(4, .ptr 4 0),(5, .ptr 5 0),(11, .ptr 11 0),(7, .d (.sl 1 (vT (dY g p g.n.toNat)))),(8, .d (sT (aS g p))),(12,eN k),(13, .d (sT items)),(14,eN j)], [(2, .box [eN g.n, .d (sE g.es)]),(3, .box [.d (sI p.ord), .d (.sl 1 (vI p.outs))]),(4, .box [eN 0, .nil 73]),(5, .box [.nil 3, .nil 31]),(11, .box [eN g.n, .ref 210]),(210, .tip 73 2 ((g.es++N++cz (x:Int) (items.take j)).map rE))]⟩) (fun j=>items.length - j) 0 (by simp) ?_ ?_
  ·refine Le.of ?_ ?_<;>simp [go_sem,simprocAttr,cz,loose]
  rintro j hj
  rcases Nat.lt_or_ge j items.length with hjl|No
  ·have nE:decide ((j:Int)<(items.length:Int))=true:=decide_eq_true (by omega)
   have hgt:=Fp _ (aD (d:=(0,0,0)) hjl)
   have mS:cz (x:Int) (items.take (j+1))=cz (x:Int) (items.take j)++cz (x:Int) [items.getD j (0,0,0)]:=by rw [nr hjl,vA]
   have fO:(cz (x:Int) (items.take j)).length≤j:=by
    unfold cz
    rw [List.length_map]
    refine Nat.le_trans nw ?_
    rw [List.length_take];omega
   generalize iD:items.getD j (0,0,0)=t at hgt mS
   generalize cz (x:Int) (items.take j)=M at mS fO
   by_cases h1:t.2.2<0
   ·have hb1:decide (t.2.2<0)=true:=decide_eq_true h1
    have he:cz (x:Int) [t]= [(t.2.1,(x:Int))]:=by
     simp only [cz,loose,List.filter_cons,hgt.1 h1,decide_true,if_true,List.filter_nil,List.map_cons,List.map_nil]
    rw [he] at mS
    repeat' (first|(show bM _ (.region 11 _ _) _ _;(refine bt hX 11 1 78 210 rfl rfl rfl (by first|exact .inl rfl|exact .inr rfl) (by decide) (by decide) ?_;simp only [List.set_cons_zero,List.set_cons_succ,go_sem,simprocAttr,hb,eo,nE,iD,hb1,List.length_append]))|refine Rn.p ?_|(with_reducible apply And.intro)|((first|(refine hK _ ?_;clear hK K)|with_reducible intro K hK|refine Rs.p ?_|((with_reducible first|apply oP|apply oQ);exact rfl)|refine aa hX hC hP (hO) rfl rfl rfl (by simp only [go_sem,simprocAttr,hb,eo,nE,iD,hb1,List.length_append]) rfl ?_);try simp only [go_sem,simprocAttr,hb,eo,nE,iD,hb1,List.length_append])|((with_reducible refine oD ?_ ?_);kernel_rfl)|((with_reducible intro h);try simp only [go_sem,simprocAttr,hb,eo,nE,iD,hb1,List.length_append] at h)|omega|intro h)
    refine ⟨j+1,by omega, ?_,by omega⟩
    rw [mS]
    refine Le.of ?_ ?_<;>simp [go_sem,simprocAttr,hb,eo,nE,iD,hb1,List.length_append]
    rfl
   ·have hb1:decide (t.2.2<0)=false:=decide_eq_false h1
    have he:cz (x:Int) [t]= []:=by
     have:¬t.1<0:=fun h=>h1 (hgt.2 h)
     simp only [cz,loose,List.filter_cons,this,decide_false,List.filter_nil,List.map_nil,Bool.false_eq_true,if_false]
    rw [he,List.append_nil] at mS
    repeat' (first|refine Rn.p ?_|(with_reducible apply And.intro)|((first|(refine hK _ ?_;clear hK K)|with_reducible intro K hK|refine Rs.p ?_|((with_reducible first|apply oP|apply oQ);exact rfl)|refine aa hX hC hP (hO) rfl rfl rfl (by simp only [go_sem,simprocAttr,hb,eo,nE,iD,hb1]) rfl ?_);try simp only [go_sem,simprocAttr,hb,eo,nE,iD,hb1])|((with_reducible refine oD ?_ ?_);kernel_rfl)|((with_reducible intro h);try simp only [go_sem,simprocAttr,hb,eo,nE,iD,hb1] at h)|omega|intro h)
    refine ⟨j+1,by omega, ?_,by omega⟩
    rw [mS]
    refine Le.of ?_ ?_<;>simp [go_sem,simprocAttr,hb,eo,nE,iD,hb1]
  ·have nE:decide ((j:Int)<(items.length:Int))=false:=decide_eq_false (by omega)
   obtain rfl:j=items.length:=by omega
   have Tc:g.es++N++cz (x:Int) items=g.es++N':=by rw [bw,List.append_assoc]
   rw [List.take_length,Tc]
   repeat' (first|refine Rn.p ?_|(with_reducible apply And.intro)|((first|(refine hK _ ?_;clear hK K)|with_reducible intro K hK|refine Rs.p ?_|((with_reducible first|apply oP|apply oQ);exact rfl)|refine aa hX hC hP (hO) rfl rfl rfl (by simp only [go_sem,simprocAttr,nE]) rfl ?_);try simp only [go_sem,simprocAttr,nE])|((with_reducible refine oD ?_ ?_);kernel_rfl)|((with_reducible intro h);try simp only [go_sem,simprocAttr,nE] at h)|omega|intro h)
   refine ⟨k+1,by omega, ?_,by omega⟩
   rw [Tb]
   refine Le.of ?_ ?_<;>simp [go_sem,simprocAttr,nE]
 have hb:decide ((k:Int)<(p.ord.length:Int))=false:=decide_eq_false (by omega)
 obtain rfl:k=g.n.toNat:=by omega
 have fO:=oR hrun
 obtain ⟨_,_,hrl⟩:=bS hm mK (k:=g.n.toNat) (Nat.le_refl _) hrun.2.2
 have hrl:(aS g p).length≤g.n.toNat*(g.es.length+1):=hrl
 have hmul:g.n.toNat*(g.es.length+1)≤64*129:=Nat.mul_le_mul (by omega) (by omega)
 obtain ⟨sJ,BA⟩:=eZ hrun
 have sN:(ah g p).es.length≤1000:=by
  show (g.es++aV g p).length≤1000
  have:=gR sJ (m:=eu g.n.toNat) fun v FR=>cU.2 (by
   obtain ⟨e,he,rfl⟩:=List.mem_map.1 FR
   have:=(BA e he).1
   omega)
  rw [jB,List.length_map] at this
  rw [List.length_append];omega
 by_cases h1:1<(aS g p).length
 ·have hb1:decide ((1:Int)<((aS g p).length:Int))=true:=decide_eq_true (by omega)
  have sS:newL g p=cz g.n (aS g p):=if_pos h1
  have he:g.es++ck g p g.n.toNat++cz g.n (aS g p)=(ah g p).es:=by
   show _=g.es++aV g p
   rw [aV,sS,List.append_assoc]
  have ho:p.ord++ [g.n]=(bB g p).ord:=(if_pos h1).symm
  have hg:g.n+1=(ah g p).n:=(if_pos h1).symm
  generalize ah g p=G at he hg qY sN L0
  generalize bB g p=Q at ho qY L0
  have j8:True:=trivial
  repeat' (first|refine Rn.p ?_|(with_reducible apply And.intro)|((first|(refine hK _ ?_;clear hK K)|with_reducible intro K hK|refine Rs.p ?_|((with_reducible first|apply oP|apply oQ);exact rfl)|refine aa hX hC hP (hO) rfl rfl rfl (by simp only [go_sem,simprocAttr,hb,hb1,List.take_length]) rfl ?_);try simp only [go_sem,simprocAttr,hb,hb1,List.take_length])|((with_reducible refine oD ?_ ?_);kernel_rfl)|((with_reducible intro h);try simp only [go_sem,simprocAttr,hb,hb1,List.take_length] at h)|omega|intro h)
  clear hb hb1
  generalize ck g p g.n.toNat=N at hnl Ir he
  generalize aS g p=last at fO hrl h1 he
  refine ag (fun j:Nat=>j≤last.length) (fun j=>⟨[(2, .ptr 2 0),(3, .ptr 3 0),(4, .ptr 4 0),(5, .ptr 5 0),(11, .ptr 11 0),(15, .ptr 15 0),(8, .d (sT last)),(16,eN j)], [(2, .box [eN g.n, .d (sE g.es)]),(3, .box [.d (sI p.ord), .d (.sl 1 (vI p.outs))]),(4, .box [eN 0, .nil 73]),(5, .box [.nil 3, .nil 31]),(11, .box [eN g.n, .ref 210]),(210, .tip 73 2 ((g.es++N++cz g.n (last.take j)).map rE)),(15, .box [.ref 93, .nil 31]),(93, .tip 3 1 ((p.ord++ [g.n]).map rI))]⟩) (fun j=>last.length - j) 0 (by simp) ?_ ?_
  ·refine Le.of ?_ ?_<;>simp [go_sem,simprocAttr,cz,loose,rI]
  rintro j hj
  rcases Nat.lt_or_ge j last.length with hjl|No
  ·have nE:decide ((j:Int)<(last.length:Int))=true:=decide_eq_true (by omega)
   have mS:=Hu (x:=g.n) (es:=g.es) fO hjl
   have hml:(cz g.n (last.take j)).length≤j:=by
    unfold cz
    rw [List.length_map]
    refine Nat.le_trans nw ?_
    rw [List.length_take];omega
   generalize iD:last.getD j (0,0,0)=t at mS
   generalize cz g.n (last.take j)=M at mS hml
   repeat' (first|(show bM _ (.region 19 _ _) _ _;(refine bt hX 11 1 112 210 rfl rfl rfl (by first|exact .inl rfl|exact .inr rfl) (by decide) (by decide) ?_;simp only [List.set_cons_zero,List.set_cons_succ,go_sem,simprocAttr,nE,iD,List.length_append]))|refine Rn.p ?_|(with_reducible apply And.intro)|((first|(refine hK _ ?_;clear hK K)|with_reducible intro K hK|refine Rs.p ?_|((with_reducible first|apply oP|apply oQ);exact rfl)|refine aa hX hC hP (hO) rfl rfl rfl (by simp only [go_sem,simprocAttr,nE,iD,List.length_append]) rfl ?_);try simp only [go_sem,simprocAttr,nE,iD,List.length_append])|((with_reducible refine oD ?_ ?_);kernel_rfl)|((with_reducible intro h);try simp only [go_sem,simprocAttr,nE,iD,List.length_append] at h)|omega|intro h)
   refine ⟨j+1,by omega, ?_,by omega⟩
   rw [mS]
   refine Le.of ?_ ?_<;>simp [go_sem,simprocAttr,nE,iD,List.length_append]
   rfl
  have nE:decide ((j:Int)<(last.length:Int))=false:=decide_eq_false (by omega)
  obtain rfl:j=last.length:=by omega
  rw [List.take_length,he]
  by_cases h2:64<G.n
  ·have hb2:decide (64<G.n)=true:=decide_eq_true h2
   rw [if_pos (.inl h2)] at qY
   subst qY
   repeat' (first|refine Rn.p ?_|(with_reducible apply And.intro)|((first|(refine hK _ ?_;clear hK K)|with_reducible intro K hK|refine Rs.p ?_|((with_reducible first|apply oP|apply oQ);exact rfl)|refine aa hX hC hP (hO) rfl rfl rfl (by simp only [go_sem,simprocAttr,nE,hg,hb2,gz,pz]) rfl ?_);try simp only [go_sem,simprocAttr,nE,hg,hb2,gz,pz])|((with_reducible refine oD ?_ ?_);kernel_rfl)|((with_reducible intro h);try simp only [go_sem,simprocAttr,nE,hg,hb2,gz,pz] at h)|omega|intro h)
   all_goals rfl
  have hb2:decide (64<G.n)=false:=decide_eq_false h2
  by_cases h3:128<G.es.length
  ·have hb3:decide (128<(G.es.length:Int))=true:=decide_eq_true (by omega)
   rw [if_pos (.inr h3)] at qY
   subst qY
   repeat' (first|refine Rn.p ?_|(with_reducible apply And.intro)|((first|(refine hK _ ?_;clear hK K)|with_reducible intro K hK|refine Rs.p ?_|((with_reducible first|apply oP|apply oQ);exact rfl)|refine aa hX hC hP (hO) rfl rfl rfl (by simp only [go_sem,simprocAttr,nE,hg,hb2,hb3,gz,pz]) rfl ?_);try simp only [go_sem,simprocAttr,nE,hg,hb2,hb3,gz,pz])|((with_reducible refine oD ?_ ?_);kernel_rfl)|((with_reducible intro h);try simp only [go_sem,simprocAttr,nE,hg,hb2,hb3,gz,pz] at h)|omega|intro h)
   all_goals rfl
  have hb3:decide (128<(G.es.length:Int))=false:=decide_eq_false (by omega)
  rw [if_neg (by rintro (h|h);exact h2 h;exact h3 h)] at qY
  subst qY
  have Qu:G.es.length≤1000:=sN
  repeat' (first|(show bM _ (.seq (.region 24 _ _) _) _ _;(refine bt hX 15 0 93 211 rfl rfl rfl (by first|exact .inl rfl|exact .inr rfl) (by decide) (by decide) ?_;simp only [List.set_cons_zero,List.set_cons_succ,go_sem,simprocAttr,nE,hg,hb2,hb3]);(refine dZ hX 15 1 212 (.tip 31 1 []) rfl rfl rfl (by simp only [go_sem,simprocAttr,nE,hg,hb2,hb3]) (by decide) (by simp [go_sem,simprocAttr,nE,hg,hb2,hb3]) ⟨31,1,by decide, .inr rfl⟩ ?_;simp only [List.set_cons_zero,List.set_cons_succ,go_sem,simprocAttr,nE,hg,hb2,hb3]))|refine Rn.p ?_|(with_reducible apply And.intro)|((first|(refine hK _ ?_;clear hK K)|with_reducible intro K hK|refine Rs.p ?_|((with_reducible first|apply oP|apply oQ);exact rfl)|refine aa hX hC hP (hO) rfl rfl rfl (by simp only [go_sem,simprocAttr,nE,hg,hb2,hb3]) rfl ?_);try simp only [go_sem,simprocAttr,nE,hg,hb2,hb3])|((with_reducible refine oD ?_ ?_);kernel_rfl)|((with_reducible intro h);try simp only [go_sem,simprocAttr,nE,hg,hb2,hb3] at h)|omega|intro h)
  rw [ho]
  refine ag (fun v:Nat=>v≤G.n.toNat) (fun v=>⟨[(2, .ptr 2 0),(3, .ptr 3 0),(4, .ptr 4 0),(5, .ptr 5 0),(11, .ptr 11 0),(15, .ptr 15 0),(17,eN v)], [(2, .box [eN g.n, .d (sE g.es)]),(3, .box [.d (sI p.ord), .d (.sl 1 (vI p.outs))]),(4, .box [eN 0, .nil 73]),(5, .box [.nil 3, .nil 31]),(11, .box [eN G.n, .ref 210]),(210, .tip 73 2 (G.es.map rE)),(15, .box [.ref 211, .ref 212]),(211, .tip 3 1 (Q.ord.map rI)),(212, .tip 31 1 (vI (iA p G v)))]⟩) (fun v=>G.n.toNat - v) 0 (by simp) ?_ ?_
  ·refine Le.of ?_ ?_<;>simp [go_sem,simprocAttr,j8,iA,vI]
  rintro v hv
  rcases Nat.lt_or_ge v G.n.toNat with hvl|Td
  ·have hb:decide ((v:Int)<G.n)=true:=decide_eq_true (by omega)
   have bw:=xN (p:=p) (x:=G) (k:=v)
   have Nv:=bh G (v:Int) true Qu
   have wW:aM (fun e=>e.1) G.es G.es.length (v:Int)=aY G (v:Int):=rfl
   have bK:(iA p G v).length=v:=AQ
   have hzl:=qc (g:=G) (x:=(v:Int))
   by_cases Nw:v<p.outs.length
   ·have hb2:decide ((v:Int)<(p.outs.length:Int))=true:=decide_eq_true (by omega)
    have o6:=dx Nw
    have Ny:=Kc _ (aD (d:= []) Nw)
    generalize p.outs.getD v []=l at o6 bw Ny
    by_cases hl0:0<l.length
    ·have hb3:decide ((0:Int)<(l.length:Int))=true:=decide_eq_true (by omega)
     rw [if_pos hl0] at bw
     have vB:vI (iA p G (v+1))=vI (iA p G v)++ [[sI l]]:=by rw [bw];simp [vI]
     repeat' (first|(show bM _ (.region 26 _ _) _ _;(refine bt hX 15 1 159 212 rfl rfl rfl (by first|exact .inl rfl|exact .inr rfl) (by decide) (by decide) ?_;simp only [List.set_cons_zero,List.set_cons_succ,go_sem,simprocAttr,j8,hb,hb2,o6,hb3,bK,List.take_length]))|refine Rn.p ?_|(with_reducible apply And.intro)|((first|(refine hK _ ?_;clear hK K)|with_reducible intro K hK|refine Rs.p ?_|((with_reducible first|apply oP|apply oQ);exact rfl));try simp only [go_sem,simprocAttr,j8,hb,hb2,o6,hb3,bK,List.take_length])|((with_reducible refine oD ?_ ?_);kernel_rfl)|((with_reducible intro h);try simp only [go_sem,simprocAttr,j8,hb,hb2,o6,hb3,bK,List.take_length] at h)|omega|intro h)
     refine ⟨v+1,by omega, ?_,by omega⟩
     rw [vB]
     refine Le.of ?_ ?_<;>simp [go_sem,simprocAttr,j8,hb,hb2,o6,hb3,bK,List.take_length]
    ·have hb3:decide ((0:Int)<(l.length:Int))=false:=decide_eq_false (by omega)
     rw [if_neg hl0] at bw
     have vB:vI (iA p G (v+1))=vI (iA p G v)++ [[sI (aY G (v:Int))]]:=by rw [bw];simp [vI]
     repeat' (first|(show bM _ (.region 26 _ _) _ _;(refine bt hX 15 1 167 212 rfl rfl rfl (by first|exact .inl rfl|exact .inr rfl) (by decide) (by decide) ?_;simp only [List.set_cons_zero,List.set_cons_succ,go_sem,simprocAttr,j8,hb,hb2,o6,hb3,bK,cL,wW]))|refine Rn.p ?_|(with_reducible apply And.intro)|((first|(refine hK _ ?_;clear hK K)|with_reducible intro K hK|refine Rs.p ?_|((with_reducible first|apply oP|apply oQ);exact rfl)|(refine b8 hX hC hP (Nv) rfl rfl rfl ?_ ?_ rfl ?_;iterate 2 (focus (simp only [go_sem,simprocAttr,j8,hb,hb2,o6,hb3,bK,cL,wW];done))));try simp only [go_sem,simprocAttr,j8,hb,hb2,o6,hb3,bK,cL,wW])|((with_reducible refine oD ?_ ?_);kernel_rfl)|((with_reducible intro h);try simp only [go_sem,simprocAttr,j8,hb,hb2,o6,hb3,bK,cL,wW] at h)|omega|intro h)
     refine ⟨v+1,by omega, ?_,by omega⟩
     rw [vB]
     refine Le.of ?_ ?_<;>simp [go_sem,simprocAttr,j8,hb,hb2,o6,hb3,bK,cL,wW]
   ·have hb2:decide ((v:Int)<(p.outs.length:Int))=false:=decide_eq_false (by omega)
    have Lq:p.outs.getD v []= []:=by rw [List.getD_eq_getElem?_getD,List.getElem?_eq_none (by omega)];rfl
    rw [Lq,if_neg (by simp)] at bw
    have vB:vI (iA p G (v+1))=vI (iA p G v)++ [[sI (aY G (v:Int))]]:=by rw [bw];simp [vI]
    repeat' (first|(show bM _ (.region 26 _ _) _ _;(refine bt hX 15 1 167 212 rfl rfl rfl (by first|exact .inl rfl|exact .inr rfl) (by decide) (by decide) ?_;simp only [List.set_cons_zero,List.set_cons_succ,go_sem,simprocAttr,j8,hb,hb2,bK,cL,wW]))|refine Rn.p ?_|(with_reducible apply And.intro)|((first|(refine hK _ ?_;clear hK K)|with_reducible intro K hK|refine Rs.p ?_|((with_reducible first|apply oP|apply oQ);exact rfl)|(refine b8 hX hC hP (Nv) rfl rfl rfl ?_ ?_ rfl ?_;iterate 2 (focus (simp only [go_sem,simprocAttr,j8,hb,hb2,bK,cL,wW];done))));try simp only [go_sem,simprocAttr,j8,hb,hb2,bK,cL,wW])|((with_reducible refine oD ?_ ?_);kernel_rfl)|((with_reducible intro h);try simp only [go_sem,simprocAttr,j8,hb,hb2,bK,cL,wW] at h)|omega|intro h)
    all_goals (refine ⟨v+1,by omega, ?_,by omega⟩;rw [vB];(refine Le.of ?_ ?_<;>simp [go_sem,simprocAttr,j8,hb,hb2,bK,cL,wW]))
  ·have hb:decide ((v:Int)<G.n)=false:=decide_eq_false (by omega)
   obtain rfl:v=G.n.toNat:=by omega
   have hdk:iA p G G.n.toNat=Q.outs:=L0
   rw [hdk]
   repeat' (first|refine Rn.p ?_|(with_reducible apply And.intro)|((first|(refine hK _ ?_;clear hK K)|with_reducible intro K hK|refine Rs.p ?_|((with_reducible first|apply oP|apply oQ);exact rfl));try simp only [go_sem,simprocAttr,j8,hb])|((with_reducible refine oD ?_ ?_);kernel_rfl)|((with_reducible intro h);try simp only [go_sem,simprocAttr,j8,hb] at h)|omega|intro h)
 ·have hb1:decide ((1:Int)<((aS g p).length:Int))=false:=decide_eq_false (by omega)
  have sS:newL g p= []:=if_neg h1
  have he:g.es++ck g p g.n.toNat=(ah g p).es:=by
   show _=g.es++aV g p
   rw [aV,sS,List.append_nil]
  have ho:p.ord=(bB g p).ord:=(if_neg h1).symm
  have hg:(ah g p).n=g.n:=if_neg h1
  generalize ah g p=G at he hg qY sN L0
  generalize bB g p=Q at ho qY L0
  have j8:=hg
  rw [he]
  have h2:¬64<G.n:=by omega
  have hb2:decide (64<g.n)=false:=decide_eq_false (by omega)
  by_cases h3:128<G.es.length
  ·have hb3:decide (128<(G.es.length:Int))=true:=decide_eq_true (by omega)
   rw [if_pos (.inr h3)] at qY
   subst qY
   repeat' (first|refine Rn.p ?_|(with_reducible apply And.intro)|((first|(refine hK _ ?_;clear hK K)|with_reducible intro K hK|refine Rs.p ?_|((with_reducible first|apply oP|apply oQ);exact rfl));try simp only [go_sem,simprocAttr,hb,hb1,hb2,hb3,gz,pz])|((with_reducible refine oD ?_ ?_);kernel_rfl)|((with_reducible intro h);try simp only [go_sem,simprocAttr,hb,hb1,hb2,hb3,gz,pz] at h)|omega|intro h)
   all_goals rfl
  have hb3:decide (128<(G.es.length:Int))=false:=decide_eq_false (by omega)
  rw [if_neg (by rintro (h|h);exact h2 h;exact h3 h)] at qY
  subst qY
  have Qu:G.es.length≤1000:=sN
  repeat' (first|(show bM _ (.seq (.region 24 _ _) _) _ _;(refine bt hX 15 0 83 211 rfl rfl rfl (by first|exact .inl rfl|exact .inr rfl) (by decide) (by decide) ?_;simp only [List.set_cons_zero,List.set_cons_succ,go_sem,simprocAttr,hb,hb1,hb2,hb3]);(refine dZ hX 15 1 212 (.tip 31 1 []) rfl rfl rfl (by simp only [go_sem,simprocAttr,hb,hb1,hb2,hb3]) (by decide) (by simp [go_sem,simprocAttr,hb,hb1,hb2,hb3]) ⟨31,1,by decide, .inr rfl⟩ ?_;simp only [List.set_cons_zero,List.set_cons_succ,go_sem,simprocAttr,hb,hb1,hb2,hb3]))|refine Rn.p ?_|(with_reducible apply And.intro)|((first|(refine hK _ ?_;clear hK K)|with_reducible intro K hK|refine Rs.p ?_|((with_reducible first|apply oP|apply oQ);exact rfl));try simp only [go_sem,simprocAttr,hb,hb1,hb2,hb3])|((with_reducible refine oD ?_ ?_);kernel_rfl)|((with_reducible intro h);try simp only [go_sem,simprocAttr,hb,hb1,hb2,hb3] at h)|omega|intro h)
  rw [← hg] at hb2
  have hoq:Q.ord.map rI=p.ord.map rI:=by rw [ho]
  refine ag (fun v:Nat=>v≤G.n.toNat) (fun v=>⟨[(2, .ptr 2 0),(3, .ptr 3 0),(4, .ptr 4 0),(5, .ptr 5 0),(11, .ptr 11 0),(15, .ptr 15 0),(17,eN v)], [(2, .box [eN g.n, .d (sE g.es)]),(3, .box [.d (sI p.ord), .d (.sl 1 (vI p.outs))]),(4, .box [eN 0, .nil 73]),(5, .box [.nil 3, .nil 31]),(11, .box [eN G.n, .ref 210]),(210, .tip 73 2 (G.es.map rE)),(15, .box [.ref 211, .ref 212]),(211, .tip 3 1 (p.ord.map rI)),(212, .tip 31 1 (vI (iA p G v)))]⟩) (fun v=>G.n.toNat - v) 0 (by simp) ?_ ?_
  ·refine Le.of ?_ ?_<;>simp [go_sem,simprocAttr,j8,iA,vI]
  rintro v hv
  rcases Nat.lt_or_ge v G.n.toNat with hvl|Td
  ·have hb:decide ((v:Int)<g.n)=true:=decide_eq_true (by omega)
   have bw:=xN (p:=p) (x:=G) (k:=v)
   have Nv:=bh G (v:Int) true Qu
   have wW:aM (fun e=>e.1) G.es G.es.length (v:Int)=aY G (v:Int):=rfl
   have bK:(iA p G v).length=v:=AQ
   have hzl:=qc (g:=G) (x:=(v:Int))
   by_cases Nw:v<p.outs.length
   ·have hb2:decide ((v:Int)<(p.outs.length:Int))=true:=decide_eq_true (by omega)
    have o6:=dx Nw
    have Ny:=Kc _ (aD (d:= []) Nw)
    generalize p.outs.getD v []=l at o6 bw Ny
    by_cases hl0:0<l.length
    ·have hb3:decide ((0:Int)<(l.length:Int))=true:=decide_eq_true (by omega)
     rw [if_pos hl0] at bw
     have vB:vI (iA p G (v+1))=vI (iA p G v)++ [[sI l]]:=by rw [bw];simp [vI]
     repeat' (first|(show bM _ (.region 26 _ _) _ _;(refine bt hX 15 1 159 212 rfl rfl rfl (by first|exact .inl rfl|exact .inr rfl) (by decide) (by decide) ?_;simp only [List.set_cons_zero,List.set_cons_succ,go_sem,simprocAttr,j8,hb,hb2,o6,hb3,bK,List.take_length]))|refine Rn.p ?_|(with_reducible apply And.intro)|((first|(refine hK _ ?_;clear hK K)|with_reducible intro K hK|refine Rs.p ?_|((with_reducible first|apply oP|apply oQ);exact rfl));try simp only [go_sem,simprocAttr,j8,hb,hb2,o6,hb3,bK,List.take_length])|((with_reducible refine oD ?_ ?_);kernel_rfl)|((with_reducible intro h);try simp only [go_sem,simprocAttr,j8,hb,hb2,o6,hb3,bK,List.take_length] at h)|omega|intro h)
     refine ⟨v+1,by omega, ?_,by omega⟩
     rw [vB]
     refine Le.of ?_ ?_<;>simp [go_sem,simprocAttr,j8,hb,hb2,o6,hb3,bK,List.take_length]
    ·have hb3:decide ((0:Int)<(l.length:Int))=false:=decide_eq_false (by omega)
     rw [if_neg hl0] at bw
     have vB:vI (iA p G (v+1))=vI (iA p G v)++ [[sI (aY G (v:Int))]]:=by rw [bw];simp [vI]
     repeat' (first|(show bM _ (.region 26 _ _) _ _;(refine bt hX 15 1 167 212 rfl rfl rfl (by first|exact .inl rfl|exact .inr rfl) (by decide) (by decide) ?_;simp only [List.set_cons_zero,List.set_cons_succ,go_sem,simprocAttr,j8,hb,hb2,o6,hb3,bK,cL,wW]))|refine Rn.p ?_|(with_reducible apply And.intro)|((first|(refine hK _ ?_;clear hK K)|with_reducible intro K hK|refine Rs.p ?_|((with_reducible first|apply oP|apply oQ);exact rfl)|(refine b8 hX hC hP (Nv) rfl rfl rfl ?_ ?_ rfl ?_;iterate 2 (focus (simp only [go_sem,simprocAttr,j8,hb,hb2,o6,hb3,bK,cL,wW];done))));try simp only [go_sem,simprocAttr,j8,hb,hb2,o6,hb3,bK,cL,wW])|((with_reducible refine oD ?_ ?_);kernel_rfl)|((with_reducible intro h);try simp only [go_sem,simprocAttr,j8,hb,hb2,o6,hb3,bK,cL,wW] at h)|omega|intro h)
     refine ⟨v+1,by omega, ?_,by omega⟩
     rw [vB]
     refine Le.of ?_ ?_<;>simp [go_sem,simprocAttr,j8,hb,hb2,o6,hb3,bK,cL,wW]
   ·have hb2:decide ((v:Int)<(p.outs.length:Int))=false:=decide_eq_false (by omega)
    have Lq:p.outs.getD v []= []:=by rw [List.getD_eq_getElem?_getD,List.getElem?_eq_none (by omega)];rfl
    rw [Lq,if_neg (by simp)] at bw
    have vB:vI (iA p G (v+1))=vI (iA p G v)++ [[sI (aY G (v:Int))]]:=by rw [bw];simp [vI]
    repeat' (first|(show bM _ (.region 26 _ _) _ _;(refine bt hX 15 1 167 212 rfl rfl rfl (by first|exact .inl rfl|exact .inr rfl) (by decide) (by decide) ?_;simp only [List.set_cons_zero,List.set_cons_succ,go_sem,simprocAttr,j8,hb,hb2,bK,cL,wW]))|refine Rn.p ?_|(with_reducible apply And.intro)|((first|(refine hK _ ?_;clear hK K)|with_reducible intro K hK|refine Rs.p ?_|((with_reducible first|apply oP|apply oQ);exact rfl)|(refine b8 hX hC hP (Nv) rfl rfl rfl ?_ ?_ rfl ?_;iterate 2 (focus (simp only [go_sem,simprocAttr,j8,hb,hb2,bK,cL,wW];done))));try simp only [go_sem,simprocAttr,j8,hb,hb2,bK,cL,wW])|((with_reducible refine oD ?_ ?_);kernel_rfl)|((with_reducible intro h);try simp only [go_sem,simprocAttr,j8,hb,hb2,bK,cL,wW] at h)|omega|intro h)
    all_goals (refine ⟨v+1,by omega, ?_,by omega⟩;rw [vB];(refine Le.of ?_ ?_<;>simp [go_sem,simprocAttr,j8,hb,hb2,bK,cL,wW]))
  ·have hb:decide ((v:Int)<g.n)=false:=decide_eq_false (by omega)
   obtain rfl:v=G.n.toNat:=by omega
   have hdk:iA p G G.n.toNat=Q.outs:=L0
   rw [hdk]
   repeat' (first|refine Rn.p ?_|(with_reducible apply And.intro)|((first|(refine hK _ ?_;clear hK K)|with_reducible intro K hK|refine Rs.p ?_|((with_reducible first|apply oP|apply oQ);exact rfl));try simp only [go_sem,simprocAttr,j8,hb,hoq])|((with_reducible refine oD ?_ ?_);kernel_rfl)|((with_reducible intro h);try simp only [go_sem,simprocAttr,j8,hb,hoq] at h)|omega|intro h)
end Go.Ab
end
section
namespace Go.Ab
open Go.Proofs
attribute [local congr] ACall.congr gd.congr Nx.congr
set_option maxRecDepth 10000
set_option maxHeartbeats 8000000
def vC (g:Gr) (p:Pl):Bool:=decide (200<g.es.length)||decide (100<p.ord.length)||decide (100<p.outs.length)||p.outs.any fun l=>decide (200<l.length)
theorem Dp {g:Gr} {p:Pl} (h:vC g p=false):g.es.length≤200∧p.ord.length≤100∧p.outs.length≤100∧∀l∈p.outs,l.length≤200:=by
 simp only [vC,Bool.or_eq_false_iff,decide_eq_false_iff_not,List.any_eq_false,decide_eq_true_eq] at h
 obtain ⟨⟨⟨h1,h2⟩,h3⟩,h4⟩:=h
 exact ⟨by omega,by omega,by omega,fun l hl=>by have:=h4 l hl;omega⟩
theorem AS {g:Gr} {p:Pl} (h:vC g p=false):gE p:=by
 obtain ⟨_,h1,h2,h3⟩:=Dp h
 exact ⟨by omega,by omega,fun l hl=>by have:=h3 l hl;omega⟩
structure Hv (p:Pl):Prop where
 ord:p.ord.length≤9223372036854775807
 outs:p.outs.length≤9223372036854775807
 each:∀l∈p.outs,l.length≤9223372036854775807
theorem zf (g:Gr) (p:Pl) (hl:g.es.length≤9223372036854775807) (hp:Hv p):Spec Tryz.prog 22 (Args [eG g,ePl p]) [] (eB (vC g p)) []:=by
 have ho:=hp.ord
 have hu:=hp.outs
 (refine Spec.hd (C:=T.cfg [] []) (rs:= [.t 4]) (T.ai _ _) Tryz.func22 rfl rfl Tryz.ntmps22 Tryz.results22 (by simp [AObj.isNest]) (by simp [AObj.isNest]) (by kernel_rfl) T.mixed fun X hX hP hC aH bU=> ?_)
 generalize hB:vC g p=B
 by_cases h1:200<g.es.length
 ·have hb1:decide (200<(g.es.length:Int))=true:=decide_eq_true (by omega)
  have:B=true:=by rw [← hB,vC,decide_eq_true h1];rfl
  subst this
  repeat' (first|refine Rn.p ?_|(with_reducible apply And.intro)|((first|(refine hK _ ?_;clear hK K)|with_reducible intro K hK|refine Rs.p ?_|((with_reducible first|apply oP|apply oQ);exact rfl));try simp only [go_sem,simprocAttr,hb1])|((with_reducible refine oD ?_ ?_);kernel_rfl)|((with_reducible intro h);try simp only [go_sem,simprocAttr,hb1] at h)|omega|intro h)
 have hb1:decide (200<(g.es.length:Int))=false:=decide_eq_false (by omega)
 by_cases h2:100<p.ord.length
 ·have hb2:decide (100<(p.ord.length:Int))=true:=decide_eq_true (by omega)
  have:B=true:=by rw [← hB,vC,decide_eq_true h2];simp
  subst this
  repeat' (first|refine Rn.p ?_|(with_reducible apply And.intro)|((first|(refine hK _ ?_;clear hK K)|with_reducible intro K hK|refine Rs.p ?_|((with_reducible first|apply oP|apply oQ);exact rfl));try simp only [go_sem,simprocAttr,hb1,hb2])|((with_reducible refine oD ?_ ?_);kernel_rfl)|((with_reducible intro h);try simp only [go_sem,simprocAttr,hb1,hb2] at h)|omega|intro h)
 have hb2:decide (100<(p.ord.length:Int))=false:=decide_eq_false (by omega)
 by_cases h3:100<p.outs.length
 ·have hb3:decide (100<(p.outs.length:Int))=true:=decide_eq_true (by omega)
  have:B=true:=by rw [← hB,vC,decide_eq_true h3];simp
  subst this
  repeat' (first|refine Rn.p ?_|(with_reducible apply And.intro)|((first|(refine hK _ ?_;clear hK K)|with_reducible intro K hK|refine Rs.p ?_|((with_reducible first|apply oP|apply oQ);exact rfl));try simp only [go_sem,simprocAttr,hb1,hb2,hb3])|((with_reducible refine oD ?_ ?_);kernel_rfl)|((with_reducible intro h);try simp only [go_sem,simprocAttr,hb1,hb2,hb3] at h)|omega|intro h)
 have hb3:decide (100<(p.outs.length:Int))=false:=decide_eq_false (by omega)
 have Rt:B=p.outs.any fun l=>decide (200<l.length):=by rw [← hB,vC,decide_eq_false h1,decide_eq_false h2,decide_eq_false h3];simp
 clear hB
 repeat' (first|refine Rn.p ?_|(with_reducible apply And.intro)|((first|(refine hK _ ?_;clear hK K)|with_reducible intro K hK|refine Rs.p ?_|((with_reducible first|apply oP|apply oQ);exact rfl));try simp only [go_sem,simprocAttr,hb1,hb2,hb3])|((with_reducible refine oD ?_ ?_);kernel_rfl)|((with_reducible intro h);try simp only [go_sem,simprocAttr,hb1,hb2,hb3] at h)|omega|intro h)
 refine ag (fun k:Nat=>k≤p.outs.length∧∀j,j<k→(p.outs.getD j []).length≤200) (fun k=>⟨[(24, .d (.sl 1 (vI p.outs))),(25,eN p.outs.length),(26,eN k)], []⟩) (fun k=>p.outs.length - k) 0 (by simp) ?_ ?_
 ·(refine Le.of ?_ ?_<;>simp [go_sem,simprocAttr])
 rintro k ⟨hk,hg⟩
 rcases Nat.lt_or_ge k p.outs.length with bK|Fo
 ·have hb:decide ((k:Int)<(p.outs.length:Int))=true:=decide_eq_true (by omega)
  have hv:=dx bK
  have hm:=aD (d:= []) bK
  have fO:=hp.each _ hm
  by_cases h4:200<(p.outs.getD k []).length
  ·have hb4:decide (200<((p.outs.getD k []).length:Int))=true:=decide_eq_true (by omega)
   have:B=true:=by rw [Rt,List.any_eq_true];exact ⟨_,hm,decide_eq_true h4⟩
   subst this
   repeat' (first|refine Rn.p ?_|(with_reducible apply And.intro)|((first|(refine hK _ ?_;clear hK K)|with_reducible intro K hK|refine Rs.p ?_|((with_reducible first|apply oP|apply oQ);exact rfl));try simp only [go_sem,simprocAttr,hb,hv,hb4])|((with_reducible refine oD ?_ ?_);kernel_rfl)|((with_reducible intro h);try simp only [go_sem,simprocAttr,hb,hv,hb4] at h)|omega|intro h)
  ·have hb4:decide (200<((p.outs.getD k []).length:Int))=false:=decide_eq_false (by omega)
   repeat' (first|refine Rn.p ?_|(with_reducible apply And.intro)|((first|(refine hK _ ?_;clear hK K)|with_reducible intro K hK|refine Rs.p ?_|((with_reducible first|apply oP|apply oQ);exact rfl));try simp only [go_sem,simprocAttr,hb,hv,hb4])|((with_reducible refine oD ?_ ?_);kernel_rfl)|((with_reducible intro h);try simp only [go_sem,simprocAttr,hb,hv,hb4] at h)|omega|intro h)
   refine ⟨k+1,⟨by omega,fun j hj=> ?_⟩, ?_,by omega⟩
   ·by_cases e:j=k
    ·subst e;omega
    ·exact hg j (by omega)
   ·(refine Le.of ?_ ?_<;>simp [go_sem,simprocAttr,hb,hv,hb4])
 ·have hb:decide ((k:Int)<(p.outs.length:Int))=false:=decide_eq_false (by omega)
  have:B=false:=by
   rw [Rt,List.any_eq_false]
   intro l hl
   obtain ⟨j,hj,rfl⟩:=List.mem_iff_getElem.1 hl
   have:=hg j (by omega)
   rw [List.getD_eq_getElem?_getD,List.getElem?_eq_getElem hj,Option.getD_some] at this
   simp;omega
  subst this
  repeat' (first|refine Rn.p ?_|(with_reducible apply And.intro)|((first|(refine hK _ ?_;clear hK K)|with_reducible intro K hK|refine Rs.p ?_|((with_reducible first|apply oP|apply oQ);exact rfl));try simp only [go_sem,simprocAttr,hb])|((with_reducible refine oD ?_ ?_);kernel_rfl)|((with_reducible intro h);try simp only [go_sem,simprocAttr,hb] at h)|omega|intro h)
def o7 (g:Gr):Bool:=decide ((bL g).1=0)&&decide ((bQ (·.1) g).length=1)
theorem oS (g:Gr) (hl:g.es.length≤1000):Spec Tryz.prog 60 (Args [eG g]) [] (eB (o7 g)) []:=by
 by_cases hc:(bL g).1=0
 ·have hm:=an hc
  have hb1:decide ((bL g).1=0)=true:=decide_eq_true hc
  have hI:o7 g=decide (((bQ (·.1) g).length:Int)=1):=by
   unfold o7;rw [hb1,Bool.true_and,decide_eq_decide];omega
  rw [hI]
  generalize pq:bQ (·.1) g=bl
  have hS:=B9 g hm
  rw [pq] at hS
  (refine Spec.hd (C:=T.cfg [] []) (rs:= [.t 2]) (T.ai _ _) Tryz.func60 rfl rfl Tryz.ntmps60 Tryz.results60 (by simp [AObj.isNest]) (by simp [AObj.isNest]) (by kernel_rfl) T.mixed fun X hX hP hC aH bU=> ?_)
  repeat' (first|refine Rn.p ?_|(with_reducible apply And.intro)|((first|(refine hK _ ?_;clear hK K)|with_reducible intro K hK|refine Rs.p ?_|((with_reducible first|apply oP|apply oQ);exact rfl)|refine aa hX hC hP (lK g hl) rfl rfl rfl (by simp only [go_sem,simprocAttr,hb1]) rfl ?_|refine aa hX hC hP (iM g hm) rfl rfl rfl (by simp only [go_sem,simprocAttr,hb1]) rfl ?_|refine aa hX hC hP (hS) rfl rfl rfl (by simp only [go_sem,simprocAttr,hb1]) rfl ?_);try simp only [go_sem,simprocAttr,hb1])|((with_reducible refine oD ?_ ?_);kernel_rfl)|((with_reducible intro h);try simp only [go_sem,simprocAttr,hb1] at h)|omega|intro h)
 ·have hb1:decide ((bL g).1=0)=false:=decide_eq_false hc
  have hI:o7 g=false:=by unfold o7;rw [hb1];rfl
  rw [hI]
  (refine Spec.hd (C:=T.cfg [] []) (rs:= [.t 2]) (T.ai _ _) Tryz.func60 rfl rfl Tryz.ntmps60 Tryz.results60 (by simp [AObj.isNest]) (by simp [AObj.isNest]) (by kernel_rfl) T.mixed fun X hX hP hC aH bU=> ?_)
  repeat' (first|refine Rn.p ?_|(with_reducible apply And.intro)|((first|(refine hK _ ?_;clear hK K)|with_reducible intro K hK|refine Rs.p ?_|((with_reducible first|apply oP|apply oQ);exact rfl)|refine aa hX hC hP (lK g hl) rfl rfl rfl (by simp only [go_sem,simprocAttr,hb1]) rfl ?_);try simp only [go_sem,simprocAttr,hb1])|((with_reducible refine oD ?_ ?_);kernel_rfl)|((with_reducible intro h);try simp only [go_sem,simprocAttr,hb1] at h)|omega|intro h)
theorem oT (g:Gr) (hl:g.es.length≤1000):Spec Tryz.prog 23 (Args [eG g]) [] (eB (o7 g)) []:=by
 by_cases hc:(bL g).1=0
 ·have hm:=an hc
  have hn:=aC hm
  have hb1:decide ((bL g).1=0)=true:=decide_eq_true hc
  have hI:o7 g=decide (((bQ (·.1) g).length:Int)=1):=by
   unfold o7;rw [hb1,Bool.true_and,decide_eq_decide];omega
  rw [hI]
  have hS:=cO g false hl (by omega)
  rw [show lM (!false)=(·.1) from rfl] at hS
  generalize bQ (·.1) g=bl at hS
  (refine Spec.hd (C:=T.cfg [] []) (rs:= [.t 2]) (T.ai _ _) Tryz.func23 rfl rfl Tryz.ntmps23 Tryz.results23 (by simp [AObj.isNest]) (by simp [AObj.isNest]) (by kernel_rfl) T.mixed fun X hX hP hC aH bU=> ?_)
  repeat' (first|refine Rn.p ?_|(with_reducible apply And.intro)|((first|(refine hK _ ?_;clear hK K)|with_reducible intro K hK|refine Rs.p ?_|((with_reducible first|apply oP|apply oQ);exact rfl)|refine aa hX hC hP (bg g (by omega)) rfl rfl rfl (by simp only [go_sem,simprocAttr,hb1]) rfl ?_|refine aa hX hC hP (hS) rfl rfl rfl (by simp only [go_sem,simprocAttr,hb1]) rfl ?_);try simp only [go_sem,simprocAttr,hb1])|((with_reducible refine oD ?_ ?_);kernel_rfl)|((with_reducible intro h);try simp only [go_sem,simprocAttr,hb1] at h)|omega|intro h)
 ·have hb1:decide ((bL g).1=0)=false:=decide_eq_false hc
  have hI:o7 g=false:=by unfold o7;rw [hb1];rfl
  rw [hI]
  (refine Spec.hd (C:=T.cfg [] []) (rs:= [.t 2]) (T.ai _ _) Tryz.func23 rfl rfl Tryz.ntmps23 Tryz.results23 (by simp [AObj.isNest]) (by simp [AObj.isNest]) (by kernel_rfl) T.mixed fun X hX hP hC aH bU=> ?_)
  repeat' (first|refine Rn.p ?_|(with_reducible apply And.intro)|((first|(refine hK _ ?_;clear hK K)|with_reducible intro K hK|refine Rs.p ?_|((with_reducible first|apply oP|apply oQ);exact rfl)|refine aa hX hC hP (bg g (by omega)) rfl rfl rfl (by simp only [go_sem,simprocAttr,hb1]) rfl ?_);try simp only [go_sem,simprocAttr,hb1])|((with_reducible refine oD ?_ ?_);kernel_rfl)|((with_reducible intro h);try simp only [go_sem,simprocAttr,hb1] at h)|omega|intro h)
end Go.Ab
end
section
namespace Go.Ab
open Go.Proofs
attribute [local congr] ACall.congr gd.congr Nx.congr
set_option maxRecDepth 10000
set_option maxHeartbeats 8000000
def UF:Gr:=⟨3, [(0,1),(0,2)]⟩
def UG:Pl:=⟨[0,1,2], [[0,1], [], []]⟩
def UH:Gr:=⟨4, [(0,1),(0,2),(1,3),(2,3)]⟩
def UI:Pl:=⟨[0,1,2,3], [[0,1], [2], [3], []]⟩
end Go.Ab
end
section
namespace Go.Ab
open Go.Proofs
attribute [local congr] ACall.congr gd.congr Nx.congr
set_option maxRecDepth 10000
def UJ (l:List Int) (k:Nat):Bool:=(List.range k).all fun i=>decide (l.getD i 0=(i:Int))
def Jm (g:Gr) (names order:List Int) (k:Nat):List Edge:=(List.range k).map fun i=>(names.getD (g.es.getD (order.getD i 0).toNat (0,0)).1.toNat 0,names.getD (g.es.getD (order.getD i 0).toNat (0,0)).2.toNat 0)
def iC (g:Gr) (names order:List Int):Gr:=⟨g.n,Jm g names order order.length⟩
theorem AT {g:Gr} {names order:List Int} {k:Nat} :(Jm g names order k).length=k:=by simp [Jm]
def Nz (g:Gr) (names order:List Int):Bool:=aN g&&gD names g.n&&gD order g.es.length
def Te (g:Gr) (names order:List Int):Gr:=if Nz g names order then iC g names order else ⟨0, []⟩
end Go.Ab
end
section
namespace Go.Ab
def Ed (g:Gr) (a b:Int):Prop:=∃i,i<g.es.length∧tl g i=a∧hd g i=b
def Oo (g:Gr) (l:List Int):Prop:=∀i,i<l.length→Ed g (l.getD i 0) (l.getD ((i+1) % l.length) 0)
def Hw (g:Gr) (way:List Int) (at_:Int):Prop:=∀p,p<way.length→Ed g ((way++ [at_]).getD (p+1) 0) (way.getD p 0)
theorem qZ {l:List Int} {a:Int} :(l++ [a]).getD l.length 0=a:=by
 rw [List.getD_eq_getElem?_getD,List.getElem?_append_right (Nat.le_refl _)];simp
theorem vD {g:Gr} (hm:aN g=true):∀(f:Nat) (way:List Int) (a:Nat),a<g.n.toNat→(a:Int)∉aT g→Hw g way a→left g way≤f→
 Hw g (lJ g (cR g (aT g)) f way a).1 (lJ g (cR g (aT g)) f way a).2∧0≤(lJ g (cR g (aT g)) f way a).2∧(lJ g (cR g (aT g)) f way a).2∈(lJ g (cR g (aT g)) f way a).1
 |f,way,a,ha,hn,hc,hl=>by
  by_cases hmem:(a:Int)∈way
  ·rw [kO (.inr hmem)]
   exact ⟨hc,by simp only;omega,hmem⟩
  ·have hla:=jq ha hmem
   cases f with
   |zero=>omega
   |succ f=>
    obtain ⟨⟨i,hi,Cm,htl,Ir⟩,_⟩:=uY hm (Ld hm ha hn)
    have htr:=bk hm hi
    rw [htl] at htr
    obtain ⟨b,qC⟩:∃b:Nat,jS g (cR g (aT g)) a=b:=⟨(jS g (cR g (aT g)) a).toNat,by omega⟩
    rw [qC] at Ir htr htl
    have e1:lJ g (cR g (aT g)) (f+1) way a=lJ g (cR g (aT g)) f (way++ [(a:Int)]) b:=by
     simp only [lJ];rw [if_neg (by intro h;rcases h with h|h;omega;exact hmem h),qC]
    rw [e1]
    refine vD hm f (way++ [(a:Int)]) b (by omega) Ir ?_ (by omega)
    intro p hp
    rw [List.length_append,List.length_singleton] at hp
    by_cases cJ:p<way.length
    ·have:=hc p cJ
     rw [p9 (by simp;omega),p9 cJ]
     exact this
    ·have:p=way.length:=by omega
     subst this
     have e2:=qZ (l:=way++ [(a:Int)]) (a:=(b:Int))
     rw [List.length_append,List.length_singleton] at e2
     rw [e2,qZ]
     exact ⟨i,hi,htl,Cm⟩
theorem getD_drop {l:List Int} {k p:Nat} :(l.drop k).getD p 0=l.getD (k+p) 0:=by
 rw [List.getD_eq_getElem?_getD,List.getElem?_drop, ← List.getD_eq_getElem?_getD]
theorem Oo.Qv {g:Gr} {l:List Int} (h:∀p,p<l.length→Ed g (l.getD ((p+1) % l.length) 0) (l.getD p 0)) (h0:0<l.length):Oo g (lX l.reverse):=by
 have On:0<l.reverse.length:=by simpa using h0
 obtain ⟨k,wN,hk2,_⟩:=ef (jr On)
 rw [List.length_reverse] at hk2
 have e1:lX l.reverse=l.reverse.drop k++l.reverse.take k:=by simp only [lX,wN,Int.toNat_natCast]
 have hlen:(lX l.reverse).length=l.length:=by rw [e1];simp;omega
 have hg:∀i,i<l.length→(lX l.reverse).getD i 0=l.getD (l.length - 1 - (i+k) % l.length) 0:=by
  intro i hi
  rw [e1,List.getD_eq_getElem?_getD]
  by_cases hik:i<l.length - k
  ·rw [List.getElem?_append_left (by simp;omega),List.getElem?_drop,List.getElem?_reverse (by omega),Nat.mod_eq_of_lt (by omega), ← List.getD_eq_getElem?_getD]
   congr 1;omega
  ·rw [List.getElem?_append_right (by simp;omega),List.length_drop,List.length_reverse,List.getElem?_take,if_pos (by omega),List.getElem?_reverse (by omega), ← List.getD_eq_getElem?_getD]
   have:(i+k) % l.length=i+k - l.length:=by rw [Nat.mod_eq_sub_mod (by omega),Nat.mod_eq_of_lt (by omega)]
   rw [this];congr 1;omega
 intro i hi
 rw [hlen] at hi ⊢
 rw [hg i hi,hg _ (Nat.mod_lt _ h0)]
 have hmm:((i+1) % l.length+k) % l.length=((i+k) % l.length+1) % l.length:=by
  rw [Nat.mod_add_mod,Nat.mod_add_mod];congr 1;omega
 rw [hmm]
 have hj:=Nat.mod_lt (i+k) h0
 generalize (i+k) % l.length=j at hj ⊢
 by_cases Hy:j+1<l.length
 ·rw [Nat.mod_eq_of_lt Hy]
  have:=h (l.length - 1 - (j+1)) (by omega)
  rw [Nat.mod_eq_of_lt (by omega),show l.length - 1 - (j+1)+1=l.length - 1 - j from by omega] at this
  exact this
 ·have:j+1=l.length:=by omega
  rw [this,Nat.mod_self]
  have:=h (l.length - 1) (by omega)
  rw [show l.length - 1+1=l.length from by omega,Nat.mod_self] at this
  rw [show l.length - 1 - j=0 from by omega]
  exact this
def Qw (g:Gr):Prop:=∃r:Int→Nat,∀i,i<g.es.length→r (tl g i)<r (hd g i)
theorem tF {g:Gr} (hm:aN g=true):Dc g=true↔Qw g:=by
 constructor
 ·intro h
  refine ⟨fun v=>((Bz g.n.toNat (aT g) (aT g).length).getD v.toNat 0).toNat,fun i hi=> ?_⟩
  have h1:=G3 (Ex hm h) hi
  have h2:=u6 (n:=g.n.toNat) (l:=aT g) (k:=(aT g).length) (y:=(tl g i).toNat)
  simp only;omega
 ·rintro ⟨r,hr⟩
  cases h:Dc g with
  |true=>rfl
  |false=>
   exfalso
   obtain ⟨y,hy,hn⟩:=De hm h
   have key:∀(p:Nat) (y:Nat),y<g.n.toNat→(y:Int)∉aT g→r y=p→False:=by
    intro p
    induction p using Nat.strongRecOn with
    |_ p ih=>
     intro y hy hn hp
     obtain ⟨t,i,hi,h1,rfl,h2⟩:=Ld hm hy hn
     have htr:=bk hm hi
     have hlt:=hr i hi
     rw [h1,hp] at hlt
     have e:((tl g i).toNat:Int)=tl g i:=by omega
     exact ih (r (tl g i)) hlt (tl g i).toNat (by omega) (by rw [e];exact h2) (by rw [e])
   exact key _ y hy hn rfl
theorem zg {g:Gr} (hm:aN g=true) (h:Dc g=true):kN g= []:=by
 have hall:=(cu.1 (Dd hm h)).2
 have hn:=aC hm
 rcases start_eq hm with ⟨h1,h2⟩|⟨a,ha,h1,h2,h3⟩
 ·have:kM g=([], -1):=by
   unfold kM;rw [h1];exact kO (.inl (by omega)) _
  simp only [kN,this]
  rw [if_pos (by omega)]
 ·exact absurd (hall a (cU.2 (by omega))) h3
theorem Hz {g:Gr} (hm:aN g=true) (h:Dc g=false):0<(kN g).length∧Oo g (kN g):=by
 obtain ⟨y,hy,Tf⟩:=De hm h
 have hn:=aC hm
 rcases start_eq hm with ⟨h1,h2⟩|⟨a,ha,h1,h2,h3⟩
 ·exfalso
  rcases fF (f:=fun n:Int=>decide (0<n)) (l:=cR g (aT g)) 0 with ⟨_,h4⟩|⟨k,h4,_⟩
  ·have h5:=(qQ hm hy).2 Tf
   have h6:=h4 ((cR g (aT g)).getD y 0) (by rw [List.getD_eq_getElem?_getD,lH hy];exact List.mem_of_getElem? (lH hy))
   rw [mF hy] at h6
   exact absurd h5 (of_decide_eq_false h6)
  ·omega
 ·obtain ⟨h4,h5,h6⟩:=vD hm g.n.toNat [] a ha h3 (fun p hp=>by simp at hp) yU
  have hw:kM g=lJ g (cR g (aT g)) g.n.toNat [] a:=by unfold kM;rw [h1]
  rw [← hw] at h4 h5 h6
  obtain ⟨k,wN,hk2,Nj⟩:=ef h6
  have hc:kN g=lX ((kM g).1.drop k).reverse:=by
   simp only [kN]
   rw [if_neg (by omega),wN,Int.toNat_natCast]
  have hlen:((kM g).1.drop k).length=(kM g).1.length - k:=by simp
  have h0:0<((kM g).1.drop k).length:=by omega
  refine ⟨?_, ?_⟩
  ·rw [hc]
   simp only [lX,List.length_append,List.length_drop,List.length_take,List.length_reverse]
   omega
  ·rw [hc]
   refine Oo.Qv (fun p hp=> ?_) h0
   rw [hlen] at hp ⊢
   have h7:=h4 (k+p) (by omega)
   rw [getD_drop (p:=p)]
   by_cases Hy:p+1<(kM g).1.length - k
   ·rw [Nat.mod_eq_of_lt Hy,getD_drop]
    rw [p9 (by omega)] at h7
    exact h7
   ·have:p+1=(kM g).1.length - k:=by omega
    rw [this,Nat.mod_self,getD_drop,Nat.add_zero,Nj]
    rw [show k+p+1=(kM g).1.length from by omega,qZ] at h7
    exact h7
end Go.Ab
end
section
namespace Go.Ab
def nm (names:List Int) (v:Int):Int:=names.getD v.toNat 0
structure jX (g:Gr) (names order:List Int):Prop where
 may:aN g=true
 Lr:gD names g.n=true
 ord:gD order (g.es.length:Int)=true
section
variable {g:Gr} {names order:List Int} (h:jX g names order)
include h
theorem jX.len:(iC g names order).es.length=g.es.length:=by
 have:=(cu.1 h.ord).1
 simp only [iC,AT];omega
theorem jX.j9 {i:Nat} (hi:i<g.es.length):∃j,j<g.es.length∧order.getD i 0=(j:Int)∧(iC g names order).es.getD i (0,0)=(nm names (tl g j),nm names (hd g j)):=by
 have qz:=(cu.1 h.ord).1
 have:=u5 h.ord _ (iq (l:=order) (m:=i) (by omega))
 refine ⟨(order.getD i 0).toNat,by omega,by omega, ?_⟩
 simp only [iC,Jm,nm,tl,hd]
 rw [List.getD_eq_getElem?_getD,List.getElem?_map,List.getElem?_range (by omega)]
 rfl
theorem jX.back {j:Nat} (hj:j<g.es.length):∃i,i<g.es.length∧order.getD i 0=(j:Int)∧(iC g names order).es.getD i (0,0)=(nm names (tl g j),nm names (hd g j)):=by
 obtain ⟨qz,hall⟩:=cu.1 h.ord
 obtain ⟨i,hi,hil,he⟩:=ef (hall (j:Int) (cU.2 (by omega)))
 obtain ⟨j',_,h2,h3⟩:=h.j9 (i:=i) (by omega)
 have:j'=j:=by omega
 subst this
 exact ⟨i,by omega,he,h3⟩
theorem jX.inj {a b:Int} (ha:0≤a∧a<g.n) (hb:0≤b∧b<g.n) (e:nm names a=nm names b):a=b:=by
 have hnl:=(cu.1 h.Lr).1
 have:=lP h.Lr (i:=a.toNat) (j:=b.toNat) (by omega) (by omega) e
 omega
theorem jX.range {a:Int} (ha:0≤a∧a<g.n):0≤nm names a∧nm names a<g.n:=by
 have hnl:=(cu.1 h.Lr).1
 exact u5 h.Lr _ (iq (by omega))
theorem jX.inv {a:Int} (ha:0≤a∧a<g.n):fq names (nm names a)=a:=by
 have hnl:=(cu.1 h.Lr).1
 obtain ⟨k,hk,bK,he⟩:=ef (iq (l:=names) (m:=a.toNat) (by omega))
 have h2:=lP h.Lr bK (j:=a.toNat) (by omega) he
 have h3:fq names (nm names a)=k:=hk
 omega
theorem jX.of {v:Int} (hv:0≤v∧v<g.n):∃a,(0≤a∧a<g.n)∧nm names a=v:=by
 obtain ⟨hnl,hall⟩:=cu.1 h.Lr
 obtain ⟨k,hk,bK,he⟩:=ef (hall v (cU.2 (by omega)))
 exact ⟨k,by omega,he⟩
theorem jX.may':aN (iC g names order)=true:=by
 have hn:=aC h.may
 have hlen:=h.len
 have hall:(iC g names order).es.any (oo (iC g names order))=false:=by
  rw [List.any_eq_false]
  intro e he
  obtain ⟨i,hi,rfl⟩:=List.getElem_of_mem he
  obtain ⟨j,hj,_,h3⟩:=h.j9 (i:=i) (by omega)
  rw [List.getD_eq_getElem?_getD,List.getElem?_eq_getElem hi,Option.getD_some] at h3
  rw [h3]
  have h4:=h.range (bk h.may hj)
  have h5:=h.range (bH h.may hj)
  have e1:(iC g names order).n=g.n:=rfl
  simp only [oo,uI,e1,Bool.or_eq_true,decide_eq_true_eq]
  omega
 have e1:(iC g names order).n=g.n:=rfl
 simp only [aN,hall,e1,Bool.not_false,Bool.and_true,Bool.and_eq_true,decide_eq_true_eq]
 omega
omit h in
theorem q8 {i j:Nat} (e:(iC g names order).es.getD i (0,0)=(nm names (tl g j),nm names (hd g j))):tl (iC g names order) i=nm names (tl g j)∧hd (iC g names order) i=nm names (hd g j):=⟨congrArg Prod.fst e,congrArg Prod.snd e⟩
theorem jX.loop:(0≤jt (iC g names order))↔0≤jt g:=by
 have key:∀g:Gr,(0≤jt g)↔∃i,i<g.es.length∧tl g i=hd g i:=by
  intro g
  have:=fL (fun e:Edge=>decide (e.1=e.2)) g.es
  rw [show (0≤jt g)↔g.es.any (fun e:Edge=>decide (e.1=e.2))=true from by rw [← this];simp [jt],List.any_eq_true]
  constructor
  ·rintro ⟨e,he,h2⟩
   obtain ⟨i,hi,rfl⟩:=List.getElem_of_mem he
   refine ⟨i,hi, ?_⟩
   simpa [tl,hd,List.getD_eq_getElem?_getD,List.getElem?_eq_getElem hi] using h2
  ·rintro ⟨i,hi,h2⟩
   refine ⟨_,List.getElem_mem hi, ?_⟩
   simpa [tl,hd,List.getD_eq_getElem?_getD,List.getElem?_eq_getElem hi] using h2
 rw [key,key,h.len]
 constructor
 ·rintro ⟨i,hi,e⟩
  obtain ⟨j,hj,_,h3⟩:=h.j9 hi
  obtain ⟨e1,e2⟩:=q8 h3
  exact ⟨j,hj,h.inj (bk h.may hj) (bH h.may hj) (by rw [← e1, ← e2,e])⟩
 ·rintro ⟨j,hj,e⟩
  obtain ⟨i,hi,_,h3⟩:=h.back hj
  obtain ⟨e1,e2⟩:=q8 h3
  exact ⟨i,hi,by rw [e1,e2,e]⟩
omit h in
theorem je (g:Gr):(0≤dX g)↔∃i k,i<g.es.length∧k<g.es.length∧i≠k∧g.es.getD i (0,0)=g.es.getD k (0,0):=by
 have:=fL (oy g) (List.range g.es.length)
 rw [show (0≤dX g)↔(List.range g.es.length).any (oy g)=true from by rw [← this];simp [dX],List.any_eq_true]
 constructor
 ·rintro ⟨i,hi,h2⟩
  have hil:=List.mem_range.1 hi
  have h3:=of_decide_eq_true h2
  rw [List.mem_iff_getElem?] at h3
  obtain ⟨k,hk⟩:=h3
  rw [List.getElem?_take] at hk
  split at hk
  ·rename_i hki
   exact ⟨i,k,hil,by omega,by omega,by rw [List.getD_eq_getElem?_getD (i:=k),hk];rfl⟩
  ·cases hk
 ·rintro ⟨i,k,hi,hk,hne,e⟩
  have main:∀i k,k<i→i<g.es.length→g.es.getD i (0,0)=g.es.getD k (0,0)→oy g i=true:=by
   intro i k hki hi e
   refine decide_eq_true ?_
   rw [e,List.mem_iff_getElem?]
   refine ⟨k, ?_⟩
   rw [List.getElem?_take,if_pos hki,List.getD_eq_getElem?_getD,List.getElem?_eq_getElem (by omega)];rfl
  rcases Nat.lt_or_gt_of_ne hne with hlt|hgt
  ·exact ⟨k,List.mem_range.2 hk,main k i hlt hk e.symm⟩
  ·exact ⟨i,List.mem_range.2 hi,main i k hgt hi e⟩
theorem jX.NA:(0≤dX (iC g names order))↔0≤dX g:=by
 have qz:=(cu.1 h.ord).1
 rw [je,je,h.len]
 constructor
 ·rintro ⟨i,k,hi,hk,hne,e⟩
  obtain ⟨j,hj,ho,h3⟩:=h.j9 hi
  obtain ⟨j',hj',ho',FW⟩:=h.j9 hk
  refine ⟨j,j',hj,hj',fun e'=> ?_, ?_⟩
  ·subst e'
   exact hne (lP h.ord (by omega) (by omega) (by rw [ho,ho']))
  ·rw [h3,FW,Prod.mk.injEq] at e
   have e1:=h.inj (bk h.may hj) (bk h.may hj') e.1
   have e2:=h.inj (bH h.may hj) (bH h.may hj') e.2
   exact Prod.ext e1 e2
 ·rintro ⟨j,j',hj,hj',hne,e⟩
  obtain ⟨i,hi,ho,h3⟩:=h.back hj
  obtain ⟨k,hk,ho',FW⟩:=h.back hj'
  refine ⟨i,k,hi,hk,fun e'=> ?_, ?_⟩
  ·subst e';omega
  ·have e1:tl g j=tl g j':=congrArg Prod.fst e
   have e2:hd g j=hd g j':=congrArg Prod.snd e
   rw [h3,FW,e1,e2]
theorem jX.Qx:Dc (iC g names order)=Dc g:=by
 rw [Bool.eq_iff_iff,tF h.may',tF h.may]
 constructor
 ·rintro ⟨r,hr⟩
  refine ⟨fun v=>r (nm names v),fun j hj=> ?_⟩
  obtain ⟨i,hi,_,h3⟩:=h.back hj
  obtain ⟨e1,e2⟩:=q8 h3
  have:=hr i (by rw [h.len];exact hi)
  rwa [e1,e2] at this
 ·rintro ⟨r,hr⟩
  refine ⟨fun v=>r (fq names v),fun i hi=> ?_⟩
  rw [h.len] at hi
  obtain ⟨j,hj,_,h3⟩:=h.j9 hi
  obtain ⟨e1,e2⟩:=q8 h3
  have:=hr j hj
  rw [e1,e2];simp only;rw [h.inv (bk h.may hj),h.inv (bH h.may hj)]
  exact this
omit h in
theorem jC {g:Gr} {y:Int} :y∈bQ (·.2) g↔(0≤y∧y<g.n)∧∀i,i<g.es.length→hd g i≠y:=by
 simp only [bQ,jo,List.mem_map,List.mem_filter,List.mem_range,decide_eq_true_eq]
 have he:∀x:Nat,x<g.n.toNat→(((dG (·.2) g).getD x []).length=0↔∀i,i<g.es.length→hd g i≠(x:Int)):=by
  intro x hx
  have e:(dG (·.2) g).getD x []=aM (·.2) g.es g.es.length (x:Int):=by
   simp [dG,List.getD_eq_getElem?_getD,List.getElem?_range hx,mH]
  rw [e,List.length_eq_zero_iff]
  simp only [aM,List.map_eq_nil_iff,List.filter_eq_nil_iff,List.mem_range,decide_eq_true_eq]
  rfl
 constructor
 ·rintro ⟨x,⟨hx,h0⟩,rfl⟩
  refine ⟨by simp;omega,(he x hx).1 h0⟩
 ·rintro ⟨⟨h1,h2⟩,h3⟩
  have e:((y.toNat:Nat):Int)=y:=by omega
  exact ⟨y.toNat,⟨by omega,(he _ (by omega)).2 (by rw [e];exact h3)⟩,e⟩
omit h in
theorem eM {f:Edge→Int} {g:Gr} :(bQ f g).Nodup:=by
 unfold bQ jo
 refine List.Pairwise.map _ (fun a b h e=>h (Int.ofNat.inj e)) (List.Pairwise.filter _ List.nodup_range)
theorem jX.bare:(bQ (·.2) (iC g names order)).length=(bQ (·.2) g).length:=by
 have e1:(iC g names order).n=g.n:=rfl
 have h1:((bQ (·.2) g).map (nm names)).length≤(bQ (·.2) (iC g names order)).length:=by
  refine Nat.le_trans (count_le _ (bQ (·.2) (iC g names order)) ?_ ?_) List.countP_le_length
  ·rw [List.nodup_iff_pairwise_ne]
   refine List.Pairwise.map _ (fun a b h=>h) ?_
   refine List.Pairwise.imp_of_mem ?_ eM
   intro a b ha hb hab e
   exact hab (h.inj (jC.1 ha).1 (jC.1 hb).1 e)
  ·intro v hv
   obtain ⟨y,hy,rfl⟩:=List.mem_map.1 hv
   obtain ⟨hy1,hy2⟩:=jC.1 hy
   refine jC.2 ⟨h.range hy1,fun i hi e=> ?_⟩
   rw [h.len] at hi
   obtain ⟨j,hj,_,h3⟩:=h.j9 hi
   rw [(q8 h3).2] at e
   exact hy2 j hj (h.inj (bH h.may hj) hy1 e)
 have h2:((bQ (·.2) (iC g names order)).map (fq names)).length≤(bQ (·.2) g).length:=by
  have hsplit:∀v∈bQ (·.2) (iC g names order),∃a,(0≤a∧a<g.n)∧nm names a=v:=fun v hv=>h.of (jC.1 hv).1
  refine Nat.le_trans (count_le _ (bQ (·.2) g) ?_ ?_) List.countP_le_length
  ·rw [List.nodup_iff_pairwise_ne]
   refine List.Pairwise.map _ (fun a b h=>h) ?_
   refine List.Pairwise.imp_of_mem ?_ eM
   intro a b ha hb hab e
   obtain ⟨a',Nm,rfl⟩:=hsplit a ha
   obtain ⟨b',hb',rfl⟩:=hsplit b hb
   rw [h.inv Nm,h.inv hb'] at e
   exact hab (by rw [e])
  ·intro v hv
   obtain ⟨y,hy,rfl⟩:=List.mem_map.1 hv
   obtain ⟨a,ha,rfl⟩:=hsplit y hy
   rw [h.inv ha]
   refine jC.2 ⟨ha,fun j hj e=> ?_⟩
   obtain ⟨i,hi,_,h3⟩:=h.back hj
   refine (jC.1 hy).2 i (by rw [h.len];exact hi) ?_
   rw [(q8 h3).2,e]
 simp only [List.length_map] at h1 h2
 omega
theorem jX.kind:(bL (iC g names order)).1=(bL g).1:=by
 have hm:=h.may'
 have hc:(0<(kN (iC g names order)).length)↔0<(kN g).length:=by
  have key:∀g:Gr,aN g=true→((0<(kN g).length)↔Dc g=false):=by
   intro g hm
   cases ho:Dc g with
   |true=>rw [zg hm ho];simp
   |false=>simp [(Hz hm ho).1]
  rw [key _ hm,key _ h.may,h.Qx]
 have h1:=h.loop
 have h2:=h.NA
 have h3:=h.bare
 simp only [bL,fT,hm,h.may]
 simp only [Bool.true_eq_false,if_false,h1,h2,hc,h3]
 split
 ·rfl
 split
 ·rfl
 split
 ·rfl
 split<;>rfl
end
end Go.Ab
end
section
namespace Go.Ab
open Go.Proofs
set_option maxRecDepth 10000
def Fw:Nat→List Edge→Int→Option (Int × Int)
 |_, [],_=>none
 |m,e::N,v=>if e.1=v then some ((m:Int),e.2) else Fw (m+1) N v
theorem AU {v:Int} :∀ {m:Nat} {N:List Edge},(∀e∈N,e.1≠v)→Fw m N v=none
 |_, [],_=>rfl
 |m,e::N,h=>by rw [Fw,if_neg (h e (List.mem_cons_self ..)),AU fun e' he=>h e' (List.mem_cons_of_mem _ he)]
theorem AW:∀ {m:Nat} {N:List Edge},(N.map (·.1)).Nodup→∀ {j:Nat},j<N.length→Fw m N (N.getD j (0,0)).1=some (((m+j:Nat):Int),(N.getD j (0,0)).2)
 |m,e::N,hd,0,_=>by rw [List.getD_cons_zero,Fw,if_pos rfl];rfl
 |m,e::N,hd,j+1,hj=>by
  rw [List.map_cons,List.nodup_cons] at hd
  have hj':j<N.length:=by simpa using hj
  rw [List.getD_cons_succ,Fw,if_neg (fun h=>hd.1 (List.mem_map.2 ⟨_,aD hj',h.symm⟩)),AW hd.2 hj']
  congr 2
  omega
theorem qj {m:Nat} {N:List Edge} (hd:(N.map (·.1)).Nodup) {v h:Int} (he:(v,h)∈N):∃j:Nat,j<N.length∧Fw m N v=some (((m+j:Nat):Int),h)∧N.getD j (0,0)=(v,h):=by
 obtain ⟨j,hj,e⟩:=List.mem_iff_getElem.1 he
 have e2:N.getD j (0,0)=(v,h):=by rw [List.getD_eq_getElem?_getD,List.getElem?_eq_getElem hj,Option.getD_some,e]
 have:=AW (m:=m) hd hj
 rw [e2] at this
 exact ⟨j,hj,this,e2⟩
theorem q9 {m:Nat} {N:List Edge} (hd:(N.map (·.1)).Nodup) (v:Int):(Fw m N v=none∧∀e∈N,e.1≠v)∨∃h,(v,h)∈N:=by
 by_cases h:∃e∈N,e.1=v
 ·obtain ⟨e,he,rfl⟩:=h
  exact .inr ⟨e.2,he⟩
 ·have h':∀e∈N,e.1≠v:=fun e he h2=>h ⟨e,he,h2⟩
  exact .inl ⟨AU h',h'⟩
def oU (m:Nat) (N:List Edge) (t:It):It:=if 0≤t.1 then t else match Fw m N t.2.1 with
 |some (i,h)=>(i,t.2.1,h)
 |none=>t
theorem qk {m:Nat} {N:List Edge} {t:It} (h:0≤t.1):oU m N t=t:=if_pos h
theorem k4 {m:Nat} {N:List Edge} {t:It} (h:t.1<0) {i x:Int} (hn:Fw m N t.2.1=some (i,x)):oU m N t=(i,t.2.1,x):=by
 unfold oU
 rw [if_neg (by omega),hn]
theorem vE {m:Nat} {N:List Edge} {t:It} (hn:Fw m N t.2.1=none):oU m N t=t:=by
 unfold oU
 split
 ·rfl
 ·rw [hn]
structure jY (g:Gr) (p:Pl):Prop where
 run:aX g p
 n:(ah g p).n≤64
 es:(ah g p).es.length≤128
variable {g:Gr} {p:Pl}
theorem vF {v x:Int} :∀ {k:Nat},(v,x)∈ck g p k→∃i,i<k∧x=aE p i∧v∈loose (cn g p i)
 |k+1,h=>by
  rw [ck,List.mem_append] at h
  rcases h with h|h
  ·obtain ⟨i,h1,h2⟩:=vF h
   exact ⟨i,by omega,h2⟩
  ·obtain ⟨w,hw,e⟩:=List.mem_map.1 h
   cases e
   exact ⟨k,by omega,rfl,hw⟩
theorem ql {v:Int} :∀ {k i:Nat},i<k→v∈loose (cn g p i)→(v,aE p i)∈ck g p k
 |k+1,i,hi,h=>by
  rw [ck,List.mem_append]
  by_cases e:i=k
  ·subst e;exact .inr (List.mem_map.2 ⟨v,h,rfl⟩)
  ·exact .inl (ql (by omega) h)
theorem vG {v x:Int} (h:(v,x)∈aV g p):(∃i,i<g.n.toNat∧x=aE p i∧v∈loose (cn g p i))∨(1<(aS g p).length∧x=g.n∧v∈loose (aS g p)):=by
 rw [aV,List.mem_append] at h
 rcases h with h|h
 ·exact .inl (vF h)
 ·unfold newL at h
  split at h
  ·obtain ⟨w,hw,e⟩:=List.mem_map.1 h
   cases e
   exact .inr ⟨by assumption,rfl,hw⟩
  ·cases h
theorem nF {l:List It} {t:It} (h:t∈l) (h0:t.1<0):t.2.1∈loose l:=List.mem_map.2 ⟨t,List.mem_filter.2 ⟨h,decide_eq_true h0⟩,rfl⟩
theorem nG (h:jY g p):aN (ah g p)=true:=by
 have hm:=an h.run.1
 have hn:=aC hm
 have Iu:g.n≤(ah g p).n:=by unfold ah;split<;>simp only<;>omega
 have h1:=h.n
 have h2:=h.es
 simp only [aN,Bool.and_eq_true,decide_eq_true_eq,Bool.not_eq_true',List.any_eq_false]
 refine ⟨⟨⟨by omega,h1⟩,by omega⟩,fun e he=> ?_⟩
 have he:e∈g.es++aV g p:=he
 simp only [oo,uI,Bool.or_eq_true,decide_eq_true_eq,not_or]
 rcases List.mem_append.1 he with he|he
 ·obtain ⟨i,hi,rfl⟩:=List.mem_iff_getElem.1 he
  have:=cM hm hi
  rw [List.getD_eq_getElem?_getD,List.getElem?_eq_getElem hi,Option.getD_some] at this
  omega
 ·have q1:=((eZ h.run).2 e he).1
  rcases vG (v:=e.1) (x:=e.2) he with ⟨i,hi,hx,_⟩|⟨hl,hx,_⟩
  ·have:=bI h.run.2.1 hi
   omega
  ·have:(ah g p).n=g.n+1:=if_pos hl
   omega
theorem qm {v:Int} :aY (ah g p) v=aY g v++(aM (·.1) (aV g p) (aV g p).length v).map (· +(g.es.length:Int)):=qX
theorem gU (i:Nat) (hi:i<g.es.length):(ah g p).es.getD i (0,0)=g.es.getD i (0,0):=by
 show (g.es++aV g p).getD i (0,0)=_
 rw [List.getD_eq_getElem?_getD,List.getElem?_append_left hi, ← List.getD_eq_getElem?_getD]
theorem iP (j:Nat):(ah g p).es.getD (g.es.length+j) (0,0)=(aV g p).getD j (0,0):=by
 show (g.es++aV g p).getD _ (0,0)=_
 rw [List.getD_eq_getElem?_getD,List.getElem?_append_right (by omega),Nat.add_sub_cancel_left, ← List.getD_eq_getElem?_getD]
theorem rq (hr:aX g p) {v:Int} (h0:0≤v∧v<g.n) (hs:cl p v= []):(∀h,(v,h)∈aV g p→∃j:Nat,Fw g.es.length (aV g p) v=some (((g.es.length+j:Nat):Int),h)∧aY (ah g p) v= [((g.es.length+j:Nat):Int)]∧(ah g p).es.getD (g.es.length+j) (0,0)=(v,h))∧
 ((∀e∈aV g p,e.1≠v)→aY (ah g p) v= []):=by
 obtain ⟨sJ,BA⟩:=eZ hr
 have hz:aY g v= []:=(kZ hr.2.1 h0.1 h0.2).2 hs
 constructor
 ·intro h hm
  obtain ⟨j,hj,h1,h2⟩:=qj (m:=g.es.length) sJ hm
  refine ⟨j,h1, ?_,by rw [iP,h2]⟩
  have e1:=AJ sJ hj
  rw [h2] at e1
  rw [qm,hz,e1]
  simp;omega
 ·intro h
  rw [qm,hz,jd h];rfl
theorem vH (hr:aX g p) {v:Int} (h0:0≤v∧v<g.n) (hs:cl p v≠ []):aY (ah g p) v=aY g v:=by
 obtain ⟨sJ,BA⟩:=eZ hr
 rw [qm,jd fun e he h=>hs (by rw [← h];exact (BA e he).2)]
 simp
theorem jD:g.n≤(ah g p).n∧(ah g p).n≤g.n+1:=by
 unfold ah;split<;>simp only<;>omega
theorem Dq (hr:aX g p) {v:Int} (h0:0≤v∧v<g.n):cl (bB g p) v=if cl p v≠ [] then cl p v else aY (ah g p) v:=by
 have hn:=jD (g:=g) (p:=p)
 unfold cl
 rw [qi hr,Cj,List.getD_eq_getElem?_getD,List.getElem?_map,List.getElem?_range (by omega)]
 simp only [Option.map_some,Option.getD_some]
 rw [show ((v.toNat:Nat):Int)=v by omega]
 by_cases h:p.outs.getD v.toNat []= []
 ·rw [h];simp
 ·rw [if_pos (List.length_pos_iff.2 h),if_pos h]
theorem tG (hr:aX g p) (hl:1<(aS g p).length):cl (bB g p) g.n= []∧aY (ah g p) g.n= []:=by
 have hm:=an hr.1
 have hn:=aC hm
 have hG:(ah g p).n=g.n+1:=if_pos hl
 have hz:aY (ah g p) g.n= []:=by
  rw [qm,jd fun e he h=>by have:=((eZ hr).2 e he).1;omega]
  simp only [List.map_nil,List.append_nil]
  refine jd fun e he h=> ?_
  obtain ⟨i,hi,rfl⟩:=List.mem_iff_getElem.1 he
  have:=(cM hm hi).1
  rw [List.getD_eq_getElem?_getD,List.getElem?_eq_getElem hi,Option.getD_some] at this
  omega
 refine ⟨?_,hz⟩
 unfold cl
 rw [qi hr,Cj,List.getD_eq_getElem?_getD,List.getElem?_map,List.getElem?_range (by omega)]
 simp only [Option.map_some,Option.getD_some]
 rw [show ((g.n.toNat:Nat):Int)=g.n by omega,hz]
 have:p.outs.getD g.n.toNat []= []:=by rw [List.getD_eq_getElem?_getD,List.getElem?_eq_none (by rw [hr.2.1.1];exact Nat.le_refl _)];rfl
 rw [this];rfl
theorem qn (hr:aX g p):aU (ah g p) (bB g p):=by
 have h:=hr.2.1
 have hm:=an hr.1
 have hn:=aC hm
 have ha:=jD (g:=g) (p:=p)
 refine ⟨by rw [qi hr];simp [Cj], ?_,fun x hx=> ?_⟩
 ·unfold bB ah
  split
  ·have e:(g.n+1).toNat=g.n.toNat+1:=by omega
   have e2:eu (g.n.toNat+1)=eu g.n.toNat++ [g.n]:=by
    simp only [eu,List.range_succ,List.map_append,List.map_cons,List.map_nil]
    congr 2
    show ((g.n.toNat:Nat):Int)=g.n
    omega
   show (p.ord++ [g.n]).Perm (eu (g.n+1).toNat)
   rw [e,e2]
   exact h.2.1.append_right _
  ·exact h.2.1
 ·have hl:(bB g p).outs.getD x []=cl (bB g p) (x:Int):=by unfold cl;rw [Int.toNat_natCast]
  rw [hl]
  by_cases C8:(x:Int)<g.n
  ·rw [Dq hr ⟨by omega,C8⟩]
   split
   ·rename_i h2
    rw [vH hr ⟨by omega,C8⟩ h2]
    exact bX h (by omega) C8
   ·exact List.Perm.refl _
  ·have Ip:1<(aS g p).length:=Decidable.byContradiction fun hl=>by
    have:(ah g p).n=g.n:=if_neg hl
    omega
   have e:(x:Int)=g.n:=by omega
   rw [e,(tG hr Ip).1,(tG hr Ip).2]
theorem Jn (hr:aX g p) {k:Nat} (hk:k<g.n.toNat):aE (bB g p) k=aE p k:=by
 have:=aR hr.2.1
 unfold aE bB
 simp only
 split
 ·rw [List.getD_eq_getElem?_getD,List.getElem?_append_left (by omega), ← List.getD_eq_getElem?_getD]
 ·rfl
theorem Jo (hr:aX g p) (hl:1<(aS g p).length):aE (bB g p) g.n.toNat=g.n:=by
 have:=aR hr.2.1
 unfold aE bB
 simp only
 rw [if_pos hl,List.getD_eq_getElem?_getD,List.getElem?_append_right (by omega),this]
 simp
theorem EO (hr:aX g p) {x:Int} (h0:0≤x∧x<g.n):aL (ah g p) x (cl (bB g p) x)=(aL g x (cl p x)).map (oU g.es.length (aV g p)):=by
 obtain ⟨sJ,BA⟩:=eZ hr
 rw [Dq hr h0]
 by_cases hs:cl p x= []
 ·obtain ⟨s1,s2⟩:=rq hr h0 hs
  have ha:aL g x (cl p x)= [(-1,x, -1)]:=if_pos hs
  rw [if_neg (by simp [hs]),ha]
  rcases q9 (m:=g.es.length) sJ x with ⟨h1,h2⟩|⟨h,hm⟩
  ·rw [s2 h2,List.map_cons,List.map_nil,vE h1]
   rfl
  ·obtain ⟨j,h1,h2,h3⟩:=s1 h hm
   rw [h2,List.map_cons,List.map_nil,k4 (t:=(-1,x, -1)) (by simp) h1]
   have FW:((ah g p).es.getD (((g.es.length+j:Nat):Int)).toNat (0,0))=(x,h):=by rw [Int.toNat_natCast];exact h3
   simp only [aL,eL,List.cons_ne_nil,if_false,List.map_cons,List.map_nil,FW]
 ·rw [if_pos hs]
  unfold aL
  rw [if_neg hs,if_neg hs,List.map_map]
  refine List.map_congr_left fun i hi=> ?_
  obtain ⟨k,rfl,hk,ht⟩:=iu ((bX hr.2.1 h0.1 h0.2).mem_iff.1 hi)
  simp only [Function.comp]
  rw [qk (t:=eL g x (k:Int)) (by simp [eL])]
  simp only [eL,Int.toNat_natCast,gU k hk]
theorem vJ {x:Int} :bf (ah g p) x=bf g x+((aV g p).filter fun e=>decide (e.2=x)).length:=by
 unfold bf
 have:aM (·.2) (ah g p).es (ah g p).es.length x=aM (·.2) g.es g.es.length x++(aM (·.2) (aV g p) (aV g p).length x).map (· +(g.es.length:Int)):=qX
 rw [this,List.length_append,List.length_map]
 congr 1
 generalize aV g p=N
 unfold aM
 rw [List.length_map, ← List.countP_eq_length_filter, ← List.countP_eq_length_filter]
 have e:N=(List.range N.length).map fun i=>N.getD i (0,0):=by
  refine List.ext_getElem (by simp) fun i h1 h2=> ?_
  simp [List.getD_eq_getElem?_getD,List.getElem?_eq_getElem h1]
 conv=>rhs;rw [e]
 rw [List.countP_map]
 rfl
end Go.Ab
end
