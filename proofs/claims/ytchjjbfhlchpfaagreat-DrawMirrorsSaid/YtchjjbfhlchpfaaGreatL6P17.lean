/- A part of the proof. -/
import Derived.Test.YtchjjbfhlchpfaaGreatL6P16
set_option linter.unusedSimpArgs false
set_option linter.unusedVariables false
section
namespace Go.Ab
open Go.Proofs
set_option maxRecDepth 10000
def jQ (g:Gr) (p:Pl) (f:Fr) (x:Int):Fr:=(az g f x (bQ p x)).2
def uT (g:Gr) (p:Pl):Nat→Fr→Prop
 |0,f=>(f.pl.length:Int)=g.n
 |m+1,f=>∃x,ak g f x=true∧uT g p m (jQ g p f x)
theorem uU {g:Gr} {p:Pl} :∀ {m:Nat} {f f':Fr},f.row=f'.row→f.pl.Perm f'.pl→uT g p m f→uT g p m f'
 |0,f,f',_,hp,h=>by
  have h:(f.pl.length:Int)=g.n:=h
  show (f'.pl.length:Int)=g.n
  rw [← hp.length_eq];exact h
 |m+1,f,f',hr,hp,⟨x,h1,h2⟩=>by
  refine ⟨x,by rw [← rN hr hp];exact h1,uU ?_ ?_ h2⟩
  ·simp only [jQ,az,hr]
  ·exact hp.append_right _
theorem Ak {g:Gr} (hc:(bR g).1=0) {p:Pl} (hp:aX g p):∀ {m:Nat} {f:Fr},xb g f→(f.pl.length:Int)+(m+1:Nat)=g.n→uT g p (m+1) f→∀ {x:Int},ak g f x=true→uT g p m (jQ g p f x)
 |m,f,hi,hl,⟨y,sj,hcan⟩,x,hR=>by
  have hm:=an hc
  by_cases hxy:x=y
  ·subst hxy;exact hcan
  have py:=bS hp (aB sj).1 (aB sj).2.1
  have px:=bS hp (aB hR).1 (aB hR).2.1
  have i2:=iq hm hi sj py
  match m,hl,hcan with
  |0,hl,hcan=>
   exfalso
   have h1:=kN i2.todR (by show ((f.pl++ [y]).length:Int)=g.n;simp;omega) (x:=x) ⟨(aB hR).1,(aB hR).2.1⟩
   have h2:x∈f.pl++ [y]:=h1
   simp [(aB hR).2.2,hxy] at h2
  |m+1,hl,hcan=>
   obtain ⟨h4,h5,h6,_⟩:=xd hc hi hxy hR sj px py
   have h3:=Ak hc hp i2 (by show (((f.pl++ [y]).length:Nat):Int)+_=_;simp;omega) hcan h5
   refine ⟨y,h4,uU h6.symm ?_ h3⟩
   show (f.pl++ [y]++ [x]).Perm (f.pl++ [x]++ [y])
   rw [List.append_assoc,List.append_assoc]
   exact List.Perm.append_left _ (List.Perm.swap ..)
theorem Al {g:Gr} {p:Pl} (h:aR g p):∀ {d k:Nat},k+d=g.n.toNat→uT g p d (fK g p k)
 |0,k,hk=>by
  have hn:=aH (an h.1)
  obtain ⟨_,dM,_⟩:=bV (an h.1) h.2.1 (k:=k) (by omega) fun j hj=>h.2.2 j (by omega)
  show ((fK g p k).pl.length:Int)=g.n
  rw [dM,List.length_take,aS h.2.1];omega
 |d+1,k,hk=>⟨aD p k,h.2.2 k (by omega),Al h (k:=k+1) (by omega)⟩
def e8 (rev:Bool) (l:List It):List It:=if rev=true then l.reverse else l
def e9 (g:Gr) (f:Fr) (rev:Bool):Int:=match (e8 rev f.row).find? (fun t=>ak g f t.2.2) with
 |some t=>t.2.2
 |none=>(dw g f).headD (-1)
def bB (g:Gr) (p:Pl) (rev:Bool):Nat→Fr
 |0=>⟨[], []⟩
 |k+1=>jQ g p (bB g p rev k) (e9 g (bB g p rev k) rev)
def dS (g:Gr) (p:Pl) (rev:Bool):Nat→List Int
 |0=>List.replicate g.n.toNat 0
 |k+1=>(dS g p rev k).set (e9 g (bB g p rev k) rev).toNat (k:Int)
theorem qG {g:Gr} {p:Pl} {rev:Bool} :∀ {k:Nat},(dS g p rev k).length=g.n.toNat
 |0=>by simp [dS]
 |k+1=>by rw [dS,List.length_set,qG]
theorem ir {g:Gr} (hm:aM g=true) {f:Fr} (hi:dR g f) {x:Int} :x∈dw g f↔ak g f x=true:=by
 simp only [dw,jw,List.mem_map,List.mem_filter,List.mem_range]
 constructor
 ·rintro ⟨k,⟨h1,h2⟩,rfl⟩
  rw [← fq hm hi];exact h2
 ·intro h
  obtain ⟨h1,h2,_⟩:=aB h
  have e:((x.toNat:Nat):Int)=x:=by omega
  refine ⟨x.toNat,⟨by omega, ?_⟩,e⟩
  rw [e,fq hm hi];exact h
theorem uV {g:Gr} (hm:aM g=true) {f:Fr} (hi:dR g f) (h:∃x,ak g f x=true) (rev:Bool):ak g f (e9 g f rev)=true:=by
 unfold e9
 cases hf:(e8 rev f.row).find? (fun t=>ak g f t.2.2) with
 |some t=>
  have h2:=List.find?_some (p:=fun t:It=>ak g f t.2.2) hf
  exact h2
 |none=>
  obtain ⟨x,hx⟩:=h
  have hx:=(ir hm hi).2 hx
  match hL:dw g f with
  | []=>rw [hL] at hx;cases hx
  |y::l=>exact (ir hm hi).1 (by rw [hL];simp)
theorem gm {g:Gr} {p:Pl} (h:aR g p) (rev:Bool):∀ {k:Nat},k≤g.n.toNat→xb g (bB g p rev k)∧(bB g p rev k).pl.length=k∧uT g p (g.n.toNat - k) (bB g p rev k)∧(bB g p rev k).row.length≤k*(g.es.length+1)
 |0,_=>⟨pS g,rfl,Al h (k:=0) (by omega),by simp [bB]⟩
 |k+1,hk=>by
  have hm:=an h.1
  have hn:=aH hm
  obtain ⟨h1,h2,h3,h4⟩:=gm h rev (k:=k) (by omega)
  obtain ⟨m,hmm⟩:∃m,g.n.toNat - k=m+1:=⟨g.n.toNat - k - 1,by omega⟩
  rw [hmm] at h3
  have hR:=uV hm h1.todR (by obtain ⟨x,hx,_⟩:=h3;exact ⟨x,hx⟩) rev
  have hx:=aB hR
  have hp:=bS h.2.1 hx.1 hx.2.1
  have hl:=w8 (g:=g) (f:=bB g p rev k) (x:=e9 g (bB g p rev k) rev) (o:=bQ p (e9 g (bB g p rev k) rev))
  have Gw:=pT h.2.1 hx.1 hx.2.1
  refine ⟨iq hm h1 hR hp,hl.2.trans (by rw [h2]), ?_, ?_⟩
  ·rw [show g.n.toNat - (k+1)=m by omega]
   exact Ak h.1 h.2.1 h1 (by omega) h3 hR
  ·show (az _ _ _ _).2.row.length≤_
   rw [Nat.add_mul];omega
theorem uW {g:Gr} {p:Pl} (h:aR g p) (rev:Bool) {k:Nat} (hk:k<g.n.toNat):ak g (bB g p rev k) (e9 g (bB g p rev k) rev)=true∧dw g (bB g p rev k)≠ []:=by
 have hm:=an h.1
 obtain ⟨h1,h2,h3,_⟩:=gm h rev (k:=k) (by omega)
 obtain ⟨m,hmm⟩:∃m,g.n.toNat - k=m+1:=⟨g.n.toNat - k - 1,by omega⟩
 rw [hmm] at h3
 have hR:=uV hm h1.todR (by obtain ⟨x,hx,_⟩:=h3;exact ⟨x,hx⟩) rev
 exact ⟨hR,fun e=>by
  have:=(ir hm h1.todR).2 hR
  rw [e] at this;cases this⟩
def SP (g:Gr) (p:Pl) (rev:Bool):List Int:=(List.range g.n.toNat).map fun k=>e9 g (bB g p rev k) rev
end Go.Ab
end
section
namespace Go.Ab
open Go.Proofs
set_option maxRecDepth 10000
def jI (f:Fr):Fr:=⟨f.row.reverse,f.pl⟩
def bM (p:Pl):Pl:=⟨p.ord,p.outs.map List.reverse⟩
theorem Ez {f:Fr} :jI (jI f)=f:=by simp [jI]
theorem yH {g:Gr} {f:Fr} (h:dR g f):dR g (jI f):=⟨fun t ht=>h.it t (List.mem_reverse.1 ht),h.pl,h.qB⟩
theorem fW.rev {x:Int} {l:List It} (h:fW x l):fW x l.reverse:=fun t ht=>h t (List.mem_reverse.1 ht)
theorem Mid.rev {x:Int} {X:List It} (h:Mid x X):Mid x X.reverse:=
 ⟨by obtain ⟨X',q,h1,h2⟩:=h.KO;exact ⟨q,X'.reverse,by simp [h1],h2⟩,by obtain ⟨p,X',h1,h2⟩:=h.fst;exact ⟨X'.reverse,p,by simp [h1],h2⟩,fun t ht=>h.al t (List.mem_reverse.1 ht)⟩
theorem uX {g:Gr} (hm:aM g=true) {f:Fr} (hi:dR g f) {x:Int} (hR:ak g f x=true):ak g (jI f) x=true:=by
 obtain ⟨h0,h1,h2⟩:=aB hR
 by_cases hn:aQ g x=0
 ·unfold ak
  rw [if_neg (by rintro (h|h|h);omega;omega;exact h2 h),if_pos hn]
 ·obtain ⟨A,X,C,hr,hA,hC,hX,hc⟩:=bP hm hi hR hn
  exact jx hm (yH hi) h0 h1 h2 (A:=C.reverse) (X:=X.reverse) (C:=A.reverse) (by simp [jI,hr]) hC.rev hA.rev hX.rev (by rw [List.countP_reverse,hc])
theorem qH {g:Gr} (hm:aM g=true) {f:Fr} (hi:dR g f) (x:Int):ak g (jI f) x=ak g f x:=by
 rw [Bool.eq_iff_iff]
 refine ⟨fun h=> ?_,uX hm hi⟩
 have:=uX hm (yH hi) h
 rwa [Ez] at this
theorem xg {g:Gr} {x:Int} {o:List Int} :aF g x o.reverse=(aF g x o).reverse:=by
 unfold aF
 by_cases h:o= []
 ·rw [if_pos h,if_pos (by rw [h];rfl)];rfl
 ·rw [if_neg h,if_neg (by simpa using h),List.map_reverse]
theorem uY {g:Gr} (hc:(bR g).1=0) {f:Fr} (hi:xb g f) {x:Int} (hR:ak g f x=true) (o:List Int):
 az g (jI f) x o.reverse=(((az g f x o).1.1.reverse,0),jI (az g f x o).2):=by
 have hm:=an hc
 obtain ⟨h0,h1,h2⟩:=aB hR
 by_cases hn:aQ g x=0
 ·have hrow:f.row= []:=by
   rcases hi.src with ⟨_,h⟩|⟨s,hs,hz⟩
   ·exact h
   ·have:=jO hc (x:=s) (y:=x) (hi.qB s hs) ⟨h0,h1⟩ hz hn
    exact absurd (this ▸ hs) h2
  have hno:fW x f.row:=by rw [hrow];intro t ht;cases ht
  have P7:fW x (jI f).row:=hno.rev
  rw [eS _ hno,eS _ P7]
  simp [jI,hrow,xg]
 ·obtain ⟨A,X,C,hr,hA,hC,hX,_⟩:=bP hm hi.todR hR hn
  rw [eR o hr hA hC hX,eR (f:=jI f) (A:=C.reverse) (X:=X.reverse) (C:=A.reverse) o.reverse (by simp [jI,hr]) hC.rev hA.rev hX.rev]
  simp [jI,xg]
theorem lQ {p:Pl} {x:Int} :bQ (bM p) x=(bQ p x).reverse:=by
 unfold bQ bM
 simp only [List.getD_eq_getElem?_getD,List.getElem?_map]
 cases p.outs[x.toNat]? <;>simp
theorem B4 {g:Gr} {p:Pl} (h:aX g p):aX g (bM p):=by
 refine ⟨by simpa [bM] using h.1,h.2.1,fun x hx=> ?_⟩
 have e:(bM p).outs.getD x []=(p.outs.getD x []).reverse:=by
  have:=lQ (p:=p) (x:=(x:Int))
  unfold bQ at this
  simpa using this
 rw [e]
 exact (List.reverse_perm _).trans (h.2.2 x hx)
theorem yI {g:Gr} {p:Pl} (h:aR g p):∀ {k:Nat},k≤g.n.toNat→fK g (bM p) k=jI (fK g p k)∧∀j,j<k→oV g (bM p) j=true
 |0,_=>⟨rfl,fun j hj=>by omega⟩
 |k+1,hk=>by
  have hm:=an h.1
  obtain ⟨h1,h2⟩:=yI h (k:=k) (by omega)
  obtain ⟨hi,_,_⟩:=bV hm h.2.1 (k:=k) (by omega) fun j hj=>h.2.2 j (by omega)
  have hR:ak g (fK g p k) (aD p k)=true:=h.2.2 k (by omega)
  have ho:aD (bM p) k=aD p k:=rfl
  have hok:oV g (bM p) k=true:=by
   show ak g (fK g (bM p) k) (aD (bM p) k)=true
   rw [h1,ho,qH hm hi.todR,hR]
  refine ⟨?_,fun j hj=> ?_⟩
  ·show (az g (fK g (bM p) k) (aD (bM p) k) (bQ (bM p) (aD (bM p) k))).2=_
   rw [h1,ho,lQ,uY h.1 hi hR]
   rfl
  ·by_cases e:j=k
   ·subst e;exact hok
   ·exact h2 j (by omega)
theorem mQ {g:Gr} {p:Pl} (h:aR g p):aR g (bM p):=
 ⟨h.1,B4 h.2.1,fun k hk=>(yI h (k:=k+1) (by omega)).2 k (by omega)⟩
theorem GW {g:Gr} {p:Pl} (h:aR g p) {k:Nat} (hk:k<g.n.toNat):cL g (bM p) k=(cL g p k).reverse:=by
 have hm:=an h.1
 obtain ⟨hi,_,_⟩:=bV hm h.2.1 (k:=k) (by omega) fun j hj=>h.2.2 j (by omega)
 have ho:aD (bM p) k=aD p k:=rfl
 show (az g (fK g (bM p) k) (aD (bM p) k) (bQ (bM p) (aD (bM p) k))).1.1=_
 rw [(yI h (by omega)).1,ho,lQ,uY h.1 hi (h.2.2 k hk)]
 rfl
theorem Am {g:Gr} (hm:aM g=true) {f:Fr} (hi:dR g f) (rev:Bool):e9 g (jI f) (!rev)=e9 g f rev:=by
 unfold e9
 have e1:e8 (!rev) (jI f).row=e8 rev f.row:=by cases rev<;>simp [e8,jI]
 have e2:(fun t:It=>ak g (jI f) t.2.2)=fun t:It=>ak g f t.2.2:=by funext t;exact qH hm hi _
 have e3:dw g (jI f)=dw g f:=by
  unfold dw jw
  have:(fun x:Nat=>dZ g (jI f) (x:Int))=fun x:Nat=>dZ g f (x:Int):=by
   funext x;rw [fq hm (yH hi),fq hm hi,qH hm hi]
  rw [this]
 rw [e1,e2,e3]
theorem An {g:Gr} {p:Pl} (h:aR g p) (rev:Bool):∀ {k:Nat},k≤g.n.toNat→bB g (bM p) (!rev) k=jI (bB g p rev k)
 |0,_=>rfl
 |k+1,hk=>by
  have hm:=an h.1
  obtain ⟨hi,_,_,_⟩:=gm h rev (k:=k) (by omega)
  have ih:=An h rev (k:=k) (by omega)
  show (az g (bB g (bM p) (!rev) k) (e9 g (bB g (bM p) (!rev) k) (!rev)) (bQ (bM p) _)).2=_
  rw [ih,Am hm hi.todR,lQ,uY h.1 hi (uW h rev (by omega)).1]
  rfl
theorem Ao {g:Gr} {p:Pl} (h:aR g p) (rev:Bool):∀ {k:Nat},k≤g.n.toNat→dS g (bM p) (!rev) k=dS g p rev k
 |0,_=>rfl
 |k+1,hk=>by
  have hm:=an h.1
  obtain ⟨hi,_,_,_⟩:=gm h rev (k:=k) (by omega)
  show (dS g (bM p) (!rev) k).set (e9 g (bB g (bM p) (!rev) k) (!rev)).toNat (k:Int)=_
  rw [Ao h rev (by omega),An h rev (by omega),Am hm hi.todR]
  rfl
end Go.Ab
end
section
namespace Go.Ab
open Go.Proofs
set_option maxRecDepth 10000
def loose (l:List It):List Int:=(l.filter fun t=>decide (t.1<0)).map fun t=>t.2.1
theorem bZ {a b:List It} :loose (a++b)=loose a++loose b:=by simp [loose]
def cx (g:Gr) (p:Pl):Nat→List Edge
 |0=> []
 |k+1=>cx g p k++(loose (cL g p k)).map fun v=>(v,aD p k)
def aY (g:Gr) (p:Pl):List It:=(fK g p g.n.toNat).row
def newL (g:Gr) (p:Pl):List Edge:=if 1<(aY g p).length then (loose (aY g p)).map fun v=>(v,g.n) else []
def aV (g:Gr) (p:Pl):List Edge:=cx g p g.n.toNat++newL g p
def ag (g:Gr) (p:Pl):Gr:=⟨if 1<(aY g p).length then g.n+1 else g.n,g.es++aV g p⟩
def dx:Nat→List Edge→List (List Int)→List (List Int)
 |_, [],O=>O
 |m,e::N,O=>dx (m+1) N (O.set e.1.toNat [(m:Int)])
def bC (g:Gr) (p:Pl):Pl:=⟨if 1<(aY g p).length then p.ord++ [g.n] else p.ord,dx g.es.length (aV g p) (if 1<(aY g p).length then p.outs++ [[]] else p.outs)⟩
def B5 (g:Gr) (p:Pl) (x:Gr):List (List Int):=(List.range x.n.toNat).map fun v=>if 0<(p.outs.getD v []).length then p.outs.getD v [] else aZ x (v:Int)
theorem iu:∀ {m:Nat} {N:List Edge} {O:List (List Int)},(dx m N O).length=O.length
 |_, [],_=>rfl
 |m,e::N,O=>by rw [dx,iu,List.length_set]
theorem pV:∀ {m:Nat} {N M:List Edge} {O:List (List Int)},dx m (N++M) O=dx (m+N.length) M (dx m N O)
 |_, [],_,_=>rfl
 |m,e::N,M,O=>by
  rw [List.cons_append,dx,dx,pV,List.length_cons]
  congr 1
  omega
theorem xh:∀ {m:Nat} {N:List Edge} {O:List (List Int)},(∀e∈N,e.1.toNat<O.length)→dx m N (O++ [[]])=dx m N O++ [[]]
 |_, [],_,_=>rfl
 |m,e::N,O,h=>by
  rw [dx,dx,List.set_append_left _ _ (h e (List.mem_cons_self ..))]
  exact xh fun e' he=>by rw [List.length_set];exact h e' (List.mem_cons_of_mem _ he)
theorem uZ {v:Nat} :∀ {m:Nat} {N:List Edge} {O:List (List Int)},(∀e∈N,e.1.toNat<O.length)→(∀e∈N,e.1.toNat≠v)→(dx m N O).getD v []=O.getD v []
 |_, [],_,_,_=>rfl
 |m,e::N,O,h,hv=>by
  rw [dx,uZ (fun e' he=>by rw [List.length_set];exact h e' (List.mem_cons_of_mem _ he)) fun e' he=>hv e' (List.mem_cons_of_mem _ he),qF (h e (List.mem_cons_self ..)),if_neg (Ne.symm (hv e (List.mem_cons_self ..)))]
theorem C5:∀ {m:Nat} {N:List Edge} {O:List (List Int)},(∀e∈N,0≤e.1∧e.1.toNat<O.length)→(N.map (·.1)).Nodup→∀ {j:Nat},j<N.length→(dx m N O).getD (N.getD j (0,0)).1.toNat []= [((m+j:Nat):Int)]
 |m,e::N,O,h,hd,0,_=>by
  rw [List.map_cons,List.nodup_cons] at hd
  rw [dx,List.getD_cons_zero,uZ (fun e' he=>by rw [List.length_set];exact (h e' (List.mem_cons_of_mem _ he)).2) (fun e' he h2=>hd.1 ?_),qF (h e (List.mem_cons_self ..)).2,if_pos rfl]
  ·rfl
  ·have h3:=(h e (List.mem_cons_self ..)).1
   have h4:=(h e' (List.mem_cons_of_mem _ he)).1
   exact List.mem_map.2 ⟨e',he,by omega⟩
 |m,e::N,O,h,hd,j+1,hj=>by
  rw [List.map_cons,List.nodup_cons] at hd
  rw [dx,List.getD_cons_succ,C5 (fun e' he=>by rw [List.length_set];exact h e' (List.mem_cons_of_mem _ he)) hd.2 (by simpa using hj)]
  congr 2
  omega
theorem qI {f:Edge→Int} {es N:List Edge} {x:Int} :aK f (es++N) (es++N).length x=aK f es es.length x++(aK f N N.length x).map (· +(es.length:Int)):=by
 unfold aK
 rw [List.length_append,List.range_add,List.filter_append,List.map_append,List.filter_map,List.map_map,List.map_map]
 congr 1
 ·congr 1
  refine List.filter_congr fun i hi=> ?_
  have:=List.mem_range.1 hi
  rw [List.getD_eq_getElem?_getD,List.getElem?_append_left this, ← List.getD_eq_getElem?_getD]
 ·have e1:(List.range N.length).filter ((fun i=>decide (f ((es++N).getD i (0,0))=x)) ∘ fun x=>es.length+x)=(List.range N.length).filter fun i=>decide (f (N.getD i (0,0))=x):=by
   refine List.filter_congr fun i hi=> ?_
   simp only [Function.comp]
   rw [List.getD_eq_getElem?_getD,List.getElem?_append_right (by omega),Nat.add_sub_cancel_left, ← List.getD_eq_getElem?_getD]
  rw [e1]
  refine List.map_congr_left fun i _=> ?_
  simp only [Function.comp]
  show ((es.length+i:Nat):Int)=(i:Int)+(es.length:Int)
  omega
theorem filter_one {j:Nat} :∀ {n:Nat},j<n→(List.range n).filter (fun i=>decide (i=j))= [j]
 |n+1,h=>by
  rw [List.range_succ,List.filter_append]
  by_cases e:j=n
  ·subst e
   have:(List.range j).filter (fun i=>decide (i=j))= []:=List.filter_eq_nil_iff.2 fun i hi=>by
    have:=List.mem_range.1 hi
    simp;omega
   rw [this];simp
  ·rw [filter_one (by omega)]
   have: [n].filter (fun i=>decide (i=j))= []:=List.filter_eq_nil_iff.2 fun i hi=>by
    rw [List.mem_singleton] at hi
    simp;omega
   rw [this];simp
theorem Ap {N:List Edge} (hd:(N.map (·.1)).Nodup) {j:Nat} (hj:j<N.length):aK (·.1) N N.length (N.getD j (0,0)).1= [(j:Int)]:=by
 unfold aK
 have:(List.range N.length).filter (fun i=>decide ((N.getD i (0,0)).1=(N.getD j (0,0)).1))=(List.range N.length).filter (fun i=>decide (i=j)):=by
  refine List.filter_congr fun i hi=> ?_
  have hi:=List.mem_range.1 hi
  rw [decide_eq_decide]
  constructor
  ·intro h
   have e1:∀k,k<N.length→(N.map (·.1)).getD k 0=(N.getD k (0,0)).1:=fun k hk=>by
    simp [List.getD_eq_getElem?_getD,List.getElem?_eq_getElem hk]
   refine jt hd (by simpa using hi) (by simpa using hj) ?_
   rw [e1 i hi,e1 j hj,h]
  ·rintro rfl;rfl
 rw [this,filter_one hj]
 rfl
theorem jb {f:Edge→Int} {N:List Edge} {v:Int} (h:∀e∈N,f e≠v):aK f N N.length v= []:=by
 unfold aK
 rw [List.map_eq_nil_iff,List.filter_eq_nil_iff]
 intro i hi
 have:=h _ (aE (d:=(0,0)) (List.mem_range.1 hi))
 simpa using this
theorem Aq {g:Gr} {x:Int} {o:List Int} (ho:∀i∈o,i∈aZ g x):loose (aF g x o)=if o= [] then [x] else []:=by
 unfold aF
 split
 ·rfl
 ·simp only [loose,List.map_eq_nil_iff,List.filter_eq_nil_iff,List.mem_map]
  rintro t ⟨i,hi,rfl⟩
  obtain ⟨k,rfl,_⟩:=ij (ho i hi)
  simp [dJ]
theorem kP {g:Gr} (hm:aM g=true) {p:Pl} (h:aX g p):∀ {k:Nat},k≤g.n.toNat→(∀j,j<k→oV g p j=true)→
 ((cx g p k).map (·.1)++loose (fK g p k).row).Nodup∧∀v∈(cx g p k).map (·.1)++loose (fK g p k).row,v∈(fK g p k).pl∧bQ p v= []
 |0,_,_=>by simp [cx,fK,loose]
 |k+1,hk,hok=>by
  obtain ⟨h1,h2⟩:=kP hm h (k:=k) (by omega) fun j hj=>hok j (by omega)
  obtain ⟨hi,dM,_⟩:=bV hm h (k:=k) (by omega) fun j hj=>hok j (by omega)
  have hR:ak g (fK g p k) (aD p k)=true:=hok k (by omega)
  obtain ⟨x0,x1⟩:=bK h (k:=k) (by omega)
  have hx:=(aB hR).2.2
  have C2:=bS h x0 x1
  obtain ⟨A,X,C,hr,_,_,_,hs⟩:=fF hm hi.todR hR
  have Nd:cL g p k=X:=by unfold cL;rw [hs]
  have hrow:(fK g p (k+1)).row=A++aF g (aD p k) (bQ p (aD p k))++C:=by show (az _ _ _ _).2.row=_;rw [hs]
  have qp:(fK g p (k+1)).pl=(fK g p k).pl++ [aD p k]:=rfl
  have hla:=Aq (g:=g) (x:=aD p k) (o:=bQ p (aD p k)) fun i hi=>C2.mem_iff.1 hi
  have e1:(cx g p (k+1)).map (·.1)=(cx g p k).map (·.1)++loose X:=by
   rw [cx,Nd,List.map_append,List.map_map]
   congr 1
   simp [Function.comp_def]
  have e2:loose (fK g p (k+1)).row=loose A++(if bQ p (aD p k)= [] then [aD p k] else [])++loose C:=by rw [hrow,bZ,bZ,hla]
  have e3:loose (fK g p k).row=loose A++loose X++loose C:=by rw [hr,bZ,bZ]
  rw [e3] at h1 h2
  have hP:((cx g p (k+1)).map (·.1)++loose (fK g p (k+1)).row).Perm (((cx g p k).map (·.1)++(loose A++loose X++loose C))++(if bQ p (aD p k)= [] then [aD p k] else [])):=by
   rw [e1,e2,List.perm_iff_count]
   intro a
   simp only [List.count_append]
   omega
  constructor
  ·rw [hP.nodup_iff,List.nodup_append]
   refine ⟨h1,by split<;>simp,fun a ha b hb e=>hx ?_⟩
   split at hb
   ·rw [List.mem_singleton] at hb
    rw [← hb, ← e]
    exact (h2 a ha).1
   ·cases hb
  ·intro v hv
   rw [hP.mem_iff,List.mem_append] at hv
   rw [qp,List.mem_append,List.mem_singleton]
   rcases hv with hv|hv
   ·exact ⟨.inl (h2 v hv).1,(h2 v hv).2⟩
   ·split at hv
    ·rw [List.mem_singleton] at hv
     subst hv
     exact ⟨.inr rfl,by assumption⟩
    ·cases hv
theorem er {g:Gr} {p:Pl} (hr:aR g p):((aV g p).map (·.1)).Nodup∧∀e∈aV g p,(0≤e.1∧e.1<g.n)∧bQ p e.1= []:=by
 obtain ⟨hc,h,hok⟩:=hr
 have hm:=an hc
 obtain ⟨h1,h2⟩:=kP hm h (k:=g.n.toNat) (Nat.le_refl _) hok
 obtain ⟨hi,_⟩:=bV hm h (k:=g.n.toNat) (Nat.le_refl _) hok
 have e1:(aV g p).map (·.1)=(cx g p g.n.toNat).map (·.1)++if 1<(aY g p).length then loose (aY g p) else []:=by
  rw [aV,newL,List.map_append]
  congr 1
  split
  ·rw [List.map_map];simp [Function.comp_def]
  ·rfl
 have hsub:∀v∈(aV g p).map (·.1),v∈(cx g p g.n.toNat).map (·.1)++loose (aY g p):=by
  intro v hv
  rw [e1,List.mem_append] at hv
  rw [List.mem_append]
  rcases hv with hv|hv
  ·exact .inl hv
  ·split at hv
   ·exact .inr hv
   ·cases hv
 constructor
 ·rw [e1]
  split
  ·exact h1
  ·rw [List.append_nil]
   exact (List.nodup_append.1 h1).1
 ·intro e he
  have:=h2 e.1 (hsub _ (List.mem_map.2 ⟨e,he,rfl⟩))
  exact ⟨hi.qB _ this.1,this.2⟩
theorem kQ {g:Gr} {p:Pl} (h:aX g p) {v:Int} (h0:0≤v) (h1:v<g.n):aZ g v= []↔bQ p v= []:=by
 have hp:=bS h h0 h1
 constructor
 ·intro e;rw [e] at hp;exact hp.eq_nil
 ·intro e;rw [e] at hp;exact hp.symm.eq_nil
theorem u5 {g:Gr} {p:Pl} (hr:aR g p):(bC g p).outs=B5 g p (ag g p):=by
 obtain ⟨tG,C6⟩:=er hr
 have h:=hr.2.1
 have hm:=an hr.1
 have hn:=aH hm
 generalize hO:(if 1<(aY g p).length then p.outs++ [[]] else p.outs)=O
 have N3:O.length=(ag g p).n.toNat:=by
  rw [← hO]
  unfold ag
  split
  ·rw [List.length_append,h.1];simp;omega
  ·rw [h.1]
 have SQ:∀v,O.getD v []=p.outs.getD v []:=by
  intro v
  rw [← hO]
  split
  ·rw [List.getD_eq_getElem?_getD,List.getD_eq_getElem?_getD,List.getElem?_append]
   split
   ·rfl
   ·rename_i hv
    rw [List.getElem?_eq_none (by omega:p.outs.length≤v)]
    cases N4:v - p.outs.length<;>simp
  ·rfl
 have Ui:g.n.toNat≤O.length:=by rw [← hO];split<;>simp [h.1]
 have oK:∀e∈aV g p,0≤e.1∧e.1.toNat<O.length:=fun e he=>by
  have:=(C6 e he).1;omega
 have PN:∀e∈aV g p,e.1.toNat<O.length:=fun e he=>(oK e he).2
 show dx g.es.length (aV g p) (if 1<(aY g p).length then p.outs++ [[]] else p.outs)=_
 rw [hO]
 refine List.ext_getElem (by rw [iu,N3];simp [B5]) fun v DT Ge=> ?_
 rw [iu] at DT
 have hL:(dx g.es.length (aV g p) O).getD v []=(dx g.es.length (aV g p) O)[v]'(by rw [iu];exact DT):=by
  rw [List.getD_eq_getElem?_getD,List.getElem?_eq_getElem (by rw [iu];exact DT)];rfl
 rw [← hL]
 have hD:(B5 g p (ag g p))[v]=if 0<(p.outs.getD v []).length then p.outs.getD v [] else aZ (ag g p) (v:Int):=by simp [B5]
 rw [hD]
 have hlv:bQ p (v:Int)=p.outs.getD v []:=by unfold bQ;rw [Int.toNat_natCast]
 have hout:aZ (ag g p) (v:Int)=aZ g (v:Int)++(aK (·.1) (aV g p) (aV g p).length (v:Int)).map (· +(g.es.length:Int)):=qI
 by_cases hin:∃j,j<(aV g p).length∧((aV g p).getD j (0,0)).1=v
 ·obtain ⟨j,hj,e⟩:=hin
  have hmem:=aE (d:=(0,0)) hj
  obtain ⟨⟨q0,q1⟩,q2⟩:=C6 _ hmem
  rw [e] at q0 q1 q2
  rw [hlv] at q2
  rw [q2,if_neg (by simp),hout,(kQ h q0 q1).2 (by rw [hlv];exact q2), ← e,Ap tG hj]
  have:=C5 (m:=g.es.length) oK tG hj
  rw [e,Int.toNat_natCast] at this
  rw [this]
  simp
  omega
 ·have hno:∀e∈aV g p,e.1≠(v:Int):=fun e he h2=>hin (by
   obtain ⟨j,hj,e1⟩:=List.mem_iff_getElem.1 he
   exact ⟨j,hj,by rw [List.getD_eq_getElem?_getD,List.getElem?_eq_getElem hj,Option.getD_some,e1,h2]⟩)
  rw [uZ PN (fun e he h2=>hno e he (by have:=(oK e he).1;omega)),SQ,hout,jb hno]
  simp only [List.map_nil,List.append_nil]
  split
  ·rfl
  ·rename_i hl
   have hl:p.outs.getD v []= []:=List.eq_nil_of_length_eq_zero (by omega)
   rw [hl]
   by_cases K8:v<g.n.toNat
   ·exact ((kQ h (v:=(v:Int)) (by omega) (by omega)).2 (by rw [hlv];exact hl)).symm
   ·symm
    refine jb fun e he h2=> ?_
    obtain ⟨i,hi,rfl⟩:=List.mem_iff_getElem.1 he
    have:=(cT hm hi).1
    rw [List.getD_eq_getElem?_getD,List.getElem?_eq_getElem hi,Option.getD_some] at this
    omega
end Go.Ab
end
section
namespace Go.Ab
open Go.Proofs
set_option maxRecDepth 10000
abbrev Act:=Int × List Int
def rA (a:Act):List D:= [.sc (.int .i64 a.1),sI a.2]
def sA (as':List Act):D:= .sl 2 (as'.map rA)
attribute [go_sem] sA
def Nf (g:Gr) (K9:List Act):Nat→Fr
 |0=>⟨[], []⟩
 |k+1=>(cF g (Nf g K9 k) (K9.getD k (0, [])).1 (K9.getD k (0, [])).2).2
theorem JX {g:Gr} {f:Fr} (hi:dR g f):(f.pl.length:Int)≤g.n∨f.pl= []:=by
 by_cases h:f.pl= []
 ·exact .inr h
 ·left
  obtain ⟨y,hy⟩:=List.exists_mem_of_ne_nil _ h
  have:=hi.qB y hy
  have h3:=jy hi.pl (m:=(List.range g.n.toNat).map Int.ofNat) (fun y hy=>by
   rw [List.mem_map]
   have:=hi.qB y hy
   exact ⟨y.toNat,List.mem_range.2 (by omega),by simp;omega⟩)
  simp at h3
  omega
theorem rO (g:Gr) (hm:aM g=true) (f:Fr) (hi:xb g f) (x:Int) (outs:List Int) (hr:f.row.length≤300000) (hp:f.pl.length≤100000) (ho:outs.length≤17592186043904):
 Spec Tryz.prog 83 (Args [.ptr 10000 0,eN x, .d (sI outs)]) (jG g f) (.tup [.d (sT (cF g f x outs).1.1),eN (cF g f x outs).1.2]) (qk g (cF g f x outs).2):=by
 rw [← GQ hm hi.todR]
 exact B3 g hm f x outs hr hp ho
end Go.Ab
end
section
namespace Go.Ab
open Go.Proofs
attribute [local congr] ACall.congr gd.congr Nx.congr
set_option maxRecDepth 10000
set_option maxHeartbeats 4000000
def ePl (p:Pl):AV:= .agg [.d (sI p.ord), .d (.sl 1 (vI p.outs))]
attribute [go_sem] ePl
structure l6 (p:Pl):Prop where
 ord:p.ord.length≤17592186043904
 outs:p.outs.length≤9223372036854775807
 each:∀l∈p.outs,l.length≤17592186043904
theorem GX (g:Gr) (hm:aM g=true) (p:Pl) (hp:l6 p) (res:Bool) (hr:res=true↔aX g p):Spec Tryz.prog 82 (Args [.d (vw g),ePl p]) [] (eB res) []:=by
 rw [← I3 hm] at hr
 have hn:=aH hm
 have ho:=hp.ord
 have L0:=hp.outs
 by_cases h1:p.outs.length=g.n.toNat∧p.ord.length=g.n.toNat
 rotate_left
 ·have hres:res=false:=by
   rw [← Bool.not_eq_true,hr]
   rintro ⟨h2,h3,_⟩
   exact h1 ⟨h2,h3⟩
  subst hres
  by_cases h2:(p.outs.length:Int)=g.n
  ·have hb1:decide ((p.outs.length:Int)=g.n)=true:=decide_eq_true h2
   have hb2:decide ((p.ord.length:Int)=g.n)=false:=decide_eq_false fun h3=>h1 ⟨by omega,by omega⟩
   (refine Spec.hd (C:=T.cfg [] []) (rs:= [.t 4]) (T.aj _ _) Tryz.func82 rfl rfl Tryz.ntmps82 Tryz.results82 (by simp [AObj.isNest]) (by simp [AObj.isNest]) (by kernel_rfl) T.mixed fun X hX hP hC aJ b7=> ?_)
   repeat' (first|refine Rn.p ?_|(with_reducible apply And.intro)|((first|(refine hK _ ?_;clear hK K)|with_reducible intro K hK|refine Rs.p ?_|((with_reducible first|apply oP|apply oQ);exact rfl));try simp only [go_sem,simprocAttr,aA,hb1,hb2])|((with_reducible refine oD ?_ ?_);kernel_rfl)|((with_reducible intro h);try simp only [go_sem,simprocAttr,aA,hb1,hb2] at h)|omega|intro h)
  ·have hb1:decide ((p.outs.length:Int)=g.n)=false:=decide_eq_false h2
   (refine Spec.hd (C:=T.cfg [] []) (rs:= [.t 4]) (T.aj _ _) Tryz.func82 rfl rfl Tryz.ntmps82 Tryz.results82 (by simp [AObj.isNest]) (by simp [AObj.isNest]) (by kernel_rfl) T.mixed fun X hX hP hC aJ b7=> ?_)
   repeat' (first|refine Rn.p ?_|(with_reducible apply And.intro)|((first|(refine hK _ ?_;clear hK K)|with_reducible intro K hK|refine Rs.p ?_|((with_reducible first|apply oP|apply oQ);exact rfl));try simp only [go_sem,simprocAttr,aA,hb1])|((with_reducible refine oD ?_ ?_);kernel_rfl)|((with_reducible intro h);try simp only [go_sem,simprocAttr,aA,hb1] at h)|omega|intro h)
 have hb1:decide ((p.outs.length:Int)=g.n)=true:=decide_eq_true (by omega)
 have hb2:decide ((p.ord.length:Int)=g.n)=true:=decide_eq_true (by omega)
 have HV:=fC p.ord
 (refine Spec.hd (C:=T.cfg [] []) (rs:= [.t 4]) (T.aj _ _) Tryz.func82 rfl rfl Tryz.ntmps82 Tryz.results82 (by simp [AObj.isNest]) (by simp [AObj.isNest]) (by kernel_rfl) T.mixed fun X hX hP hC aJ b7=> ?_)
 repeat' (first|refine Rn.p ?_|(with_reducible apply And.intro)|((first|(refine hK _ ?_;clear hK K)|with_reducible intro K hK|refine Rs.p ?_|((with_reducible first|apply oP|apply oQ);exact rfl)|(refine au hX hC hP [(10000,31)] (cI p.ord) rfl rfl rfl ?_ ?_ ?_ ?_ ?_ ?_ ?_ ?_ ?_ ?_ ?_ ?_ ?_ ?_;(focus (simp only [go_sem,simprocAttr,aA,hb1,hb2];done));(iterate 12 (focus (simp [go_sem,simprocAttr,aA,hb1,hb2];done)));try simp only [List.map_cons,List.map_nil])|(refine aI hX hC hP [(10000,31)] (cq p.ord ho) rfl rfl rfl ?_ ?_ ?_ ?_ ?_ ?_ rfl rfl ?_ ?_;(focus (simp only [go_sem,simprocAttr,aA,hb1,hb2];done));(iterate 6 (focus (simp [go_sem,simprocAttr,aA,hb1,hb2];done)));try simp only [List.map_cons,List.map_nil]));try simp only [go_sem,simprocAttr,aA,hb1,hb2])|((with_reducible refine oD ?_ ?_);kernel_rfl)|((with_reducible intro h);try simp only [go_sem,simprocAttr,aA,hb1,hb2] at h)|omega|intro h)
 clear hb1 hb2
 refine ah (fun k:Nat=>k≤(iE p.ord).length∧∀i:Nat,i<k→(iE p.ord).getD i 0=i) (fun k=>⟨[(0, .d (vw g)),(3, .ptr 3 0),(32, .d (sI (iE p.ord))),(33,eN (iE p.ord).length),(34,eN k)], [(3, .box [.d (sI p.ord), .d (.sl 1 (vI p.outs))])]⟩) (fun k=>(iE p.ord).length - k) 0 (by simp) ?_ ?_
 ·(refine Le.of ?_ ?_<;>simp [go_sem,simprocAttr,aA])
 rintro k ⟨hk,hg⟩
 rcases Nat.lt_or_ge k (iE p.ord).length with hlt|hge
 ·have hb:decide ((k:Int)<((iE p.ord).length:Int))=true:=decide_eq_true (by omega)
  by_cases he:(iE p.ord).getD k 0=k
  ·have hb2:decide ((iE p.ord).getD k 0=(k:Int))=true:=decide_eq_true he
   repeat' (first|refine Rn.p ?_|(with_reducible apply And.intro)|((first|(refine hK _ ?_;clear hK K)|with_reducible intro K hK|refine Rs.p ?_|((with_reducible first|apply oP|apply oQ);exact rfl)|(refine au hX hC hP [(10000,31)] (cI p.ord) rfl rfl rfl ?_ ?_ ?_ ?_ ?_ ?_ ?_ ?_ ?_ ?_ ?_ ?_ ?_ ?_;(focus (simp only [go_sem,simprocAttr,aA,hb,hb2];done));(iterate 12 (focus (simp [go_sem,simprocAttr,aA,hb,hb2];done)));try simp only [List.map_cons,List.map_nil])|(refine aI hX hC hP [(10000,31)] (cq p.ord ho) rfl rfl rfl ?_ ?_ ?_ ?_ ?_ ?_ rfl rfl ?_ ?_;(focus (simp only [go_sem,simprocAttr,aA,hb,hb2];done));(iterate 6 (focus (simp [go_sem,simprocAttr,aA,hb,hb2];done)));try simp only [List.map_cons,List.map_nil]));try simp only [go_sem,simprocAttr,aA,hb,hb2])|((with_reducible refine oD ?_ ?_);kernel_rfl)|((with_reducible intro h);try simp only [go_sem,simprocAttr,aA,hb,hb2] at h)|omega|intro h)
   refine ⟨k+1,⟨by omega,fun i hi=> ?_⟩, ?_,by omega⟩
   ·by_cases hik:i=k
    ·subst hik;exact he
    ·exact hg i (by omega)
   ·(refine Le.of ?_ ?_<;>simp [go_sem,simprocAttr,aA,hb,hb2])
  ·have hb2:decide ((iE p.ord).getD k 0=(k:Int))=false:=decide_eq_false he
   have hres:res=false:=by
    rw [← Bool.not_eq_true,hr]
    rintro ⟨_,_,h3,_⟩
    exact he (h3 k hlt)
   subst hres
   repeat' (first|refine Rn.p ?_|(with_reducible apply And.intro)|((first|(refine hK _ ?_;clear hK K)|with_reducible intro K hK|refine Rs.p ?_|((with_reducible first|apply oP|apply oQ);exact rfl)|(refine au hX hC hP [(10000,31)] (cI p.ord) rfl rfl rfl ?_ ?_ ?_ ?_ ?_ ?_ ?_ ?_ ?_ ?_ ?_ ?_ ?_ ?_;(focus (simp only [go_sem,simprocAttr,aA,hb,hb2];done));(iterate 12 (focus (simp [go_sem,simprocAttr,aA,hb,hb2];done)));try simp only [List.map_cons,List.map_nil])|(refine aI hX hC hP [(10000,31)] (cq p.ord ho) rfl rfl rfl ?_ ?_ ?_ ?_ ?_ ?_ rfl rfl ?_ ?_;(focus (simp only [go_sem,simprocAttr,aA,hb,hb2];done));(iterate 6 (focus (simp [go_sem,simprocAttr,aA,hb,hb2];done)));try simp only [List.map_cons,List.map_nil]));try simp only [go_sem,simprocAttr,aA,hb,hb2])|((with_reducible refine oD ?_ ?_);kernel_rfl)|((with_reducible intro h);try simp only [go_sem,simprocAttr,aA,hb,hb2] at h)|omega|intro h)
 have hb:decide ((k:Int)<((iE p.ord).length:Int))=false:=decide_eq_false (by omega)
 repeat' (first|refine Rn.p ?_|(with_reducible apply And.intro)|((first|(refine hK _ ?_;clear hK K)|with_reducible intro K hK|refine Rs.p ?_|((with_reducible first|apply oP|apply oQ);exact rfl)|(refine au hX hC hP [(10000,31)] (cI p.ord) rfl rfl rfl ?_ ?_ ?_ ?_ ?_ ?_ ?_ ?_ ?_ ?_ ?_ ?_ ?_ ?_;(focus (simp only [go_sem,simprocAttr,aA,hb];done));(iterate 12 (focus (simp [go_sem,simprocAttr,aA,hb];done)));try simp only [List.map_cons,List.map_nil])|(refine aI hX hC hP [(10000,31)] (cq p.ord ho) rfl rfl rfl ?_ ?_ ?_ ?_ ?_ ?_ rfl rfl ?_ ?_;(focus (simp only [go_sem,simprocAttr,aA,hb];done));(iterate 6 (focus (simp [go_sem,simprocAttr,aA,hb];done)));try simp only [List.map_cons,List.map_nil]));try simp only [go_sem,simprocAttr,aA,hb])|((with_reducible refine oD ?_ ?_);kernel_rfl)|((with_reducible intro h);try simp only [go_sem,simprocAttr,aA,hb] at h)|omega|intro h)
 obtain rfl:k=(iE p.ord).length:=by omega
 clear hb hk
 refine ah (fun x:Nat=>x≤p.outs.length∧∀i:Nat,i<x→iE (p.outs.getD i [])=bA (·.1) g i) (fun x=>⟨[(0, .d (vw g)),(44, .d (.sl 1 (vI p.outs))),(45,eN p.outs.length),(46,eN x)], []⟩) (fun x=>p.outs.length - x) 0 (by simp) ?_ ?_
 ·refine Le.of ?_ ?_<;>simp [go_sem,simprocAttr,aA]
 rintro x ⟨hx,yJ⟩
 rcases Nat.lt_or_ge x p.outs.length with hxl|N5
 ·have hb:decide ((x:Int)<(p.outs.length:Int))=true:=decide_eq_true (by omega)
  have hv:=eo hxl
  have hl:=hp.each _ (aE (d:= []) hxl)
  have hn2:∀h:iE (p.outs.getD x [])=bA (·.1) g x,∀i:Nat,i<x+1→iE (p.outs.getD i [])=bA (·.1) g i:=fun h i hi=>by
   by_cases P8:i=x
   ·subst P8;exact h
   ·exact yJ i (by omega)
  have rq:¬iE (p.outs.getD x [])=bA (·.1) g x→res=false:=fun h=>by
   rw [← Bool.not_eq_true,hr]
   rintro ⟨_,_,_,h4⟩
   exact h (h4 x hxl)
  generalize p.outs.getD x []=l at hv hl hn2 rq
  have SR:=fC l
  by_cases he:iE l=bA (·.1) g x
  ·have hb2:decide (iE l=bA (·.1) g (x:Int))=true:=decide_eq_true he
   repeat' (first|refine Rn.p ?_|(with_reducible apply And.intro)|((first|(refine hK _ ?_;clear hK K)|with_reducible intro K hK|refine Rs.p ?_|((with_reducible first|apply oP|apply oQ);exact rfl)|(refine au hX hC hP [(10000,52)] (cI l) rfl rfl rfl ?_ ?_ ?_ ?_ ?_ ?_ ?_ ?_ ?_ ?_ ?_ ?_ ?_ ?_;(focus (simp only [go_sem,simprocAttr,hb,hv,hb2];done));(iterate 12 (focus (simp [go_sem,simprocAttr,hb,hv,hb2];done)));try simp only [List.map_cons,List.map_nil])|(refine aI hX hC hP [(10000,52)] (cq l hl) rfl rfl rfl ?_ ?_ ?_ ?_ ?_ ?_ rfl rfl ?_ ?_;(focus (simp only [go_sem,simprocAttr,hb,hv,hb2];done));(iterate 6 (focus (simp [go_sem,simprocAttr,hb,hv,hb2];done)));try simp only [List.map_cons,List.map_nil])|refine aa hX hC hP (iZ g hm (x:Int)) rfl rfl rfl (by simp only [go_sem,simprocAttr,hb,hv,hb2]) rfl ?_|refine aa hX hC hP (fU (iE l) (bA (·.1) g x) (by omega)) rfl rfl rfl (by simp only [go_sem,simprocAttr,hb,hv,hb2]) rfl ?_);try simp only [go_sem,simprocAttr,hb,hv,hb2])|((with_reducible refine oD ?_ ?_);kernel_rfl)|((with_reducible intro h);try simp only [go_sem,simprocAttr,hb,hv,hb2] at h)|omega|intro h)
   refine ⟨x+1,⟨by omega,hn2 he⟩, ?_,by omega⟩
   (refine Le.of ?_ ?_<;>simp [go_sem,simprocAttr,hb,hv,hb2])
  ·have hb2:decide (iE l=bA (·.1) g (x:Int))=false:=decide_eq_false he
   have hres:=rq he
   subst hres
   repeat' (first|refine Rn.p ?_|(with_reducible apply And.intro)|((first|(refine hK _ ?_;clear hK K)|with_reducible intro K hK|refine Rs.p ?_|((with_reducible first|apply oP|apply oQ);exact rfl)|(refine au hX hC hP [(10000,52)] (cI l) rfl rfl rfl ?_ ?_ ?_ ?_ ?_ ?_ ?_ ?_ ?_ ?_ ?_ ?_ ?_ ?_;(focus (simp only [go_sem,simprocAttr,hb,hv,hb2];done));(iterate 12 (focus (simp [go_sem,simprocAttr,hb,hv,hb2];done)));try simp only [List.map_cons,List.map_nil])|(refine aI hX hC hP [(10000,52)] (cq l hl) rfl rfl rfl ?_ ?_ ?_ ?_ ?_ ?_ rfl rfl ?_ ?_;(focus (simp only [go_sem,simprocAttr,hb,hv,hb2];done));(iterate 6 (focus (simp [go_sem,simprocAttr,hb,hv,hb2];done)));try simp only [List.map_cons,List.map_nil])|refine aa hX hC hP (iZ g hm (x:Int)) rfl rfl rfl (by simp only [go_sem,simprocAttr,hb,hv,hb2]) rfl ?_|refine aa hX hC hP (fU (iE l) (bA (·.1) g x) (by omega)) rfl rfl rfl (by simp only [go_sem,simprocAttr,hb,hv,hb2]) rfl ?_);try simp only [go_sem,simprocAttr,hb,hv,hb2])|((with_reducible refine oD ?_ ?_);kernel_rfl)|((with_reducible intro h);try simp only [go_sem,simprocAttr,hb,hv,hb2] at h)|omega|intro h)
 ·have hb:decide ((x:Int)<(p.outs.length:Int))=false:=decide_eq_false (by omega)
  obtain rfl:x=p.outs.length:=by omega
  have hres:res=true:=hr.2 ⟨h1.1,h1.2,fun i hi=>hg i (by omega),yJ⟩
  subst hres
  repeat' (first|refine Rn.p ?_|(with_reducible apply And.intro)|((first|(refine hK _ ?_;clear hK K)|with_reducible intro K hK|refine Rs.p ?_|((with_reducible first|apply oP|apply oQ);exact rfl)|(refine au hX hC hP [(10000,52)] (cI l) rfl rfl rfl ?_ ?_ ?_ ?_ ?_ ?_ ?_ ?_ ?_ ?_ ?_ ?_ ?_ ?_;(focus (simp only [go_sem,simprocAttr,hb];done));(iterate 12 (focus (simp [go_sem,simprocAttr,hb];done)));try simp only [List.map_cons,List.map_nil])|(refine aI hX hC hP [(10000,52)] (cq l hl) rfl rfl rfl ?_ ?_ ?_ ?_ ?_ ?_ rfl rfl ?_ ?_;(focus (simp only [go_sem,simprocAttr,hb];done));(iterate 6 (focus (simp [go_sem,simprocAttr,hb];done)));try simp only [List.map_cons,List.map_nil])|refine aa hX hC hP (iZ g hm (x:Int)) rfl rfl rfl (by simp only [go_sem,simprocAttr,hb]) rfl ?_|refine aa hX hC hP (fU (iE l) (bA (·.1) g x) (by omega)) rfl rfl rfl (by simp only [go_sem,simprocAttr,hb]) rfl ?_);try simp only [go_sem,simprocAttr,hb])|((with_reducible refine oD ?_ ?_);kernel_rfl)|((with_reducible intro h);try simp only [go_sem,simprocAttr,hb] at h)|omega|intro h)
end Go.Ab
end
section
namespace Go.Ab
open Go.Proofs
attribute [local congr] ACall.congr gd.congr Nx.congr
set_option maxRecDepth 10000
set_option maxHeartbeats 8000000
def oL (m:Nat) (fl:List Int):List Int:=(List.range m).map fun i:Nat=>if (i:Int)∈fl then (1:Int) else 0
theorem Ar {m:Nat} {fl:List Int} :(oL m fl).length=m:=by simp [oL]
theorem EA {m:Nat} :oL m []=List.replicate m 0:=by
 refine List.ext_getElem (by simp [oL]) fun i h1 h2=> ?_
 simp [oL]
theorem C7 {m:Nat} {fl:List Int} {i:Nat} (h:i<m):(oL m fl).getD i 0=if (i:Int)∈fl then 1 else 0:=by
 simp [oL,List.getD_eq_getElem?_getD,List.getElem?_range h]
theorem GY {m:Nat} {fl:List Int} {i:Nat} (h:i<m):(oL m fl).set i 1=oL m (fl++ [(i:Int)]):=by
 refine List.ext_getElem (by simp [oL]) fun j h1 h2=> ?_
 rw [List.getElem_set]
 simp only [oL,List.getElem_map,List.getElem_range,List.mem_append,List.mem_singleton]
 by_cases e:i=j
 ·subst e;simp
 ·rw [if_neg e]
  have:¬(j:Int)=(i:Int):=by omega
  simp [this]
theorem GZ {outs:List (List Int)} {x k:Nat} (hx:x<outs.length):((outs.take x).flatten++(outs.getD x []).take k).Sublist outs.flatten:=by
 have e:outs=outs.take x++outs.getD x []::outs.drop (x+1):=by
  conv=>lhs;rw [← List.take_append_drop x outs]
  congr 1
  rw [List.drop_eq_getElem_cons hx,List.getD_eq_getElem?_getD,List.getElem?_eq_getElem hx]
  rfl
 conv=>rhs;rw [e]
 rw [List.flatten_append,List.flatten_cons]
 exact List.Sublist.append (List.Sublist.refl _) ((List.take_sublist _ _).trans (List.sublist_append_left _ _))
theorem B6 {l:List Int} {k:Nat} (h:k<l.length):l.take (k+1)=l.take k++ [l.getD k 0]:=by
 rw [List.take_add_one,List.getD_eq_getElem?_getD,List.getElem?_eq_getElem h];rfl
theorem mR {g:Gr} {x i:Int} :i∈aZ g x↔(0≤i∧i<g.es.length)∧(g.es.getD i.toNat (0,0)).1=x:=by
 constructor
 ·exact fV
 ·rintro ⟨⟨h1,h2⟩,h3⟩
  simp only [aZ,aK,List.mem_map,List.mem_filter,List.mem_range,decide_eq_true_eq]
  exact ⟨i.toNat,⟨by omega,h3⟩,by simp;omega⟩
theorem G0 (g:Gr) (hl:g.es.length≤9223372036854775807) (p:Pl) (hp:l6 p) (res:Bool) (hr:res=true↔(bR g).1=0∧aX g p):Spec Tryz.prog 110 (Args [eG g,ePl p]) [] (eB res) []:=by
 have ho:p.ord.length≤9223372036854775807:=by have:=hp.ord;omega
 have L0:=hp.outs
 by_cases hc:(bR g).1=0
 rotate_left
 ·have hres:res=false:=by
   rw [← Bool.not_eq_true,hr]
   rintro ⟨h,_⟩
   exact hc h
  subst hres
  have hb1:decide ((bR g).1=0)=false:=decide_eq_false hc
  (refine Spec.hd (C:=T.cfg [] []) (rs:= [.t 4]) (T.aj _ _) Tryz.func110 rfl rfl Tryz.ntmps110 Tryz.results110 (by simp [AObj.isNest]) (by simp [AObj.isNest]) (by kernel_rfl) T.mixed fun X hX hP hC aJ b7=> ?_)
  repeat' (first|refine Rn.p ?_|(with_reducible apply And.intro)|((first|(refine hK _ ?_;clear hK K)|with_reducible intro K hK|refine Rs.p ?_|((with_reducible first|apply oP|apply oQ);exact rfl)|refine aa hX hC hP (bp g hl) rfl rfl rfl (by simp only [go_sem,simprocAttr,hb1]) rfl ?_);try simp only [go_sem,simprocAttr,hb1])|((with_reducible refine oD ?_ ?_);kernel_rfl)|((with_reducible intro h);try simp only [go_sem,simprocAttr,hb1] at h)|omega|intro h)
 have hb1:decide ((bR g).1=0)=true:=decide_eq_true hc
 have hm:=an hc
 have hn:=aH hm
 have hr:res=true↔aX g p:=by rw [hr];exact ⟨fun h=>h.2,fun h=>⟨hc,h⟩⟩
 rw [← I4 hm] at hr
 by_cases he:gC p.ord g.n=true∧p.outs.length=g.n.toNat
 rotate_left
 ·have hres:res=false:=by
   rw [← Bool.not_eq_true,hr]
   rintro ⟨h2,h3,_⟩
   exact he ⟨h2,h3⟩
  subst hres
  cases h2:gC p.ord g.n with
  |false=>
   (refine Spec.hd (C:=T.cfg [] []) (rs:= [.t 4]) (T.aj _ _) Tryz.func110 rfl rfl Tryz.ntmps110 Tryz.results110 (by simp [AObj.isNest]) (by simp [AObj.isNest]) (by kernel_rfl) T.mixed fun X hX hP hC aJ b7=> ?_)
   repeat' (first|refine Rn.p ?_|(with_reducible apply And.intro)|((first|(refine hK _ ?_;clear hK K)|with_reducible intro K hK|refine Rs.p ?_|((with_reducible first|apply oP|apply oQ);exact rfl)|refine aa hX hC hP (bp g hl) rfl rfl rfl (by simp only [go_sem,simprocAttr,hb1,h2]) rfl ?_|refine aa hX hC hP (cC p.ord g.n ho) rfl rfl rfl (by simp only [go_sem,simprocAttr,hb1,h2]) rfl ?_);try simp only [go_sem,simprocAttr,hb1,h2])|((with_reducible refine oD ?_ ?_);kernel_rfl)|((with_reducible intro h);try simp only [go_sem,simprocAttr,hb1,h2] at h)|omega|intro h)
  |true=>
   have hb2:decide ((p.outs.length:Int)=g.n)=false:=decide_eq_false fun h3=>he ⟨h2,by omega⟩
   (refine Spec.hd (C:=T.cfg [] []) (rs:= [.t 4]) (T.aj _ _) Tryz.func110 rfl rfl Tryz.ntmps110 Tryz.results110 (by simp [AObj.isNest]) (by simp [AObj.isNest]) (by kernel_rfl) T.mixed fun X hX hP hC aJ b7=> ?_)
   repeat' (first|refine Rn.p ?_|(with_reducible apply And.intro)|((first|(refine hK _ ?_;clear hK K)|with_reducible intro K hK|refine Rs.p ?_|((with_reducible first|apply oP|apply oQ);exact rfl)|refine aa hX hC hP (bp g hl) rfl rfl rfl (by simp only [go_sem,simprocAttr,hb1,h2,hb2]) rfl ?_|refine aa hX hC hP (cC p.ord g.n ho) rfl rfl rfl (by simp only [go_sem,simprocAttr,hb1,h2,hb2]) rfl ?_);try simp only [go_sem,simprocAttr,hb1,h2,hb2])|((with_reducible refine oD ?_ ?_);kernel_rfl)|((with_reducible intro h);try simp only [go_sem,simprocAttr,hb1,h2,hb2] at h)|omega|intro h)
 obtain ⟨sJ,Bz⟩:=he
 have hb2:decide ((p.outs.length:Int)=g.n)=true:=decide_eq_true (by omega)
 (refine Spec.hd (C:=T.cfg [] []) (rs:= [.t 4]) (T.aj _ _) Tryz.func110 rfl rfl Tryz.ntmps110 Tryz.results110 (by simp [AObj.isNest]) (by simp [AObj.isNest]) (by kernel_rfl) T.mixed fun X hX hP hC aJ b7=> ?_)
 repeat' (first|refine Rn.p ?_|(with_reducible apply And.intro)|((first|(refine hK _ ?_;clear hK K)|with_reducible intro K hK|refine Rs.p ?_|((with_reducible first|apply oP|apply oQ);exact rfl)|refine aa hX hC hP (bp g hl) rfl rfl rfl (by simp only [go_sem,simprocAttr,hb1,sJ,hb2]) rfl ?_|refine aa hX hC hP (cC p.ord g.n ho) rfl rfl rfl (by simp only [go_sem,simprocAttr,hb1,sJ,hb2]) rfl ?_);try simp only [go_sem,simprocAttr,hb1,sJ,hb2])|((with_reducible refine oD ?_ ?_);kernel_rfl)|((with_reducible intro h);try simp only [go_sem,simprocAttr,hb1,sJ,hb2] at h)|omega|intro h)
 clear hb1 hb2
 have I5:List.replicate g.es.length [D.sc (.int .i64 0)]=(oL g.es.length []).map rI:=by rw [EA,List.map_replicate];rfl
 rw [I5]
 clear I5
 refine ah (fun x:Nat=>x≤p.outs.length∧(p.outs.take x).flatten.Nodup∧∀y:Nat,y<x→∀i∈p.outs.getD y [],i∈aZ g y) (fun x=>⟨[(2, .ptr 2 0),(3, .ptr 3 0),(5, .ref 32),(6,eN x)], [(32, .own 3 1 ((oL g.es.length (p.outs.take x).flatten).map rI)),(3, .box [.d (sI p.ord), .d (.sl 1 (vI p.outs))]),(2, .box [eN g.n, .d (sE g.es)])]⟩) (fun x=>p.outs.length - x) 0 (by simp) ?_ ?_
 ·refine Le.of ?_ ?_<;>simp [go_sem,simprocAttr]
 rintro x ⟨hx,bY,yJ⟩
 rcases Nat.lt_or_ge x p.outs.length with hxl|N5
 ·have hb:decide ((x:Int)<(p.outs.length:Int))=true:=decide_eq_true (by omega)
  have hv:=eo hxl
  have hle:=hp.each _ (aE (d:= []) hxl)
  have hpre:=fun k=>GZ (k:=k) hxl
  have hnext:(p.outs.take (x+1)).flatten=(p.outs.take x).flatten++p.outs.getD x []:=by
   rw [List.take_add_one,List.flatten_append,List.getD_eq_getElem?_getD,List.getElem?_eq_getElem hxl];simp
  have iB:∀i∈p.outs.getD x [],i∉aZ g x→res=false:=fun i hi hn=>by
   rw [← Bool.not_eq_true,hr]
   rintro ⟨_,_,h3,_⟩
   exact hn (h3 x hxl i hi)
  have rq:∀k,¬((p.outs.take x).flatten++(p.outs.getD x []).take k).Nodup→res=false:=fun k hn=>by
   rw [← Bool.not_eq_true,hr]
   rintro ⟨_,_,_,h4,_⟩
   exact hn (List.Nodup.sublist (hpre k) h4)
  have JQ:(∀i∈p.outs.getD x [],i∈aZ g x)→∀y:Nat,y<x+1→∀i∈p.outs.getD y [],i∈aZ g y:=fun h y hy=>by
   by_cases e:y=x
   ·subst e;exact h
   ·exact yJ y (by omega)
  generalize p.outs.getD x []=l at hv hle hpre hnext iB rq JQ
  generalize (p.outs.take x).flatten=fl at bY hpre hnext rq
  clear hpre
  repeat' (first|refine Rn.p ?_|(with_reducible apply And.intro)|((first|(refine hK _ ?_;clear hK K)|with_reducible intro K hK|refine Rs.p ?_|((with_reducible first|apply oP|apply oQ);exact rfl)|refine aa hX hC hP (bp g hl) rfl rfl rfl (by simp only [go_sem,simprocAttr,hb,hv]) rfl ?_|refine aa hX hC hP (cC p.ord g.n ho) rfl rfl rfl (by simp only [go_sem,simprocAttr,hb,hv]) rfl ?_);try simp only [go_sem,simprocAttr,hb,hv])|((with_reducible refine oD ?_ ?_);kernel_rfl)|((with_reducible intro h);try simp only [go_sem,simprocAttr,hb,hv] at h)|omega|intro h)
  clear hb
  refine ah (fun k:Nat=>k≤l.length∧(fl++l.take k).Nodup∧∀i∈l.take k,i∈aZ g x) (fun k=>⟨[(2, .ptr 2 0),(3, .ptr 3 0),(5, .ref 32),(6,eN x),(7,eN k)], [(32, .own 3 1 ((oL g.es.length (fl++l.take k)).map rI)),(3, .box [.d (sI p.ord), .d (.sl 1 (vI p.outs))]),(2, .box [eN g.n, .d (sE g.es)])]⟩) (fun k=>l.length - k) 0 (by simpa using bY) ?_ ?_
  ·refine Le.of ?_ ?_<;>simp [go_sem,simprocAttr]
  rintro k ⟨hk,DO,Fi⟩
  rcases Nat.lt_or_ge k l.length with cm|Ir
  ·have gv:decide ((k:Int)<(l.length:Int))=true:=decide_eq_true (by omega)
   have mO:=B6 cm
   have him:=aE (d:=0) cm
   have hcl:=Ar (m:=g.es.length) (fl:=fl++l.take k)
   generalize hi:l.getD k 0=i at mO him
   by_cases h0:i<0
   ·have hres:=iB i him (fun h=>by have:=(mR.1 h).1;omega)
    subst hres
    have hb1:decide (i<0)=true:=decide_eq_true h0
    repeat' (first|refine Rn.p ?_|(with_reducible apply And.intro)|((first|(refine hK _ ?_;clear hK K)|with_reducible intro K hK|refine Rs.p ?_|((with_reducible first|apply oP|apply oQ);exact rfl)|refine aa hX hC hP (bp g hl) rfl rfl rfl (by simp only [go_sem,simprocAttr,gv,hv,hi,hb1]) rfl ?_|refine aa hX hC hP (cC p.ord g.n ho) rfl rfl rfl (by simp only [go_sem,simprocAttr,gv,hv,hi,hb1]) rfl ?_);try simp only [go_sem,simprocAttr,gv,hv,hi,hb1])|((with_reducible refine oD ?_ ?_);kernel_rfl)|((with_reducible intro h);try simp only [go_sem,simprocAttr,gv,hv,hi,hb1] at h)|omega|intro h)
   have hb1:decide (i<0)=false:=decide_eq_false h0
   by_cases h1:(g.es.length:Int)≤i
   ·have hres:=iB i him (fun h=>by have:=(mR.1 h).1;omega)
    subst hres
    have hb2:decide ((g.es.length:Int)≤i)=true:=decide_eq_true h1
    repeat' (first|refine Rn.p ?_|(with_reducible apply And.intro)|((first|(refine hK _ ?_;clear hK K)|with_reducible intro K hK|refine Rs.p ?_|((with_reducible first|apply oP|apply oQ);exact rfl)|refine aa hX hC hP (bp g hl) rfl rfl rfl (by simp only [go_sem,simprocAttr,gv,hv,hi,hb1,hb2,hcl]) rfl ?_|refine aa hX hC hP (cC p.ord g.n ho) rfl rfl rfl (by simp only [go_sem,simprocAttr,gv,hv,hi,hb1,hb2,hcl]) rfl ?_);try simp only [go_sem,simprocAttr,gv,hv,hi,hb1,hb2,hcl])|((with_reducible refine oD ?_ ?_);kernel_rfl)|((with_reducible intro h);try simp only [go_sem,simprocAttr,gv,hv,hi,hb1,hb2,hcl] at h)|omega|intro h)
   have hb2:decide ((g.es.length:Int)≤i)=false:=decide_eq_false h1
   obtain ⟨e,rfl⟩:∃e:Nat,i=e:=⟨i.toNat,by omega⟩
   have hel:e<g.es.length:=by omega
   by_cases h2:(g.es.getD e (0,0)).1=x
   rotate_left
   ·have hres:=iB _ him (fun h=>h2 (by have:=(mR.1 h).2;rwa [Int.toNat_natCast] at this))
    subst hres
    have hb3:decide ((g.es.getD e (0,0)).1=(x:Int))=false:=decide_eq_false h2
    repeat' (first|refine Rn.p ?_|(with_reducible apply And.intro)|((first|(refine hK _ ?_;clear hK K)|with_reducible intro K hK|refine Rs.p ?_|((with_reducible first|apply oP|apply oQ);exact rfl)|refine aa hX hC hP (bp g hl) rfl rfl rfl (by simp only [go_sem,simprocAttr,gv,hv,hi,hb1,hb2,hb3,hcl]) rfl ?_|refine aa hX hC hP (cC p.ord g.n ho) rfl rfl rfl (by simp only [go_sem,simprocAttr,gv,hv,hi,hb1,hb2,hb3,hcl]) rfl ?_);try simp only [go_sem,simprocAttr,gv,hv,hi,hb1,hb2,hb3,hcl])|((with_reducible refine oD ?_ ?_);kernel_rfl)|((with_reducible intro h);try simp only [go_sem,simprocAttr,gv,hv,hi,hb1,hb2,hb3,hcl] at h)|omega|intro h)
   have hb3:decide ((g.es.getD e (0,0)).1=(x:Int))=true:=decide_eq_true h2
   have u6:=C7 (fl:=fl++l.take k) hel
   by_cases h3:(e:Int)∈fl++l.take k
   ·have hres:=rq (k+1) (fun h=>by
     rw [mO, ← List.append_assoc,List.nodup_append] at h
     exact h.2.2 _ h3 _ (List.mem_singleton.2 rfl) rfl)
    subst hres
    rw [if_pos h3] at u6
    repeat' (first|refine Rn.p ?_|(with_reducible apply And.intro)|((first|(refine hK _ ?_;clear hK K)|with_reducible intro K hK|refine Rs.p ?_|((with_reducible first|apply oP|apply oQ);exact rfl)|refine aa hX hC hP (bp g hl) rfl rfl rfl (by simp only [go_sem,simprocAttr,gv,hv,hi,hb1,hb2,hb3,hcl,u6]) rfl ?_|refine aa hX hC hP (cC p.ord g.n ho) rfl rfl rfl (by simp only [go_sem,simprocAttr,gv,hv,hi,hb1,hb2,hb3,hcl,u6]) rfl ?_);try simp only [go_sem,simprocAttr,gv,hv,hi,hb1,hb2,hb3,hcl,u6])|((with_reducible refine oD ?_ ?_);kernel_rfl)|((with_reducible intro h);try simp only [go_sem,simprocAttr,gv,hv,hi,hb1,hb2,hb3,hcl,u6] at h)|omega|intro h)
   ·rw [if_neg h3] at u6
    have cD:=GY (fl:=fl++l.take k) hel
    rw [List.append_assoc, ← mO] at cD
    repeat' (first|refine Rn.p ?_|(with_reducible apply And.intro)|((first|(refine hK _ ?_;clear hK K)|with_reducible intro K hK|refine Rs.p ?_|((with_reducible first|apply oP|apply oQ);exact rfl)|refine aa hX hC hP (bp g hl) rfl rfl rfl (by simp only [go_sem,simprocAttr,gv,hv,hi,hb1,hb2,hb3,hcl,u6]) rfl ?_|refine aa hX hC hP (cC p.ord g.n ho) rfl rfl rfl (by simp only [go_sem,simprocAttr,gv,hv,hi,hb1,hb2,hb3,hcl,u6]) rfl ?_);try simp only [go_sem,simprocAttr,gv,hv,hi,hb1,hb2,hb3,hcl,u6])|((with_reducible refine oD ?_ ?_);kernel_rfl)|((with_reducible intro h);try simp only [go_sem,simprocAttr,gv,hv,hi,hb1,hb2,hb3,hcl,u6] at h)|omega|intro h)
    refine ⟨k+1,⟨by omega, ?_, ?_⟩, ?_,by omega⟩
    ·rw [mO, ← List.append_assoc,List.nodup_append]
     exact ⟨DO,by simp,fun a ha b hb h=>h3 (by rw [List.mem_singleton] at hb;rw [← hb, ← h];exact ha)⟩
    ·intro j hj
     rw [mO,List.mem_append,List.mem_singleton] at hj
     rcases hj with hj|rfl
     ·exact Fi j hj
     ·exact mR.2 ⟨⟨by omega,by omega⟩,by rw [Int.toNat_natCast];exact h2⟩
    ·rw [← cD]
     refine Le.of ?_ ?_<;>simp [go_sem,simprocAttr,gv,hv,hi,hb1,hb2,hb3,hcl,u6,rI]
  ·have gv:decide ((k:Int)<(l.length:Int))=false:=decide_eq_false (by omega)
   obtain rfl:k=l.length:=by omega
   rw [List.take_length] at DO Fi
   repeat' (first|refine Rn.p ?_|(with_reducible apply And.intro)|((first|(refine hK _ ?_;clear hK K)|with_reducible intro K hK|refine Rs.p ?_|((with_reducible first|apply oP|apply oQ);exact rfl)|refine aa hX hC hP (bp g hl) rfl rfl rfl (by simp only [go_sem,simprocAttr,gv,hv]) rfl ?_|refine aa hX hC hP (cC p.ord g.n ho) rfl rfl rfl (by simp only [go_sem,simprocAttr,gv,hv]) rfl ?_);try simp only [go_sem,simprocAttr,gv,hv])|((with_reducible refine oD ?_ ?_);kernel_rfl)|((with_reducible intro h);try simp only [go_sem,simprocAttr,gv,hv] at h)|omega|intro h)
   refine ⟨x+1,⟨by omega,by rw [hnext];exact DO,JQ Fi⟩, ?_,by omega⟩
   rw [hnext]
   refine Le.of ?_ ?_<;>simp [go_sem,simprocAttr,gv,hv]
 have hb:decide ((x:Int)<(p.outs.length:Int))=false:=decide_eq_false (by omega)
 obtain rfl:x=p.outs.length:=by omega
 rw [List.take_length] at bY
 rw [List.take_length]
 have hcl:=Ar (m:=g.es.length) (fl:=p.outs.flatten)
 repeat' (first|refine Rn.p ?_|(with_reducible apply And.intro)|((first|(refine hK _ ?_;clear hK K)|with_reducible intro K hK|refine Rs.p ?_|((with_reducible first|apply oP|apply oQ);exact rfl)|refine aa hX hC hP (bp g hl) rfl rfl rfl (by simp only [go_sem,simprocAttr,hb]) rfl ?_|refine aa hX hC hP (cC p.ord g.n ho) rfl rfl rfl (by simp only [go_sem,simprocAttr,hb]) rfl ?_);try simp only [go_sem,simprocAttr,hb])|((with_reducible refine oD ?_ ?_);kernel_rfl)|((with_reducible intro h);try simp only [go_sem,simprocAttr,hb] at h)|omega|intro h)
 clear hb
 refine ah (fun k:Nat=>k≤g.es.length∧∀i:Nat,i<k→(i:Int)∈p.outs.flatten) (fun k=>⟨[(5, .ref 32),(9,eN k)], [(32, .own 3 1 ((oL g.es.length p.outs.flatten).map rI))]⟩) (fun k=>g.es.length - k) 0 (by simp) ?_ ?_
 ·refine Le.of ?_ ?_<;>simp [go_sem,simprocAttr]
 rintro k ⟨hk,Fi⟩
 rcases Nat.lt_or_ge k g.es.length with cm|Ir
 ·have gv:decide ((k:Int)<(g.es.length:Int))=true:=decide_eq_true (by omega)
  have u6:=C7 (fl:=p.outs.flatten) cm
  by_cases h3:(k:Int)∈p.outs.flatten
  ·rw [if_pos h3] at u6
   repeat' (first|refine Rn.p ?_|(with_reducible apply And.intro)|((first|(refine hK _ ?_;clear hK K)|with_reducible intro K hK|refine Rs.p ?_|((with_reducible first|apply oP|apply oQ);exact rfl)|refine aa hX hC hP (bp g hl) rfl rfl rfl (by simp only [go_sem,simprocAttr,gv,hcl,u6]) rfl ?_|refine aa hX hC hP (cC p.ord g.n ho) rfl rfl rfl (by simp only [go_sem,simprocAttr,gv,hcl,u6]) rfl ?_);try simp only [go_sem,simprocAttr,gv,hcl,u6])|((with_reducible refine oD ?_ ?_);kernel_rfl)|((with_reducible intro h);try simp only [go_sem,simprocAttr,gv,hcl,u6] at h)|omega|intro h)
   refine ⟨k+1,⟨by omega,fun i hi=> ?_⟩, ?_,by omega⟩
   ·by_cases e:i=k
    ·subst e;exact h3
    ·exact Fi i (by omega)
   ·(refine Le.of ?_ ?_<;>simp [go_sem,simprocAttr,gv,hcl,u6])
  ·rw [if_neg h3] at u6
   have hres:res=false:=by
    rw [← Bool.not_eq_true,hr]
    rintro ⟨_,_,_,_,h5⟩
    exact h3 (h5 k cm)
   subst hres
   repeat' (first|refine Rn.p ?_|(with_reducible apply And.intro)|((first|(refine hK _ ?_;clear hK K)|with_reducible intro K hK|refine Rs.p ?_|((with_reducible first|apply oP|apply oQ);exact rfl)|refine aa hX hC hP (bp g hl) rfl rfl rfl (by simp only [go_sem,simprocAttr,gv,hcl,u6]) rfl ?_|refine aa hX hC hP (cC p.ord g.n ho) rfl rfl rfl (by simp only [go_sem,simprocAttr,gv,hcl,u6]) rfl ?_);try simp only [go_sem,simprocAttr,gv,hcl,u6])|((with_reducible refine oD ?_ ?_);kernel_rfl)|((with_reducible intro h);try simp only [go_sem,simprocAttr,gv,hcl,u6] at h)|omega|intro h)
 ·have gv:decide ((k:Int)<(g.es.length:Int))=false:=decide_eq_false (by omega)
  obtain rfl:k=g.es.length:=by omega
  have hres:res=true:=hr.2 ⟨sJ,Bz,yJ,bY,Fi⟩
  subst hres
  repeat' (first|refine Rn.p ?_|(with_reducible apply And.intro)|((first|(refine hK _ ?_;clear hK K)|with_reducible intro K hK|refine Rs.p ?_|((with_reducible first|apply oP|apply oQ);exact rfl)|refine aa hX hC hP (bp g hl) rfl rfl rfl (by simp only [go_sem,simprocAttr,gv,hcl]) rfl ?_|refine aa hX hC hP (cC p.ord g.n ho) rfl rfl rfl (by simp only [go_sem,simprocAttr,gv,hcl]) rfl ?_);try simp only [go_sem,simprocAttr,gv,hcl])|((with_reducible refine oD ?_ ?_);kernel_rfl)|((with_reducible intro h);try simp only [go_sem,simprocAttr,gv,hcl] at h)|omega|intro h)
end Go.Ab
end
section
namespace Go.Ab
open Go.Proofs
attribute [local congr] ACall.congr gd.congr Nx.congr
set_option maxRecDepth 10000
set_option maxHeartbeats 8000000
def bH (b:Bool) (g:Gr) (p:Pl):(List (List It) × List It) × Int × Int:=
 if b=false then (([], []),(1,0)) else
 match jP g p g.n.toNat with
 |some i=>(([], []),(3,(i:Int)))
 |none=>((eV g p g.n.toNat,(fK g p g.n.toNat).row),(0,0))
theorem G1 {n:Nat} :List.replicate n [D.sl 3 []]=vT (List.replicate n []):=by simp [vT,sT]
theorem G2 {ls:List (List It)} {k:Nat} {l:List It} :(vT ls).set k [sT l]=vT (ls.set k l):=by simp [vT,List.map_set]
theorem xj {g:Gr} {p:Pl} {k:Nat} :eV g p (k+1)=(eV g p k).set (aD p k).toNat (cL g p k):=rfl
theorem As (g:Gr) (hl:g.es.length≤9223372036854775807) (p:Pl) (hp:l6 p) (b:Bool) (hr:b=true↔(bR g).1=0∧aX g p):
 Spec Tryz.prog 58 (Args [eG g,ePl p]) [] (.tup [.d (.sl 1 (vT (bH b g p).1.1)), .d (sT (bH b g p).1.2),eN (bH b g p).2.1,eN (bH b g p).2.2]) []:=by
 have hO:=G0 g hl p hp b hr
 cases b with
 |false=>
  have hR:bH false g p=(([], []),(1,0)):=rfl
  rw [hR]
  (refine Spec.hd (C:=T.cfg [] []) (rs:= [.t 4, .t 5, .t 6, .t 7]) (T.aj _ _) Tryz.func58 rfl rfl Tryz.ntmps58 Tryz.results58 (by simp [AObj.isNest]) (by simp [AObj.isNest]) (by kernel_rfl) T.mixed fun X hX hP hC aJ b7=> ?_)
  repeat' (first|refine Rn.p ?_|(with_reducible apply And.intro)|((first|(refine hK _ ?_;clear hK K)|with_reducible intro K hK|refine Rs.p ?_|((with_reducible first|apply oP|apply oQ);exact rfl)|refine aa hX hC hP (hO) rfl rfl rfl (by simp only [go_sem,simprocAttr,vT,List.map_nil]) rfl ?_);try simp only [go_sem,simprocAttr,vT,List.map_nil])|((with_reducible refine oD ?_ ?_);kernel_rfl)|((with_reducible intro h);try simp only [go_sem,simprocAttr,vT,List.map_nil] at h)|omega|intro h)
 |true=>
 obtain ⟨hc,sk⟩:=hr.1 rfl
 have hm:=an hc
 have hn:=aH hm
 have hle:=aS sk
 have hR:bH true g p=match jP g p g.n.toNat with
  |some i=>(([], []),(3,(i:Int)))
  |none=>((eV g p g.n.toNat,(fK g p g.n.toNat).row),(0,0)):=rfl
 generalize bH true g p=R at hR
 (refine Spec.hd (C:=T.cfg [] []) (rs:= [.t 4, .t 5, .t 6, .t 7]) (T.aj _ _) Tryz.func58 rfl rfl Tryz.ntmps58 Tryz.results58 (by simp [AObj.isNest]) (by simp [AObj.isNest]) (by kernel_rfl) T.mixed fun X hX hP hC aJ b7=> ?_)
 repeat' (first|(show bW _ (.seq (.region 4 _ _) _) _ _;(refine pH 20 2 3 rfl rfl rfl ?_;simp only [List.set_cons_zero,List.set_cons_succ,go_sem,simprocAttr]);(refine pH 20 3 1 rfl rfl rfl ?_;simp only [List.set_cons_zero,List.set_cons_succ,go_sem,simprocAttr]))|refine Rn.p ?_|(with_reducible apply And.intro)|((first|(refine hK _ ?_;clear hK K)|with_reducible intro K hK|refine Rs.p ?_|((with_reducible first|apply oP|apply oQ);exact rfl)|refine aa hX hC hP (hO) rfl rfl rfl (by simp only [go_sem,simprocAttr]) rfl ?_);try simp only [go_sem,simprocAttr])|((with_reducible refine oD ?_ ?_);kernel_rfl)|((with_reducible intro h);try simp only [go_sem,simprocAttr] at h)|omega|intro h)
 rw [G1]
 refine ah (fun k:Nat=>k≤g.n.toNat∧∀j,j<k→oV g p j=true) (fun k=>⟨[(2, .ptr 2 0),(3, .ptr 3 0),(8, .ptr 20 0),(9, .ref 23),(10,eN k)], [(23, .own 64 1 (vT (eV g p k))),(20, .box (kI g (fK g p k))),(3, .box [.d (sI p.ord), .d (.sl 1 (vI p.outs))]),(2, .box [eN g.n, .d (sE g.es)])]⟩) (fun k=>g.n.toNat - k) 0 (by simp) ?_ ?_
 ·refine Le.of ?_ ?_<;>simp [go_sem,simprocAttr,kI,fK,eV]
 rintro k ⟨hk,hok⟩
 obtain ⟨hi,_,hrl⟩:=bV hm sk hk hok
 have hel:=mP (g:=g) (p:=p) (k:=k)
 rcases Nat.lt_or_ge k g.n.toNat with hlt|hge
 ·have hb:decide ((k:Int)<(p.ord.length:Int))=true:=decide_eq_true (by omega)
  have I6:=bK sk hlt
  have b9:=xj (g:=g) (p:=p) (k:=k)
  have EB:fK g p (k+1)=(az g (fK g p k) (aD p k) (bQ p (aD p k))).2:=rfl
  have yJ:cL g p k=(az g (fK g p k) (aD p k) (bQ p (aD p k))).1.1:=rfl
  have hpk:=Ah sk hlt
  have G3:=Ai (g:=g) (p:=p) (k:=k)
  have hsk:oV g p k=false→R=(([], []),(3,(k:Int))):=fun h=>by
   rw [hR,oJ.2 ⟨hlt,h,hok⟩]
  have hmul:k*(g.es.length+1)≤64*129:=Nat.mul_le_mul (by omega) (by omega)
  have iI:=pT sk I6.1 I6.2
  have iR:p.ord.getD k 0=aD p k:=rfl
  have G4:(fK g p k).pl.length≤64:=by
   rcases JX hi.todR with h|h
   ·omega
   ·rw [h];simp
  obtain ⟨x,hx⟩:∃x:Nat,aD p k=x:=⟨(aD p k).toNat,by omega⟩
  rw [hx] at iR EB yJ hpk G3 I6 iI b9
  have hxl:x<p.outs.length:=by have:=sk.1;omega
  have hv:=eo hxl
  have hla:bQ p (x:Int)=p.outs.getD x []:=by unfold bQ;rw [Int.toNat_natCast]
  rw [hla] at EB yJ hpk G3 iI
  rw [Int.toNat_natCast] at b9
  have v8:=Ae g (by omega) (fK g p k) (x:Int) (p.outs.getD x []) (by omega) (by omega) (by omega)
  have cD:=G2 (ls:=eV g p k) (k:=x) (l:=cL g p k)
  generalize p.outs.getD x []=o at hv EB yJ hpk G3 v8
  rw [← b9] at cD
  generalize fK g p k=f at EB yJ hpk G3 v8 hi hrl G4
  cases yK:oV g p k with
  |false=>
   rw [G3 yK] at v8
   have P9:=hsk yK
   subst P9
   repeat' (first|refine Rn.p ?_|(with_reducible apply And.intro)|((first|(refine hK _ ?_;clear hK K)|with_reducible intro K hK|refine Rs.p ?_|((with_reducible first|apply oP|apply oQ);exact rfl)|(refine au hX hC hP [(10000,20)] (v8) rfl rfl rfl ?_ ?_ ?_ ?_ ?_ ?_ ?_ ?_ ?_ ?_ ?_ ?_ ?_ ?_;(focus (simp only [go_sem,simprocAttr,hb,iR,hv,kI,vT,List.map_nil];done));(iterate 12 (focus (simp [go_sem,simprocAttr,hb,iR,hv,kI,vT,List.map_nil];done)));try simp only [List.map_cons,List.map_nil]));try simp only [go_sem,simprocAttr,hb,iR,hv,kI,vT,List.map_nil])|((with_reducible refine oD ?_ ?_);kernel_rfl)|((with_reducible intro h);try simp only [go_sem,simprocAttr,hb,iR,hv,kI,vT,List.map_nil] at h)|omega|intro h)
  |true=>
   rw [hpk yK] at v8
   have jR:(az g f (x:Int) o).1.2=0:=rfl
   rw [yJ] at cD
   generalize az g f (x:Int) o=su at EB yJ v8 jR cD
   have I7:x<(eV g p k).length:=by omega
   generalize SS:eV g p k=E at cD I7 hel
   have hvl:(vT E).length=E.length:=vT_length
   have Au:=fun d=>pP I7 d
   repeat' (first|refine Rn.p ?_|(with_reducible apply And.intro)|((first|(refine hK _ ?_;clear hK K)|with_reducible intro K hK|refine Rs.p ?_|((with_reducible first|apply oP|apply oQ);exact rfl)|(refine au hX hC hP [(10000,20)] (v8) rfl rfl rfl ?_ ?_ ?_ ?_ ?_ ?_ ?_ ?_ ?_ ?_ ?_ ?_ ?_ ?_;(focus (simp only [go_sem,simprocAttr,hb,iR,hv,kI,jR,cD,Au,List.drop_succ_cons,List.drop_zero];done));(iterate 12 (focus (simp [go_sem,simprocAttr,hb,iR,hv,kI,jR,cD,Au,List.drop_succ_cons,List.drop_zero];done)));try simp only [List.map_cons,List.map_nil]));try simp only [go_sem,simprocAttr,hb,iR,hv,kI,jR,cD,Au,List.drop_succ_cons,List.drop_zero])|((with_reducible refine oD ?_ ?_);kernel_rfl)|((with_reducible intro h);try simp only [go_sem,simprocAttr,hb,iR,hv,kI,jR,cD,Au,List.drop_succ_cons,List.drop_zero] at h)|omega|intro h)
   refine ⟨k+1,⟨by omega,fun j hj=> ?_⟩, ?_,by omega⟩
   ·by_cases e:j=k
    ·subst e;exact yK
    ·exact hok j (by omega)
   ·rw [EB]
    have G5:(vT E).set x [D.sl 3 (List.map rT su.1.1)]=vT (eV g p (k+1)):=cD
    refine Le.of ?_ ?_<;>simp [go_sem,simprocAttr,hb,iR,hv,kI,jR,cD,Au,List.drop_succ_cons,List.drop_zero,G5]
 have hb:decide ((k:Int)<(p.ord.length:Int))=false:=decide_eq_false (by omega)
 obtain rfl:k=g.n.toNat:=by omega
 rw [fG.2 hok] at hR
 subst hR
 repeat' (first|refine Rn.p ?_|(with_reducible apply And.intro)|((first|(refine hK _ ?_;clear hK K)|with_reducible intro K hK|refine Rs.p ?_|((with_reducible first|apply oP|apply oQ);exact rfl));try simp only [go_sem,simprocAttr,hb,kI])|((with_reducible refine oD ?_ ?_);kernel_rfl)|((with_reducible intro h);try simp only [go_sem,simprocAttr,hb,kI] at h)|omega|intro h)
end Go.Ab
end
section
namespace Go.Ab
open Go.Proofs
attribute [local congr] ACall.congr gd.congr Nx.congr
set_option maxRecDepth 10000
set_option maxHeartbeats 8000000
theorem gR (g:Gr) (hl:g.es.length≤1000) (p:Pl) (hp:l6 p) (b:Bool) (hr:b=true↔(bR g).1=0∧aX g p):
 Spec Tryz.prog 37 (Args [eG g,ePl p]) [] (.tup [.d (.sl 1 (vT (bH b g p).1.1)), .d (sT (bH b g p).1.2),eF ((bH b g p).2.1,(bH b g p).2.2, [])]) []:=by
 by_cases hc:(bR g).1=0
 rotate_left
 ·obtain rfl:b=false:=by
   rw [← Bool.not_eq_true,hr]
   exact fun h=>hc h.1
  have hR:bH false g p=(([], []),(1,0)):=rfl
  rw [hR]
  (refine Spec.hd (C:=T.cfg [] []) (rs:= [.t 4, .t 5, .c 6 66]) (T.aj _ _) Tryz.func37 rfl rfl Tryz.ntmps37 Tryz.results37 (by simp [AObj.isNest]) (by simp [AObj.isNest]) (by kernel_rfl) T.mixed fun X hX hP hC aJ b7=> ?_)
  repeat' (first|refine Rn.p ?_|(with_reducible apply And.intro)|((first|(refine hK _ ?_;clear hK K)|with_reducible intro K hK|refine Rs.p ?_|((with_reducible first|apply oP|apply oQ);exact rfl)|refine aa hX hC hP (Es g hl hc) rfl rfl rfl (by simp only [go_sem,simprocAttr,vT,List.map_nil]) rfl ?_);try simp only [go_sem,simprocAttr,vT,List.map_nil])|((with_reducible refine oD ?_ ?_);kernel_rfl)|((with_reducible intro h);try simp only [go_sem,simprocAttr,vT,List.map_nil] at h)|omega|intro h)
 have hm:=an hc
 have hn:=aH hm
 have hr:b=true↔aX g p:=by rw [hr];exact ⟨fun h=>h.2,fun h=>⟨hc,h⟩⟩
 have hO:=GX g hm p hp b hr
 cases b with
 |false=>
  have hR:bH false g p=(([], []),(1,0)):=rfl
  rw [hR]
  (refine Spec.hd (C:=T.cfg [] []) (rs:= [.t 4, .t 5, .c 6 66]) (T.aj _ _) Tryz.func37 rfl rfl Tryz.ntmps37 Tryz.results37 (by simp [AObj.isNest]) (by simp [AObj.isNest]) (by kernel_rfl) T.mixed fun X hX hP hC aJ b7=> ?_)
  repeat' (first|refine Rn.p ?_|(with_reducible apply And.intro)|((first|(refine hK _ ?_;clear hK K)|with_reducible intro K hK|refine Rs.p ?_|((with_reducible first|apply oP|apply oQ);exact rfl)|(refine jk hX hC hP [(10000,13)] (qA g hl hc hm) rfl rfl rfl ?_ ?_ ?_ ?_ ?_ ?_ ?_ ?_ ?_ ?_ ?_ ?_ ?_ ?_;(focus (simp only [go_sem,simprocAttr,vT,List.map_nil];done));(iterate 12 (focus (simp [go_sem,simprocAttr,vT,List.map_nil];done)));try simp only [List.map_cons,List.map_nil])|refine aa hX hC hP (iJ g hm) rfl rfl rfl (by simp only [go_sem,simprocAttr,vT,List.map_nil]) rfl ?_|refine aa hX hC hP (hO) rfl rfl rfl (by simp only [go_sem,simprocAttr,vT,List.map_nil]) rfl ?_);try simp only [go_sem,simprocAttr,vT,List.map_nil])|((with_reducible refine oD ?_ ?_);kernel_rfl)|((with_reducible intro h);try simp only [go_sem,simprocAttr,vT,List.map_nil] at h)|omega|intro h)
 |true=>
 have sk:=hr.1 rfl
 have hle:=aS sk
 have hR:bH true g p=match jP g p g.n.toNat with
  |some i=>(([], []),(3,(i:Int)))
  |none=>((eV g p g.n.toNat,(fK g p g.n.toNat).row),(0,0)):=rfl
 generalize bH true g p=R at hR
 (refine Spec.hd (C:=T.cfg [] []) (rs:= [.t 4, .t 5, .c 6 66]) (T.aj _ _) Tryz.func37 rfl rfl Tryz.ntmps37 Tryz.results37 (by simp [AObj.isNest]) (by simp [AObj.isNest]) (by kernel_rfl) T.mixed fun X hX hP hC aJ b7=> ?_)
 repeat' (first|(show bW _ (.seq (.region 5 _ _) _) _ _;(refine pH 13 0 3 rfl rfl rfl ?_;simp only [List.set_cons_zero,List.set_cons_succ,go_sem,simprocAttr]);(refine ga hX 13 2 100 (.tip 3 1 []) rfl rfl rfl (by simp only [go_sem,simprocAttr]) (by decide) (by simp [go_sem,simprocAttr]) ⟨3,1,by decide, .inr rfl⟩ ?_;simp only [List.set_cons_zero,List.set_cons_succ,go_sem,simprocAttr]))|refine Rn.p ?_|(with_reducible apply And.intro)|((first|(refine hK _ ?_;clear hK K)|with_reducible intro K hK|refine Rs.p ?_|((with_reducible first|apply oP|apply oQ);exact rfl)|(refine jk hX hC hP [(10000,13)] (qA g hl hc hm) rfl rfl rfl ?_ ?_ ?_ ?_ ?_ ?_ ?_ ?_ ?_ ?_ ?_ ?_ ?_ ?_;(focus (simp only [go_sem,simprocAttr];done));(iterate 12 (focus (simp [go_sem,simprocAttr];done)));try simp only [List.map_cons,List.map_nil])|refine aa hX hC hP (iJ g hm) rfl rfl rfl (by simp only [go_sem,simprocAttr]) rfl ?_|refine aa hX hC hP (hO) rfl rfl rfl (by simp only [go_sem,simprocAttr]) rfl ?_);try simp only [go_sem,simprocAttr])|((with_reducible refine oD ?_ ?_);kernel_rfl)|((with_reducible intro h);try simp only [go_sem,simprocAttr] at h)|omega|intro h)
 rw [G1]
 refine ah (fun k:Nat=>k≤g.n.toNat∧∀j,j<k→oV g p j=true) (fun k=>⟨[(3, .ptr 3 0),(4, .ref 28),(6, .ptr 6 0),(7, .ptr 13 0),(30, .d (sI p.ord)),(31,eN p.ord.length),(32,eN k)], [(28, .own 64 1 (vT (eV g p k))),(13, .box [.d (sT (fK g p k).row), .d (vw g), .ref 100]),(100, .tip 3 1 ((fK g p k).pl.map rI)),(6, .box [eN 0,eN 0, .nil 3]),(3, .box [.d (sI p.ord), .d (.sl 1 (vI p.outs))])]⟩) (fun k=>g.n.toNat - k) 0 (by simp) ?_ ?_
 ·refine Le.of ?_ ?_<;>simp [go_sem,simprocAttr,kI,fK,eV]
 rintro k ⟨hk,hok⟩
 obtain ⟨hi,_,hrl⟩:=bV hm sk hk hok
 have hel:=mP (g:=g) (p:=p) (k:=k)
 have hmul:k*(g.es.length+1)≤64*129:=Nat.mul_le_mul (by omega) (by omega)
 rcases Nat.lt_or_ge k g.n.toNat with hlt|hge
 ·have hb:decide ((k:Int)<(p.ord.length:Int))=true:=decide_eq_true (by omega)
  have I6:=bK sk hlt
  have b9:=xj (g:=g) (p:=p) (k:=k)
  have EB:fK g p (k+1)=(az g (fK g p k) (aD p k) (bQ p (aD p k))).2:=rfl
  have yJ:cL g p k=(az g (fK g p k) (aD p k) (bQ p (aD p k))).1.1:=rfl
  have hpk:=Ah sk hlt
  have G3:=Ai (g:=g) (p:=p) (k:=k)
  have hsk:oV g p k=false→R=(([], []),(3,(k:Int))):=fun h=>by
   rw [hR,oJ.2 ⟨hlt,h,hok⟩]
  have iI:=pT sk I6.1 I6.2
  have iR:p.ord.getD k 0=aD p k:=rfl
  have G4:(fK g p k).pl.length≤64:=by
   rcases JX hi.todR with h|h
   ·omega
   ·rw [h];simp
  obtain ⟨x,hx⟩:∃x:Nat,aD p k=x:=⟨(aD p k).toNat,by omega⟩
  rw [hx] at iR EB yJ hpk G3 I6 iI b9
  have hxl:x<p.outs.length:=by have:=sk.1;omega
  have hv:=eo hxl
  have hla:bQ p (x:Int)=p.outs.getD x []:=by unfold bQ;rw [Int.toNat_natCast]
  rw [hla] at EB yJ hpk G3 iI
  rw [Int.toNat_natCast] at b9
  have v8:=rO g hm (fK g p k) hi (x:Int) (p.outs.getD x []) (by omega) (by omega) (by omega)
  have cD:=G2 (ls:=eV g p k) (k:=x) (l:=cL g p k)
  generalize p.outs.getD x []=o at hv EB yJ hpk G3 v8
  rw [← b9] at cD
  generalize fK g p k=f at EB yJ hpk G3 v8 hi hrl G4
  have I7:x<(eV g p k).length:=by omega
  have hvl:(vT (eV g p k)).length=(eV g p k).length:=vT_length
  cases yK:oV g p k with
  |false=>
   rw [G3 yK] at v8
   simp only at v8
   have P9:=hsk yK
   subst P9
   repeat' (first|refine Rn.p ?_|(with_reducible apply And.intro)|((first|(refine hK _ ?_;clear hK K)|with_reducible intro K hK|refine Rs.p ?_|((with_reducible first|apply oP|apply oQ);exact rfl)|(refine au hX hC hP [(10000,13),(10001,100),(10002,101)] (v8) rfl rfl rfl ?_ ?_ ?_ ?_ ?_ ?_ ?_ ?_ ?_ ?_ ?_ ?_ ?_ ?_;(focus (simp only [go_sem,simprocAttr,hb,iR,hv,jG,qk,List.map_nil];done));(iterate 12 (focus (simp [go_sem,simprocAttr,hb,iR,hv,jG,qk,List.map_nil];done)));try simp only [List.map_cons,List.map_nil]));try simp only [go_sem,simprocAttr,hb,iR,hv,jG,qk,List.map_nil])|((with_reducible refine oD ?_ ?_);kernel_rfl)|((with_reducible intro h);try simp only [go_sem,simprocAttr,hb,iR,hv,jG,qk,List.map_nil] at h)|omega|intro h)
   all_goals rfl
  |true=>
   rw [hpk yK] at v8
   have jR:(az g f (x:Int) o).1.2=0:=rfl
   rw [yJ] at cD
   generalize az g f (x:Int) o=su at EB yJ v8 jR cD
   generalize SS:eV g p k=E at cD I7 hel hvl
   have Au:=fun d=>pP I7 d
   repeat' (first|(show bW _ (.region 11 _ _) _ _;(refine c7 hX 13 2 101 100 rfl rfl rfl (by first|exact .inl rfl|exact .inr rfl) (by decide) (by decide) ?_;simp only [List.set_cons_zero,List.set_cons_succ,go_sem,simprocAttr,hb,iR,hv,jG,qk,jR,cD,Au,List.drop_succ_cons,List.drop_zero]))|refine Rn.p ?_|(with_reducible apply And.intro)|((first|(refine hK _ ?_;clear hK K)|with_reducible intro K hK|refine Rs.p ?_|((with_reducible first|apply oP|apply oQ);exact rfl)|(refine au hX hC hP [(10000,13),(10001,100),(10002,101)] (v8) rfl rfl rfl ?_ ?_ ?_ ?_ ?_ ?_ ?_ ?_ ?_ ?_ ?_ ?_ ?_ ?_;(focus (simp only [go_sem,simprocAttr,hb,iR,hv,jG,qk,jR,cD,Au,List.drop_succ_cons,List.drop_zero];done));(iterate 12 (focus (simp [go_sem,simprocAttr,hb,iR,hv,jG,qk,jR,cD,Au,List.drop_succ_cons,List.drop_zero];done)));try simp only [List.map_cons,List.map_nil]));try simp only [go_sem,simprocAttr,hb,iR,hv,jG,qk,jR,cD,Au,List.drop_succ_cons,List.drop_zero])|((with_reducible refine oD ?_ ?_);kernel_rfl)|((with_reducible intro h);try simp only [go_sem,simprocAttr,hb,iR,hv,jG,qk,jR,cD,Au,List.drop_succ_cons,List.drop_zero] at h)|omega|intro h)
   refine ⟨k+1,⟨by omega,fun j hj=> ?_⟩, ?_,by omega⟩
   ·by_cases e:j=k
    ·subst e;exact yK
    ·exact hok j (by omega)
   ·rw [EB]
    have G5:(vT E).set x [D.sl 3 (List.map rT su.1.1)]=vT (eV g p (k+1)):=cD
    refine Le.of ?_ ?_<;>simp [go_sem,simprocAttr,hb,iR,hv,jG,qk,jR,cD,Au,List.drop_succ_cons,List.drop_zero,G5]
 have hb:decide ((k:Int)<(p.ord.length:Int))=false:=decide_eq_false (by omega)
 obtain rfl:k=g.n.toNat:=by omega
 rw [fG.2 hok] at hR
 subst hR
 repeat' (first|refine Rn.p ?_|(with_reducible apply And.intro)|((first|(refine hK _ ?_;clear hK K)|with_reducible intro K hK|refine Rs.p ?_|((with_reducible first|apply oP|apply oQ);exact rfl)|(refine mG hX hC hP 60 (Ep [vw g,sI (fK g p g.n.toNat).pl] (fK g p g.n.toNat).row (by omega)) rfl rfl rfl ?_ ?_ (by first|exact ⟨_,_,_,rfl,rD⟩|exact ⟨_,_,_,rfl,rH⟩|exact ⟨_,_,_,rfl,rL⟩) rfl (by decide) ?_;(iterate 2 (focus (simp only [go_sem,simprocAttr,hb];done)));simp only [go_sem,simprocAttr,hb]));try simp only [go_sem,simprocAttr,hb])|((with_reducible refine oD ?_ ?_);kernel_rfl)|((with_reducible intro h);try simp only [go_sem,simprocAttr,hb] at h)|omega|intro h)
end Go.Ab
end
section
namespace Go.Ab
open Go.Proofs
attribute [local congr] ACall.congr gd.congr Nx.congr
set_option maxRecDepth 10000
set_option maxHeartbeats 8000000
def xk (n:Int) (es:List Edge) (ord:List Int) (O:List (List Int)):List (Nat × AObj):= [(10000, .box [eN n, .ref 10001, .ref 10002, .ref 10003]),(10001, .tip 73 2 (es.map rE)),(10002, .tip 3 1 (ord.map rI)),(10003, .own 31 1 (vI O))]
def xm (n:Int) (es:List Edge) (ord:List Int) (O:List (List Int)):List (Nat × AObj):= [(10000, .box [eN n, .ref 10004, .ref 10002, .ref 10003]),(10004, .tip 73 2 (es.map rE)),(10002, .tip 3 1 (ord.map rI)),(10003, .own 31 1 (vI O))]
def fH (x:Int) (items:List It):List Edge:=(loose items).map fun v=>(v,x)
theorem G6 {x:Int} {a b:List It} :fH x (a++b)=fH x a++fH x b:=by simp [fH,bZ]
theorem La {ls:List (List Int)} {k:Nat} {l:List Int} :(vI ls).set k [sI l]=vI (ls.set k l):=by simp [vI,List.map_set]
theorem xo {items:List It} :(loose items).length≤items.length:=by
 unfold loose
 rw [List.length_map]
 exact List.length_filter_le _ _
theorem Av (n:Int) (es:List Edge) (ord:List Int) (O:List (List Int)) (x:Int) (items:List It) (hl:es.length+items.length≤100000) (hO:∀v∈loose items,0≤v∧v<O.length):
 Spec Tryz.prog 117 (Args [.ptr 10000 0,eN x, .d (sT items)]) (xk n es ord O) (.tup []) (xm n (es++fH x items) ord (dx es.length (fH x items) O)):=by
 unfold xk xm
 (refine Spec.uf (C:=T.cfg [] []) (rs:= []) [(10004,50)] (T.aj _ _) Tryz.func117 rfl rfl Tryz.ntmps117 Tryz.results117 (by simp [AObj.isNest]) (by simp [AObj.isNest]) (by first|(simp [look];done)|(simp [asN];done)|(intro l hl;simp only [asN];repeat (rw [if_neg (fun e=>by subst e;simp [look] at hl)]))) (by first|(simp [look];done)|(simp [asN];done)|(intro l hl;simp only [asN];repeat (rw [if_neg (fun e=>by subst e;simp [look] at hl)]))) (by kernel_rfl) T.mixed fun X hX hP hC aJ b7=> ?_)
 repeat' (first|refine Rn.p ?_|(with_reducible apply And.intro)|((first|(refine hK _ ?_;clear hK K)|with_reducible intro K hK|refine Rs.p ?_|((with_reducible first|apply oP|apply oQ);exact rfl));try simp only [go_sem,simprocAttr])|((with_reducible refine oD ?_ ?_);kernel_rfl)|((with_reducible intro h);try simp only [go_sem,simprocAttr] at h)|omega|intro h)
 (refine c7 hX 10000 1 10001 50 rfl rfl rfl (by first|exact .inl rfl|exact .inr rfl) (by decide) (by decide) ?_;simp only [List.set_cons_zero,List.set_cons_succ,go_sem,simprocAttr])
 refine ah (fun k:Nat=>k≤items.length) (fun k=>⟨[(0, .ptr 10000 0),(1,eN x),(8, .d (sT items)),(9,eN items.length),(10,eN k)], [(10000, .box [eN n, .ref 50, .ref 10002, .ref 10003]),(50, .tip 73 2 ((es++fH x (items.take k)).map rE)),(10002, .tip 3 1 (ord.map rI)),(10003, .own 31 1 (vI (dx es.length (fH x (items.take k)) O)))]⟩) (fun k=>items.length - k) 0 (by simp) ?_ ?_
 ·refine Le.of ?_ ?_<;>simp [go_sem,simprocAttr,fH,loose,dx]
 rintro k hk
 rcases Nat.lt_or_ge k items.length with hlt|hge
 ·have hb:decide ((k:Int)<(items.length:Int))=true:=decide_eq_true (by omega)
  have mO:items.take (k+1)=items.take k++ [items.getD k (0,0,0)]:=xe hlt
  have SU:=aE (d:=(0,0,0)) hlt
  have tE:fH x (items.take (k+1))=fH x (items.take k)++fH x [items.getD k (0,0,0)]:=by rw [mO,G6]
  have Q3:(items.getD k (0,0,0)).1<0→0≤(items.getD k (0,0,0)).2.1∧(items.getD k (0,0,0)).2.1<O.length:=fun h=>hO _ (by
   unfold loose
   exact List.mem_map.2 ⟨_,List.mem_filter.2 ⟨SU,decide_eq_true h⟩,rfl⟩)
  have iI:(fH x (items.take k)).length≤k:=by
   unfold fH
   rw [List.length_map]
   refine Nat.le_trans xo ?_
   rw [List.length_take];omega
  have H8:=pV (m:=es.length) (N:=fH x (items.take k)) (M:=fH x [items.getD k (0,0,0)]) (O:=O)
  have N3:(dx es.length (fH x (items.take k)) O).length=O.length:=iu
  rw [← tE] at H8
  generalize mY:items.getD k (0,0,0)=t at tE Q3 H8
  generalize dx es.length (fH x (items.take k)) O=O' at H8 N3
  generalize fH x (items.take k)=N at tE iI H8
  by_cases h0:0≤t.1
  ·have hb1:decide (0≤t.1)=true:=decide_eq_true h0
   have he:fH x [t]= []:=by
    have:¬t.1<0:=by omega
    simp [fH,loose,this]
   rw [he] at tE H8
   rw [List.append_nil] at tE
   repeat' (first|refine Rn.p ?_|(with_reducible apply And.intro)|((first|(refine hK _ ?_;clear hK K)|with_reducible intro K hK|refine Rs.p ?_|((with_reducible first|apply oP|apply oQ);exact rfl));try simp only [go_sem,simprocAttr,hb,hb1,mY])|((with_reducible refine oD ?_ ?_);kernel_rfl)|((with_reducible intro h);try simp only [go_sem,simprocAttr,hb,hb1,mY] at h)|omega|intro h)
   refine ⟨k+1,by omega, ?_,by omega⟩
   rw [H8,tE]
   refine Le.of ?_ ?_<;>simp [go_sem,simprocAttr,hb,hb1,mY,dx]
  ·have hb1:decide (0≤t.1)=false:=decide_eq_false h0
   have he:fH x [t]= [(t.2.1,x)]:=by
    have:t.1<0:=by omega
    simp [fH,loose,this]
   rw [he] at tE H8
   obtain ⟨Ma,DT⟩:=Q3 (by omega)
   obtain ⟨vn,K8⟩:∃vn:Nat,t.2.1=vn:=⟨t.2.1.toNat,by omega⟩
   have hvl:vn<O'.length:=by omega
   have Au:=fun d=>eo hvl d
   have Qa:dx es.length (fH x (items.take (k+1))) O=O'.set vn [((es.length+N.length:Nat):Int)]:=by
    rw [H8,K8]
    show O'.set ((vn:Int).toNat) _=_
    rw [Int.toNat_natCast]
   rw [K8] at tE
   have hrow:rI ((es.length:Int)+(N.length:Int))= [D.sc (.int .i64 ((es.length:Int)+(N.length:Int)))]:=rfl
   have cD:=La (ls:=O') (k:=vn) (l:= [((es.length+N.length:Nat):Int)])
   repeat' (first|(show bW _ (.region 6 _ _) _ _;(refine c7 hX 10000 1 43 50 rfl rfl rfl (by first|exact .inl rfl|exact .inr rfl) (by decide) (by decide) ?_;simp only [List.set_cons_zero,List.set_cons_succ,go_sem,simprocAttr,hb,hb1,mY,K8,Au,List.drop_succ_cons,List.drop_zero,List.length_append]))|refine Rn.p ?_|(with_reducible apply And.intro)|((first|(refine hK _ ?_;clear hK K)|with_reducible intro K hK|refine Rs.p ?_|((with_reducible first|apply oP|apply oQ);exact rfl));try simp only [go_sem,simprocAttr,hb,hb1,mY,K8,Au,List.drop_succ_cons,List.drop_zero,List.length_append])|((with_reducible refine oD ?_ ?_);kernel_rfl)|((with_reducible intro h);try simp only [go_sem,simprocAttr,hb,hb1,mY,K8,Au,List.drop_succ_cons,List.drop_zero,List.length_append] at h)|omega|intro h)
   refine ⟨k+1,by omega, ?_,by omega⟩
   rw [Qa,tE]
   refine Le.of ?_ ?_<;>simp [go_sem,simprocAttr,hb,hb1,mY,K8,Au,List.drop_succ_cons,List.drop_zero,List.length_append]
   refine ⟨rfl, ?_⟩
   simp only [Int.natCast_add] at cD
   exact cD
 ·have hb:decide ((k:Int)<(items.length:Int))=false:=decide_eq_false (by omega)
  obtain rfl:k=items.length:=by omega
  have ht:items.take items.length=items:=List.take_length
  repeat' (first|refine Rn.p ?_|(with_reducible apply And.intro)|((first|(refine hK _ ?_;clear hK K)|with_reducible intro K hK|refine Rs.p ?_|((with_reducible first|apply oP|apply oQ);exact rfl));try simp only [go_sem,simprocAttr,hb,ht])|((with_reducible refine oD ?_ ?_);kernel_rfl)|((with_reducible intro h);try simp only [go_sem,simprocAttr,hb,ht] at h)|omega|intro h)
end Go.Ab
end
section
namespace Go.Ab
open Go.Proofs
attribute [local congr] ACall.congr gd.congr Nx.congr
set_option maxRecDepth 10000
set_option maxHeartbeats 16000000
theorem yL (ps:List Edge) (hl:ps.length≤1000000):
 Spec Tryz.prog 97 (Args [.d (sE ps)]) [] (.ref 10000) [(10000, .tip 73 2 (ps.map rE))]:=by
 (refine Spec.uf (C:=T.cfg [] []) (rs:= [.t 2]) [(10000,7)] (T.aj _ _) Tryz.func97 rfl rfl Tryz.ntmps97 Tryz.results97 (by simp [AObj.isNest]) (by simp [AObj.isNest]) (by first|(simp [look];done)|(simp [asN];done)|(intro l hl;simp only [asN];repeat (rw [if_neg (fun e=>by subst e;simp [look] at hl)]))) (by first|(simp [look];done)|(simp [asN];done)|(intro l hl;simp only [asN];repeat (rw [if_neg (fun e=>by subst e;simp [look] at hl)]))) (by kernel_rfl) T.mixed fun X hX hP hC aJ b7=> ?_)
 repeat' (first|(show bW _ .ret _ _;(try simp only [go_sem,simprocAttr]);refine dX hX 2 7 (.tip 73 2 []) ?_ ?_ (by decide) ⟨73,2,by decide, .inr rfl⟩ ?_;(iterate 2 (focus (simp only [go_sem,simprocAttr];done)));simp only [go_sem,simprocAttr])|refine Rn.p ?_|(with_reducible apply And.intro)|((first|(refine hK _ ?_;clear hK K)|with_reducible intro K hK|refine Rs.p ?_|((with_reducible first|apply oP|apply oQ);exact rfl));try simp only [go_sem,simprocAttr])|((with_reducible refine oD ?_ ?_);kernel_rfl)|((with_reducible intro h);try simp only [go_sem,simprocAttr] at h)|omega|intro h)
 exact h.symm
def pz:Pl:=⟨[], []⟩
def lR (b:Bool) (g:Gr) (p:Pl):Gr × Pl × Int:=
 if (bH b g p).2.1≠0 then (gz,pz,1) else if 64<(ag g p).n∨128<(ag g p).es.length then (gz,pz,10) else (ag g p,bC g p,0)
theorem kR {b:Bool} {g:Gr} {p:Pl} (hr:b=true↔(bR g).1=0∧aX g p) (h:(bH b g p).2.1=0):aR g p∧bH b g p=((eV g p g.n.toNat,aY g p),(0,0)):=by
 cases b with
 |false=>simp [bH] at h
 |true=>
  have hR:bH true g p=match jP g p g.n.toNat with
   |some i=>(([], []),(3,(i:Int)))
   |none=>((eV g p g.n.toNat,(fK g p g.n.toNat).row),(0,0)):=rfl
  cases hs:jP g p g.n.toNat with
  |some i=>rw [hR,hs] at h;simp at h
  |none=>
   obtain ⟨h1,h2⟩:=hr.1 rfl
   exact ⟨⟨h1,h2,fG.1 hs⟩,by rw [hR,hs];rfl⟩
theorem EC {g:Gr} {p:Pl} {k:Nat} :cx g p (k+1)=cx g p k++fH (aD p k) (cL g p k):=rfl
theorem C8 {g:Gr} {p:Pl} (hr:aR g p) {k:Nat} (hk:k≤g.n.toNat):(cx g p k).length≤g.n.toNat∧∀e∈cx g p k,0≤e.1∧e.1<g.n:=by
 obtain ⟨hc,h,hok⟩:=hr
 have hm:=an hc
 obtain ⟨h1,h2⟩:=kP hm h hk fun j hj=>hok j (by omega)
 obtain ⟨hi,_⟩:=bV hm h hk fun j hj=>hok j (by omega)
 have hv:∀v∈(cx g p k).map (·.1),0≤v∧v<g.n:=fun v hv=>hi.qB v (h2 v (List.mem_append_left _ hv)).1
 refine ⟨?_,fun e he=>hv _ (List.mem_map.2 ⟨e,he,rfl⟩)⟩
 have:=jy (List.nodup_append.1 h1).1 (m:=eC g.n.toNat) fun v Iu=>dh.2 (by have:=hv v Iu;omega)
 rw [kO,List.length_map] at this
 exact this
theorem yM (g:Gr) (hl:g.es.length≤1000) (p:Pl) (hp:l6 p) (hp1:p.ord.length≤1000) (hp2:p.outs.length≤1000) (Qb:∀l∈p.outs,l.length≤1000) (b:Bool) (hr:b=true↔(bR g).1=0∧aX g p):
 Spec Tryz.prog 75 (Args [eG g,ePl p]) [] (.tup [eG (lR b g p).1,ePl (lR b g p).2.1,eN (lR b g p).2.2]) []:=by
 have hO:=gR g hl p hp b hr
 by_cases h0:(bH b g p).2.1=0
 rotate_left
 ·have G7:lR b g p=(gz,pz,1):=if_pos h0
  rw [G7]
  have hb1:decide ((bH b g p).2.1=0)=false:=decide_eq_false h0
  (refine Spec.hd (C:=T.cfg [] []) (rs:= [.c 4 24, .c 5 34, .t 6]) (T.aj _ _) Tryz.func75 rfl rfl Tryz.ntmps75 Tryz.results75 (by simp [AObj.isNest]) (by simp [AObj.isNest]) (by kernel_rfl) T.mixed fun X hX hP hC aJ b7=> ?_)
  repeat' (first|refine Rn.p ?_|(with_reducible apply And.intro)|((first|(refine hK _ ?_;clear hK K)|with_reducible intro K hK|refine Rs.p ?_|((with_reducible first|apply oP|apply oQ);exact rfl)|refine aa hX hC hP (hO) rfl rfl rfl (by simp only [go_sem,simprocAttr,hb1,gz,pz,vI,List.map_nil]) rfl ?_);try simp only [go_sem,simprocAttr,hb1,gz,pz,vI,List.map_nil])|((with_reducible refine oD ?_ ?_);kernel_rfl)|((with_reducible intro h);try simp only [go_sem,simprocAttr,hb1,gz,pz,vI,List.map_nil] at h)|omega|intro h)
 obtain ⟨hrun,hR⟩:=kR hr h0
 rw [hR] at hO
 simp only at hO
 have G7:lR b g p=if 64<(ag g p).n∨128<(ag g p).es.length then (gz,pz,10) else (ag g p,bC g p,0):=by
  unfold lR;rw [if_neg (by rw [h0];simp)]
 generalize lR b g p=AR at G7
 have hm:=an hrun.1
 have hn:=aH hm
 have sk:=hrun.2.1
 have hle:=aS sk
 have sG:=sk.1
 (refine Spec.hd (C:=T.cfg [55,98] []) (rs:= [.c 4 24, .c 5 34, .t 6]) (T.aj _ _) Tryz.func75 rfl rfl Tryz.ntmps75 Tryz.results75 (by simp [AObj.isNest]) (by simp [AObj.isNest]) (by kernel_rfl) T.mixed fun X hX hP hC aJ b7=> ?_)
 repeat' (first|(show bW _ (.seq (.region 5 _ _) _) _ _;(refine c7 hX 38 1 31 200 rfl rfl rfl (by first|exact .inl rfl|exact .inr rfl) (by decide) (by decide) ?_;simp only [List.set_cons_zero,List.set_cons_succ,go_sem,simprocAttr]);(refine ga hX 38 3 201 (.own 31 1 []) rfl rfl rfl (by simp only [go_sem,simprocAttr]) (by decide) (by simp [go_sem,simprocAttr]) ⟨31,1,by decide, .inl rfl⟩ ?_;simp only [List.set_cons_zero,List.set_cons_succ,go_sem,simprocAttr]))|refine Rn.p ?_|(with_reducible apply And.intro)|((first|(refine hK _ ?_;clear hK K)|with_reducible intro K hK|refine Rs.p ?_|((with_reducible first|apply oP|apply oQ);exact rfl)|refine aa hX hC hP (hO) rfl rfl rfl (by simp only [go_sem,simprocAttr]) rfl ?_|(refine jk hX hC hP [(10000,31)] (yL g.es (by omega)) rfl rfl rfl ?_ ?_ ?_ ?_ ?_ ?_ ?_ ?_ ?_ ?_ ?_ ?_ ?_ ?_;(focus (simp only [go_sem,simprocAttr];done));(iterate 12 (focus (simp [go_sem,simprocAttr];done)));try simp only [List.map_cons,List.map_nil])|(refine jk hX hC hP [(10000,35)] (yC p.ord (by omega)) rfl rfl rfl ?_ ?_ ?_ ?_ ?_ ?_ ?_ ?_ ?_ ?_ ?_ ?_ ?_ ?_;(focus (simp only [go_sem,simprocAttr];done));(iterate 12 (focus (simp [go_sem,simprocAttr];done)));try simp only [List.map_cons,List.map_nil]));try simp only [go_sem,simprocAttr])|((with_reducible refine oD ?_ ?_);kernel_rfl)|((with_reducible intro h);try simp only [go_sem,simprocAttr] at h)|omega|intro h)
 refine ah (fun x:Nat=>x≤p.outs.length) (fun x=>⟨[(2, .ptr 2 0),(3, .ptr 3 0),(4, .ptr 4 0),(5, .ptr 5 0),(7, .d (.sl 1 (vT (eV g p g.n.toNat)))),(8, .d (sT (aY g p))),(10, .ptr 38 0),(40, .d (.sl 1 (vI p.outs))),(41,eN p.outs.length),(42,eN x)], [(2, .box [eN g.n, .d (sE g.es)]),(3, .box [.d (sI p.ord), .d (.sl 1 (vI p.outs))]),(4, .box [eN 0, .nil 73]),(5, .box [.nil 3, .nil 31]),(38, .box [eN g.n, .ref 200, .ref 35, .ref 201]),(200, .tip 73 2 (g.es.map rE)),(35, .tip 3 1 (p.ord.map rI)),(201, .own 31 1 (vI (p.outs.take x)))]⟩) (fun x=>p.outs.length - x) 0 (by simp) ?_ ?_
 ·refine Le.of ?_ ?_<;>simp [go_sem,simprocAttr,vI]
 rintro x hx
 rcases Nat.lt_or_ge x p.outs.length with hxl|N5
 ·have hb:decide ((x:Int)<(p.outs.length:Int))=true:=decide_eq_true (by omega)
  have hv:=eo hxl
  have iI:=Qb _ (aE (d:= []) hxl)
  have mO:vI (p.outs.take (x+1))=vI (p.outs.take x)++ [[sI (p.outs.getD x [])]]:=by
   unfold vI
   rw [lN (d:= []) hxl]
  have htl:(p.outs.take x).length=x:=by rw [List.length_take];omega
  have Ng:=gZ (p.outs.getD x []) (by omega)
  generalize p.outs.getD x []=l at hv iI mO Ng
  repeat' (first|(show bW _ (.region 9 _ _) _ _;(refine c7 hX 38 3 55 201 rfl rfl rfl (by first|exact .inl rfl|exact .inr rfl) (by decide) (by decide) ?_;simp only [List.set_cons_zero,List.set_cons_succ,go_sem,simprocAttr,hb,hv,htl]))|refine Rn.p ?_|(with_reducible apply And.intro)|((first|(refine hK _ ?_;clear hK K)|with_reducible intro K hK|refine Rs.p ?_|((with_reducible first|apply oP|apply oQ);exact rfl)|refine aa hX hC hP (Ng) rfl rfl rfl (by simp only [go_sem,simprocAttr,hb,hv,htl]) rfl ?_);try simp only [go_sem,simprocAttr,hb,hv,htl])|((with_reducible refine oD ?_ ?_);kernel_rfl)|((with_reducible intro h);try simp only [go_sem,simprocAttr,hb,hv,htl] at h)|omega|intro h)
  refine ⟨x+1,by omega, ?_,by omega⟩
  rw [mO]
  refine Le.of ?_ ?_<;>simp [go_sem,simprocAttr,hb,hv,htl]
 have hb:decide ((x:Int)<(p.outs.length:Int))=false:=decide_eq_false (by omega)
 obtain rfl:x=p.outs.length:=by omega
 repeat' (first|refine Rn.p ?_|(with_reducible apply And.intro)|((first|(refine hK _ ?_;clear hK K)|with_reducible intro K hK|refine Rs.p ?_|((with_reducible first|apply oP|apply oQ);exact rfl)|refine aa hX hC hP (Ng) rfl rfl rfl (by simp only [go_sem,simprocAttr,hb,List.take_length]) rfl ?_);try simp only [go_sem,simprocAttr,hb,List.take_length])|((with_reducible refine oD ?_ ?_);kernel_rfl)|((with_reducible intro h);try simp only [go_sem,simprocAttr,hb,List.take_length] at h)|omega|intro h)
 clear hb hx
 refine ah (fun k:Nat=>k≤g.n.toNat) (fun k=>⟨[(2, .ptr 2 0),(4, .ptr 4 0),(5, .ptr 5 0),(7, .d (.sl 1 (vT (eV g p g.n.toNat)))),(8, .d (sT (aY g p))),(10, .ptr 38 0),(61, .d (sI p.ord)),(62,eN p.ord.length),(63,eN k)], [(2, .box [eN g.n, .d (sE g.es)]),(4, .box [eN 0, .nil 73]),(5, .box [.nil 3, .nil 31]),(38, .box [eN g.n, .ref 200, .ref 35, .ref 201]),(200, .tip 73 2 ((g.es++cx g p k).map rE)),(35, .tip 3 1 (p.ord.map rI)),(201, .own 31 1 (vI (dx g.es.length (cx g p k) p.outs)))]⟩) (fun k=>g.n.toNat - k) 0 (by simp) ?_ ?_
 ·refine Le.of ?_ ?_<;>simp [go_sem,simprocAttr,cx,dx]
 rintro k hk
 obtain ⟨hnl,KY⟩:=C8 hrun hk
 have N3:(dx g.es.length (cx g p k) p.outs).length=p.outs.length:=iu
 rcases Nat.lt_or_ge k g.n.toNat with cm|Ir
 ·have hb:decide ((k:Int)<(p.ord.length:Int))=true:=decide_eq_true (by omega)
  have I6:=bK sk cm
  have LJ:=yG sk (k:=g.n.toNat) (Nat.le_refl _) cm
  have iR:p.ord.getD k 0=aD p k:=rfl
  have b9:=EC (g:=g) (p:=p) (k:=k)
  obtain ⟨Aw,Qc⟩:=C8 hrun (k:=k+1) (by omega)
  have Bi:(cL g p k).length≤(fK g p k).row.length:=by unfold cL az;simp;omega
  obtain ⟨_,_,hrl⟩:=bV hm sk (k:=k) (by omega) fun j hj=>hrun.2.2 j (by omega)
  have hmul:k*(g.es.length+1)≤64*129:=Nat.mul_le_mul (by omega) (by omega)
  have H8:dx g.es.length (cx g p (k+1)) p.outs=dx (g.es++cx g p k).length (fH (aD p k) (cL g p k)) (dx g.es.length (cx g p k) p.outs):=by
   rw [b9,pV,List.length_append]
  have Fj:=Av g.n (g.es++cx g p k) p.ord (dx g.es.length (cx g p k) p.outs) (aD p k) (cL g p k) (by rw [List.length_append];omega) (fun v hv=>by
   have:=Qc (v,aD p k) (by rw [b9];exact List.mem_append_right _ (List.mem_map.2 ⟨v,hv,rfl⟩))
   simp only at this
   omega)
  rw [← H8] at Fj
  have Bk:g.es++cx g p k++fH (aD p k) (cL g p k)=g.es++cx g p (k+1):=by rw [b9,List.append_assoc]
  rw [Bk] at Fj
  obtain ⟨x,hx⟩:∃x:Nat,aD p k=x:=⟨(aD p k).toNat,by omega⟩
  rw [hx] at iR LJ Fj I6
  rw [Int.toNat_natCast] at LJ
  have hel:=mP (g:=g) (p:=p) (k:=g.n.toNat)
  have I7:x<(eV g p g.n.toNat).length:=by omega
  have Lb:=pP I7
  rw [LJ] at Lb
  have hvl:(vT (eV g p g.n.toNat)).length=(eV g p g.n.toNat).length:=vT_length
  repeat' (first|(show bW _ (.region 14 _ _) _ _;(refine c7 hX 38 1 202 200 rfl rfl rfl (by first|exact .inl rfl|exact .inr rfl) (by decide) (by decide) ?_;simp only [List.set_cons_zero,List.set_cons_succ,go_sem,simprocAttr,hb,iR,Lb,hvl,xk,xm]))|refine Rn.p ?_|(with_reducible apply And.intro)|((first|(refine hK _ ?_;clear hK K)|with_reducible intro K hK|refine Rs.p ?_|((with_reducible first|apply oP|apply oQ);exact rfl)|(refine au hX hC hP [(10000,38),(10001,200),(10002,35),(10003,201),(10004,202)] (Fj) rfl rfl rfl ?_ ?_ ?_ ?_ ?_ ?_ ?_ ?_ ?_ ?_ ?_ ?_ ?_ ?_;(focus (simp only [go_sem,simprocAttr,hb,iR,Lb,hvl,xk,xm];done));(iterate 12 (focus (simp [go_sem,simprocAttr,hb,iR,Lb,hvl,xk,xm];done)));try simp only [List.map_cons,List.map_nil]));try simp only [go_sem,simprocAttr,hb,iR,Lb,hvl,xk,xm])|((with_reducible refine oD ?_ ?_);kernel_rfl)|((with_reducible intro h);try simp only [go_sem,simprocAttr,hb,iR,Lb,hvl,xk,xm] at h)|omega|intro h)
  refine ⟨k+1,by omega, ?_,by omega⟩
  refine Le.of ?_ ?_<;>simp [go_sem,simprocAttr,hb,iR,Lb,hvl,xk,xm]
 have hb:decide ((k:Int)<(p.ord.length:Int))=false:=decide_eq_false (by omega)
 obtain rfl:k=g.n.toNat:=by omega
 by_cases h1:1<(aY g p).length
 ·have hb1:decide ((1:Int)<((aY g p).length:Int))=true:=decide_eq_true (by omega)
  obtain ⟨_,_,hrl⟩:=bV hm sk (k:=g.n.toNat) (Nat.le_refl _) hrun.2.2
  have hmul:g.n.toNat*(g.es.length+1)≤64*129:=Nat.mul_le_mul (by omega) (by omega)
  have hrl:(aY g p).length≤g.n.toNat*(g.es.length+1):=hrl
  obtain ⟨tG,C6⟩:=er hrun
  have Aw:newL g p=fH g.n (aY g p):=if_pos h1
  have Fj:=Av (g.n+1) (g.es++cx g p g.n.toNat) (p.ord++ [g.n]) (dx g.es.length (cx g p g.n.toNat) p.outs++ [[]]) g.n (aY g p) (by rw [List.length_append];omega) (fun v hv=>by
   have:=(C6 (v,g.n) (by unfold aV;rw [Aw];exact List.mem_append_right _ (List.mem_map.2 ⟨v,hv,rfl⟩))).1
   simp only at this
   rw [List.length_append,iu];omega)
  have hq:dx (g.es++cx g p g.n.toNat).length (fH g.n (aY g p)) (dx g.es.length (cx g p g.n.toNat) p.outs++ [[]])=(bC g p).outs:=by
   show _=dx g.es.length (aV g p) (if 1<(aY g p).length then p.outs++ [[]] else p.outs)
   have tE:=xh (m:=g.es.length) (N:=cx g p g.n.toNat) (O:=p.outs) (fun e he=>by
    have:=KY e he
    omega)
   rw [if_pos h1,aV,Aw,pV,List.length_append,tE]
  have he:g.es++cx g p g.n.toNat++fH g.n (aY g p)=(ag g p).es:=by
   show _=g.es++aV g p
   rw [aV,Aw,List.append_assoc]
  have ho:p.ord++ [g.n]=(bC g p).ord:=(if_pos h1).symm
  have hg:g.n+1=(ag g p).n:=(if_pos h1).symm
  have hvs:vI (dx g.es.length (cx g p g.n.toNat) p.outs)++ [[D.sl 1 []]]=vI (dx g.es.length (cx g p g.n.toNat) p.outs++ [[]]):=by simp [vI,sI]
  have hos:p.ord.map rI++ [[D.sc (.int .i64 g.n)]]=(p.ord++ [g.n]).map rI:=by simp [rI]
  rw [hq,he] at Fj
  have ym:(ag g p).es.length≤1000:=by
   rw [← he,List.length_append,List.length_append]
   have:(fH g.n (aY g p)).length≤g.n.toNat:=by
    have:=jy (List.nodup_append.1 (by rw [aV,List.map_append] at tG;exact tG)).2.1 (m:=eC g.n.toNat) fun v Iu=>dh.2 (by
     obtain ⟨e,he,rfl⟩:=List.mem_map.1 Iu
     have:=(C6 e (List.mem_append_right _ he)).1
     omega)
    rw [kO,List.length_map,Aw] at this
    exact this
   omega
  have I8:AR=if 64<(ag g p).n∨128<(ag g p).es.length then (gz,pz,10) else (ag g p,bC g p,0):=G7
  clear G7
  have QO:(bC g p).outs.length=(bC g p).outs.length:=rfl
  have Km:bC g p=⟨(bC g p).ord,(bC g p).outs⟩:=rfl
  generalize ag g p=G at he hg Fj I8 ym
  rw [ho] at Fj hos
  generalize bC g p=Q at hq ho Fj I8 hos
  by_cases h2:64<G.n
  ·have hb2:decide (64<G.n)=true:=decide_eq_true h2
   rw [if_pos (.inl h2)] at I8
   subst I8
   repeat' (first|refine Rn.p ?_|(with_reducible apply And.intro)|((first|(refine hK _ ?_;clear hK K)|with_reducible intro K hK|refine Rs.p ?_|((with_reducible first|apply oP|apply oQ);exact rfl)|(refine au hX hC hP [(10000,38),(10001,200),(10002,87),(10003,98),(10004,203)] (Fj) rfl rfl rfl ?_ ?_ ?_ ?_ ?_ ?_ ?_ ?_ ?_ ?_ ?_ ?_ ?_ ?_;(focus (simp only [go_sem,simprocAttr,hb,hb1,hb2,xk,xm,hvs,hos,hg,gz,pz,vI,List.map_nil];done));(iterate 12 (focus (simp [go_sem,simprocAttr,hb,hb1,hb2,xk,xm,hvs,hos,hg,gz,pz,vI,List.map_nil];done)));try simp only [List.map_cons,List.map_nil]));try simp only [go_sem,simprocAttr,hb,hb1,hb2,xk,xm,hvs,hos,hg,gz,pz,vI,List.map_nil])|((with_reducible refine oD ?_ ?_);kernel_rfl)|((with_reducible intro h);try simp only [go_sem,simprocAttr,hb,hb1,hb2,xk,xm,hvs,hos,hg,gz,pz,vI,List.map_nil] at h)|omega|intro h)
  ·have hb2:decide (64<G.n)=false:=decide_eq_false h2
   by_cases h3:128<G.es.length
   ·have hb3:decide (128<(G.es.length:Int))=true:=decide_eq_true (by omega)
    rw [if_pos (.inr h3)] at I8
    subst I8
    repeat' (first|refine Rn.p ?_|(with_reducible apply And.intro)|((first|(refine hK _ ?_;clear hK K)|with_reducible intro K hK|refine Rs.p ?_|((with_reducible first|apply oP|apply oQ);exact rfl)|(refine au hX hC hP [(10000,38),(10001,200),(10002,87),(10003,98),(10004,203)] (Fj) rfl rfl rfl ?_ ?_ ?_ ?_ ?_ ?_ ?_ ?_ ?_ ?_ ?_ ?_ ?_ ?_;(focus (simp only [go_sem,simprocAttr,hb,hb1,hb2,hb3,xk,xm,hvs,hos,hg,gz,pz];done));(iterate 12 (focus (simp [go_sem,simprocAttr,hb,hb1,hb2,hb3,xk,xm,hvs,hos,hg,gz,pz];done)));try simp only [List.map_cons,List.map_nil]));try simp only [go_sem,simprocAttr,hb,hb1,hb2,hb3,xk,xm,hvs,hos,hg,gz,pz])|((with_reducible refine oD ?_ ?_);kernel_rfl)|((with_reducible intro h);try simp only [go_sem,simprocAttr,hb,hb1,hb2,hb3,xk,xm,hvs,hos,hg,gz,pz] at h)|omega|intro h)
    all_goals rfl
   ·have hb3:decide (128<(G.es.length:Int))=false:=decide_eq_false (by omega)
    rw [if_neg (by rintro (h|h);exact h2 h;exact h3 h)] at I8
    subst I8
    repeat' (first|refine Rn.p ?_|(with_reducible apply And.intro)|((first|(refine hK _ ?_;clear hK K)|with_reducible intro K hK|refine Rs.p ?_|((with_reducible first|apply oP|apply oQ);exact rfl)|(refine au hX hC hP [(10000,38),(10001,200),(10002,87),(10003,98),(10004,203)] (Fj) rfl rfl rfl ?_ ?_ ?_ ?_ ?_ ?_ ?_ ?_ ?_ ?_ ?_ ?_ ?_ ?_;(focus (simp only [go_sem,simprocAttr,hb,hb1,hb2,hb3,xk,xm,hvs,hos,hg];done));(iterate 12 (focus (simp [go_sem,simprocAttr,hb,hb1,hb2,hb3,xk,xm,hvs,hos,hg];done)));try simp only [List.map_cons,List.map_nil]));try simp only [go_sem,simprocAttr,hb,hb1,hb2,hb3,xk,xm,hvs,hos,hg])|((with_reducible refine oD ?_ ?_);kernel_rfl)|((with_reducible intro h);try simp only [go_sem,simprocAttr,hb,hb1,hb2,hb3,xk,xm,hvs,hos,hg] at h)|omega|intro h)
 ·have hb1:decide ((1:Int)<((aY g p).length:Int))=false:=decide_eq_false (by omega)
  have Aw:newL g p= []:=if_neg h1
  have he:g.es++cx g p g.n.toNat=(ag g p).es:=by
   show _=g.es++aV g p
   rw [aV,Aw,List.append_nil]
  have hq:dx g.es.length (cx g p g.n.toNat) p.outs=(bC g p).outs:=by
   show _=dx g.es.length (aV g p) (if 1<(aY g p).length then p.outs++ [[]] else p.outs)
   rw [if_neg h1,aV,Aw,List.append_nil]
  have ho:p.ord=(bC g p).ord:=(if_neg h1).symm
  have hg:g.n=(ag g p).n:=(if_neg h1).symm
  have hml:(g.es++cx g p g.n.toNat).map rE=(ag g p).es.map rE:=by rw [he]
  have Qd:(ag g p).es.length=g.es.length+(cx g p g.n.toNat).length:=by rw [← he,List.length_append]
  have NO:p.ord.map rI=(bC g p).ord.map rI:=by rw [← ho]
  generalize ag g p=G at he hg G7 hml Qd
  generalize bC g p=Q at hq ho G7 NO
  by_cases h2:64<G.n
  ·omega
  ·have hb2:decide (64<G.n)=false:=decide_eq_false h2
   by_cases h3:128<G.es.length
   ·have hb3:decide (128<(G.es.length:Int))=true:=decide_eq_true (by omega)
    rw [if_pos (.inr h3)] at G7
    subst G7
    rw [he]
    repeat' (first|refine Rn.p ?_|(with_reducible apply And.intro)|((first|(refine hK _ ?_;clear hK K)|with_reducible intro K hK|refine Rs.p ?_|((with_reducible first|apply oP|apply oQ);exact rfl));try simp only [go_sem,simprocAttr,hb,hb1,hb2,hb3,hg,gz,pz])|((with_reducible refine oD ?_ ?_);kernel_rfl)|((with_reducible intro h);try simp only [go_sem,simprocAttr,hb,hb1,hb2,hb3,hg,gz,pz] at h)|omega|intro h)
    all_goals rfl
   ·have hb3:decide (128<(G.es.length:Int))=false:=decide_eq_false (by omega)
    rw [if_neg (by rintro (h|h);exact h2 h;exact h3 h)] at G7
    subst G7
    rw [he,hq]
    have Nh:=NO.symm
    have HZ:=hg.symm
    rw [HZ] at hb2
    repeat' (first|refine Rn.p ?_|(with_reducible apply And.intro)|((first|(refine hK _ ?_;clear hK K)|with_reducible intro K hK|refine Rs.p ?_|((with_reducible first|apply oP|apply oQ);exact rfl));try simp only [go_sem,simprocAttr,hb,hb1,hb2,hb3,HZ,Nh])|((with_reducible refine oD ?_ ?_);kernel_rfl)|((with_reducible intro h);try simp only [go_sem,simprocAttr,hb,hb1,hb2,hb3,HZ,Nh] at h)|omega|intro h)
end Go.Ab
end
section
namespace Go.Ab
open Go.Proofs
attribute [local congr] ACall.congr gd.congr Nx.congr
set_option maxRecDepth 10000
set_option maxHeartbeats 16000000
def SV (p:Pl) (x:Gr) (k:Nat):List (List Int):=(List.range k).map fun v=>if 0<(p.outs.getD v []).length then p.outs.getD v [] else aZ x (v:Int)
theorem u7 {g:Gr} {p:Pl} (hr:aR g p):∀t∈aY g p,t.1<0:=by
 obtain ⟨hc,h,hok⟩:=hr
 have hm:=an hc
 have hn:=aH hm
 obtain ⟨hi,dM,_⟩:=bV hm h (k:=g.n.toNat) (Nat.le_refl _) hok
 intro t ht
 refine Decidable.byContradiction fun h0=> ?_
 rcases hi.it t ht with ⟨h1,_⟩|⟨h1,h2,_,h4⟩
 ·omega
 ·have Fe:=(cT hm (k:=t.1.toNat) (by omega)).2
  rw [← h4] at Fe
  refine hi.head t ht h1 (kN hi.todR ?_ Fe)
  rw [dM,List.length_take,aS h];omega
end Go.Ab
end
section
namespace Go.Ab
open Go.Proofs
attribute [local congr] ACall.congr gd.congr Nx.congr
set_option maxRecDepth 10000
set_option maxHeartbeats 8000000
def u9 (g:Gr) (p:Pl):Bool:=decide (200<g.es.length)||decide (100<p.ord.length)||decide (100<p.outs.length)||p.outs.any fun l=>decide (200<l.length)
theorem C9 {g:Gr} {p:Pl} (h:u9 g p=false):g.es.length≤200∧p.ord.length≤100∧p.outs.length≤100∧∀l∈p.outs,l.length≤200:=by
 simp only [u9,Bool.or_eq_false_iff,decide_eq_false_iff_not,List.any_eq_false,decide_eq_true_eq] at h
 obtain ⟨⟨⟨h1,h2⟩,h3⟩,h4⟩:=h
 exact ⟨by omega,by omega,by omega,fun l hl=>by have:=h4 l hl;omega⟩
theorem Ax {g:Gr} {p:Pl} (h:u9 g p=false):l6 p:=by
 obtain ⟨_,h1,h2,h3⟩:=C9 h
 exact ⟨by omega,by omega,fun l hl=>by have:=h3 l hl;omega⟩
structure G8 (p:Pl):Prop where
 ord:p.ord.length≤9223372036854775807
 outs:p.outs.length≤9223372036854775807
 each:∀l∈p.outs,l.length≤9223372036854775807
theorem yN (g:Gr) (p:Pl) (hl:g.es.length≤9223372036854775807) (hp:G8 p):Spec Tryz.prog 22 (Args [eG g,ePl p]) [] (eB (u9 g p)) []:=by
 have ho:=hp.ord
 have hu:=hp.outs
 (refine Spec.hd (C:=T.cfg [] []) (rs:= [.t 4]) (T.aj _ _) Tryz.func22 rfl rfl Tryz.ntmps22 Tryz.results22 (by simp [AObj.isNest]) (by simp [AObj.isNest]) (by kernel_rfl) T.mixed fun X hX hP hC aJ b7=> ?_)
 generalize hB:u9 g p=B
 by_cases h1:200<g.es.length
 ·have hb1:decide (200<(g.es.length:Int))=true:=decide_eq_true (by omega)
  have:B=true:=by rw [← hB,u9,decide_eq_true h1];rfl
  subst this
  repeat' (first|refine Rn.p ?_|(with_reducible apply And.intro)|((first|(refine hK _ ?_;clear hK K)|with_reducible intro K hK|refine Rs.p ?_|((with_reducible first|apply oP|apply oQ);exact rfl));try simp only [go_sem,simprocAttr,hb1])|((with_reducible refine oD ?_ ?_);kernel_rfl)|((with_reducible intro h);try simp only [go_sem,simprocAttr,hb1] at h)|omega|intro h)
 have hb1:decide (200<(g.es.length:Int))=false:=decide_eq_false (by omega)
 by_cases h2:100<p.ord.length
 ·have hb2:decide (100<(p.ord.length:Int))=true:=decide_eq_true (by omega)
  have:B=true:=by rw [← hB,u9,decide_eq_true h2];simp
  subst this
  repeat' (first|refine Rn.p ?_|(with_reducible apply And.intro)|((first|(refine hK _ ?_;clear hK K)|with_reducible intro K hK|refine Rs.p ?_|((with_reducible first|apply oP|apply oQ);exact rfl));try simp only [go_sem,simprocAttr,hb1,hb2])|((with_reducible refine oD ?_ ?_);kernel_rfl)|((with_reducible intro h);try simp only [go_sem,simprocAttr,hb1,hb2] at h)|omega|intro h)
 have hb2:decide (100<(p.ord.length:Int))=false:=decide_eq_false (by omega)
 by_cases h3:100<p.outs.length
 ·have hb3:decide (100<(p.outs.length:Int))=true:=decide_eq_true (by omega)
  have:B=true:=by rw [← hB,u9,decide_eq_true h3];simp
  subst this
  repeat' (first|refine Rn.p ?_|(with_reducible apply And.intro)|((first|(refine hK _ ?_;clear hK K)|with_reducible intro K hK|refine Rs.p ?_|((with_reducible first|apply oP|apply oQ);exact rfl));try simp only [go_sem,simprocAttr,hb1,hb2,hb3])|((with_reducible refine oD ?_ ?_);kernel_rfl)|((with_reducible intro h);try simp only [go_sem,simprocAttr,hb1,hb2,hb3] at h)|omega|intro h)
 have hb3:decide (100<(p.outs.length:Int))=false:=decide_eq_false (by omega)
 have Q4:B=p.outs.any fun l=>decide (200<l.length):=by rw [← hB,u9,decide_eq_false h1,decide_eq_false h2,decide_eq_false h3];simp
 clear hB
 repeat' (first|refine Rn.p ?_|(with_reducible apply And.intro)|((first|(refine hK _ ?_;clear hK K)|with_reducible intro K hK|refine Rs.p ?_|((with_reducible first|apply oP|apply oQ);exact rfl));try simp only [go_sem,simprocAttr,hb1,hb2,hb3])|((with_reducible refine oD ?_ ?_);kernel_rfl)|((with_reducible intro h);try simp only [go_sem,simprocAttr,hb1,hb2,hb3] at h)|omega|intro h)
 refine ah (fun k:Nat=>k≤p.outs.length∧∀j,j<k→(p.outs.getD j []).length≤200) (fun k=>⟨[(24, .d (.sl 1 (vI p.outs))),(25,eN p.outs.length),(26,eN k)], []⟩) (fun k=>p.outs.length - k) 0 (by simp) ?_ ?_
 ·(refine Le.of ?_ ?_<;>simp [go_sem,simprocAttr])
 rintro k ⟨hk,hg⟩
 rcases Nat.lt_or_ge k p.outs.length with cm|Ir
 ·have hb:decide ((k:Int)<(p.outs.length:Int))=true:=decide_eq_true (by omega)
  have hv:=eo cm
  have hm:=aE (d:= []) cm
  have iI:=hp.each _ hm
  by_cases h4:200<(p.outs.getD k []).length
  ·have hb4:decide (200<((p.outs.getD k []).length:Int))=true:=decide_eq_true (by omega)
   have:B=true:=by rw [Q4,List.any_eq_true];exact ⟨_,hm,decide_eq_true h4⟩
   subst this
   repeat' (first|refine Rn.p ?_|(with_reducible apply And.intro)|((first|(refine hK _ ?_;clear hK K)|with_reducible intro K hK|refine Rs.p ?_|((with_reducible first|apply oP|apply oQ);exact rfl));try simp only [go_sem,simprocAttr,hb,hv,hb4])|((with_reducible refine oD ?_ ?_);kernel_rfl)|((with_reducible intro h);try simp only [go_sem,simprocAttr,hb,hv,hb4] at h)|omega|intro h)
  ·have hb4:decide (200<((p.outs.getD k []).length:Int))=false:=decide_eq_false (by omega)
   repeat' (first|refine Rn.p ?_|(with_reducible apply And.intro)|((first|(refine hK _ ?_;clear hK K)|with_reducible intro K hK|refine Rs.p ?_|((with_reducible first|apply oP|apply oQ);exact rfl));try simp only [go_sem,simprocAttr,hb,hv,hb4])|((with_reducible refine oD ?_ ?_);kernel_rfl)|((with_reducible intro h);try simp only [go_sem,simprocAttr,hb,hv,hb4] at h)|omega|intro h)
   refine ⟨k+1,⟨by omega,fun j hj=> ?_⟩, ?_,by omega⟩
   ·by_cases e:j=k
    ·subst e;omega
    ·exact hg j (by omega)
   ·(refine Le.of ?_ ?_<;>simp [go_sem,simprocAttr,hb,hv,hb4])
 ·have hb:decide ((k:Int)<(p.outs.length:Int))=false:=decide_eq_false (by omega)
  have:B=false:=by
   rw [Q4,List.any_eq_false]
   intro l hl
   obtain ⟨j,hj,rfl⟩:=List.mem_iff_getElem.1 hl
   have:=hg j (by omega)
   rw [List.getD_eq_getElem?_getD,List.getElem?_eq_getElem hj,Option.getD_some] at this
   simp;omega
  subst this
  repeat' (first|refine Rn.p ?_|(with_reducible apply And.intro)|((first|(refine hK _ ?_;clear hK K)|with_reducible intro K hK|refine Rs.p ?_|((with_reducible first|apply oP|apply oQ);exact rfl));try simp only [go_sem,simprocAttr,hb])|((with_reducible refine oD ?_ ?_);kernel_rfl)|((with_reducible intro h);try simp only [go_sem,simprocAttr,hb] at h)|omega|intro h)
def xp (g:Gr):Bool:=decide ((bR g).1=0)&&decide ((bN (·.1) g).length=1)
theorem oM (g:Gr) (hl:g.es.length≤1000):Spec Tryz.prog 60 (Args [eG g]) [] (eB (xp g)) []:=by
 by_cases hc:(bR g).1=0
 ·have hm:=an hc
  have hb1:decide ((bR g).1=0)=true:=decide_eq_true hc
  have hI:xp g=decide (((bN (·.1) g).length:Int)=1):=by
   unfold xp;rw [hb1,Bool.true_and,decide_eq_decide];omega
  rw [hI]
  generalize qY:bN (·.1) g=bl
  have hS:=BU g hm
  rw [qY] at hS
  (refine Spec.hd (C:=T.cfg [] []) (rs:= [.t 2]) (T.aj _ _) Tryz.func60 rfl rfl Tryz.ntmps60 Tryz.results60 (by simp [AObj.isNest]) (by simp [AObj.isNest]) (by kernel_rfl) T.mixed fun X hX hP hC aJ b7=> ?_)
  repeat' (first|refine Rn.p ?_|(with_reducible apply And.intro)|((first|(refine hK _ ?_;clear hK K)|with_reducible intro K hK|refine Rs.p ?_|((with_reducible first|apply oP|apply oQ);exact rfl)|refine aa hX hC hP (lH g hl) rfl rfl rfl (by simp only [go_sem,simprocAttr,hb1]) rfl ?_|refine aa hX hC hP (iJ g hm) rfl rfl rfl (by simp only [go_sem,simprocAttr,hb1]) rfl ?_|refine aa hX hC hP (hS) rfl rfl rfl (by simp only [go_sem,simprocAttr,hb1]) rfl ?_);try simp only [go_sem,simprocAttr,hb1])|((with_reducible refine oD ?_ ?_);kernel_rfl)|((with_reducible intro h);try simp only [go_sem,simprocAttr,hb1] at h)|omega|intro h)
 ·have hb1:decide ((bR g).1=0)=false:=decide_eq_false hc
  have hI:xp g=false:=by unfold xp;rw [hb1];rfl
  rw [hI]
  (refine Spec.hd (C:=T.cfg [] []) (rs:= [.t 2]) (T.aj _ _) Tryz.func60 rfl rfl Tryz.ntmps60 Tryz.results60 (by simp [AObj.isNest]) (by simp [AObj.isNest]) (by kernel_rfl) T.mixed fun X hX hP hC aJ b7=> ?_)
  repeat' (first|refine Rn.p ?_|(with_reducible apply And.intro)|((first|(refine hK _ ?_;clear hK K)|with_reducible intro K hK|refine Rs.p ?_|((with_reducible first|apply oP|apply oQ);exact rfl)|refine aa hX hC hP (lH g hl) rfl rfl rfl (by simp only [go_sem,simprocAttr,hb1]) rfl ?_);try simp only [go_sem,simprocAttr,hb1])|((with_reducible refine oD ?_ ?_);kernel_rfl)|((with_reducible intro h);try simp only [go_sem,simprocAttr,hb1] at h)|omega|intro h)
end Go.Ab
end
section
namespace Go.Ab
open Go.Proofs
attribute [local congr] ACall.congr gd.congr Nx.congr
set_option maxRecDepth 10000
set_option maxHeartbeats 8000000
def Uj:Gr:=⟨3, [(0,1),(0,2)]⟩
def Uk:Pl:=⟨[0,1,2], [[0,1], [], []]⟩
def Ul:Gr:=⟨4, [(0,1),(0,2),(1,3),(2,3)]⟩
def Um:Pl:=⟨[0,1,2,3], [[0,1], [2], [3], []]⟩
end Go.Ab
end
section
namespace Go.Ab
open Go.Proofs
attribute [local congr] ACall.congr gd.congr Nx.congr
set_option maxRecDepth 10000
def Un (l:List Int) (k:Nat):Bool:=(List.range k).all fun i=>decide (l.getD i 0=(i:Int))
def I9 (g:Gr) (names order:List Int) (k:Nat):List Edge:=(List.range k).map fun i=>(names.getD (g.es.getD (order.getD i 0).toNat (0,0)).1.toNat 0,names.getD (g.es.getD (order.getD i 0).toNat (0,0)).2.toNat 0)
def iz (g:Gr) (names order:List Int):Gr:=⟨g.n,I9 g names order order.length⟩
theorem Ay {g:Gr} {names order:List Int} {k:Nat} :(I9 g names order k).length=k:=by simp [I9]
def Ni (g:Gr) (names order:List Int):Bool:=aM g&&gC names g.n&&gC order g.es.length
def SW (g:Gr) (names order:List Int):Gr:=if Ni g names order then iz g names order else ⟨0, []⟩
end Go.Ab
end
section
namespace Go.Ab
def Ed (g:Gr) (a b:Int):Prop:=∃i,i<g.es.length∧tl g i=a∧hd g i=b
def N6 (g:Gr) (l:List Int):Prop:=∀i,i<l.length→Ed g (l.getD i 0) (l.getD ((i+1) % l.length) 0)
def G9 (g:Gr) (way:List Int) (at_:Int):Prop:=∀p,p<way.length→Ed g ((way++ [at_]).getD (p+1) 0) (way.getD p 0)
theorem qJ {l:List Int} {a:Int} :(l++ [a]).getD l.length 0=a:=by
 rw [List.getD_eq_getElem?_getD,List.getElem?_append_right (Nat.le_refl _)];simp
theorem va {g:Gr} (hm:aM g=true):∀(f:Nat) (way:List Int) (a:Nat),a<g.n.toNat→(a:Int)∉aP g→G9 g way a→left g way≤f→
 G9 g (lG g (cM g (aP g)) f way a).1 (lG g (cM g (aP g)) f way a).2∧0≤(lG g (cM g (aP g)) f way a).2∧(lG g (cM g (aP g)) f way a).2∈(lG g (cM g (aP g)) f way a).1
 |f,way,a,ha,hn,hc,hl=>by
  by_cases hmem:(a:Int)∈way
  ·rw [kE (.inr hmem)]
   exact ⟨hc,by simp only;omega,hmem⟩
  ·have hla:=jo ha hmem
   cases f with
   |zero=>omega
   |succ f=>
    obtain ⟨⟨i,hi,Lc,htl,KY⟩,_⟩:=uH hm (KX hm ha hn)
    have htr:=bg hm hi
    rw [htl] at htr
    obtain ⟨b,qi⟩:∃b:Nat,jM g (cM g (aP g)) a=b:=⟨(jM g (cM g (aP g)) a).toNat,by omega⟩
    rw [qi] at KY htr htl
    have e1:lG g (cM g (aP g)) (f+1) way a=lG g (cM g (aP g)) f (way++ [(a:Int)]) b:=by
     simp only [lG];rw [if_neg (by intro h;rcases h with h|h;omega;exact hmem h),qi]
    rw [e1]
    refine va hm f (way++ [(a:Int)]) b (by omega) KY ?_ (by omega)
    intro p hp
    rw [List.length_append,List.length_singleton] at hp
    by_cases dM:p<way.length
    ·have:=hc p dM
     rw [pO (by simp;omega),pO dM]
     exact this
    ·have:p=way.length:=by omega
     subst this
     have e2:=qJ (l:=way++ [(a:Int)]) (a:=(b:Int))
     rw [List.length_append,List.length_singleton] at e2
     rw [e2,qJ]
     exact ⟨i,hi,htl,Lc⟩
theorem getD_drop {l:List Int} {k p:Nat} :(l.drop k).getD p 0=l.getD (k+p) 0:=by
 rw [List.getD_eq_getElem?_getD,List.getElem?_drop, ← List.getD_eq_getElem?_getD]
theorem N6.Qe {g:Gr} {l:List Int} (h:∀p,p<l.length→Ed g (l.getD ((p+1) % l.length) 0) (l.getD p 0)) (h0:0<l.length):N6 g (lX l.reverse):=by
 have N2:0<l.reverse.length:=by simpa using h0
 obtain ⟨k,y4,hk2,_⟩:=ef (jq N2)
 rw [List.length_reverse] at hk2
 have e1:lX l.reverse=l.reverse.drop k++l.reverse.take k:=by simp only [lX,y4,Int.toNat_natCast]
 have hlen:(lX l.reverse).length=l.length:=by rw [e1];simp;omega
 have hg:∀i,i<l.length→(lX l.reverse).getD i 0=l.getD (l.length - 1 - (i+k) % l.length) 0:=by
  intro i hi
  rw [e1,List.getD_eq_getElem?_getD]
  by_cases hik:i<l.length - k
  ·rw [List.getElem?_append_left (by simp;omega),List.getElem?_drop,List.getElem?_reverse (by omega),Nat.mod_eq_of_lt (by omega), ← List.getD_eq_getElem?_getD]
   congr 1;omega
  ·rw [List.getElem?_append_right (by simp;omega),List.length_drop,List.length_reverse,List.getElem?_take,if_pos (by omega),List.getElem?_reverse (by omega), ← List.getD_eq_getElem?_getD]
   have:(i+k) % l.length=i+k - l.length:=by rw [Nat.mod_eq_sub_mod (by omega),Nat.mod_eq_of_lt (by omega)]
   rw [this];congr 1;omega
 intro i hi
 rw [hlen] at hi ⊢
 rw [hg i hi,hg _ (Nat.mod_lt _ h0)]
 have hmm:((i+1) % l.length+k) % l.length=((i+k) % l.length+1) % l.length:=by
  rw [Nat.mod_add_mod,Nat.mod_add_mod];congr 1;omega
 rw [hmm]
 have hj:=Nat.mod_lt (i+k) h0
 generalize (i+k) % l.length=j at hj ⊢
 by_cases He:j+1<l.length
 ·rw [Nat.mod_eq_of_lt He]
  have:=h (l.length - 1 - (j+1)) (by omega)
  rw [Nat.mod_eq_of_lt (by omega),show l.length - 1 - (j+1)+1=l.length - 1 - j from by omega] at this
  exact this
 ·have:j+1=l.length:=by omega
  rw [this,Nat.mod_self]
  have:=h (l.length - 1) (by omega)
  rw [show l.length - 1+1=l.length from by omega,Nat.mod_self] at this
  rw [show l.length - 1 - j=0 from by omega]
  exact this
def Qf (g:Gr):Prop:=∃r:Int→Nat,∀i,i<g.es.length→r (tl g i)<r (hd g i)
theorem sY {g:Gr} (hm:aM g=true):CW g=true↔Qf g:=by
 constructor
 ·intro h
  refine ⟨fun v=>((Bm g.n.toNat (aP g) (aP g).length).getD v.toNat 0).toNat,fun i hi=> ?_⟩
  have h1:=GP (Em hm h) hi
  have h2:=uK (n:=g.n.toNat) (l:=aP g) (k:=(aP g).length) (y:=(tl g i).toNat)
  simp only;omega
 ·rintro ⟨r,hr⟩
  cases h:CW g with
  |true=>rfl
  |false=>
   exfalso
   obtain ⟨y,hy,hn⟩:=CY hm h
   have key:∀(p:Nat) (y:Nat),y<g.n.toNat→(y:Int)∉aP g→r y=p→False:=by
    intro p
    induction p using Nat.strongRecOn with
    |_ p ih=>
     intro y hy hn hp
     obtain ⟨t,i,hi,h1,rfl,h2⟩:=KX hm hy hn
     have htr:=bg hm hi
     have hlt:=hr i hi
     rw [h1,hp] at hlt
     have e:((tl g i).toNat:Int)=tl g i:=by omega
     exact ih (r (tl g i)) hlt (tl g i).toNat (by omega) (by rw [e];exact h2) (by rw [e])
   exact key _ y hy hn rfl
theorem yO {g:Gr} (hm:aM g=true) (h:CW g=true):kD g= []:=by
 have hall:=(cl.1 (CX hm h)).2
 have hn:=aH hm
 rcases start_eq hm with ⟨h1,h2⟩|⟨a,ha,h1,h2,h3⟩
 ·have:kC g=([], -1):=by
   unfold kC;rw [h1];exact kE (.inl (by omega)) _
  simp only [kD,this]
  rw [if_pos (by omega)]
 ·exact absurd (hall a (dh.2 (by omega))) h3
theorem Hf {g:Gr} (hm:aM g=true) (h:CW g=false):0<(kD g).length∧N6 g (kD g):=by
 obtain ⟨y,hy,SX⟩:=CY hm h
 have hn:=aH hm
 rcases start_eq hm with ⟨h1,h2⟩|⟨a,ha,h1,h2,h3⟩
 ·exfalso
  rcases fD (f:=fun n:Int=>decide (0<n)) (l:=cM g (aP g)) 0 with ⟨_,h4⟩|⟨k,h4,_⟩
  ·have h5:=(qz hm hy).2 SX
   have h6:=h4 ((cM g (aP g)).getD y 0) (by rw [List.getD_eq_getElem?_getD,lE hy];exact List.mem_of_getElem? (lE hy))
   rw [mJ hy] at h6
   exact absurd h5 (of_decide_eq_false h6)
  ·omega
 ·obtain ⟨h4,h5,h6⟩:=va hm g.n.toNat [] a ha h3 (fun p hp=>by simp at hp) yz
  have hw:kC g=lG g (cM g (aP g)) g.n.toNat [] a:=by unfold kC;rw [h1]
  rw [← hw] at h4 h5 h6
  obtain ⟨k,y4,hk2,M6⟩:=ef h6
  have hc:kD g=lX ((kC g).1.drop k).reverse:=by
   simp only [kD]
   rw [if_neg (by omega),y4,Int.toNat_natCast]
  have hlen:((kC g).1.drop k).length=(kC g).1.length - k:=by simp
  have h0:0<((kC g).1.drop k).length:=by omega
  refine ⟨?_, ?_⟩
  ·rw [hc]
   simp only [lX,List.length_append,List.length_drop,List.length_take,List.length_reverse]
   omega
  ·rw [hc]
   refine N6.Qe (fun p hp=> ?_) h0
   rw [hlen] at hp ⊢
   have h7:=h4 (k+p) (by omega)
   rw [getD_drop (p:=p)]
   by_cases He:p+1<(kC g).1.length - k
   ·rw [Nat.mod_eq_of_lt He,getD_drop]
    rw [pO (by omega)] at h7
    exact h7
   ·have:p+1=(kC g).1.length - k:=by omega
    rw [this,Nat.mod_self,getD_drop,Nat.add_zero,M6]
    rw [show k+p+1=(kC g).1.length from by omega,qJ] at h7
    exact h7
end Go.Ab
end
section
namespace Go.Ab
def nm (names:List Int) (v:Int):Int:=names.getD v.toNat 0
structure jS (g:Gr) (names order:List Int):Prop where
 may:aM g=true
 Ld:gC names g.n=true
 ord:gC order (g.es.length:Int)=true
section
variable {g:Gr} {names order:List Int} (h:jS g names order)
include h
theorem jS.len:(iz g names order).es.length=g.es.length:=by
 have:=(cl.1 h.ord).1
 simp only [iz,Ay];omega
theorem jS.jY {i:Nat} (hi:i<g.es.length):∃j,j<g.es.length∧order.getD i 0=(j:Int)∧(iz g names order).es.getD i (0,0)=(nm names (tl g j),nm names (hd g j)):=by
 have sG:=(cl.1 h.ord).1
 have:=uJ h.ord _ (ic (l:=order) (m:=i) (by omega))
 refine ⟨(order.getD i 0).toNat,by omega,by omega, ?_⟩
 simp only [iz,I9,nm,tl,hd]
 rw [List.getD_eq_getElem?_getD,List.getElem?_map,List.getElem?_range (by omega)]
 rfl
theorem jS.back {j:Nat} (hj:j<g.es.length):∃i,i<g.es.length∧order.getD i 0=(j:Int)∧(iz g names order).es.getD i (0,0)=(nm names (tl g j),nm names (hd g j)):=by
 obtain ⟨sG,hall⟩:=cl.1 h.ord
 obtain ⟨i,hi,hil,he⟩:=ef (hall (j:Int) (dh.2 (by omega)))
 obtain ⟨j',_,h2,h3⟩:=h.jY (i:=i) (by omega)
 have:j'=j:=by omega
 subst this
 exact ⟨i,by omega,he,h3⟩
theorem jS.inj {a b:Int} (ha:0≤a∧a<g.n) (hb:0≤b∧b<g.n) (e:nm names a=nm names b):a=b:=by
 have hnl:=(cl.1 h.Ld).1
 have:=lK h.Ld (i:=a.toNat) (j:=b.toNat) (by omega) (by omega) e
 omega
theorem jS.range {a:Int} (ha:0≤a∧a<g.n):0≤nm names a∧nm names a<g.n:=by
 have hnl:=(cl.1 h.Ld).1
 exact uJ h.Ld _ (ic (by omega))
theorem jS.inv {a:Int} (ha:0≤a∧a<g.n):ff names (nm names a)=a:=by
 have hnl:=(cl.1 h.Ld).1
 obtain ⟨k,hk,cm,he⟩:=ef (ic (l:=names) (m:=a.toNat) (by omega))
 have h2:=lK h.Ld cm (j:=a.toNat) (by omega) he
 have h3:ff names (nm names a)=k:=hk
 omega
theorem jS.of {v:Int} (hv:0≤v∧v<g.n):∃a,(0≤a∧a<g.n)∧nm names a=v:=by
 obtain ⟨hnl,hall⟩:=cl.1 h.Ld
 obtain ⟨k,hk,cm,he⟩:=ef (hall v (dh.2 (by omega)))
 exact ⟨k,by omega,he⟩
theorem jS.may':aM (iz g names order)=true:=by
 have hn:=aH h.may
 have hlen:=h.len
 have hall:(iz g names order).es.any (om (iz g names order))=false:=by
  rw [List.any_eq_false]
  intro e he
  obtain ⟨i,hi,rfl⟩:=List.getElem_of_mem he
  obtain ⟨j,hj,_,h3⟩:=h.jY (i:=i) (by omega)
  rw [List.getD_eq_getElem?_getD,List.getElem?_eq_getElem hi,Option.getD_some] at h3
  rw [h3]
  have h4:=h.range (bg h.may hj)
  have h5:=h.range (bF h.may hj)
  have e1:(iz g names order).n=g.n:=rfl
  simp only [om,um,e1,Bool.or_eq_true,decide_eq_true_eq]
  omega
 have e1:(iz g names order).n=g.n:=rfl
 simp only [aM,hall,e1,Bool.not_false,Bool.and_true,Bool.and_eq_true,decide_eq_true_eq]
 omega
omit h in
theorem qK {i j:Nat} (e:(iz g names order).es.getD i (0,0)=(nm names (tl g j),nm names (hd g j))):tl (iz g names order) i=nm names (tl g j)∧hd (iz g names order) i=nm names (hd g j):=⟨congrArg Prod.fst e,congrArg Prod.snd e⟩
theorem jS.loop:(0≤js (iz g names order))↔0≤js g:=by
 have key:∀g:Gr,(0≤js g)↔∃i,i<g.es.length∧tl g i=hd g i:=by
  intro g
  have:=fL (fun e:Edge=>decide (e.1=e.2)) g.es
  rw [show (0≤js g)↔g.es.any (fun e:Edge=>decide (e.1=e.2))=true from by rw [← this];simp [js],List.any_eq_true]
  constructor
  ·rintro ⟨e,he,h2⟩
   obtain ⟨i,hi,rfl⟩:=List.getElem_of_mem he
   refine ⟨i,hi, ?_⟩
   simpa [tl,hd,List.getD_eq_getElem?_getD,List.getElem?_eq_getElem hi] using h2
  ·rintro ⟨i,hi,h2⟩
   refine ⟨_,List.getElem_mem hi, ?_⟩
   simpa [tl,hd,List.getD_eq_getElem?_getD,List.getElem?_eq_getElem hi] using h2
 rw [key,key,h.len]
 constructor
 ·rintro ⟨i,hi,e⟩
  obtain ⟨j,hj,_,h3⟩:=h.jY hi
  obtain ⟨e1,e2⟩:=qK h3
  exact ⟨j,hj,h.inj (bg h.may hj) (bF h.may hj) (by rw [← e1, ← e2,e])⟩
 ·rintro ⟨j,hj,e⟩
  obtain ⟨i,hi,_,h3⟩:=h.back hj
  obtain ⟨e1,e2⟩:=qK h3
  exact ⟨i,hi,by rw [e1,e2,e]⟩
omit h in
theorem jc (g:Gr):(0≤dY g)↔∃i k,i<g.es.length∧k<g.es.length∧i≠k∧g.es.getD i (0,0)=g.es.getD k (0,0):=by
 have:=fL (ox g) (List.range g.es.length)
 rw [show (0≤dY g)↔(List.range g.es.length).any (ox g)=true from by rw [← this];simp [dY],List.any_eq_true]
 constructor
 ·rintro ⟨i,hi,h2⟩
  have hil:=List.mem_range.1 hi
  have h3:=of_decide_eq_true h2
  rw [List.mem_iff_getElem?] at h3
  obtain ⟨k,hk⟩:=h3
  rw [List.getElem?_take] at hk
  split at hk
  ·rename_i hki
   exact ⟨i,k,hil,by omega,by omega,by rw [List.getD_eq_getElem?_getD (i:=k),hk];rfl⟩
  ·cases hk
 ·rintro ⟨i,k,hi,hk,hne,e⟩
  have main:∀i k,k<i→i<g.es.length→g.es.getD i (0,0)=g.es.getD k (0,0)→ox g i=true:=by
   intro i k hki hi e
   refine decide_eq_true ?_
   rw [e,List.mem_iff_getElem?]
   refine ⟨k, ?_⟩
   rw [List.getElem?_take,if_pos hki,List.getD_eq_getElem?_getD,List.getElem?_eq_getElem (by omega)];rfl
  rcases Nat.lt_or_gt_of_ne hne with hlt|hgt
  ·exact ⟨k,List.mem_range.2 hk,main k i hlt hk e.symm⟩
  ·exact ⟨i,List.mem_range.2 hi,main i k hgt hi e⟩
theorem jS.Nj:(0≤dY (iz g names order))↔0≤dY g:=by
 have sG:=(cl.1 h.ord).1
 rw [jc,jc,h.len]
 constructor
 ·rintro ⟨i,k,hi,hk,hne,e⟩
  obtain ⟨j,hj,ho,h3⟩:=h.jY hi
  obtain ⟨j',hj',ho',FI⟩:=h.jY hk
  refine ⟨j,j',hj,hj',fun e'=> ?_, ?_⟩
  ·subst e'
   exact hne (lK h.ord (by omega) (by omega) (by rw [ho,ho']))
  ·rw [h3,FI,Prod.mk.injEq] at e
   have e1:=h.inj (bg h.may hj) (bg h.may hj') e.1
   have e2:=h.inj (bF h.may hj) (bF h.may hj') e.2
   exact Prod.ext e1 e2
 ·rintro ⟨j,j',hj,hj',hne,e⟩
  obtain ⟨i,hi,ho,h3⟩:=h.back hj
  obtain ⟨k,hk,ho',FI⟩:=h.back hj'
  refine ⟨i,k,hi,hk,fun e'=> ?_, ?_⟩
  ·subst e';omega
  ·have e1:tl g j=tl g j':=congrArg Prod.fst e
   have e2:hd g j=hd g j':=congrArg Prod.snd e
   rw [h3,FI,e1,e2]
theorem jS.Qg:CW (iz g names order)=CW g:=by
 rw [Bool.eq_iff_iff,sY h.may',sY h.may]
 constructor
 ·rintro ⟨r,hr⟩
  refine ⟨fun v=>r (nm names v),fun j hj=> ?_⟩
  obtain ⟨i,hi,_,h3⟩:=h.back hj
  obtain ⟨e1,e2⟩:=qK h3
  have:=hr i (by rw [h.len];exact hi)
  rwa [e1,e2] at this
 ·rintro ⟨r,hr⟩
  refine ⟨fun v=>r (ff names v),fun i hi=> ?_⟩
  rw [h.len] at hi
  obtain ⟨j,hj,_,h3⟩:=h.jY hi
  obtain ⟨e1,e2⟩:=qK h3
  have:=hr j hj
  rw [e1,e2];simp only;rw [h.inv (bg h.may hj),h.inv (bF h.may hj)]
  exact this
omit h in
theorem jz {g:Gr} {y:Int} :y∈bN (·.2) g↔(0≤y∧y<g.n)∧∀i,i<g.es.length→hd g i≠y:=by
 simp only [bN,jm,List.mem_map,List.mem_filter,List.mem_range,decide_eq_true_eq]
 have he:∀x:Nat,x<g.n.toNat→(((dy (·.2) g).getD x []).length=0↔∀i,i<g.es.length→hd g i≠(x:Int)):=by
  intro x hx
  have e:(dy (·.2) g).getD x []=aK (·.2) g.es g.es.length (x:Int):=by
   simp [dy,List.getD_eq_getElem?_getD,List.getElem?_range hx,mL]
  rw [e,List.length_eq_zero_iff]
  simp only [aK,List.map_eq_nil_iff,List.filter_eq_nil_iff,List.mem_range,decide_eq_true_eq]
  rfl
 constructor
 ·rintro ⟨x,⟨hx,h0⟩,rfl⟩
  refine ⟨by simp;omega,(he x hx).1 h0⟩
 ·rintro ⟨⟨h1,h2⟩,h3⟩
  have e:((y.toNat:Nat):Int)=y:=by omega
  exact ⟨y.toNat,⟨by omega,(he _ (by omega)).2 (by rw [e];exact h3)⟩,e⟩
omit h in
theorem eD {f:Edge→Int} {g:Gr} :(bN f g).Nodup:=by
 unfold bN jm
 refine List.Pairwise.map _ (fun a b h e=>h (Int.ofNat.inj e)) (List.Pairwise.filter _ List.nodup_range)
theorem jS.bare:(bN (·.2) (iz g names order)).length=(bN (·.2) g).length:=by
 have e1:(iz g names order).n=g.n:=rfl
 have h1:((bN (·.2) g).map (nm names)).length≤(bN (·.2) (iz g names order)).length:=by
  refine Nat.le_trans (count_le _ (bN (·.2) (iz g names order)) ?_ ?_) List.countP_le_length
  ·rw [List.nodup_iff_pairwise_ne]
   refine List.Pairwise.map _ (fun a b h=>h) ?_
   refine List.Pairwise.imp_of_mem ?_ eD
   intro a b ha hb hab e
   exact hab (h.inj (jz.1 ha).1 (jz.1 hb).1 e)
  ·intro v hv
   obtain ⟨y,hy,rfl⟩:=List.mem_map.1 hv
   obtain ⟨hy1,hy2⟩:=jz.1 hy
   refine jz.2 ⟨h.range hy1,fun i hi e=> ?_⟩
   rw [h.len] at hi
   obtain ⟨j,hj,_,h3⟩:=h.jY hi
   rw [(qK h3).2] at e
   exact hy2 j hj (h.inj (bF h.may hj) hy1 e)
 have h2:((bN (·.2) (iz g names order)).map (ff names)).length≤(bN (·.2) g).length:=by
  have hsplit:∀v∈bN (·.2) (iz g names order),∃a,(0≤a∧a<g.n)∧nm names a=v:=fun v hv=>h.of (jz.1 hv).1
  refine Nat.le_trans (count_le _ (bN (·.2) g) ?_ ?_) List.countP_le_length
  ·rw [List.nodup_iff_pairwise_ne]
   refine List.Pairwise.map _ (fun a b h=>h) ?_
   refine List.Pairwise.imp_of_mem ?_ eD
   intro a b ha hb hab e
   obtain ⟨a',M9,rfl⟩:=hsplit a ha
   obtain ⟨b',hb',rfl⟩:=hsplit b hb
   rw [h.inv M9,h.inv hb'] at e
   exact hab (by rw [e])
  ·intro v hv
   obtain ⟨y,hy,rfl⟩:=List.mem_map.1 hv
   obtain ⟨a,ha,rfl⟩:=hsplit y hy
   rw [h.inv ha]
   refine jz.2 ⟨ha,fun j hj e=> ?_⟩
   obtain ⟨i,hi,_,h3⟩:=h.back hj
   refine (jz.1 hy).2 i (by rw [h.len];exact hi) ?_
   rw [(qK h3).2,e]
 simp only [List.length_map] at h1 h2
 omega
theorem jS.kind:(bR (iz g names order)).1=(bR g).1:=by
 have hm:=h.may'
 have hc:(0<(kD (iz g names order)).length)↔0<(kD g).length:=by
  have key:∀g:Gr,aM g=true→((0<(kD g).length)↔CW g=false):=by
   intro g hm
   cases ho:CW g with
   |true=>rw [yO hm ho];simp
   |false=>simp [(Hf hm ho).1]
  rw [key _ hm,key _ h.may,h.Qg]
 have h1:=h.loop
 have h2:=h.Nj
 have h3:=h.bare
 simp only [bR,fS,hm,h.may]
 simp only [Bool.true_eq_false,if_false,h1,h2,hc,h3]
 split
 ·rfl
 split
 ·rfl
 split
 ·rfl
 split<;>rfl
end
end Go.Ab
end
section
namespace Go.Ab
open Go.Proofs
set_option maxRecDepth 10000
def Fk:Nat→List Edge→Int→Option (Int × Int)
 |_, [],_=>none
 |m,e::N,v=>if e.1=v then some ((m:Int),e.2) else Fk (m+1) N v
theorem Az {v:Int} :∀ {m:Nat} {N:List Edge},(∀e∈N,e.1≠v)→Fk m N v=none
 |_, [],_=>rfl
 |m,e::N,h=>by rw [Fk,if_neg (h e (List.mem_cons_self ..)),Az fun e' he=>h e' (List.mem_cons_of_mem _ he)]
theorem AA:∀ {m:Nat} {N:List Edge},(N.map (·.1)).Nodup→∀ {j:Nat},j<N.length→Fk m N (N.getD j (0,0)).1=some (((m+j:Nat):Int),(N.getD j (0,0)).2)
 |m,e::N,hd,0,_=>by rw [List.getD_cons_zero,Fk,if_pos rfl];rfl
 |m,e::N,hd,j+1,hj=>by
  rw [List.map_cons,List.nodup_cons] at hd
  have hj':j<N.length:=by simpa using hj
  rw [List.getD_cons_succ,Fk,if_neg (fun h=>hd.1 (List.mem_map.2 ⟨_,aE hj',h.symm⟩)),AA hd.2 hj']
  congr 2
  omega
theorem pW {m:Nat} {N:List Edge} (hd:(N.map (·.1)).Nodup) {v h:Int} (he:(v,h)∈N):∃j:Nat,j<N.length∧Fk m N v=some (((m+j:Nat):Int),h)∧N.getD j (0,0)=(v,h):=by
 obtain ⟨j,hj,e⟩:=List.mem_iff_getElem.1 he
 have e2:N.getD j (0,0)=(v,h):=by rw [List.getD_eq_getElem?_getD,List.getElem?_eq_getElem hj,Option.getD_some,e]
 have:=AA (m:=m) hd hj
 rw [e2] at this
 exact ⟨j,hj,this,e2⟩
theorem qL {m:Nat} {N:List Edge} (hd:(N.map (·.1)).Nodup) (v:Int):(Fk m N v=none∧∀e∈N,e.1≠v)∨∃h,(v,h)∈N:=by
 by_cases h:∃e∈N,e.1=v
 ·obtain ⟨e,he,rfl⟩:=h
  exact .inr ⟨e.2,he⟩
 ·have h':∀e∈N,e.1≠v:=fun e he h2=>h ⟨e,he,h2⟩
  exact .inl ⟨Az h',h'⟩
def oN (m:Nat) (N:List Edge) (t:It):It:=if 0≤t.1 then t else match Fk m N t.2.1 with
 |some (i,h)=>(i,t.2.1,h)
 |none=>t
theorem pY {m:Nat} {N:List Edge} {t:It} (h:0≤t.1):oN m N t=t:=if_pos h
theorem kS {m:Nat} {N:List Edge} {t:It} (h:t.1<0) {i x:Int} (hn:Fk m N t.2.1=some (i,x)):oN m N t=(i,t.2.1,x):=by
 unfold oN
 rw [if_neg (by omega),hn]
theorem ve {m:Nat} {N:List Edge} {t:It} (hn:Fk m N t.2.1=none):oN m N t=t:=by
 unfold oN
 split
 ·rfl
 ·rw [hn]
structure iF (g:Gr) (p:Pl):Prop where
 run:aR g p
 n:(ag g p).n≤64
 es:(ag g p).es.length≤128
variable {g:Gr} {p:Pl}
theorem vf {v x:Int} :∀ {k:Nat},(v,x)∈cx g p k→∃i,i<k∧x=aD p i∧v∈loose (cL g p i)
 |k+1,h=>by
  rw [cx,List.mem_append] at h
  rcases h with h|h
  ·obtain ⟨i,h1,h2⟩:=vf h
   exact ⟨i,by omega,h2⟩
  ·obtain ⟨w,hw,e⟩:=List.mem_map.1 h
   cases e
   exact ⟨k,by omega,rfl,hw⟩
theorem pZ {v:Int} :∀ {k i:Nat},i<k→v∈loose (cL g p i)→(v,aD p i)∈cx g p k
 |k+1,i,hi,h=>by
  rw [cx,List.mem_append]
  by_cases e:i=k
  ·subst e;exact .inr (List.mem_map.2 ⟨v,h,rfl⟩)
  ·exact .inl (pZ (by omega) h)
theorem vg {v x:Int} (h:(v,x)∈aV g p):(∃i,i<g.n.toNat∧x=aD p i∧v∈loose (cL g p i))∨(1<(aY g p).length∧x=g.n∧v∈loose (aY g p)):=by
 rw [aV,List.mem_append] at h
 rcases h with h|h
 ·exact .inl (vf h)
 ·unfold newL at h
  split at h
  ·obtain ⟨w,hw,e⟩:=List.mem_map.1 h
   cases e
   exact .inr ⟨by assumption,rfl,hw⟩
  ·cases h
theorem nF {l:List It} {t:It} (h:t∈l) (h0:t.1<0):t.2.1∈loose l:=List.mem_map.2 ⟨t,List.mem_filter.2 ⟨h,decide_eq_true h0⟩,rfl⟩
theorem nG (h:iF g p):aM (ag g p)=true:=by
 have hm:=an h.run.1
 have hn:=aH hm
 have Q5:g.n≤(ag g p).n:=by unfold ag;split<;>simp only<;>omega
 have h1:=h.n
 have h2:=h.es
 simp only [aM,Bool.and_eq_true,decide_eq_true_eq,Bool.not_eq_true',List.any_eq_false]
 refine ⟨⟨⟨by omega,h1⟩,by omega⟩,fun e he=> ?_⟩
 have he:e∈g.es++aV g p:=he
 simp only [om,um,Bool.or_eq_true,decide_eq_true_eq,not_or]
 rcases List.mem_append.1 he with he|he
 ·obtain ⟨i,hi,rfl⟩:=List.mem_iff_getElem.1 he
  have:=cT hm hi
  rw [List.getD_eq_getElem?_getD,List.getElem?_eq_getElem hi,Option.getD_some] at this
  omega
 ·have q1:=((er h.run).2 e he).1
  rcases vg (v:=e.1) (x:=e.2) he with ⟨i,hi,hx,_⟩|⟨hl,hx,_⟩
  ·have:=bK h.run.2.1 hi
   omega
  ·have:(ag g p).n=g.n+1:=if_pos hl
   omega
theorem p9 {v:Int} :aZ (ag g p) v=aZ g v++(aK (·.1) (aV g p) (aV g p).length v).map (· +(g.es.length:Int)):=qI
theorem ej (i:Nat) (hi:i<g.es.length):(ag g p).es.getD i (0,0)=g.es.getD i (0,0):=by
 show (g.es++aV g p).getD i (0,0)=_
 rw [List.getD_eq_getElem?_getD,List.getElem?_append_left hi, ← List.getD_eq_getElem?_getD]
theorem gS (j:Nat):(ag g p).es.getD (g.es.length+j) (0,0)=(aV g p).getD j (0,0):=by
 show (g.es++aV g p).getD _ (0,0)=_
 rw [List.getD_eq_getElem?_getD,List.getElem?_append_right (by omega),Nat.add_sub_cancel_left, ← List.getD_eq_getElem?_getD]
theorem kT (hr:aR g p) {v:Int} (h0:0≤v∧v<g.n) (hs:bQ p v= []):(∀h,(v,h)∈aV g p→∃j:Nat,Fk g.es.length (aV g p) v=some (((g.es.length+j:Nat):Int),h)∧aZ (ag g p) v= [((g.es.length+j:Nat):Int)]∧(ag g p).es.getD (g.es.length+j) (0,0)=(v,h))∧
 ((∀e∈aV g p,e.1≠v)→aZ (ag g p) v= []):=by
 obtain ⟨tG,C6⟩:=er hr
 have hz:aZ g v= []:=(kQ hr.2.1 h0.1 h0.2).2 hs
 constructor
 ·intro h hm
  obtain ⟨j,hj,h1,h2⟩:=pW (m:=g.es.length) tG hm
  refine ⟨j,h1, ?_,by rw [gS,h2]⟩
  have e1:=Ap tG hj
  rw [h2] at e1
  rw [p9,hz,e1]
  simp;omega
 ·intro h
  rw [p9,hz,jb h];rfl
theorem vh (hr:aR g p) {v:Int} (h0:0≤v∧v<g.n) (hs:bQ p v≠ []):aZ (ag g p) v=aZ g v:=by
 obtain ⟨tG,C6⟩:=er hr
 rw [p9,jb fun e he h=>hs (by rw [← h];exact (C6 e he).2)]
 simp
theorem jA:g.n≤(ag g p).n∧(ag g p).n≤g.n+1:=by
 unfold ag;split<;>simp only<;>omega
theorem sZ (hr:aR g p) {v:Int} (h0:0≤v∧v<g.n):bQ (bC g p) v=if bQ p v≠ [] then bQ p v else aZ (ag g p) v:=by
 have hn:=jA (g:=g) (p:=p)
 unfold bQ
 rw [u5 hr,B5,List.getD_eq_getElem?_getD,List.getElem?_map,List.getElem?_range (by omega)]
 simp only [Option.map_some,Option.getD_some]
 rw [show ((v.toNat:Nat):Int)=v by omega]
 by_cases h:p.outs.getD v.toNat []= []
 ·rw [h];simp
 ·rw [if_pos (List.length_pos_iff.2 h),if_pos h]
theorem nH (hr:aR g p) (hl:1<(aY g p).length):bQ (bC g p) g.n= []∧aZ (ag g p) g.n= []:=by
 have hm:=an hr.1
 have hn:=aH hm
 have hG:(ag g p).n=g.n+1:=if_pos hl
 have hz:aZ (ag g p) g.n= []:=by
  rw [p9,jb fun e he h=>by have:=((er hr).2 e he).1;omega]
  simp only [List.map_nil,List.append_nil]
  refine jb fun e he h=> ?_
  obtain ⟨i,hi,rfl⟩:=List.mem_iff_getElem.1 he
  have:=(cT hm hi).1
  rw [List.getD_eq_getElem?_getD,List.getElem?_eq_getElem hi,Option.getD_some] at this
  omega
 refine ⟨?_,hz⟩
 unfold bQ
 rw [u5 hr,B5,List.getD_eq_getElem?_getD,List.getElem?_map,List.getElem?_range (by omega)]
 simp only [Option.map_some,Option.getD_some]
 rw [show ((g.n.toNat:Nat):Int)=g.n by omega,hz]
 have:p.outs.getD g.n.toNat []= []:=by rw [List.getD_eq_getElem?_getD,List.getElem?_eq_none (by rw [hr.2.1.1];exact Nat.le_refl _)];rfl
 rw [this];rfl
theorem qa (hr:aR g p):aX (ag g p) (bC g p):=by
 have h:=hr.2.1
 have hm:=an hr.1
 have hn:=aH hm
 have ha:=jA (g:=g) (p:=p)
 refine ⟨by rw [u5 hr];simp [B5], ?_,fun x hx=> ?_⟩
 ·unfold bC ag
  split
  ·have e:(g.n+1).toNat=g.n.toNat+1:=by omega
   have e2:eC (g.n.toNat+1)=eC g.n.toNat++ [g.n]:=by
    simp only [eC,List.range_succ,List.map_append,List.map_cons,List.map_nil]
    congr 2
    show ((g.n.toNat:Nat):Int)=g.n
    omega
   show (p.ord++ [g.n]).Perm (eC (g.n+1).toNat)
   rw [e,e2]
   exact h.2.1.append_right _
  ·exact h.2.1
 ·have hl:(bC g p).outs.getD x []=bQ (bC g p) (x:Int):=by unfold bQ;rw [Int.toNat_natCast]
  rw [hl]
  by_cases CS:(x:Int)<g.n
  ·rw [sZ hr ⟨by omega,CS⟩]
   split
   ·rename_i h2
    rw [vh hr ⟨by omega,CS⟩ h2]
    exact bS h (by omega) CS
   ·exact List.Perm.refl _
  ·have H6:1<(aY g p).length:=Decidable.byContradiction fun hl=>by
    have:(ag g p).n=g.n:=if_neg hl
    omega
   have e:(x:Int)=g.n:=by omega
   rw [e,(nH hr H6).1,(nH hr H6).2]
theorem Ja (hr:aR g p) {k:Nat} (hk:k<g.n.toNat):aD (bC g p) k=aD p k:=by
 have:=aS hr.2.1
 unfold aD bC
 simp only
 split
 ·rw [List.getD_eq_getElem?_getD,List.getElem?_append_left (by omega), ← List.getD_eq_getElem?_getD]
 ·rfl
theorem Jb (hr:aR g p) (hl:1<(aY g p).length):aD (bC g p) g.n.toNat=g.n:=by
 have:=aS hr.2.1
 unfold aD bC
 simp only
 rw [if_pos hl,List.getD_eq_getElem?_getD,List.getElem?_append_right (by omega),this]
 simp
theorem ED (hr:aR g p) {x:Int} (h0:0≤x∧x<g.n):aF (ag g p) x (bQ (bC g p) x)=(aF g x (bQ p x)).map (oN g.es.length (aV g p)):=by
 obtain ⟨tG,C6⟩:=er hr
 rw [sZ hr h0]
 by_cases hs:bQ p x= []
 ·obtain ⟨s1,s2⟩:=kT hr h0 hs
  have ha:aF g x (bQ p x)= [(-1,x, -1)]:=if_pos hs
  rw [if_neg (by simp [hs]),ha]
  rcases qL (m:=g.es.length) tG x with ⟨h1,h2⟩|⟨h,hm⟩
  ·rw [s2 h2,List.map_cons,List.map_nil,ve h1]
   rfl
  ·obtain ⟨j,h1,h2,h3⟩:=s1 h hm
   rw [h2,List.map_cons,List.map_nil,kS (t:=(-1,x, -1)) (by simp) h1]
   have FI:((ag g p).es.getD (((g.es.length+j:Nat):Int)).toNat (0,0))=(x,h):=by rw [Int.toNat_natCast];exact h3
   simp only [aF,dJ,List.cons_ne_nil,if_false,List.map_cons,List.map_nil,FI]
 ·rw [if_pos hs]
  unfold aF
  rw [if_neg hs,if_neg hs,List.map_map]
  refine List.map_congr_left fun i hi=> ?_
  obtain ⟨k,rfl,hk,ht⟩:=ij ((bS hr.2.1 h0.1 h0.2).mem_iff.1 hi)
  simp only [Function.comp]
  rw [pY (t:=dJ g x (k:Int)) (by simp [dJ])]
  simp only [dJ,Int.toNat_natCast,ej k hk]
theorem vi {x:Int} :aQ (ag g p) x=aQ g x+((aV g p).filter fun e=>decide (e.2=x)).length:=by
 unfold aQ
 have:aK (·.2) (ag g p).es (ag g p).es.length x=aK (·.2) g.es g.es.length x++(aK (·.2) (aV g p) (aV g p).length x).map (· +(g.es.length:Int)):=qI
 rw [this,List.length_append,List.length_map]
 congr 1
 generalize aV g p=N
 unfold aK
 rw [List.length_map, ← List.countP_eq_length_filter, ← List.countP_eq_length_filter]
 have e:N=(List.range N.length).map fun i=>N.getD i (0,0):=by
  refine List.ext_getElem (by simp) fun i h1 h2=> ?_
  simp [List.getD_eq_getElem?_getD,List.getElem?_eq_getElem h1]
 conv=>rhs;rw [e]
 rw [List.countP_map]
 rfl
end Go.Ab
end
section
namespace Go.Ab
open Go.Proofs
set_option maxRecDepth 10000
variable {g:Gr} {p:Pl}
theorem rR (h:aX g p) {k:Nat} :∀ {K:Nat},K≤g.n.toNat→k<g.n.toNat→(cx g p K).filter (fun e=>decide (e.2=aD p k))=if k<K then (loose (cL g p k)).map fun v=>(v,aD p k) else []
 |0,_,_=>by simp [cx]
 |K+1,hK,hk=>by
  rw [cx,List.filter_append,rR h (by omega) hk]
  by_cases e:k=K
  ·subst e
   rw [if_neg (by omega),if_pos (by omega),List.nil_append,List.filter_eq_self.2]
   intro e he
   obtain ⟨v,_,rfl⟩:=List.mem_map.1 he
   simp
  ·have:((loose (cL g p K)).map fun v=>(v,aD p K)).filter (fun e=>decide (e.2=aD p k))= []:=List.filter_eq_nil_iff.2 fun e' he=>by
    obtain ⟨v,_,rfl⟩:=List.mem_map.1 he
    simp only [decide_eq_true_eq]
    intro h2
    exact e (nE h hk (by omega) h2.symm)
   rw [this,List.append_nil]
   by_cases h3:k<K
   ·rw [if_pos h3,if_pos (by omega)]
   ·rw [if_neg h3,if_neg (by omega)]
theorem AB (hr:aR g p) {k:Nat} (hk:k<g.n.toNat):((aV g p).filter fun e=>decide (e.2=aD p k)).length=(loose (cL g p k)).length:=by
 have hx:=bK hr.2.1 hk
 rw [aV,List.filter_append,rR hr.2.1 (Nat.le_refl _) hk,if_pos hk]
 have:(newL g p).filter (fun e=>decide (e.2=aD p k))= []:=List.filter_eq_nil_iff.2 fun e' he=>by
  unfold newL at he
  split at he
  ·obtain ⟨v,_,rfl⟩:=List.mem_map.1 he
   simp only [decide_eq_true_eq];omega
  ·cases he
 rw [this];simp
theorem AD {l:List Int} (h:l.Nodup) {k:Nat} (hk:k<l.length):l.getD k 0∉l.take k:=by
 intro hm
 obtain ⟨j,hj,e⟩:=List.mem_iff_getElem.1 hm
 simp only [List.length_take] at hj
 have e2:l.getD j 0=l.getD k 0:=by
  rw [← e,List.getD_eq_getElem?_getD,List.getElem?_eq_getElem (by omega)]
  simp
 have:=jt h (by omega) hk e2
 omega
theorem take_at {p:Pl} {k:Nat} {v:Int} (hk:k≤p.ord.length) (h:v∈p.ord.take k):∃j,j<k∧aD p j=v:=by
 obtain ⟨j,hj,e⟩:=List.mem_iff_getElem.1 h
 simp only [List.length_take] at hj
 refine ⟨j,by omega, ?_⟩
 rw [← e,aD,List.getD_eq_getElem?_getD,List.getElem?_eq_getElem (by omega)]
 simp
theorem AE {x:Int} {X:List It} (h:∀t∈X,(t.1<0↔¬t.2.2=x)):X.countP (jH x)+(loose X).length=X.length:=by
 rw [List.length_eq_countP_add_countP (jH x)]
 congr 1
 unfold loose
 rw [List.length_map, ← List.countP_eq_length_filter]
 refine List.countP_congr fun t ht=> ?_
 have:=h t ht
 simp only [jH,decide_eq_true_eq,Bool.not_eq_true,decide_eq_false_iff_not]
 exact this
theorem Qh (h:iF g p):∀ {k:Nat},k≤g.n.toNat→(∀j,j<k→oV (ag g p) (bC g p) j=true)∧(fK (ag g p) (bC g p) k).row=(fK g p k).row.map (oN g.es.length (aV g p))
 |0,_=>⟨fun j hj=>by omega,rfl⟩
 |k+1,hk=>by
  have hr:=h.run
  have sk:=hr.2.1
  have hm:=an hr.1
  have xq:=nG h
  have hQ:=qa hr
  obtain ⟨tG,C6⟩:=er hr
  have Uo:=jA (g:=g) (p:=p)
  obtain ⟨N7,hrow⟩:=Qh h (k:=k) (by omega)
  obtain ⟨hi,_,_⟩:=bV hm sk (k:=k) (by omega) fun j hj=>hr.2.2 j (by omega)
  obtain ⟨Lg,Hg,_⟩:=bV xq hQ (k:=k) (by omega) N7
  have hR:ak g (fK g p k) (aD p k)=true:=hr.2.2 k (by omega)
  have iR:=Ja hr (k:=k) (by omega)
  have hx:=bK sk (k:=k) (by omega)
  obtain ⟨H6,Gw⟩:=kP hm sk (k:=k) (by omega) fun j hj=>hr.2.2 j (by omega)
  have hlr:(loose (fK g p k).row).Nodup:=(List.nodup_append.1 H6).2.1
  have hnot:aD p k∉(fK (ag g p) (bC g p) k).pl:=by
   rw [Hg, ← iR]
   exact AD (cP hQ) (by rw [aS hQ];omega)
  have Lh:=AB hr (k:=k) (by omega)
  have bY:=vi (g:=g) (p:=p) (x:=aD p k)
  have Nk:=ED hr hx
  have hin:∀v,(v,aD p k)∈aV g p→v∈loose (cL g p k):=fun v hv=>by
   rcases vg hv with ⟨i,h1,h2,h3⟩|⟨_,h2,_⟩
   ·have:=nE sk (by omega) h1 h2
    subst this;exact h3
   ·omega
  have hout:∀v,v∈loose (cL g p k)→(v,aD p k)∈aV g p:=fun v hv=>List.mem_append_left _ (pZ (by omega) hv)
  suffices hs:oV (ag g p) (bC g p) k=true∧(fK (ag g p) (bC g p) (k+1)).row=(fK g p (k+1)).row.map (oN g.es.length (aV g p)) by
   refine ⟨fun j hj=> ?_,hs.2⟩
   by_cases e:j=k
   ·subst e;exact hs.1
   ·exact N7 j (by omega)
  have SY:(fK (ag g p) (bC g p) (k+1))=(az (ag g p) (fK (ag g p) (bC g p) k) (aD p k) (bQ (bC g p) (aD p k))).2:=by
   rw [← iR];rfl
  have hfg:(fK g p (k+1))=(az g (fK g p k) (aD p k) (bQ p (aD p k))).2:=rfl
  have hok:oV (ag g p) (bC g p) k=ak (ag g p) (fK (ag g p) (bC g p) k) (aD p k):=by unfold oV;rw [iR]
  rw [SY,hfg,hok]
  have Fi:cL g p k=(az g (fK g p k) (aD p k) (bQ p (aD p k))).1.1:=rfl
  generalize aD p k=x at*
  by_cases hn:aQ g x=0
  ·have hno:=gO hm hi.todR hx.1 hn
   rw [eS _ hno] at Fi
   have Nl:aQ (ag g p) x=0:=by rw [bY,hn,Lh,Fi];rfl
   have Qi:=gO xq Lg.todR hx.1 Nl
   refine ⟨?_, ?_⟩
   ·unfold ak
    rw [if_neg (by rintro (h|h|h);omega;omega;exact hnot h),if_pos Nl]
   ·rw [eS _ hno,eS _ Qi]
    simp only [List.map_append]
    rw [Nk,hrow]
  ·obtain ⟨A,X,C,hrw,nA,nC,hX,cX⟩:=bP hm hi.todR hR hn
   rw [eR _ hrw nA nC hX] at Fi
   simp only at Fi
   rw [Fi] at hin hout Lh
   have SZ:∀t∈X,t∈(fK g p k).row:=fun t ht=>by rw [hrw];simp [ht]
   have Up:∀t∈A,t∈(fK g p k).row:=fun t ht=>by rw [hrw];simp [ht]
   have Uq:∀t∈C,t∈(fK g p k).row:=fun t ht=>by rw [hrw];simp [ht]
   have hit:∀t∈X,(t.1<0↔¬t.2.2=x):=fun t ht=>by
    have h1:=(hi.it t (SZ t ht)).head hm
    have h2:=hX.al t ht
    omega
   rw [hrw,bZ,bZ,List.nodup_append,List.nodup_append] at hlr
   have Q6:fW x (A.map (oN g.es.length (aV g p))):=fun t' ht'=>by
    obtain ⟨t,ht,rfl⟩:=List.mem_map.1 ht'
    by_cases h0:0≤t.1
    ·rw [pY h0];exact nA t ht
    ·rcases qL (m:=g.es.length) tG t.2.1 with ⟨h1,_⟩|⟨y,h1⟩
     ·rw [ve h1];exact nA t ht
     ·obtain ⟨j,_,h2,_⟩:=pW (m:=g.es.length) tG h1
      rw [kS (by omega) h2]
      intro e
      have e:y=x:=e
      subst e
      exact hlr.1.2.2 _ (nF ht (by omega)) _ (hin _ h1) rfl
   have Q7:fW x (C.map (oN g.es.length (aV g p))):=fun t' ht'=>by
    obtain ⟨t,ht,rfl⟩:=List.mem_map.1 ht'
    by_cases h0:0≤t.1
    ·rw [pY h0];exact nC t ht
    ·rcases qL (m:=g.es.length) tG t.2.1 with ⟨h1,_⟩|⟨y,h1⟩
     ·rw [ve h1];exact nC t ht
     ·obtain ⟨j,_,h2,_⟩:=pW (m:=g.es.length) tG h1
      rw [kS (by omega) h2]
      intro e
      have e:y=x:=e
      subst e
      exact hlr.2.2 _ (List.mem_append_right _ (hin _ h1)) _ (nF ht (by omega)) rfl
   have Jc:∀t∈X,(oN g.es.length (aV g p) t).2.2=x:=fun t ht=>by
    by_cases h0:0≤t.1
    ·rw [pY h0]
     have:=hit t ht
     omega
    ·obtain ⟨j,_,h2,_⟩:=pW (m:=g.es.length) tG (hout _ (nF ht (by omega)))
     rw [kS (by omega) h2]
   have K7:Mid x (X.map (oN g.es.length (aV g p))):=by
    obtain ⟨q,X0,e1,_⟩:=hX.fst
    obtain ⟨X1,q',e2,_⟩:=hX.KO
    refine ⟨⟨oN g.es.length (aV g p) q,X0.map (oN g.es.length (aV g p)),by rw [e1];rfl,Jc q (by rw [e1];simp)⟩,⟨X1.map (oN g.es.length (aV g p)),oN g.es.length (aV g p) q',by rw [e2];simp,Jc q' (by rw [e2];simp)⟩,fun t' ht'=> ?_⟩
    obtain ⟨t,ht,rfl⟩:=List.mem_map.1 ht'
    exact .inl (Jc t ht)
   have vW:(X.map (oN g.es.length (aV g p))).countP (jH x)=aQ (ag g p) x:=by
    have h1:(X.map (oN g.es.length (aV g p))).countP (jH x)=(X.map (oN g.es.length (aV g p))).length:=List.countP_eq_length.2 fun t' ht'=>by
     obtain ⟨t,ht,rfl⟩:=List.mem_map.1 ht'
     simp [jH,Jc t ht]
    rw [h1,List.length_map,bY,Lh, ← cX,AE hit]
   have Nm:(fK (ag g p) (bC g p) k).row=A.map (oN g.es.length (aV g p))++X.map (oN g.es.length (aV g p))++C.map (oN g.es.length (aV g p)):=by rw [hrow,hrw];simp
   refine ⟨jx xq Lg.todR hx.1 (by omega) hnot Nm Q6 Q7 K7 vW, ?_⟩
   rw [eR _ hrw nA nC hX,eR _ Nm Q6 Q7 K7]
   simp only [List.map_append]
   rw [Nk]
theorem Da (hr:aR g p) {v:Int} {k:Nat} :∀ {K:Nat},k≤K→K≤g.n.toNat→v∈loose (fK g p k).row→(∃i,i<K∧v∈loose (cL g p i))∨v∈loose (fK g p K).row
 |0,h1,_,hv=>by
  obtain rfl:k=0:=by omega
  exact .inr hv
 |K+1,h1,h2,hv=>by
  by_cases e:k=K+1
  ·subst e;exact .inr hv
  ·rcases Da hr (K:=K) (by omega) (by omega) hv with ⟨i,h3,h4⟩|h3
   ·exact .inl ⟨i,by omega,h4⟩
   ·have hm:=an hr.1
    obtain ⟨hi,_,_⟩:=bV hm hr.2.1 (k:=K) (by omega) fun j hj=>hr.2.2 j (by omega)
    obtain ⟨A,X,C,hrw,_,_,_,hs⟩:=fF hm hi.todR (hr.2.2 K (by omega))
    have hg:cL g p K=X:=by unfold cL;rw [hs]
    have hrow:(fK g p (K+1)).row=A++aF g (aD p K) (bQ p (aD p K))++C:=by show (az _ _ _ _).2.row=_;rw [hs]
    rw [hrw,bZ,bZ,List.mem_append,List.mem_append] at h3
    rcases h3 with (h3|h3)|h3
    ·refine .inr ?_
     rw [hrow,bZ,bZ];simp [h3]
    ·exact .inl ⟨K,by omega,by rw [hg];exact h3⟩
    ·refine .inr ?_
     rw [hrow,bZ,bZ];simp [h3]
end Go.Ab
end
section
namespace Go.Ab
open Go.Proofs
set_option maxRecDepth 10000
variable {g:Gr} {p:Pl}
theorem Jd (hr:aR g p):aY g p≠ []:=by
 have hm:=an hr.1
 have hn:=aH hm
 obtain ⟨k,hk⟩:∃k,g.n.toNat=k+1:=⟨g.n.toNat - 1,by omega⟩
 obtain ⟨hi,_,_⟩:=bV hm hr.2.1 (k:=k) (by omega) fun j hj=>hr.2.2 j (by omega)
 obtain ⟨A,X,C,hrw,_,_,_,hs⟩:=fF hm hi.todR (hr.2.2 k (by omega))
 unfold aY
 rw [hk]
 show (az _ _ _ _).2.row≠ []
 rw [hs]
 have:=(jv (g:=g) (x:=aD p k) (outs:=bQ p (aD p k))).1
 intro e
 have h2:=congrArg List.length e
 simp at h2
 rw [h2.2.1] at this
 simp at this
theorem qM (hr:aR g p):bQ p (aD p (g.n.toNat - 1))= []∧aD p (g.n.toNat - 1)∈loose (aY g p):=by
 have hm:=an hr.1
 have hn:=aH hm
 obtain ⟨k,hk⟩:∃k,g.n.toNat=k+1:=⟨g.n.toNat - 1,by omega⟩
 obtain ⟨hi,_,_⟩:=bV hm hr.2.1 (k:=k) (by omega) fun j hj=>hr.2.2 j (by omega)
 obtain ⟨A,X,C,hrw,_,_,_,hs⟩:=fF hm hi.todR (hr.2.2 k (by omega))
 have hL:aY g p=A++aF g (aD p k) (bQ p (aD p k))++C:=by
  unfold aY;rw [hk]
  show (az _ _ _ _).2.row=_
  rw [hs]
 have y4:g.n.toNat - 1=k:=by omega
 rw [y4]
 have iI:=u7 hr
 have hx:=bK hr.2.1 (k:=k) (by omega)
 have h0:bQ p (aD p k)= []:=by
  refine Decidable.byContradiction fun h0=> ?_
  have ha:aF g (aD p k) (bQ p (aD p k))=(bQ p (aD p k)).map (dJ g (aD p k)):=if_neg h0
  obtain ⟨i,hi'⟩:=List.exists_mem_of_ne_nil _ h0
  have h1:=iI (dJ g (aD p k) i) (by rw [hL,ha];simp;exact .inr (.inl ⟨i,hi',rfl⟩))
  obtain ⟨e,rfl,_⟩:=ij ((bS hr.2.1 hx.1 hx.2).mem_iff.1 hi')
  simp [dJ] at h1
  omega
 refine ⟨h0, ?_⟩
 have ha:aF g (aD p k) (bQ p (aD p k))= [(-1,aD p k, -1)]:=if_pos h0
 rw [hL,ha,bZ,bZ]
 simp [loose]
theorem Hh (hr:aR g p) (hl:¬1<(aY g p).length) {v:Int} (hv:v∈loose (aY g p)):v=aD p (g.n.toNat - 1):=by
 have h1:=(qM hr).2
 have h2:(loose (aY g p)).length≤1:=Nat.le_trans xo (by omega)
 match hL:loose (aY g p),h2 with
 | [],_=>rw [hL] at hv;cases hv
 | [w],_=>
   rw [hL,List.mem_singleton] at hv h1
   rw [hv,h1]
theorem Hj (h:iF g p) (hl:1<(aY g p).length):oV (ag g p) (bC g p) g.n.toNat=true∧(fK (ag g p) (bC g p) (g.n.toNat+1)).row= [(-1,g.n, -1)]:=by
 have hr:=h.run
 have hm:=an hr.1
 have hn:=aH hm
 have xq:=nG h
 have hQ:=qa hr
 obtain ⟨tG,C6⟩:=er hr
 obtain ⟨N7,hrow⟩:=Qh h (k:=g.n.toNat) (Nat.le_refl _)
 have hG:(ag g p).n=g.n+1:=if_pos hl
 obtain ⟨Lg,Hg,_⟩:=bV xq hQ (k:=g.n.toNat) (by omega) N7
 have hx:=Jb hr hl
 have hnot:g.n∉(fK (ag g p) (bC g p) g.n.toNat).pl:=by
  rw [Hg]
  have:=AD (cP hQ) (k:=g.n.toNat) (by rw [aS hQ];omega)
  rw [show (bC g p).ord.getD g.n.toNat 0=g.n from hx] at this
  exact this
 have iI:=u7 hr
 have hrow:(fK (ag g p) (bC g p) g.n.toNat).row=(aY g p).map (oN g.es.length (aV g p)):=hrow
 have hmem:∀v∈loose (aY g p),(v,g.n)∈aV g p:=fun v hv=>by
  refine List.mem_append_right _ ?_
  unfold newL
  rw [if_pos hl]
  exact List.mem_map.2 ⟨v,hv,rfl⟩
 have Jc:∀t∈aY g p,(oN g.es.length (aV g p) t).2.2=g.n:=fun t ht=>by
  obtain ⟨j,_,h2,_⟩:=pW (m:=g.es.length) tG (hmem _ (nF ht (iI t ht)))
  rw [kS (iI t ht) h2]
 have K7:Mid g.n ((aY g p).map (oN g.es.length (aV g p))):=by
  have hne:=Jd hr
  refine ⟨?_, ?_,fun t' ht'=> ?_⟩
  ·match hL:aY g p,hne with
   |t::l,_=>exact ⟨_,_,rfl,Jc t (by rw [hL];simp)⟩
  ·have e:=List.dropLast_concat_getLast hne
   refine ⟨(aY g p).dropLast.map (oN g.es.length (aV g p)),oN g.es.length (aV g p) ((aY g p).getLast hne), ?_,Jc _ (List.getLast_mem hne)⟩
   conv=>lhs;rw [← e]
   simp
  ·obtain ⟨t,ht,rfl⟩:=List.mem_map.1 ht'
   exact .inl (Jc t ht)
 have hno:aQ g g.n=0:=by
  have:¬0<aQ g g.n:=fun h0=>by
   obtain ⟨i,hi⟩:=List.exists_mem_of_length_pos h0
   obtain ⟨⟨h1,h2⟩,h3⟩:=fV hi
   have:=(cT hm (k:=i.toNat) (by omega)).2
   have h3:(g.es.getD i.toNat (0,0)).2=g.n:=h3
   omega
  omega
 have vW:((aY g p).map (oN g.es.length (aV g p))).countP (jH g.n)=aQ (ag g p) g.n:=by
  have h1:((aY g p).map (oN g.es.length (aV g p))).countP (jH g.n)=((aY g p).map (oN g.es.length (aV g p))).length:=List.countP_eq_length.2 fun t' ht'=>by
   obtain ⟨t,ht,rfl⟩:=List.mem_map.1 ht'
   simp [jH,Jc t ht]
  have h2:(cx g p g.n.toNat).filter (fun e=>decide (e.2=g.n))= []:=List.filter_eq_nil_iff.2 fun e he=>by
   obtain ⟨i,hi,hx2,_⟩:=vf (v:=e.1) (x:=e.2) he
   have:=bK hr.2.1 hi
   simp only [decide_eq_true_eq];omega
  have h3:(newL g p).filter (fun e=>decide (e.2=g.n))=newL g p:=List.filter_eq_self.2 fun e he=>by
   unfold newL at he
   rw [if_pos hl] at he
   obtain ⟨v,_,rfl⟩:=List.mem_map.1 he
   simp
  have h4:(loose (aY g p)).length=(aY g p).length:=by
   unfold loose
   rw [List.length_map,List.filter_eq_self.2]
   intro t ht
   exact decide_eq_true (iI t ht)
  rw [h1,List.length_map,vi,hno,aV,List.filter_append,h2,h3]
  unfold newL
  rw [if_pos hl]
  simp [h4]
 have Nm:(fK (ag g p) (bC g p) g.n.toNat).row= []++(aY g p).map (oN g.es.length (aV g p))++ []:=by rw [hrow];simp
 have nil:fW g.n ([]:List It):=fun t ht=>by cases ht
 refine ⟨?_, ?_⟩
 ·unfold oV
  rw [hx]
  exact jx xq Lg.todR (by omega) (by omega) hnot Nm nil nil K7 vW
 ·show (az _ _ _ _).2.row=_
  rw [hx,eR _ Nm nil nil K7,(nH hr hl).1]
  rfl
theorem Db (h:iF g p):∀k,k<(ag g p).n.toNat→oV (ag g p) (bC g p) k=true:=by
 have hn:=aH (an h.run.1)
 intro k hk
 by_cases hkn:k<g.n.toNat
 ·exact (Qh h (k:=g.n.toNat) (Nat.le_refl _)).1 k hkn
 ·by_cases hl:1<(aY g p).length
  ·have hG:(ag g p).n=g.n+1:=if_pos hl
   obtain rfl:k=g.n.toNat:=by omega
   exact (Hj h hl).1
  ·have hG:(ag g p).n=g.n:=if_neg hl
   omega
theorem jd {f:Edge→Int} {g:Gr} {y:Int} :y∈bN f g↔(0≤y∧y<g.n)∧aK f g.es g.es.length y= []:=by
 simp only [bN,jm,List.mem_map,List.mem_filter,List.mem_range,decide_eq_true_eq]
 have he:∀x:Nat,x<g.n.toNat→(((dy f g).getD x []).length=0↔aK f g.es g.es.length (x:Int)= []):=by
  intro x hx
  have e:(dy f g).getD x []=aK f g.es g.es.length (x:Int):=by
   simp [dy,List.getD_eq_getElem?_getD,List.getElem?_range hx,mL]
  rw [e,List.length_eq_zero_iff]
 constructor
 ·rintro ⟨x,⟨hx,h0⟩,rfl⟩
  exact ⟨by simp;omega,(he x hx).1 h0⟩
 ·rintro ⟨⟨h1,h2⟩,h3⟩
  have e:((y.toNat:Nat):Int)=y:=by omega
  exact ⟨y.toNat,⟨by omega,(he _ (by omega)).2 (by rw [e];exact h3)⟩,e⟩
theorem yP {l:List Int} (hd:l.Nodup) {s:Int} (h:∀y∈l,y=s):l.length≤1:=by
 match l,hd,h with
 | [],_,_=>simp
 | [_],_,_=>simp
 |a::b::l,hd,h=>
  rw [List.nodup_cons] at hd
  exact absurd (by rw [h a (by simp),h b (by simp)];simp) hd.1
theorem AF (h:iF g p):(bR (ag g p)).1=0:=by
 have hr:=h.run
 have hm:=an hr.1
 have hn:=aH hm
 have xq:=nG h
 have hQ:=qa hr
 have Nn:=Db h
 have hna:=jA (g:=g) (p:=p)
 obtain ⟨tG,C6⟩:=er hr
 have Q8:∀i,i<(ag g p).es.length→∃j k,j<k∧k<(ag g p).n.toNat∧tl (ag g p) i=aD (bC g p) j∧hd (ag g p) i=aD (bC g p) k:=fun i hi=>by
  have hh:=(cT xq hi).2
  obtain ⟨k,hk,e⟩:=gQ hQ hh.1 hh.2
  obtain ⟨Lg,Hg,_⟩:=bV xq hQ (k:=k) (by omega) fun j hj=>Nn j (by omega)
  obtain ⟨t,ht,e1,e2,_⟩:=uR xq Lg (Nn k hk) hi e.symm
  have hin:=Lg.tail t ht (by omega)
  rw [Hg] at hin
  obtain ⟨j,hj,e3⟩:=take_at (by rw [aS hQ];omega) hin
  exact ⟨j,k,hj,hk,by rw [← e2,e3],e.symm⟩
 have Hl:CW (ag g p)=true:=(sY xq).2 ⟨fun v=>(bX (fun y=>decide (y=v)) (bC g p).ord).toNat,fun i hi=>by
  obtain ⟨j,k,hjk,hk,e1,e2⟩:=Q8 i hi
  have qj:∀q,q<(ag g p).n.toNat→bX (fun y=>decide (y=aD (bC g p) q)) (bC g p).ord=q:=fun q hq=>
   c8 (d:=0) (by rw [aS hQ];exact hq) (fun i' hi'=>decide_eq_false fun e=>by
    have:=nE hQ (by omega) hq e
    omega) (decide_eq_true rfl)
  simp only
  rw [e1,e2,qj j (by omega),qj k hk]
  omega⟩
 have Ho:¬0≤js (ag g p):=fun hl=>by
  have h1:=fL (fun e:Edge=>decide (e.1=e.2)) (ag g p).es
  have h0:decide (0≤bX (fun e:Edge=>decide (e.1=e.2)) (ag g p).es)=true:=decide_eq_true hl
  rw [h0] at h1
  obtain ⟨e,he,h2⟩:=List.any_eq_true.1 h1.symm
  obtain ⟨i,hi,rfl⟩:=List.mem_iff_getElem.1 he
  obtain ⟨j,k,hjk,hk,e1,e2⟩:=Q8 i hi
  have h3:tl (ag g p) i=hd (ag g p) i:=by simpa [tl,hd,List.getD_eq_getElem?_getD,List.getElem?_eq_getElem hi] using h2
  have:=nE hQ (by omega) hk (e1.symm.trans (h3.trans e2))
  omega
 have GF:¬0≤dY (ag g p):=fun ht=>by
  obtain ⟨i,k,hi,hk,hik,e⟩:=(jc _).1 ht
  have hgt:¬0≤dY g:=by
   have:=hr.1
   unfold bR fS at this
   intro h2
   split at this
   ·cases this
   split at this
   ·cases this
   cases this
  have hel:(ag g p).es.length=g.es.length+(aV g p).length:=List.length_append
  have mixed:∀a b,a<g.es.length→b<(aV g p).length→g.es.getD a (0,0)≠(aV g p).getD b (0,0):=fun a b ha hb e=>by
   obtain ⟨q0,q1⟩:=C6 _ (aE (d:=(0,0)) hb)
   have hz:=(kQ hr.2.1 q0.1 q0.2).2 q1
   have:(a:Int)∈aZ g ((aV g p).getD b (0,0)).1:=mR.2 ⟨⟨by omega,by omega⟩,by rw [Int.toNat_natCast,e]⟩
   rw [hz] at this
   cases this
  by_cases h1:i<g.es.length
  ·by_cases h2:k<g.es.length
   ·rw [ej i h1,ej k h2] at e
    exact hgt ((jc g).2 ⟨i,k,h1,h2,hik,e⟩)
   ·obtain ⟨b,rfl⟩:∃b,k=g.es.length+b:=⟨k - g.es.length,by omega⟩
    rw [ej i h1,gS] at e
    exact mixed i b h1 (by omega) e
  ·obtain ⟨a,rfl⟩:∃a,i=g.es.length+a:=⟨i - g.es.length,by omega⟩
   by_cases h2:k<g.es.length
   ·rw [ej k h2,gS] at e
    exact mixed k a h2 (by omega) e.symm
   ·obtain ⟨b,rfl⟩:∃b,k=g.es.length+b:=⟨k - g.es.length,by omega⟩
    rw [gS,gS] at e
    have e1:∀q,q<(aV g p).length→((aV g p).map (·.1)).getD q 0=((aV g p).getD q (0,0)).1:=fun q hq=>by
     simp [List.getD_eq_getElem?_getD,List.getElem?_eq_getElem hq]
    have:=jt tG (i:=a) (j:=b) (by simp;omega) (by simp;omega) (by rw [e1 a (by omega),e1 b (by omega),e])
    omega
 have Hp:¬1<(bN (·.2) (ag g p)).length:=fun hb=>by
  obtain ⟨s,hs⟩:∃s,∀y∈bN (·.2) (ag g p),y=s:=by
   refine ⟨aD p 0,fun y hy=> ?_⟩
   obtain ⟨⟨y0,y1⟩,y2⟩:=nw.1 hy
   rw [vi] at y2
   have yn:y<g.n:=by
    refine Decidable.byContradiction fun KW=> ?_
    have hl:1<(aY g p).length:=Decidable.byContradiction fun hl=>by
     have hG:(ag g p).n=g.n:=if_neg hl
     omega
    have e:y=g.n:=by have hG:(ag g p).n=g.n+1:=if_pos hl;omega
    have tL:=(qM hr).2
    have:(aD p (g.n.toNat - 1),y)∈(aV g p).filter fun e=>decide (e.2=y):=List.mem_filter.2 ⟨List.mem_append_right _ (by
     unfold newL
     rw [if_pos hl]
     exact List.mem_map.2 ⟨_,tL,by rw [e]⟩),by simp⟩
    have:=List.length_pos_of_mem this
    omega
   have h0:=bK hr.2.1 (k:=0) (by omega)
   refine jO hr.1 ⟨y0,yn⟩ h0 (by omega) ?_
   refine Decidable.byContradiction fun hnz=> ?_
   obtain ⟨A,X,C,hrw,_,_,hX,_⟩:=bP hm (pS g).todR (hr.2.2 0 (by omega)) hnz
   obtain ⟨q,X0,e1,_⟩:=hX.fst
   rw [e1] at hrw
   simp at hrw
  have:=yP eD hs
  omega
 unfold bR fS
 rw [if_neg (by simp [xq]),if_neg Ho,if_neg GF,if_neg (by rw [yO xq Hl];simp),if_neg Hp]
theorem fu (h:iF g p):aR (ag g p) (bC g p):=⟨AF h,qa h.run,Db h⟩
theorem Hq (h:iF g p):xp (ag g p)=true:=by
 have hr:=h.run
 have hm:=an hr.1
 have hn:=aH hm
 have hna:=jA (g:=g) (p:=p)
 obtain ⟨tG,C6⟩:=er hr
 unfold xp
 rw [decide_eq_true (AF h),Bool.true_and,decide_eq_true_eq]
 obtain ⟨H6,Gw⟩:=kP hm hr.2.1 (k:=g.n.toNat) (Nat.le_refl _) hr.2.2
 have key:∀y,0≤y∧y<g.n→aZ (ag g p) y= []→¬1<(aY g p).length∧y∈loose (aY g p):=fun y hy hz=>by
  have hs:bQ p y= []:=by
   refine Decidable.byContradiction fun hs=> ?_
   rw [vh hr hy hs] at hz
   exact hs ((kQ hr.2.1 hy.1 hy.2).1 hz)
  obtain ⟨s1,_⟩:=kT hr hy hs
  have hno:∀x,(y,x)∉aV g p:=fun x hx=>by
   obtain ⟨j,_,h2,_⟩:=s1 x hx
   rw [hz] at h2;cases h2
  obtain ⟨k,hk,e⟩:=gQ hr.2.1 hy.1 hy.2
  obtain ⟨hi,_,_⟩:=bV hm hr.2.1 (k:=k) (by omega) fun j hj=>hr.2.2 j (by omega)
  obtain ⟨A,X,C,hrw,_,_,_,hs'⟩:=fF hm hi.todR (hr.2.2 k hk)
  have hin:y∈loose (fK g p (k+1)).row:=by
   have hrow:(fK g p (k+1)).row=A++aF g (aD p k) (bQ p (aD p k))++C:=by show (az _ _ _ _).2.row=_;rw [hs']
   rw [hrow,e,hs,bZ,bZ]
   simp [aF,loose]
  rcases Da hr (K:=g.n.toNat) (by omega) (Nat.le_refl _) hin with ⟨i,h1,h2⟩|h2
  ·exact absurd (List.mem_append_left _ (pZ h1 h2)) (hno _)
  ·refine ⟨fun hl=>hno g.n (List.mem_append_right _ ?_),h2⟩
   unfold newL
   rw [if_pos hl]
   exact List.mem_map.2 ⟨_,h2,rfl⟩
 have Ur:(bN (·.1) (ag g p)).length≤1:=by
  by_cases hl:1<(aY g p).length
  ·refine yP (s:=g.n) eD fun y hy=> ?_
   obtain ⟨hy1,hy2⟩:=jd.1 hy
   refine Decidable.byContradiction fun hne=> ?_
   have hG:(ag g p).n=g.n+1:=if_pos hl
   exact (key y ⟨hy1.1,by omega⟩ hy2).1 hl
  ·refine yP (s:=aD p (g.n.toNat - 1)) eD fun y hy=> ?_
   obtain ⟨hy1,hy2⟩:=jd.1 hy
   have hG:(ag g p).n=g.n:=if_neg hl
   exact Hh hr hl (key y ⟨hy1.1,by omega⟩ hy2).2
 have Us:0<(bN (·.1) (ag g p)).length:=by
  by_cases hl:1<(aY g p).length
  ·have hG:(ag g p).n=g.n+1:=if_pos hl
   exact List.length_pos_of_mem (jd.2 ⟨⟨by omega,by omega⟩,(nH hr hl).2⟩:g.n∈bN (·.1) (ag g p))
  ·have hw:=bK hr.2.1 (k:=g.n.toNat - 1) (by omega)
   obtain ⟨h1,h2⟩:=qM hr
   refine List.length_pos_of_mem (jd.2 ⟨⟨hw.1,by omega⟩,(kT hr hw h1).2 fun e he h3=> ?_⟩:aD p (g.n.toNat - 1)∈bN (·.1) (ag g p))
   rcases vg (v:=e.1) (x:=e.2) he with ⟨i,h4,_,h5⟩|⟨h4,_⟩
   ·exact (List.nodup_append.1 H6).2.2 e.1 (List.mem_map.2 ⟨_,pZ h4 h5,rfl⟩) _ h2 h3
   ·exact hl h4
 omega
end Go.Ab
end
section
namespace Go.Ab
open Go.Proofs
set_option maxRecDepth 10000
def fY (l:List It):List It:=l.filter fun t=>decide (0≤t.1)
theorem nI {a b:List It} :fY (a++b)=fY a++fY b:=by simp [fY]
theorem eW {l:List It} {t:It} :t∈fY l↔t∈l∧0≤t.1:=by simp [fY]
theorem s4 {x:Int} {l:List It} (h:fW x l):fW x (fY l):=fun t ht=>h t (eW.1 ht).1
def we (x:Int) (l:List It):Prop:=∀t∈l,t.2.2=x
theorem qN {g:Gr} {x:Int} {o:List Int} (ho:∀i∈o,0≤i):fY (aF g x o)=o.map (dJ g x):=by
 unfold aF
 split
 ·rename_i h;subst h;rfl
 ·refine List.filter_eq_self.2 fun t ht=> ?_
  obtain ⟨i,hi,rfl⟩:=List.mem_map.1 ht
  exact decide_eq_true (ho i hi)
theorem xu {x:Int} :∀ {X Y c d:List It},we x X→we x Y→fW x c→fW x d→X++c=Y++d→X=Y∧c=d
 | [], [],c,d,_,_,_,_,e=>⟨rfl,e⟩
 | [],u::Y,c,d,_,hY,hc,_,e=>by
   simp only [List.nil_append] at e
   exact absurd (hY u (by simp)) (hc u (by rw [e];simp))
 |t::X, [],c,d,hX,_,_,hd,e=>by
  simp only [List.nil_append] at e
  exact absurd (hX t (by simp)) (hd t (by rw [← e];simp))
 |t::X,u::Y,c,d,hX,hY,hc,hd,e=>by
  simp only [List.cons_append,List.cons.injEq] at e
  obtain ⟨e1,e2⟩:=xu (fun s hs=>hX s (by simp [hs])) (fun s hs=>hY s (by simp [hs])) hc hd e.2
  exact ⟨by rw [e.1,e1],e2⟩
theorem AG {x:Int} :∀ {a b X Y c d:List It},fW x a→fW x b→we x X→we x Y→fW x c→fW x d→X≠ []→Y≠ []→a++X++c=b++Y++d→a=b∧X=Y∧c=d
 |t::a, [],X,u::Y,c,d,ha,_,_,hY,_,_,_,_,e=>by
  simp only [List.cons_append,List.nil_append,List.cons.injEq] at e
  exact absurd (by rw [e.1];exact hY u (by simp)) (ha t (by simp))
 | [],t::b,u::X,Y,c,d,_,hb,hX,_,_,_,_,_,e=>by
   simp only [List.cons_append,List.nil_append,List.cons.injEq] at e
   exact absurd (by rw [← e.1];exact hX u (by simp)) (hb t (by simp))
 |t::a,u::b,X,Y,c,d,ha,hb,hX,hY,hc,hd,nX,nY,e=>by
  simp only [List.cons_append,List.cons.injEq] at e
  obtain ⟨e1,e2,e3⟩:=AG (fun s hs=>ha s (by simp [hs])) (fun s hs=>hb s (by simp [hs])) hX hY hc hd nX nY e.2
  exact ⟨by rw [e.1,e1],e2,e3⟩
 | [], [],X,Y,c,d,_,_,hX,hY,hc,hd,_,_,e=>by
   refine ⟨rfl, ?_⟩
   simp only [List.nil_append] at e
   exact xu hX hY hc hd e
 | [],_::_, [],_,_,_,_,_,_,_,_,_,h,_,_=>absurd rfl h
 |_::_, [],_, [],_,_,_,_,_,_,_,_,_,h,_=>absurd rfl h
theorem AH {g:Gr} (hm:aM g=true) {f:Fr} (hi:dR g f) {x:Int} (hR:ak g f x=true) (hn:aQ g x≠0):
 ∃a X c,fY f.row=a++X++c∧fW x a∧fW x c∧we x X∧X.length=aQ g x∧∀o,fY (az g f x o).2.row=a++fY (aF g x o)++c:=by
 obtain ⟨A,X,C,hr,hA,hC,hX,cX⟩:=bP hm hi hR hn
 have hx:=(aB hR).1
 have hmem:∀t∈X,t∈f.row:=fun t ht=>by rw [hr];simp [ht]
 have hiff:∀t∈X,(0≤t.1↔t.2.2=x):=fun t ht=>by
  have h1:=(hi.it t (hmem t ht)).head hm
  have h2:=hX.al t ht
  omega
 refine ⟨fY A,fY X,fY C,by rw [hr,nI,nI],s4 hA,s4 hC,fun t ht=> ?_, ?_,fun o=> ?_⟩
 ·obtain ⟨h1,h2⟩:=eW.1 ht
  exact (hiff t h1).1 h2
 ·rw [← cX,fY, ← List.countP_eq_length_filter]
  refine List.countP_congr fun t ht=> ?_
  simp only [jH,decide_eq_true_eq]
  exact hiff t ht
 ·rw [eR o hr hA hC hX]
  simp only [nI]
theorem Dc {g:Gr} (hm:aM g=true) {f:Fr} (hi:dR g f) {x:Int} (hR:ak g f x=true) (hn:aQ g x≠0) {a X c:List It} (e:fY f.row=a++X++c) (ha:fW x a) (hc:fW x c) (hX:we x X) (nX:X≠ []) (o:List Int):
 fY (az g f x o).2.row=a++fY (aF g x o)++c:=by
 obtain ⟨b,Y,d,e',hb,hd,hY,lY,hs⟩:=AH hm hi hR hn
 have nY:Y≠ []:=fun h=>hn (by rw [← lY,h];rfl)
 obtain ⟨e1,_,e3⟩:=AG hb ha hY hX hd hc nY nX (e'.symm.trans e)
 rw [hs o,e1,e3]
theorem AI {g:Gr} (hm:aM g=true) {f:Fr} (hi:dR g f) {x:Int} (h0:0≤x) (h1:x<g.n) (hp:x∉f.pl) {a X c:List It} (e:fY f.row=a++X++c) (ha:fW x a) (hc:fW x c) (hX:we x X) (nX:X≠ []) (hl:X.length=aQ g x):ak g f x=true:=by
 have hmem:∀j,j<f.row.length→Et g (f.row.getD j (0,0,0)):=fun j hj=>hi.it _ (aE hj)
 have vW:f.row.countP (jH x)=X.length:=by
  have h2:f.row.countP (jH x)=(fY f.row).countP (jH x):=by
   rw [fY,List.countP_filter]
   refine List.countP_congr fun t ht=> ?_
   have:=(hi.it t ht).head hm
   simp only [jH,Bool.and_eq_true,decide_eq_true_eq]
   omega
  have c1:a.countP (jH x)=0:=List.countP_eq_zero.2 fun t ht=>by simp [jH,ha t ht]
  have c2:c.countP (jH x)=0:=List.countP_eq_zero.2 fun t ht=>by simp [jH,hc t ht]
  have c3:X.countP (jH x)=X.length:=List.countP_eq_length.2 fun t ht=>by simp [jH,hX t ht]
  rw [h2,e,List.countP_append,List.countP_append,c1,c2,c3]
  omega
 rw [← fq hm hi,dZ,if_neg (by rintro (h|h|h);omega;omega;exact hp h),gN h0 h1,Bool.and_eq_true,decide_eq_true_eq]
 have hN:(aK (fun e=>e.2) g.es g.es.length x).length=aQ g x:=rfl
 rw [hN]
 refine ⟨?_, ?_⟩
 ·unfold bh
  rw [kK,lP (Nat.le_refl _),List.take_length,vW,hl]
 ·rw [Bool.or_eq_true];right
  rcases di (row:=f.row) (x:=x) f.row.length with ⟨hs,hno⟩|⟨p,q,n,hs,hab,qY,hc0,hcl,hpx,Qj,hlo,hhi⟩
  ·have hs':bh f.row x=(-1,0,0):=hs
   rw [hs'];simp [rK]
  ·have hs':bh f.row x=((p:Int),(q:Int),(n:Int)):=hs
   rw [hs']
   simp only [Int.toNat_natCast,rK,Bool.not_eq_true']
   rw [← Bool.not_eq_true,w9 qY]
   rintro ⟨j,h2,h3,h4⟩
   simp only [lM,Bool.and_eq_true,decide_eq_true_eq] at h4
   have hja:p<j:=by
    refine Nat.lt_of_le_of_ne h2 fun e=> ?_
    subst e;exact h4.1 hpx
   have hjb:j<q - 1:=by
    refine Nat.lt_of_le_of_ne (by omega) fun e=> ?_
    subst e;exact h4.1 Qj
   have hsub:=((uS (i:=j+1) (j:=q - 1) (uS (i:=p+1) (j:=j) (uS (i:=0) (j:=p) (List.nil_sublist _) (by omega) (by omega)) (by omega) (by omega)) (by omega) (by omega)).trans (List.take_sublist _ f.row)).filter fun t=>decide (0≤t.1)
   have hp1:=(hmem p (by omega)).head hm
   have Q9:=(hmem j (by omega)).head hm
   have hq1:=(hmem (q - 1) (by omega)).head hm
   generalize f.row.getD p (0,0,0)=s1 at hsub hp1 hpx
   generalize f.row.getD j (0,0,0)=s2 at hsub Q9 h4
   generalize f.row.getD (q - 1) (0,0,0)=s3 at hsub hq1 Qj
   have hf:([]++ [s1]++ [s2]++ [s3]).filter (fun t=>decide (0≤t.1))= [s1,s2,s3]:=List.filter_eq_self.2 fun t ht=>by
    simp only [List.nil_append,List.cons_append,List.mem_cons,List.not_mem_nil,or_false] at ht
    rcases ht with rfl|rfl|rfl
    ·exact decide_eq_true (hp1.1.2 (by omega))
    ·exact decide_eq_true (Q9.1.2 h4.2)
    ·exact decide_eq_true (hq1.1.2 (by omega))
   rw [hf] at hsub
   have hsub: [s1,s2,s3].Sublist (a++(X++c)):=by rw [← List.append_assoc, ← e];exact hsub
   rw [List.sublist_append_iff] at hsub
   obtain ⟨l1,l',el,k1,k'⟩:=hsub
   rw [List.sublist_append_iff] at k'
   obtain ⟨l2,l3,rfl,k2,k3⟩:=k'
   match l1,el,k1 with
   |t::l1,el,k1=>
    simp only [List.cons_append,List.cons.injEq] at el
    exact ha t (k1.subset (by simp)) (by rw [← el.1];exact hpx)
   | [],el,_=>
     match l2,el,k2 with
     | [],el,_=>
       simp only [List.nil_append] at el
       exact hc s1 (k3.subset (by rw [← el];simp)) hpx
     | [t],el,_=>
       simp only [List.nil_append,List.cons_append,List.cons.injEq] at el
       exact hc s3 (k3.subset (by rw [← el.2];simp)) Qj
     |t::u::l2,el,k2=>
      simp only [List.nil_append,List.cons_append,List.cons.injEq] at el
      exact h4.1 (by rw [el.2.1];exact hX u (k2.subset (by simp)))
end Go.Ab
end
section
namespace Go.Ab
open Go.Proofs
set_option maxRecDepth 10000
def No (gone:List Int) (i:Nat):Bool:= !decide ((i:Int)∈gone)
def Lw (gone:List Int) (k:Nat):List Nat:=(List.range k).filter (No gone)
def S0 (gone:List Int) (k:Nat):Nat:=(Lw gone k).length
def Qk (gone:List Int) (es:List Edge) (k:Nat):List Edge:=(Lw gone k).map fun i=>es.getD i (0,0)
def S1 (g:Gr) (gone:List Int):Gr:=⟨g.n,Qk gone g.es g.es.length⟩
def Ra (gone:List Int) (i:Int):Int:=if i∈gone then -1 else (S0 gone i.toNat:Int)
def Ql (gone:List Int) (l:List Int):List Int:=(l.filter fun i=>decide (i∉gone)).map (Ra gone)
def S2 (p:Pl) (gone:List Int):Pl:=⟨p.ord,p.outs.map (Ql gone)⟩
variable {g:Gr} {p:Pl} {gone:List Int}
def S3 (gone:List Int) (t:It):It:=(Ra gone t.1,t.2.1,t.2.2)
def S4 (gone:List Int) (l:List It):List It:=(l.filter fun t=>decide (t.1∉gone)).map (S3 gone)
theorem EE (hr:aR g p):aQ g (aD p 0)=0:=by
 have hm:=an hr.1
 have hn:=aH hm
 refine Decidable.byContradiction fun hnz=> ?_
 obtain ⟨A,X,C,hrw,_,_,hX,_⟩:=bP hm (pS g).todR (hr.2.2 0 (by omega)) hnz
 obtain ⟨q,X0,e1,_⟩:=hX.fst
 rw [e1] at hrw
 simp at hrw
end Go.Ab
end
