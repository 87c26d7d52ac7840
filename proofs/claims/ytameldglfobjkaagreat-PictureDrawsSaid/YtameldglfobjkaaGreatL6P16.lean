/- A part of the proof. -/
import Derived.Test.YtameldglfobjkaaGreatL6P15
set_option linter.unusedSimpArgs false
set_option linter.unusedVariables false
section
set_option maxRecDepth 10000
namespace Go.Ab
open Go.Proofs
def w9(g:Gr)(p:Pl)(f:Fr)(x:Int):Fr:=(aC g f x (bE p x)).2
def BF(g:Gr)(p:Pl):Nat->Fr->Prop
 |0,f=>(f.pl.length:Int)=g.n
 |m+1,f=>∃x,au g f x=true/\BF g p m (w9 g p f x)
theorem BG{g:Gr}{p:Pl} :∀ {m:Nat} {f f':Fr},f.row=f'.row->f.pl.Perm f'.pl->BF g p m f->BF g p m f'
 |0,f,f',_,hp,h=>by
  have h:(f.pl.length:Int)=g.n:=h
  show(f'.pl.length:Int)=g.n
  rw[<- hp.length_eq];exact h
 |m+1,f,f',hr,hp,⟨x,h1,h2⟩=>by
  refine⟨x,by rw[<- y8 hr hp];exact h1,BG ?_ ?_ h2⟩
  ·simp only[w9,aC,hr]
  ·exact hp.append_right _
theorem GV{g:Gr}(hc:(bX g).1=0){p:Pl}(hp:bq g p):∀ {m:Nat} {f:Fr},Bx g f->(f.pl.length:Int)+(m+1:Nat)=g.n->BF g p (m+1) f->∀ {x:Int},au g f x=true->BF g p m (w9 g p f x)
 |m,f,hi,hl,⟨y,zC,hcan⟩,x,hR=>by
  have hm:=ah hc
  by_cases hxy:x=y
  ·subst hxy;exact hcan
  have py:=aW hp (aF zC).1 (aF zC).2.1
  have px:=aW hp (aF hR).1 (aF hR).2.1
  have i2:=kr hm hi zC py
  match m,hl,hcan with
  |0,hl,hcan=>
   exfalso
   have h1:=jQ i2.tofL (by show((f.pl++ [y]).length:Int)=g.n;simp;omega) (x:=x) ⟨(aF hR).1,(aF hR).2.1⟩
   have h2:x∈f.pl++ [y]:=h1
   simp[(aF hR).2.2,hxy]at h2
  |m+1,hl,hcan=>
   obtain⟨h4,h5,h6,_⟩:=Dg hc hi hxy hR zC px py
   have h3:=GV hc hp i2 (by show(((f.pl++ [y]).length:Nat):Int)+_=_;simp;omega) hcan h5
   refine⟨y,h4,BG h6.symm ?_ h3⟩
   show(f.pl++ [y]++ [x]).Perm (f.pl++ [x]++ [y])
   rw[adO,adO]
   exact ag9 _ (List.Perm.swap ..)
theorem GW{g:Gr}{p:Pl}(h:aG g p):∀ {d k:Nat},k+d=g.n.toNat->BF g p d (fK g p k)
 |0,k,hk=>by
  have hn:=aB (ah h.1)
  obtain⟨_,dI,_⟩:=bz (ah h.1) h.2.1 (k:=k) (by omega) fun j hj=>h.2.2 j (by omega)
  show((fK g p k).pl.length:Int)=g.n
  rw[dI,adH,aI h.2.1];omega
 |d+1,k,hk=>⟨aq p k,h.2.2 k (by omega),GW h (k:=k+1) (by omega)⟩
def kz(rev:Bool)(l:List It):List It:=if rev=true then l.reverse else l
def ee(g:Gr)(f:Fr)(rev:Bool):Int:=match (kz rev f.row).find? (fun t=>au g f t.2.2) with
 |some t=>t.2.2
 |none=>(gQ g f).headD (-1)
def aY(g:Gr)(p:Pl)(rev:Bool):Nat->Fr
 |0=>⟨[], []⟩
 |k+1=>w9 g p (aY g p rev k) (ee g (aY g p rev k) rev)
def gl(g:Gr)(p:Pl)(rev:Bool):Nat->List Int
 |0=>List.replicate g.n.toNat 0
 |k+1=>(gl g p rev k).set (ee g (aY g p rev k) rev).toNat (k:Int)
theorem sX{g:Gr}{p:Pl}{rev:Bool} :∀ {k:Nat},(gl g p rev k).length=g.n.toNat
 |0=>by simp[gl]
 |k+1=>by rw[gl,adQ,sX]
theorem kC{g:Gr}(hm:aM g=true){f:Fr}(hi:fL g f){x:Int} :x∈gQ g f↔au g f x=true:=by
 simp only[gQ,nK,adb,adJ,adl]
 constructor
 ·rintro⟨k,⟨h1,h2⟩,rfl⟩
  rw[<- kj hm hi];exact h2
 ·intro h
  obtain⟨h1,h2,_⟩:=aF h
  have e:((x.toNat:Nat):Int)=x:=by omega
  refine⟨x.toNat,⟨by omega, ?_⟩,e⟩
  rw[e,kj hm hi];exact h
theorem BH{g:Gr}(hm:aM g=true){f:Fr}(hi:fL g f)(h:∃x,au g f x=true)(rev:Bool):au g f (ee g f rev)=true:=by
 unfold ee
 cases hf:(kz rev f.row).find? (fun t=>au g f t.2.2) with
 |some t=>
  have h2:=List.find?_some (p:=fun t:It=>au g f t.2.2) hf
  exact h2
 |none=>
  obtain⟨x,hx⟩:=h
  have hx:=(kC hm hi).2 hx
  match hL:gQ g f with
  | []=>rw[hL]at hx;cases hx
  |y::l=>exact(kC hm hi).1 (by rw[hL];simp)
theorem gZ{g:Gr}{p:Pl}(h:aG g p)(rev:Bool):∀ {k:Nat},k<=g.n.toNat->Bx g (aY g p rev k)/\(aY g p rev k).pl.length=k/\BF g p (g.n.toNat - k) (aY g p rev k)/\(aY g p rev k).row.length<=k*(g.es.length+1)
 |0,_=>⟨wR g,rfl,GW h (k:=0) (by omega),by simp[aY]⟩
 |k+1,hk=>by
  have hm:=ah h.1
  have hn:=aB hm
  obtain⟨h1,h2,h3,h4⟩:=gZ h rev (k:=k) (by omega)
  obtain⟨m,hmm⟩:∃m,g.n.toNat - k=m+1:=⟨g.n.toNat - k - 1,by omega⟩
  rw[hmm]at h3
  have hR:=BH hm h1.tofL (by obtain⟨x,hx,_⟩:=h3;exact⟨x,hx⟩) rev
  have hx:=aF hR
  have hp:=aW h.2.1 hx.1 hx.2.1
  have hl:=De (g:=g) (f:=aY g p rev k) (x:=ee g (aY g p rev k) rev) (o:=bE p (ee g (aY g p rev k) rev))
  have IA:=wS h.2.1 hx.1 hx.2.1
  refine⟨kr hm h1 hR hp,hl.2.trans (by rw[h2]), ?_, ?_⟩
  ·rw[show g.n.toNat - (k+1)=m by omega]
   exact GV h.1 h.2.1 h1 (by omega) h3 hR
  ·show(aC _ _ _ _).2.row.length<=_
   rw[ad7];omega
theorem pW{g:Gr}{p:Pl}(h:aG g p)(rev:Bool){k:Nat}(hk:k<g.n.toNat):au g (aY g p rev k) (ee g (aY g p rev k) rev)=true/\gQ g (aY g p rev k)≠ []:=by
 have hm:=ah h.1
 obtain⟨h1,h2,h3,_⟩:=gZ h rev (k:=k) (by omega)
 obtain⟨m,hmm⟩:∃m,g.n.toNat - k=m+1:=⟨g.n.toNat - k - 1,by omega⟩
 rw[hmm]at h3
 have hR:=BH hm h1.tofL (by obtain⟨x,hx,_⟩:=h3;exact⟨x,hx⟩) rev
 exact⟨hR,fun e=>by
  have:=(kC hm h1.tofL).2 hR
  rw[e]at this;cases this⟩
def iL(g:Gr)(p:Pl)(rev:Bool):List Int:=(List.range g.n.toNat).map fun k=>ee g (aY g p rev k) rev
theorem ET{g:Gr}{p:Pl}(rev:Bool):∀ {k:Nat},(aY g p rev k).pl=(List.range k).map fun j=>ee g (aY g p rev j) rev
 |0=>rfl
 |k+1=>by
  rw[adW,adt, <- ET rev (k:=k)]
  rfl
theorem sY{g:Gr}{p:Pl}(h:aG g p)(rev:Bool):aG g ⟨iL g p rev,p.outs⟩:=by
 have hm:=ah h.1
 have hn:=aB hm
 obtain⟨h1,h2,_,_⟩:=gZ h rev (k:=g.n.toNat) (adh _)
 have dI:(aY g p rev g.n.toNat).pl=iL g p rev:=ET rev
 have hQ:bq g ⟨iL g p rev,p.outs⟩:=by
  refine⟨h.2.1.1, ?_,h.2.1.2.2⟩
  show(iL g p rev).Perm (dD g.n.toNat)
  rw[<- dI]
  refine(wQ (ms:=(aY g p rev g.n.toNat).pl) (os:=dD g.n.toNat) h1.pl (fun x hx=>cE.2 (by have:=h1.lg x hx;omega)) (by rw[gY,h2])).symm
 have qy:∀k,k<g.n.toNat->aq ⟨iL g p rev,p.outs⟩ k=ee g (aY g p rev k) rev:=fun k hk=>by
  simp[aq,iL,aas,adq hk]
 have hfk:∀k,k<=g.n.toNat->fK g ⟨iL g p rev,p.outs⟩ k=aY g p rev k:=by
  intro k
  induction k with
  |zero=>intro _;rfl
  |succ k ih=>
   intro hk
   show(aC g (fK g ⟨iL g p rev,p.outs⟩ k) _ _).2=_
   rw[qy k (by omega),ih (by omega)]
   rfl
 refine⟨h.1,hQ,fun k hk=> ?_⟩
 unfold xP
 rw[hfk k (by omega),qy k hk]
 exact(pW h rev hk).1
def mO(f:Fr):Fr:=⟨f.row.reverse,f.pl⟩
def cZ(p:Pl):Pl:=⟨p.ord,p.outs.map List.reverse⟩
theorem M5{f:Fr} :mO (mO f)=f:=by simp[mO]
theorem EU{g:Gr}{f:Fr}(h:fL g f):fL g (mO f):=⟨fun t ht=>h.it t (aeY.1 ht),h.pl,h.lg⟩
theorem gv.rev{x:Int}{l:List It}(h:gv x l):gv x l.reverse:=fun t ht=>h t (aeY.1 ht)
theorem Mid.rev{x:Int}{X:List It}(h:Mid x X):Mid x X.reverse:=
 ⟨by obtain⟨X',q,h1,h2⟩:=h.GM;exact⟨q,X'.reverse,by simp[h1],h2⟩,by obtain⟨p,X',h1,h2⟩:=h.fst;exact⟨X'.reverse,p,by simp[h1],h2⟩,fun t ht=>h.al t (aeY.1 ht)⟩
theorem BI{g:Gr}(hm:aM g=true){f:Fr}(hi:fL g f){x:Int}(hR:au g f x=true):au g (mO f) x=true:=by
 obtain⟨h0,h1,h2⟩:=aF hR
 by_cases hn:aV g x=0
 ·unfold au
  rw[ac8 (by rintro(h|h|h);omega;omega;exact h2 h),ada hn]
 ·obtain⟨A,X,C,hr,hA,hC,hX,hc⟩:=bD hm hi hR hn
  exact mu hm (EU hi) h0 h1 h2 (A:=C.reverse) (X:=X.reverse) (C:=A.reverse) (by simp[mO,hr]) hC.rev hA.rev hX.rev (by rw[List.countP_reverse,hc])
theorem yl{g:Gr}(hm:aM g=true){f:Fr}(hi:fL g f)(x:Int):au g (mO f) x=au g f x:=by
 rw[ad1]
 refine⟨fun h=> ?_,BI hm hi⟩
 have:=BI hm (EU hi) h
 rwa [M5]at this
theorem Dm{g:Gr}{x:Int}{o:List Int} :aQ g x o.reverse=(aQ g x o).reverse:=by
 unfold aQ
 by_cases h:o= []
 ·rw[ada h,ada (by rw[h];rfl)];rfl
 ·rw[ac8 h,ac8 (by simpa using h),List.map_reverse]
theorem BJ{g:Gr}(hc:(bX g).1=0){f:Fr}(hi:Bx g f){x:Int}(hR:au g f x=true)(o:List Int):
 aC g (mO f) x o.reverse=(((aC g f x o).1.1.reverse,0),mO (aC g f x o).2):=by
 have hm:=ah hc
 obtain⟨h0,h1,h2⟩:=aF hR
 by_cases hn:aV g x=0
 ·have hrow:f.row= []:=by
   rcases hi.src with ⟨_,h⟩|⟨s,hs,hz⟩
   ·exact h
   ·have:=gB hc (x:=s) (y:=x) (hi.lg s hs) ⟨h0,h1⟩ hz hn
    exact absurd (this ▸ hs) h2
  have hno:gv x f.row:=by rw[hrow];intro t ht;cases ht
  have aa4:gv x (mO f).row:=hno.rev
  rw[cH _ hno,cH _ aa4]
  simp[mO,hrow,Dm]
 ·obtain⟨A,X,C,hr,hA,hC,hX,_⟩:=bD hm hi.tofL hR hn
  rw[dR o hr hA hC hX,dR (f:=mO f) (A:=C.reverse) (X:=X.reverse) (C:=A.reverse) o.reverse (by simp[mO,hr]) hC.rev hA.rev hX.rev]
  simp[mO,Dm]
theorem pY{p:Pl}{x:Int} :bE (cZ p) x=(bE p x).reverse:=by
 unfold bE cZ
 simp only[aas,adn]
 cases p.outs[x.toNat]? <;>simp
theorem Jj{g:Gr}{p:Pl}(h:bq g p):bq g (cZ p):=by
 refine⟨by simpa[cZ]using h.1,h.2.1,fun x hx=> ?_⟩
 have e:(cZ p).outs.getD x []=(p.outs.getD x []).reverse:=by
  have:=pY (p:=p) (x:=(x:Int))
  unfold bE at this
  simpa using this
 rw[e]
 exact(List.reverse_perm _).trans (h.2.2 x hx)
theorem Jk{g:Gr}{p:Pl}(h:aG g p):∀ {k:Nat},k<=g.n.toNat->fK g (cZ p) k=mO (fK g p k)/\∀j,j<k->xP g (cZ p) j=true
 |0,_=>⟨rfl,fun j hj=>by omega⟩
 |k+1,hk=>by
  have hm:=ah h.1
  obtain⟨h1,h2⟩:=Jk h (k:=k) (by omega)
  obtain⟨hi,_,_⟩:=bz hm h.2.1 (k:=k) (by omega) fun j hj=>h.2.2 j (by omega)
  have hR:au g (fK g p k) (aq p k)=true:=h.2.2 k (by omega)
  have ho:aq (cZ p) k=aq p k:=rfl
  have hok:xP g (cZ p) k=true:=by
   show au g (fK g (cZ p) k) (aq (cZ p) k)=true
   rw[h1,ho,yl hm hi.tofL,hR]
  refine⟨?_,fun j hj=> ?_⟩
  ·show(aC g (fK g (cZ p) k) (aq (cZ p) k) (bE (cZ p) (aq (cZ p) k))).2=_
   rw[h1,ho,pY,BJ h.1 hi hR]
   rfl
  ·by_cases e:j=k
   ·subst e;exact hok
   ·exact h2 j (by omega)
theorem xd{g:Gr}{p:Pl}(h:aG g p):aG g (cZ p):=
 ⟨h.1,Jj h.2.1,fun k hk=>(Jk h (k:=k+1) (by omega)).2 k (by omega)⟩
theorem Qm{g:Gr}{p:Pl}(h:aG g p){k:Nat}(hk:k<g.n.toNat):cB g (cZ p) k=(cB g p k).reverse:=by
 have hm:=ah h.1
 obtain⟨hi,_,_⟩:=bz hm h.2.1 (k:=k) (by omega) fun j hj=>h.2.2 j (by omega)
 have ho:aq (cZ p) k=aq p k:=rfl
 show(aC g (fK g (cZ p) k) (aq (cZ p) k) (bE (cZ p) (aq (cZ p) k))).1.1=_
 rw[(Jk h (by omega)).1,ho,pY,BJ h.1 hi (h.2.2 k hk)]
 rfl
theorem GX{g:Gr}(hm:aM g=true){f:Fr}(hi:fL g f)(rev:Bool):ee g (mO f) (!rev)=ee g f rev:=by
 unfold ee
 have e1:kz (!rev) (mO f).row=kz rev f.row:=by cases rev<;>simp[kz,mO]
 have e2:(fun t:It=>au g (mO f) t.2.2)=fun t:It=>au g f t.2.2:=by funext t;exact yl hm hi _
 have e3:gQ g (mO f)=gQ g f:=by
  unfold gQ nK
  have:(fun x:Nat=>gh g (mO f) (x:Int))=fun x:Nat=>gh g f (x:Int):=by
   funext x;rw[kj hm (EU hi),kj hm hi,yl hm hi]
  rw[this]
 rw[e1,e2,e3]
theorem GY{g:Gr}{p:Pl}(h:aG g p)(rev:Bool):∀ {k:Nat},k<=g.n.toNat->aY g (cZ p) (!rev) k=mO (aY g p rev k)
 |0,_=>rfl
 |k+1,hk=>by
  have hm:=ah h.1
  obtain⟨hi,_,_,_⟩:=gZ h rev (k:=k) (by omega)
  have ih:=GY h rev (k:=k) (by omega)
  show(aC g (aY g (cZ p) (!rev) k) (ee g (aY g (cZ p) (!rev) k) (!rev)) (bE (cZ p) _)).2=_
  rw[ih,GX hm hi.tofL,pY,BJ h.1 hi (pW h rev (by omega)).1]
  rfl
theorem BK{g:Gr}{p:Pl}(h:aG g p)(rev:Bool):∀ {k:Nat},k<=g.n.toNat->gl g (cZ p) (!rev) k=gl g p rev k
 |0,_=>rfl
 |k+1,hk=>by
  have hm:=ah h.1
  obtain⟨hi,_,_,_⟩:=gZ h rev (k:=k) (by omega)
  show(gl g (cZ p) (!rev) k).set (ee g (aY g (cZ p) (!rev) k) (!rev)).toNat (k:Int)=_
  rw[BK h rev (by omega),GY h rev (by omega),GX hm hi.tofL]
  rfl
theorem SX{g:Gr}{p:Pl}{rev:Bool}{k:Nat}(hk:k<g.n.toNat):(iL g p rev).getD k 0=ee g (aY g p rev k) rev:=by
 simp[iL,aas,adq hk]
theorem GZ{g:Gr}{p:Pl}{rev:Bool} :(iL g p rev).length=g.n.toNat:=by simp[iL]
theorem M6{g:Gr}{p:Pl}(h:aG g p)(rev:Bool):(iL g p rev).Perm (dD g.n.toNat):=(sY h rev).2.1.2.1
theorem KU{g:Gr}{p:Pl}(h:aG g p)(rev:Bool):∀ {k:Nat},k<=g.n.toNat->∀j,j<k->(gl g p rev k).getD ((iL g p rev).getD j 0).toNat 0=(j:Int)
 |0,_,j,hj=>by omega
 |k+1,hk,j,hj=>by
  have hQ:=(sY h rev).2.1
  have Ao:=aD hQ (k:=k) (by omega)
  have hj1:=aD hQ (k:=j) (by omega)
  have ek:aq ⟨iL g p rev,p.outs⟩ k=(iL g p rev).getD k 0:=rfl
  have ej:aq ⟨iL g p rev,p.outs⟩ j=(iL g p rev).getD j 0:=rfl
  rw[gl, <- SX (by omega),sS (by rw[sX];omega)]
  by_cases e:j=k
  ·subst e;rw[ada rfl]
  ·rw[ac8,KU h rev (by omega) j (by omega)]
   intro e2
   exact e (dS hQ (by omega) (by omega) (by omega))
def loose(l:List It):List Int:=(l.filter fun t=>decide (t.1<0)).map fun t=>t.2.1
theorem bY{a b:List It} :loose (a++b)=loose a++loose b:=by simp[loose]
def dL(g:Gr)(p:Pl):Nat->List Edge
 |0=> []
 |k+1=>dL g p k++(loose (cB g p k)).map fun v=>(v,aq p k)
def bu(g:Gr)(p:Pl):List It:=(fK g p g.n.toNat).row
def newL(g:Gr)(p:Pl):List Edge:=if 1<(bu g p).length then(loose (bu g p)).map fun v=>(v,g.n) else []
def bg(g:Gr)(p:Pl):List Edge:=dL g p g.n.toNat++newL g p
def aj(g:Gr)(p:Pl):Gr:=⟨if 1<(bu g p).length then g.n+1 else g.n,g.es++bg g p⟩
def eM:Nat->List Edge->List (List Int)->List (List Int)
 |_, [],O=>O
 |m,e::N,O=>eM (m+1) N (O.set e.1.toNat [(m:Int)])
def bK(g:Gr)(p:Pl):Pl:=⟨if 1<(bu g p).length then p.ord++ [g.n] else p.ord,eM g.es.length (bg g p) (if 1<(bu g p).length then p.outs++ [[]] else p.outs)⟩
def Jl(g:Gr)(p:Pl)(x:Gr):List (List Int):=(List.range x.n.toNat).map fun v=>if 0<(p.outs.getD v []).length then p.outs.getD v [] else b8 x (v:Int)
theorem kD:∀ {m:Nat} {N:List Edge} {O:List (List Int)},(eM m N O).length=O.length
 |_, [],_=>rfl
 |m,e::N,O=>by rw[eM,kD,adQ]
theorem xe:∀ {m:Nat} {N M:List Edge} {O:List (List Int)},eM m (N++M) O=eM (m+N.length) M (eM m N O)
 |_, [],_,_=>rfl
 |m,e::N,M,O=>by
  rw[List.cons_append,eM,eM,xe,List.length_cons]
  congr 1
  omega
theorem Dn:∀ {m:Nat} {N:List Edge} {O:List (List Int)},(∀e∈N,e.1.toNat<O.length)->eM m N (O++ [[]])=eM m N O++ [[]]
 |_, [],_,_=>rfl
 |m,e::N,O,h=>by
  rw[eM,eM,List.set_append_left _ _ (h e (adI ..))]
  exact Dn fun e' he=>by rw[adQ];exact h e' (adA _ he)
theorem BL{v:Nat} :∀ {m:Nat} {N:List Edge} {O:List (List Int)},(∀e∈N,e.1.toNat<O.length)->(∀e∈N,e.1.toNat≠v)->(eM m N O).getD v []=O.getD v []
 |_, [],_,_,_=>rfl
 |m,e::N,O,h,hv=>by
  rw[eM,BL (fun e' he=>by rw[adQ];exact h e' (adA _ he)) fun e' he=>hv e' (adA _ he),sS (h e (adI ..)),ac8 (Ne.symm (hv e (adI ..)))]
theorem KW:∀ {m:Nat} {N:List Edge} {O:List (List Int)},(∀e∈N,0<=e.1/\e.1.toNat<O.length)->(N.map (·.1)).Nodup->∀ {j:Nat},j<N.length->(eM m N O).getD (N.getD j (0,0)).1.toNat []= [((m+j:Nat):Int)]
 |m,e::N,O,h,hd,0,_=>by
  rw[adD,ad6]at hd
  rw[eM,afm,BL (fun e' he=>by rw[adQ];exact(h e' (adA _ he)).2) (fun e' he h2=>hd.1 ?_),sS (h e (adI ..)).2,ada rfl]
  ·rfl
  ·have h3:=(h e (adI ..)).1
   have h4:=(h e' (adA _ he)).1
   exact adb.2 ⟨e',he,by omega⟩
 |m,e::N,O,h,hd,j+1,hj=>by
  rw[adD,ad6]at hd
  rw[eM,agJ,KW (fun e' he=>by rw[adQ];exact h e' (adA _ he)) hd.2 (by simpa using hj)]
  congr 2
  omega
theorem ym{f:Edge->Int}{es N:List Edge}{x:Int} :aJ f (es++N) (es++N).length x=aJ f es es.length x++(aJ f N N.length x).map (· +(es.length:Int)):=by
 unfold aJ
 rw[adj,List.range_add,ad9,adt,List.filter_map,aeF,aeF]
 congr 1
 ·congr 1
  refine agD fun i hi=> ?_
  have:=adl.1 hi
  rw[aas,ady this, <- List.getD_eq_getElem?_getD]
 ·have e1:(List.range N.length).filter ((fun i=>decide (f ((es++N).getD i (0,0))=x)) ∘ fun x=>es.length+x)=(List.range N.length).filter fun i=>decide (f (N.getD i (0,0))=x):=by
   refine agD fun i hi=> ?_
   simp only[Function.comp]
   rw[aas,adx (by omega),af3, <- List.getD_eq_getElem?_getD]
  rw[e1]
  refine ae6 fun i _=> ?_
  simp only[Function.comp]
  show((es.length+i:Nat):Int)=(i:Int)+(es.length:Int)
  omega
theorem filter_one{j:Nat} :∀ {n:Nat},j<n->(List.range n).filter (fun i=>decide (i=j))= [j]
 |n+1,h=>by
  rw[adW,ad9]
  by_cases e:j=n
  ·subst e
   have:(List.range j).filter (fun i=>decide (i=j))= []:=aeA.2 fun i hi=>by
    have:=adl.1 hi
    simp;omega
   rw[this];simp
  ·rw[filter_one (by omega)]
   have: [n].filter (fun i=>decide (i=j))= []:=aeA.2 fun i hi=>by
    rw[adv]at hi
    simp;omega
   rw[this];simp
theorem G0{N:List Edge}(hd:(N.map (·.1)).Nodup){j:Nat}(hj:j<N.length):aJ (·.1) N N.length (N.getD j (0,0)).1= [(j:Int)]:=by
 unfold aJ
 have:(List.range N.length).filter (fun i=>decide ((N.getD i (0,0)).1=(N.getD j (0,0)).1))=(List.range N.length).filter (fun i=>decide (i=j)):=by
  refine agD fun i hi=> ?_
  have hi:=adl.1 hi
  rw[decide_eq_decide]
  constructor
  ·intro h
   have e1:∀k,k<N.length->(N.map (·.1)).getD k 0=(N.getD k (0,0)).1:=fun k hk=>by
    simp[aas,acF hk]
   refine l9 hd (by simpa using hi) (by simpa using hj) ?_
   rw[e1 i hi,e1 j hj,h]
  ·rintro rfl;rfl
 rw[this,filter_one hj]
 rfl
theorem lD{f:Edge->Int}{N:List Edge}{v:Int}(h:∀e∈N,f e≠v):aJ f N N.length v= []:=by
 unfold aJ
 rw[aeG,aeA]
 intro i hi
 have:=h _ (az (d:=(0,0)) (adl.1 hi))
 simpa using this
theorem G1{g:Gr}{x:Int}{o:List Int}(ho:∀i∈o,i∈b8 g x):loose (aQ g x o)=if o= [] then [x] else []:=by
 unfold aQ
 split
 ·rfl
 ·simp only[loose,aeG,aeA,adb]
  rintro t ⟨i,hi,rfl⟩
  obtain⟨k,rfl,_⟩:=ko (ho i hi)
  simp[gM]
theorem lE{g:Gr}(hm:aM g=true){p:Pl}(h:bq g p):∀ {k:Nat},k<=g.n.toNat->(∀j,j<k->xP g p j=true)->
 ((dL g p k).map (·.1)++loose (fK g p k).row).Nodup/\∀v∈(dL g p k).map (·.1)++loose (fK g p k).row,v∈(fK g p k).pl/\bE p v= []
 |0,_,_=>by simp[dL,fK,loose]
 |k+1,hk,hok=>by
  obtain⟨h1,h2⟩:=lE hm h (k:=k) (by omega) fun j hj=>hok j (by omega)
  obtain⟨hi,dI,_⟩:=bz hm h (k:=k) (by omega) fun j hj=>hok j (by omega)
  have hR:au g (fK g p k) (aq p k)=true:=hok k (by omega)
  obtain⟨x0,x1⟩:=aD h (k:=k) (by omega)
  have hx:=(aF hR).2.2
  have KO:=aW h x0 x1
  obtain⟨A,X,C,hr,_,_,_,hs⟩:=iJ hm hi.tofL hR
  have Yb:cB g p k=X:=by unfold cB;rw[hs]
  have hrow:(fK g p (k+1)).row=A++aQ g (aq p k) (bE p (aq p k))++C:=by show(aC _ _ _ _).2.row=_;rw[hs]
  have tD:(fK g p (k+1)).pl=(fK g p k).pl++ [aq p k]:=rfl
  have hla:=G1 (g:=g) (x:=aq p k) (o:=bE p (aq p k)) fun i hi=>KO.mem_iff.1 hi
  have e1:(dL g p (k+1)).map (·.1)=(dL g p k).map (·.1)++loose X:=by
   rw[dL,Yb,adt,aeF]
   congr 1
   simp[Function.comp_def]
  have e2:loose (fK g p (k+1)).row=loose A++(if bE p (aq p k)= [] then [aq p k] else [])++loose C:=by rw[hrow,bY,bY,hla]
  have e3:loose (fK g p k).row=loose A++loose X++loose C:=by rw[hr,bY,bY]
  rw[e3]at h1 h2
  have hP:((dL g p (k+1)).map (·.1)++loose (fK g p (k+1)).row).Perm (((dL g p k).map (·.1)++(loose A++loose X++loose C))++(if bE p (aq p k)= [] then [aq p k] else [])):=by
   rw[e1,e2,List.perm_iff_count]
   intro a
   simp only[List.count_append]
   omega
  constructor
  ·rw[hP.nodup_iff,adu]
   refine⟨h1,by split<;>simp,fun a ha b hb e=>hx ?_⟩
   split at hb
   ·rw[adv]at hb
    rw[<- hb, <- e]
    exact(h2 a ha).1
   ·cases hb
  ·intro v hv
   rw[hP.mem_iff,ac9]at hv
   rw[tD,ac9,adv]
   rcases hv with hv|hv
   ·exact⟨.inl (h2 v hv).1,(h2 v hv).2⟩
   ·split at hv
    ·rw[adv]at hv
     subst hv
     exact⟨.inr rfl,by assumption⟩
    ·cases hv
theorem iB{g:Gr}{p:Pl}(hr:aG g p):((bg g p).map (·.1)).Nodup/\∀e∈bg g p,(0<=e.1/\e.1<g.n)/\bE p e.1= []:=by
 obtain⟨hc,h,hok⟩:=hr
 have hm:=ah hc
 obtain⟨h1,h2⟩:=lE hm h (k:=g.n.toNat) (adh _) hok
 obtain⟨hi,_⟩:=bz hm h (k:=g.n.toNat) (adh _) hok
 have e1:(bg g p).map (·.1)=(dL g p g.n.toNat).map (·.1)++if 1<(bu g p).length then loose (bu g p) else []:=by
  rw[bg,newL,adt]
  congr 1
  split
  ·rw[aeF];simp[Function.comp_def]
  ·rfl
 have hsub:∀v∈(bg g p).map (·.1),v∈(dL g p g.n.toNat).map (·.1)++loose (bu g p):=by
  intro v hv
  rw[e1,ac9]at hv
  rw[ac9]
  rcases hv with hv|hv
  ·exact .inl hv
  ·split at hv
   ·exact .inr hv
   ·cases hv
 constructor
 ·rw[e1]
  split
  ·exact h1
  ·rw[ad5]
   exact(adu.1 h1).1
 ·intro e he
  have:=h2 e.1 (hsub _ (adb.2 ⟨e,he,rfl⟩))
  exact⟨hi.lg _ this.1,this.2⟩
theorem mA{g:Gr}{p:Pl}(h:bq g p){v:Int}(h0:0<=v)(h1:v<g.n):b8 g v= []↔bE p v= []:=by
 have hp:=aW h h0 h1
 constructor
 ·intro e;rw[e]at hp;exact hp.eq_nil
 ·intro e;rw[e]at hp;exact hp.symm.eq_nil
theorem BM{g:Gr}{p:Pl}(hr:aG g p):(bK g p).outs=Jl g p (aj g p):=by
 obtain⟨vt,Jm⟩:=iB hr
 have h:=hr.2.1
 have hm:=ah hr.1
 have hn:=aB hm
 generalize hO:(if 1<(bu g p).length then p.outs++ [[]] else p.outs)=O
 have Zh:O.length=(aj g p).n.toNat:=by
  rw[<- hO]
  unfold aj
  split
  ·rw[adj,h.1];simp;omega
  ·rw[h.1]
 have hOg:∀v,O.getD v []=p.outs.getD v []:=by
  intro v
  rw[<- hO]
  split
  ·rw[aas,aas,List.getElem?_append]
   split
   ·rfl
   ·rename_i hv
    rw[adp (by omega:p.outs.length<=v)]
    cases hvv:v - p.outs.length<;>simp
  ·rfl
 have hOn:g.n.toNat<=O.length:=by rw[<- hO];split<;>simp[h.1]
 have uZ:∀e∈bg g p,0<=e.1/\e.1.toNat<O.length:=fun e he=>by
  have:=(Jm e he).1;omega
 have hnA:∀e∈bg g p,e.1.toNat<O.length:=fun e he=>(uZ e he).2
 show eM g.es.length (bg g p) (if 1<(bu g p).length then p.outs++ [[]] else p.outs)=_
 rw[hO]
 refine agn (by rw[kD,Zh];simp[Jl]) fun v Kz O2=> ?_
 rw[kD]at Kz
 have hL:(eM g.es.length (bg g p) O).getD v []=(eM g.es.length (bg g p) O)[v]'(by rw[kD];exact Kz):=by
  rw[aas,acF (by rw[kD];exact Kz)];rfl
 rw[<- hL]
 have hD:(Jl g p (aj g p))[v]=if 0<(p.outs.getD v []).length then p.outs.getD v [] else b8 (aj g p) (v:Int):=by simp[Jl]
 rw[hD]
 have hlv:bE p (v:Int)=p.outs.getD v []:=by unfold bE;rw[Int.toNat_natCast]
 have hout:b8 (aj g p) (v:Int)=b8 g (v:Int)++(aJ (·.1) (bg g p) (bg g p).length (v:Int)).map (· +(g.es.length:Int)):=ym
 by_cases hin:∃j,j<(bg g p).length/\((bg g p).getD j (0,0)).1=v
 ·obtain⟨j,hj,e⟩:=hin
  have hmem:=az (d:=(0,0)) hj
  obtain⟨⟨q0,q1⟩,q2⟩:=Jm _ hmem
  rw[e]at q0 q1 q2
  rw[hlv]at q2
  rw[q2,ac8 (by simp),hout,(mA h q0 q1).2 (by rw[hlv];exact q2), <- e,G0 vt hj]
  have:=KW (m:=g.es.length) uZ vt hj
  rw[e,Int.toNat_natCast]at this
  rw[this]
  simp
  omega
 ·have hno:∀e∈bg g p,e.1≠(v:Int):=fun e he h2=>hin (by
   obtain⟨j,hj,e1⟩:=ads.1 he
   exact⟨j,hj,by rw[aas,acF hj,Option.getD_some,e1,h2]⟩)
  rw[BL hnA (fun e he h2=>hno e he (by have:=(uZ e he).1;omega)),hOg,hout,lD hno]
  simp only[adP,ad5]
  split
  ·rfl
  ·rename_i hl
   have hl:p.outs.getD v []= []:=adF (by omega)
   rw[hl]
   by_cases WO:v<g.n.toNat
   ·exact((mA h (v:=(v:Int)) (by omega) (by omega)).2 (by rw[hlv];exact hl)).symm
   ·symm
    refine lD fun e he h2=> ?_
    obtain⟨i,hi,rfl⟩:=ads.1 he
    have:=(cU hm hi).1
    rw[aas,acF hi,Option.getD_some]at this
    omega
abbrev Act:=Int × List Int
def rA(a:Act):List D:= [.sc (.int .i64 a.1),sI a.2]
def sA(as':List Act):D:= .sl 2 (as'.map rA)
attribute [go_sem] sA
def Yc(g:Gr)(VH:List Act):Nat->Fr
 |0=>⟨[], []⟩
 |k+1=>(jq g (Yc g VH k) (VH.getD k (0, [])).1 (VH.getD k (0, [])).2).2
theorem Yd{g:Gr}{f:Fr}(hi:fL g f):(f.pl.length:Int)<=g.n\/f.pl= []:=by
 by_cases h:f.pl= []
 ·exact .inr h
 ·left
  obtain⟨y,hy⟩:=agS _ h
  have:=hi.lg y hy
  have h3:=jP hi.pl (m:=(List.range g.n.toNat).map Int.ofNat) (fun y hy=>by
   rw[adb]
   have:=hi.lg y hy
   exact⟨y.toNat,adl.2 (by omega),by simp;omega⟩)
  simp at h3
  omega
theorem y9(g:Gr)(hm:aM g=true)(f:Fr)(hi:Bx g f)(x:Int)(outs:List Int)(hr:f.row.length<=300000)(hp:f.pl.length<=100000)(ho:outs.length<=17592186043904):
 Spec Tryz.prog 89 (Args [.ptr 10000 0,eN x, .d (sI outs)]) (wN g f) (.tup [.d (sT (jq g f x outs).1.1),eN (jq g f x outs).1.2]) (EM g (jq g f x outs).2):=by
 rw[<- Qa hm hi.tofL]
 exact Jd g hm f x outs hr hp ho
end Go.Ab
end
section
set_option maxHeartbeats 16000000
set_option maxRecDepth 10000
namespace Go.Ab
attribute [local congr] ACall.congr gd.congr Hd.congr Ny.congr vcOps.congr
open Go.Proofs
def ePl(p:Pl):AV:= .agg [.d (sI p.ord), .d (.sl 1 (vI p.outs))]
attribute [go_sem] ePl
structure uc (p:Pl):Prop where
 ord:p.ord.length<=17592186043904
 outs:p.outs.length<=9223372036854775807
 each:∀l∈p.outs,l.length<=17592186043904
theorem Qn(g:Gr)(hm:aM g=true)(p:Pl)(hp:uc p)(res:Bool)(hr:res=true↔bq g p):Spec Tryz.prog 88 (Args [.d (vw g),ePl p]) [] (eB res) []:=by
 rw[<- SP hm]at hr
 have hn:=aB hm
 have ho:=hp.ord
 have YY:=hp.outs
 by_cases h1:p.outs.length=g.n.toNat/\p.ord.length=g.n.toNat
 rotate_left
 ·have hres:res=false:=by
   rw[<- Bool.not_eq_true,hr]
   rintro⟨h2,h3,_⟩
   exact h1 ⟨h2,h3⟩
  subst hres
  by_cases h2:(p.outs.length:Int)=g.n
  ·have hb1:decide ((p.outs.length:Int)=g.n)=true:=ac7 h2
   have hb2:decide ((p.ord.length:Int)=g.n)=false:=ac6 fun h3=>h1 ⟨by omega,by omega⟩
   (refine T.h [] [] [.t 4] Tryz.func88 rfl rfl (by kernel_rfl) fun X hX hP hC aA bB=> ?_)
   repeat' (first|refine Rn.p ?_|((first|refine Rs.p ?_|refine Hd.mk ?_);try simp only[go_sem,simprocAttr,cm,hb1,hb2])|with_reducible (refine oD (by kernel_rfl) ?_))
  ·have hb1:decide ((p.outs.length:Int)=g.n)=false:=ac6 h2
   (refine T.h [] [] [.t 4] Tryz.func88 rfl rfl (by kernel_rfl) fun X hX hP hC aA bB=> ?_)
   repeat' (first|refine Rn.p ?_|((first|refine Rs.p ?_|refine Hd.mk ?_);try simp only[go_sem,simprocAttr,cm,hb1])|with_reducible (refine oD (by kernel_rfl) ?_))
 have hb1:decide ((p.outs.length:Int)=g.n)=true:=ac7 (by omega)
 have hb2:decide ((p.ord.length:Int)=g.n)=true:=ac7 (by omega)
 have CR:=iH p.ord
 (refine T.h [] [] [.t 4] Tryz.func88 rfl rfl (by kernel_rfl) fun X hX hP hC aA bB=> ?_)
 repeat' (first|refine Rn.p ?_|((first|refine Rs.p ?_|refine Hd.mk ?_|(refine aS [(10000,31)] (kg p.ord) ?_ ?_;(focus(simp[go_sem,simprocAttr,cm,hb1,hb2];done)))|(refine bw [(10000,31)] (jo p.ord ho) ?_ ?_;(focus(simp[go_sem,simprocAttr,cm,hb1,hb2];done))));try simp only[go_sem,simprocAttr,cm,hb1,hb2])|with_reducible (refine oD (by kernel_rfl) ?_))
 clear hb1 hb2
 refine ag (fun k:Nat=>k<=(lu p.ord).length/\∀i:Nat,i<k->(lu p.ord).getD i 0=i) (fun k=>⟨[(0, .d (vw g)),(3, .ptr 3 0),(32, .d (sI (lu p.ord))),(33,eN (lu p.ord).length),(34,eN k)], [(3, .box [.d (sI p.ord), .d (.sl 1 (vI p.outs))])]⟩) (fun k=>(lu p.ord).length - k) 0 (by simp) ?_ ?_
 ·(refine Le.of ?_ ?_<;>simp[go_sem,simprocAttr,cm])
 rintro k ⟨hk,hg⟩
 rcases adk k (lu p.ord).length with hlt|hge
 ·have hb:decide ((k:Int)<((lu p.ord).length:Int))=true:=ac7 (by omega)
  by_cases he:(lu p.ord).getD k 0=k
  ·have hb2:decide ((lu p.ord).getD k 0=(k:Int))=true:=ac7 he
   repeat' (first|refine Rn.p ?_|((first|refine Rs.p ?_|refine Hd.mk ?_);try simp only[go_sem,simprocAttr,cm,hb,hb2])|with_reducible (apply And.intro)|omega)
   refine⟨k+1,⟨by omega,fun i hi=> ?_⟩, ?_,by omega⟩
   ·by_cases hik:i=k
    ·subst hik;exact he
    ·exact hg i (by omega)
   ·(refine Le.of ?_ ?_<;>simp[go_sem,simprocAttr,cm,hb,hb2])
  ·have hb2:decide ((lu p.ord).getD k 0=(k:Int))=false:=ac6 he
   have hres:res=false:=by
    rw[<- Bool.not_eq_true,hr]
    rintro⟨_,_,h3,_⟩
    exact he (h3 k hlt)
   subst hres
   repeat' (first|refine Rn.p ?_|((first|refine Rs.p ?_|refine Hd.mk ?_);try simp only[go_sem,simprocAttr,cm,hb,hb2])|with_reducible (apply And.intro)|omega)
 have hb:decide ((k:Int)<((lu p.ord).length:Int))=false:=ac6 (by omega)
 repeat' (first|refine Rn.p ?_|((first|refine Rs.p ?_|refine Hd.mk ?_);try simp only[go_sem,simprocAttr,cm,hb]))
 obtain rfl:k=(lu p.ord).length:=by omega
 clear hb hk
 refine ag (fun x:Nat=>x<=p.outs.length/\∀i:Nat,i<x->lu (p.outs.getD i [])=bQ (·.1) g i) (fun x=>⟨[(0, .d (vw g)),(44, .d (.sl 1 (vI p.outs))),(45,eN p.outs.length),(46,eN x)], []⟩) (fun x=>p.outs.length - x) 0 (by simp) ?_ ?_
 ·refine Le.of ?_ ?_<;>simp[go_sem,simprocAttr,cm]
 rintro x ⟨hx,Qo⟩
 rcases adk x p.outs.length with hxl|MI
 ·have hb:decide ((x:Int)<(p.outs.length:Int))=true:=ac7 (by omega)
  have hv:=jr hxl
  have hl:=hp.each _ (az (d:= []) hxl)
  have hn2:∀h:lu (p.outs.getD x [])=bQ (·.1) g x,∀i:Nat,i<x+1->lu (p.outs.getD i [])=bQ (·.1) g i:=fun h i hi=>by
   by_cases hix:i=x
   ·subst hix;exact h
   ·exact Qo i (by omega)
  have tQ:¬lu (p.outs.getD x [])=bQ (·.1) g x->res=false:=fun h=>by
   rw[<- Bool.not_eq_true,hr]
   rintro⟨_,_,_,h4⟩
   exact h (h4 x hxl)
  generalize p.outs.getD x []=l at hv hl hn2 tQ
  have acM:=iH l
  by_cases he:lu l=bQ (·.1) g x
  ·have hb2:decide (lu l=bQ (·.1) g (x:Int))=true:=ac7 he
   repeat' (first|refine Rn.p ?_|((first|refine Rs.p ?_|refine Hd.mk ?_|(refine aS [(10000,52)] (kg l) ?_ ?_;(focus(simp[go_sem,simprocAttr,hb,hv,hb2];done)))|(refine bw [(10000,52)] (jo l hl) ?_ ?_;(focus(simp[go_sem,simprocAttr,hb,hv,hb2];done)))|refine aa (sM g hm (x:Int)) rfl ?_|refine aa (ki (lu l) (bQ (·.1) g x) (by omega)) rfl ?_);try simp only[go_sem,simprocAttr,hb,hv,hb2])|with_reducible (apply And.intro)|omega)
   refine⟨x+1,⟨by omega,hn2 he⟩, ?_,by omega⟩
   (refine Le.of ?_ ?_<;>simp[go_sem,simprocAttr,hb,hv,hb2])
  ·have hb2:decide (lu l=bQ (·.1) g (x:Int))=false:=ac6 he
   have hres:=tQ he
   subst hres
   repeat' (first|refine Rn.p ?_|((first|refine Rs.p ?_|refine Hd.mk ?_|(refine aS [(10000,52)] (kg l) ?_ ?_;(focus(simp[go_sem,simprocAttr,hb,hv,hb2];done)))|(refine bw [(10000,52)] (jo l hl) ?_ ?_;(focus(simp[go_sem,simprocAttr,hb,hv,hb2];done)))|refine aa (sM g hm (x:Int)) rfl ?_|refine aa (ki (lu l) (bQ (·.1) g x) (by omega)) rfl ?_);try simp only[go_sem,simprocAttr,hb,hv,hb2])|with_reducible (apply And.intro)|omega)
 ·have hb:decide ((x:Int)<(p.outs.length:Int))=false:=ac6 (by omega)
  obtain rfl:x=p.outs.length:=by omega
  have hres:res=true:=hr.2 ⟨h1.1,h1.2,fun i hi=>hg i (by omega),Qo⟩
  subst hres
  repeat' (first|refine Rn.p ?_|((first|refine Rs.p ?_|refine Hd.mk ?_);try simp only[go_sem,simprocAttr,hb]))
def acN(m:Nat)(fl:List Int):List Int:=(List.range m).map fun i:Nat=>if(i:Int)∈fl then(1:Int) else 0
theorem Qp{g:Gr}{x i:Int} :i∈b8 g x↔(0<=i/\i<g.es.length)/\(g.es.getD i.toNat (0,0)).1=x:=by
 constructor
 ·exact gA
 ·rintro⟨⟨h1,h2⟩,h3⟩
  simp only[b8,aJ,adb,adJ,adl,ade]
  exact⟨i.toNat,⟨by omega,h3⟩,by simp;omega⟩
def dF(b:Bool)(g:Gr)(p:Pl):(List (List It) × List It) × Int × Int:=
 if b=false then(([], []),(1,0)) else
 match ox g p g.n.toNat with
 |some i=>(([], []),(3,(i:Int)))
 |none=>((gC g p g.n.toNat,(fK g p g.n.toNat).row),(0,0))
theorem VI{n:Nat} :List.replicate n [D.sl 3 []]=vT (List.replicate n []):=by simp[vT,sT]
theorem VJ{ls:List (List It)}{k:Nat}{l:List It} :(vT ls).set k [sT l]=vT (ls.set k l):=by simp[vT,aeS]
theorem M7{g:Gr}{p:Pl}{k:Nat} :gC g p (k+1)=(gC g p k).set (aq p k).toNat (cB g p k):=rfl
theorem ig(g:Gr)(hl:g.es.length<=1000)(p:Pl)(hp:uc p)(b:Bool)(hr:b=true↔(bX g).1=0/\bq g p):
 Spec Tryz.prog 38 (Args [eG g,ePl p]) [] (.tup [.d (.sl 1 (vT (dF b g p).1.1)), .d (sT (dF b g p).1.2),eF ((dF b g p).2.1,(dF b g p).2.2, [])]) []:=by
 by_cases hc:(bX g).1=0
 rotate_left
 ·obtain rfl:b=false:=by
   rw[<- Bool.not_eq_true,hr]
   exact fun h=>hc h.1
  have hR:dF false g p=(([], []),(1,0)):=rfl
  rw[hR]
  (refine T.h [] [] [.t 4, .t 5, .c 6 64] Tryz.func38 rfl rfl (by kernel_rfl) fun X hX hP hC aA bB=> ?_)
  repeat' (first|refine Rn.p ?_|((first|refine Rs.p ?_|refine Hd.mk ?_|refine aa (MT g hl hc) rfl ?_);try simp only[go_sem,simprocAttr,vT,adP])|with_reducible (refine oD (by kernel_rfl) ?_))
 have hm:=ah hc
 have hn:=aB hm
 have hr:b=true↔bq g p:=by rw[hr];exact⟨fun h=>h.2,fun h=>⟨hc,h⟩⟩
 have hO:=Qn g hm p hp b hr
 cases b with
 |false=>
  have hR:dF false g p=(([], []),(1,0)):=rfl
  rw[hR]
  (refine T.h [] [] [.t 4, .t 5, .c 6 64] Tryz.func38 rfl rfl (by kernel_rfl) fun X hX hP hC aA bB=> ?_)
  repeat' (first|refine Rn.p ?_|((first|refine Rs.p ?_|refine Hd.mk ?_|(refine lV [(10000,13)] (yc g hl hc hm) ?_ ?_;(focus(simp[go_sem,simprocAttr,vT,adP];done)))|refine aa (sx g hm) rfl ?_|refine aa (hO) rfl ?_);try simp only[go_sem,simprocAttr,vT,adP])|with_reducible (refine oD (by kernel_rfl) ?_))
 |true=>
 have mY:=hr.1 rfl
 have hle:=aI mY
 have hR:dF true g p=match ox g p g.n.toNat with
  |some i=>(([], []),(3,(i:Int)))
  |none=>((gC g p g.n.toNat,(fK g p g.n.toNat).row),(0,0)):=rfl
 generalize dF true g p=R at hR
 (refine T.h [] [] [.t 4, .t 5, .c 6 64] Tryz.func38 rfl rfl (by kernel_rfl) fun X hX hP hC aA bB=> ?_)
 repeat' (first|(show cR _ (.seq (.region 5 _ _) _) _ _;(refine Ga 13 0 3 rfl rfl rfl ?_;simp only[List.set_cons_zero,List.set_cons_succ,go_sem,simprocAttr]);(refine jj hX 13 2 100 (.tip 3 1 []) rfl rfl rfl (by simp only[go_sem,simprocAttr]) (by decide) (by simp[go_sem,simprocAttr]) ⟨3,1,by decide, .inr rfl⟩ ?_;simp only[List.set_cons_zero,List.set_cons_succ,go_sem,simprocAttr]))|refine Rn.p ?_|((first|refine Rs.p ?_|refine Hd.mk ?_|(refine lV [(10000,13)] (yc g hl hc hm) ?_ ?_;(focus(simp[go_sem,simprocAttr];done)))|refine aa (sx g hm) rfl ?_|refine aa (hO) rfl ?_);try simp only[go_sem,simprocAttr])|with_reducible (first|apply And.intro|refine oD (by kernel_rfl) ?_)|omega)
 rw[VI]
 refine ag (fun k:Nat=>k<=g.n.toNat/\∀j,j<k->xP g p j=true) (fun k=>⟨[(3, .ptr 3 0),(4, .ref 28),(6, .ptr 6 0),(7, .ptr 13 0),(30, .d (sI p.ord)),(31,eN p.ord.length),(32,eN k)], [(28, .own 78 1 (vT (gC g p k))),(13, .box [.d (sT (fK g p k).row), .d (vw g), .ref 100]),(100, .tip 3 1 ((fK g p k).pl.map rI)),(6, .box [eN 0,eN 0, .nil 3]),(3, .box [.d (sI p.ord), .d (.sl 1 (vI p.outs))])]⟩) (fun k=>g.n.toNat - k) 0 (by simp) ?_ ?_
 ·refine Le.of ?_ ?_<;>simp[go_sem,simprocAttr,rfC,fK,gC]
 rintro k ⟨hk,hok⟩
 obtain⟨hi,_,hrl⟩:=bz hm mY hk hok
 have hel:=qW (g:=g) (p:=p) (k:=k)
 have hmul:k*(g.es.length+1)<=64*129:=afR (by omega) (by omega)
 rcases adk k g.n.toNat with hlt|hge
 ·have hb:decide ((k:Int)<(p.ord.length:Int))=true:=ac7 (by omega)
  have Ye:=aD mY hlt
  have dw:=M7 (g:=g) (p:=p) (k:=k)
  have WQ:fK g p (k+1)=(aC g (fK g p k) (aq p k) (bE p (aq p k))).2:=rfl
  have Qo:cB g p k=(aC g (fK g p k) (aq p k) (bE p (aq p k))).1.1:=rfl
  have hpk:=Qf mY hlt
  have Yf:=Qg (g:=g) (p:=p) (k:=k)
  have hsk:xP g p k=false->R=(([], []),(3,(k:Int))):=fun h=>by
   rw[hR,Bz.2 ⟨hlt,h,hok⟩]
  have iF:=wS mY Ye.1 Ye.2
  have pE:p.ord.getD k 0=aq p k:=rfl
  have Yg:(fK g p k).pl.length<=64:=by
   rcases Yd hi.tofL with h|h
   ·omega
   ·rw[h];simp
  obtain⟨x,hx⟩:∃x:Nat,aq p k=x:=⟨(aq p k).toNat,by omega⟩
  rw[hx]at pE WQ Qo hpk Yf Ye iF dw
  have hxl:x<p.outs.length:=by have:=mY.1;omega
  have hv:=jr hxl
  have hla:bE p (x:Int)=p.outs.getD x []:=by unfold bE;rw[Int.toNat_natCast]
  rw[hla]at WQ Qo hpk Yf iF
  rw[Int.toNat_natCast]at dw
  have Jn:=y9 g hm (fK g p k) hi (x:Int) (p.outs.getD x []) (by omega) (by omega) (by omega)
  have fR:=VJ (ls:=gC g p k) (k:=x) (l:=cB g p k)
  generalize p.outs.getD x []=o at hv WQ Qo hpk Yf Jn
  rw[<- dw]at fR
  generalize fK g p k=f at WQ Qo hpk Yf Jn hi hrl Yg
  have WR:x<(gC g p k).length:=by omega
  have hvl:(vT (gC g p k)).length=(gC g p k).length:=vT_length
  cases SY:xP g p k with
  |false=>
   rw[Yf SY]at Jn
   simp only at Jn
   have hRk:=hsk SY
   subst hRk
   repeat' (first|refine Rn.p ?_|((first|refine Rs.p ?_|refine Hd.mk ?_|(refine aS [(10000,13),(10001,100),(10002,101)] (Jn) ?_ ?_;(focus(simp[go_sem,simprocAttr,hb,pE,hv,wN,EM,adP];done))));try simp only[go_sem,simprocAttr,hb,pE,hv,wN,EM,adP])|with_reducible (apply And.intro)|omega)
   all_goals rfl
  |true=>
   rw[hpk SY]at Jn
   have G2:(aC g f (x:Int) o).1.2=0:=rfl
   rw[Qo]at fR
   generalize aC g f (x:Int) o=su at WQ Qo Jn G2 fR
   generalize hEk:gC g p k=E at fR WR hel hvl
   have Ul:=fun d=>wu WR d
   repeat' (first|(show cR _ (.region 11 _ _) _ _;(refine dY hX 13 2 101 100 rfl rfl rfl (by first|exact .inl rfl|exact .inr rfl) (by decide) (by decide) ?_;simp only[List.set_cons_zero,List.set_cons_succ,go_sem,simprocAttr,hb,pE,hv,wN,EM,G2,fR,Ul,aes,ae2]))|refine Rn.p ?_|((first|refine Rs.p ?_|refine Hd.mk ?_|(refine aS [(10000,13),(10001,100),(10002,101)] (Jn) ?_ ?_;(focus(simp[go_sem,simprocAttr,hb,pE,hv,wN,EM,G2,fR,Ul,aes,ae2];done))));try simp only[go_sem,simprocAttr,hb,pE,hv,wN,EM,G2,fR,Ul,aes,ae2])|with_reducible (apply And.intro)|omega)
   refine⟨k+1,⟨by omega,fun j hj=> ?_⟩, ?_,by omega⟩
   ·by_cases e:j=k
    ·subst e;exact SY
    ·exact hok j (by omega)
   ·rw[WQ]
    have Yh:(vT E).set x [D.sl 3 (List.map rT su.1.1)]=vT (gC g p (k+1)):=fR
    refine Le.of ?_ ?_<;>simp[go_sem,simprocAttr,hb,pE,hv,wN,EM,G2,fR,Ul,aes,ae2,Yh]
 have hb:decide ((k:Int)<(p.ord.length:Int))=false:=ac6 (by omega)
 obtain rfl:k=g.n.toNat:=by omega
 rw[jR.2 hok]at hR
 subst hR
 repeat' (first|refine Rn.p ?_|((first|refine Rs.p ?_|refine Hd.mk ?_|(refine qI 60 (MQ [vw g,sI (fK g p g.n.toNat).pl] (fK g p g.n.toNat).row (by omega)) ?_ (by first|exact tV|exact tW|exact tY|exact wO) rfl (by decide) ?_;(focus(simp only[go_sem,simprocAttr,hb];done))));try simp only[go_sem,simprocAttr,hb]))
def N2(n:Int)(es:List Edge)(ord:List Int)(O:List (List Int)):List (Nat × AObj):= [(10000, .box [eN n, .ref 10001, .ref 10002, .ref 10003]),(10001, .tip 56 2 (es.map rE)),(10002, .tip 3 1 (ord.map rI)),(10003, .own 25 1 (vI O))]
def N3(n:Int)(es:List Edge)(ord:List Int)(O:List (List Int)):List (Nat × AObj):= [(10000, .box [eN n, .ref 10004, .ref 10002, .ref 10003]),(10004, .tip 56 2 (es.map rE)),(10002, .tip 3 1 (ord.map rI)),(10003, .own 25 1 (vI O))]
def iM(x:Int)(items:List It):List Edge:=(loose items).map fun v=>(v,x)
theorem Qq{x:Int}{a b:List It} :iM x (a++b)=iM x a++iM x b:=by simp[iM,bY]
theorem VK{ls:List (List Int)}{k:Nat}{l:List Int} :(vI ls).set k [sI l]=vI (ls.set k l):=by simp[vI,aeS]
theorem Dp{items:List It} :(loose items).length<=items.length:=by
 unfold loose
 rw[ado]
 exact aeI _ _
theorem G3(n:Int)(es:List Edge)(ord:List Int)(O:List (List Int))(x:Int)(items:List It)(hl:es.length+items.length<=100000)(hO:∀v∈loose items,0<=v/\v<O.length):
 Spec Tryz.prog 101 (Args [.ptr 10000 0,eN x, .d (sT items)]) (N2 n es ord O) (.tup []) (N3 n (es++iM x items) ord (eM es.length (iM x items) O)):=by
 unfold N2 N3
 (refine T.hR [] [] [] [(10004,50)] Tryz.func101 rfl rfl (by kernel_rfl) fun X hX hP hC aA bB=> ?_)
 repeat' (first|refine Rn.p ?_|((first|refine Rs.p ?_|refine Hd.mk ?_);try simp only[go_sem,simprocAttr]))
 (refine dY hX 10000 1 10001 50 rfl rfl rfl (by first|exact .inl rfl|exact .inr rfl) (by decide) (by decide) ?_;simp only[List.set_cons_zero,List.set_cons_succ,go_sem,simprocAttr])
 refine ag (fun k:Nat=>k<=items.length) (fun k=>⟨[(0, .ptr 10000 0),(1,eN x),(8, .d (sT items)),(9,eN items.length),(10,eN k)], [(10000, .box [eN n, .ref 50, .ref 10002, .ref 10003]),(50, .tip 56 2 ((es++iM x (items.take k)).map rE)),(10002, .tip 3 1 (ord.map rI)),(10003, .own 25 1 (vI (eM es.length (iM x (items.take k)) O)))]⟩) (fun k=>items.length - k) 0 (by simp) ?_ ?_
 ·refine Le.of ?_ ?_<;>simp[go_sem,simprocAttr,iM,loose,eM]
 rintro k hk
 rcases adk k items.length with hlt|hge
 ·have hb:decide ((k:Int)<(items.length:Int))=true:=ac7 (by omega)
  have Db:items.take (k+1)=items.take k++ [items.getD k (0,0,0)]:=Dh hlt
  have hmt:=az (d:=(0,0,0)) hlt
  have Au:iM x (items.take (k+1))=iM x (items.take k)++iM x [items.getD k (0,0,0)]:=by rw[Db,Qq]
  have hvO:(items.getD k (0,0,0)).1<0->0<=(items.getD k (0,0,0)).2.1/\(items.getD k (0,0,0)).2.1<O.length:=fun h=>hO _ (by
   unfold loose
   exact adb.2 ⟨_,adJ.2 ⟨hmt,ac7 h⟩,rfl⟩)
  have iF:(iM x (items.take k)).length<=k:=by
   unfold iM
   rw[ado]
   refine aek Dp ?_
   rw[adH];omega
  have hLO:=xe (m:=es.length) (N:=iM x (items.take k)) (M:=iM x [items.getD k (0,0,0)]) (O:=O)
  have Zh:(eM es.length (iM x (items.take k)) O).length=O.length:=kD
  rw[<- Au]at hLO
  generalize r8:items.getD k (0,0,0)=t at Au hvO hLO
  generalize eM es.length (iM x (items.take k)) O=O' at hLO Zh
  generalize iM x (items.take k)=N at Au iF hLO
  by_cases h0:0<=t.1
  ·have hb1:decide (0<=t.1)=true:=ac7 h0
   have he:iM x [t]= []:=by
    have:¬t.1<0:=by omega
    simp[iM,loose,this]
   rw[he]at Au hLO
   rw[ad5]at Au
   repeat' (first|refine Rn.p ?_|((first|refine Rs.p ?_|refine Hd.mk ?_);try simp only[go_sem,simprocAttr,hb,hb1,r8])|with_reducible (apply And.intro)|omega)
   refine⟨k+1,by omega, ?_,by omega⟩
   rw[hLO,Au]
   refine Le.of ?_ ?_<;>simp[go_sem,simprocAttr,hb,hb1,r8,eM]
  ·have hb1:decide (0<=t.1)=false:=ac6 h0
   have he:iM x [t]= [(t.2.1,x)]:=by
    have:t.1<0:=by omega
    simp[iM,loose,this]
   rw[he]at Au hLO
   obtain⟨TW,Kz⟩:=hvO (by omega)
   obtain⟨vn,WO⟩:∃vn:Nat,t.2.1=vn:=⟨t.2.1.toNat,by omega⟩
   have hvl:vn<O'.length:=by omega
   have Ul:=fun d=>jr hvl d
   have aa5:eM es.length (iM x (items.take (k+1))) O=O'.set vn [((es.length+N.length:Nat):Int)]:=by
    rw[hLO,WO]
    show O'.set ((vn:Int).toNat) _=_
    rw[Int.toNat_natCast]
   rw[WO]at Au
   have hrow:rI ((es.length:Int)+(N.length:Int))= [D.sc (.int .i64 ((es.length:Int)+(N.length:Int)))]:=rfl
   have fR:=VK (ls:=O') (k:=vn) (l:= [((es.length+N.length:Nat):Int)])
   repeat' (first|(show cR _ (.region 6 _ _) _ _;(refine dY hX 10000 1 43 50 rfl rfl rfl (by first|exact .inl rfl|exact .inr rfl) (by decide) (by decide) ?_;simp only[List.set_cons_zero,List.set_cons_succ,go_sem,simprocAttr,hb,hb1,r8,WO,Ul,aes,ae2,adj]))|refine Rn.p ?_|((first|refine Rs.p ?_|refine Hd.mk ?_);try simp only[go_sem,simprocAttr,hb,hb1,r8,WO,Ul,aes,ae2,adj])|with_reducible (first|apply And.intro|refine oD (by kernel_rfl) ?_)|omega)
   refine⟨k+1,by omega, ?_,by omega⟩
   rw[aa5,Au]
   refine Le.of ?_ ?_<;>simp[go_sem,simprocAttr,hb,hb1,r8,WO,Ul,aes,ae2,adj]
   refine⟨rfl, ?_⟩
   simp only[Int.natCast_add]at fR
   exact fR
 ·have hb:decide ((k:Int)<(items.length:Int))=false:=ac6 (by omega)
  obtain rfl:k=items.length:=by omega
  have ht:items.take items.length=items:=aef
  repeat' (first|refine Rn.p ?_|((first|refine Rs.p ?_|refine Hd.mk ?_);try simp only[go_sem,simprocAttr,hb,ht]))
theorem EV(ps:List Edge)(hl:ps.length<=1000000):
 Spec Tryz.prog 92 (Args [.d (sE ps)]) [] (.ref 10000) [(10000, .tip 56 2 (ps.map rE))]:=by
 (refine T.hR [] [] [.t 2] [(10000,7)] Tryz.func92 rfl rfl (by kernel_rfl) fun X hX hP hC aA bB=> ?_)
 repeat' (first|(show cR _ .ret _ _;(try simp only[go_sem,simprocAttr]);refine dQ hX 2 7 (.tip 56 2 []) ?_ ?_ (by decide) ⟨56,2,by decide, .inr rfl⟩ ?_;(iterate 2 (focus(simp only[go_sem,simprocAttr];done)));simp only[go_sem,simprocAttr])|refine Rn.p ?_|((first|refine Rs.p ?_|refine Hd.mk ?_);try simp only[go_sem,simprocAttr])|with_reducible (first|apply And.intro|(intro h;try simp only[go_sem,simprocAttr]at h))|omega)
 exact h.symm
def pz:Pl:=⟨[], []⟩
def tI(b:Bool)(g:Gr)(p:Pl):Gr × Pl × Int:=
 if(dF b g p).2.1≠0 then(gz,pz,1) else if 64<(aj g p).n\/128<(aj g p).es.length then(gz,pz,10) else(aj g p,bK g p,0)
theorem sZ{b:Bool}{g:Gr}{p:Pl}(hr:b=true↔(bX g).1=0/\bq g p)(h:(dF b g p).2.1=0):aG g p/\dF b g p=((gC g p g.n.toNat,bu g p),(0,0)):=by
 cases b with
 |false=>simp[dF]at h
 |true=>
  have hR:dF true g p=match ox g p g.n.toNat with
   |some i=>(([], []),(3,(i:Int)))
   |none=>((gC g p g.n.toNat,(fK g p g.n.toNat).row),(0,0)):=rfl
  cases hs:ox g p g.n.toNat with
  |some i=>rw[hR,hs]at h;simp at h
  |none=>
   obtain⟨h1,h2⟩:=hr.1 rfl
   exact⟨⟨h1,h2,jR.1 hs⟩,by rw[hR,hs];rfl⟩
theorem M8{g:Gr}{p:Pl}{k:Nat} :dL g p (k+1)=dL g p k++iM (aq p k) (cB g p k):=rfl
theorem KX{g:Gr}{p:Pl}(hr:aG g p){k:Nat}(hk:k<=g.n.toNat):(dL g p k).length<=g.n.toNat/\∀e∈dL g p k,0<=e.1/\e.1<g.n:=by
 obtain⟨hc,h,hok⟩:=hr
 have hm:=ah hc
 obtain⟨h1,h2⟩:=lE hm h hk fun j hj=>hok j (by omega)
 obtain⟨hi,_⟩:=bz hm h hk fun j hj=>hok j (by omega)
 have hv:∀v∈(dL g p k).map (·.1),0<=v/\v<g.n:=fun v hv=>hi.lg v (h2 v (adS _ hv)).1
 refine⟨?_,fun e he=>hv _ (adb.2 ⟨e,he,rfl⟩)⟩
 have:=jP (adu.1 h1).1 (m:=dD g.n.toNat) fun v NU=>cE.2 (by have:=hv v NU;omega)
 rw[gY,ado]at this
 exact this
theorem EW(g:Gr)(hl:g.es.length<=1000)(p:Pl)(hp:uc p)(hp1:p.ord.length<=1000)(hp2:p.outs.length<=1000)(hp3:∀l∈p.outs,l.length<=1000)(b:Bool)(hr:b=true↔(bX g).1=0/\bq g p):
 Spec Tryz.prog 57 (Args [eG g,ePl p]) [] (.tup [eG (tI b g p).1,ePl (tI b g p).2.1,eN (tI b g p).2.2]) []:=by
 have hO:=ig g hl p hp b hr
 by_cases h0:(dF b g p).2.1=0
 rotate_left
 ·have Qr:tI b g p=(gz,pz,1):=ada h0
  rw[Qr]
  have hb1:decide ((dF b g p).2.1=0)=false:=ac6 h0
  (refine T.h [] [] [.c 4 24, .c 5 28, .t 6] Tryz.func57 rfl rfl (by kernel_rfl) fun X hX hP hC aA bB=> ?_)
  repeat' (first|refine Rn.p ?_|((first|refine Rs.p ?_|refine Hd.mk ?_|refine aa (hO) rfl ?_);try simp only[go_sem,simprocAttr,hb1,gz,pz,vI,adP]))
 obtain⟨hrun,hR⟩:=sZ hr h0
 rw[hR]at hO
 simp only at hO
 have Qr:tI b g p=if 64<(aj g p).n\/128<(aj g p).es.length then(gz,pz,10) else(aj g p,bK g p,0):=by
  unfold tI;rw[ac8 (by rw[h0];simp)]
 generalize tI b g p=AR at Qr
 have hm:=ah hrun.1
 have hn:=aB hm
 have mY:=hrun.2.1
 have hle:=aI mY
 have Ax:=mY.1
 (refine T.h [55,98] [] [.c 4 24, .c 5 28, .t 6] Tryz.func57 rfl rfl (by kernel_rfl) fun X hX hP hC aA bB=> ?_)
 repeat' (first|(show cR _ (.seq (.region 5 _ _) _) _ _;(refine dY hX 38 1 31 200 rfl rfl rfl (by first|exact .inl rfl|exact .inr rfl) (by decide) (by decide) ?_;simp only[List.set_cons_zero,List.set_cons_succ,go_sem,simprocAttr]);(refine jj hX 38 3 201 (.own 25 1 []) rfl rfl rfl (by simp only[go_sem,simprocAttr]) (by decide) (by simp[go_sem,simprocAttr]) ⟨25,1,by decide, .inl rfl⟩ ?_;simp only[List.set_cons_zero,List.set_cons_succ,go_sem,simprocAttr]))|refine Rn.p ?_|((first|refine Rs.p ?_|refine Hd.mk ?_|refine aa (hO) rfl ?_|(refine lV [(10000,31)] (EV g.es (by omega)) ?_ ?_;(focus(simp[go_sem,simprocAttr];done)))|(refine lV [(10000,35)] (EJ p.ord (by omega)) ?_ ?_;(focus(simp[go_sem,simprocAttr];done))));try simp only[go_sem,simprocAttr])|with_reducible (refine oD (by kernel_rfl) ?_))
 refine ag (fun x:Nat=>x<=p.outs.length) (fun x=>⟨[(2, .ptr 2 0),(3, .ptr 3 0),(4, .ptr 4 0),(5, .ptr 5 0),(7, .d (.sl 1 (vT (gC g p g.n.toNat)))),(8, .d (sT (bu g p))),(10, .ptr 38 0),(40, .d (.sl 1 (vI p.outs))),(41,eN p.outs.length),(42,eN x)], [(2, .box [eN g.n, .d (sE g.es)]),(3, .box [.d (sI p.ord), .d (.sl 1 (vI p.outs))]),(4, .box [eN 0, .nil 56]),(5, .box [.nil 3, .nil 25]),(38, .box [eN g.n, .ref 200, .ref 35, .ref 201]),(200, .tip 56 2 (g.es.map rE)),(35, .tip 3 1 (p.ord.map rI)),(201, .own 25 1 (vI (p.outs.take x)))]⟩) (fun x=>p.outs.length - x) 0 (by simp) ?_ ?_
 ·refine Le.of ?_ ?_<;>simp[go_sem,simprocAttr,vI]
 rintro x hx
 rcases adk x p.outs.length with hxl|MI
 ·have hb:decide ((x:Int)<(p.outs.length:Int))=true:=ac7 (by omega)
  have hv:=jr hxl
  have iF:=hp3 _ (az (d:= []) hxl)
  have Db:vI (p.outs.take (x+1))=vI (p.outs.take x)++ [[sI (p.outs.getD x [])]]:=by
   unfold vI
   rw[uS (d:= []) hxl]
  have htl:(p.outs.take x).length=x:=by rw[adH];omega
  have Zi:=qL (p.outs.getD x []) (by omega)
  generalize p.outs.getD x []=l at hv iF Db Zi
  repeat' (first|(show cR _ (.region 9 _ _) _ _;(refine dY hX 38 3 55 201 rfl rfl rfl (by first|exact .inl rfl|exact .inr rfl) (by decide) (by decide) ?_;simp only[List.set_cons_zero,List.set_cons_succ,go_sem,simprocAttr,hb,hv,htl]))|refine Rn.p ?_|((first|refine Rs.p ?_|refine Hd.mk ?_|refine aa (Zi) rfl ?_);try simp only[go_sem,simprocAttr,hb,hv,htl])|with_reducible (first|apply And.intro|refine oD (by kernel_rfl) ?_)|omega)
  refine⟨x+1,by omega, ?_,by omega⟩
  rw[Db]
  refine Le.of ?_ ?_<;>simp[go_sem,simprocAttr,hb,hv,htl]
 have hb:decide ((x:Int)<(p.outs.length:Int))=false:=ac6 (by omega)
 obtain rfl:x=p.outs.length:=by omega
 repeat' (first|refine Rn.p ?_|((first|refine Rs.p ?_|refine Hd.mk ?_);try simp only[go_sem,simprocAttr,hb,aef]))
 clear hb hx
 refine ag (fun k:Nat=>k<=g.n.toNat) (fun k=>⟨[(2, .ptr 2 0),(4, .ptr 4 0),(5, .ptr 5 0),(7, .d (.sl 1 (vT (gC g p g.n.toNat)))),(8, .d (sT (bu g p))),(10, .ptr 38 0),(61, .d (sI p.ord)),(62,eN p.ord.length),(63,eN k)], [(2, .box [eN g.n, .d (sE g.es)]),(4, .box [eN 0, .nil 56]),(5, .box [.nil 3, .nil 25]),(38, .box [eN g.n, .ref 200, .ref 35, .ref 201]),(200, .tip 56 2 ((g.es++dL g p k).map rE)),(35, .tip 3 1 (p.ord.map rI)),(201, .own 25 1 (vI (eM g.es.length (dL g p k) p.outs)))]⟩) (fun k=>g.n.toNat - k) 0 (by simp) ?_ ?_
 ·refine Le.of ?_ ?_<;>simp[go_sem,simprocAttr,dL,eM]
 rintro k hk
 obtain⟨hnl,RT⟩:=KX hrun hk
 have Zh:(eM g.es.length (dL g p k) p.outs).length=p.outs.length:=kD
 rcases adk k g.n.toNat with cM|RI
 ·have hb:decide ((k:Int)<(p.ord.length:Int))=true:=ac7 (by omega)
  have Ye:=aD mY cM
  have WM:=wT mY (k:=g.n.toNat) (adh _) cM
  have pE:p.ord.getD k 0=aq p k:=rfl
  have dw:=M8 (g:=g) (p:=p) (k:=k)
  obtain⟨G4,aa6⟩:=KX hrun (k:=k+1) (by omega)
  have yJ:(cB g p k).length<=(fK g p k).row.length:=by unfold cB aC;simp;omega
  obtain⟨_,_,hrl⟩:=bz hm mY (k:=k) (by omega) fun j hj=>hrun.2.2 j (by omega)
  have hmul:k*(g.es.length+1)<=64*129:=afR (by omega) (by omega)
  have hLO:eM g.es.length (dL g p (k+1)) p.outs=eM (g.es++dL g p k).length (iM (aq p k) (cB g p k)) (eM g.es.length (dL g p k) p.outs):=by
   rw[dw,xe,adj]
  have ES:=G3 g.n (g.es++dL g p k) p.ord (eM g.es.length (dL g p k) p.outs) (aq p k) (cB g p k) (by rw[adj];omega) (fun v hv=>by
   have:=aa6 (v,aq p k) (by rw[dw];exact ad0 _ (adb.2 ⟨v,hv,rfl⟩))
   simp only at this
   omega)
  rw[<- hLO]at ES
  have Ib:g.es++dL g p k++iM (aq p k) (cB g p k)=g.es++dL g p (k+1):=by rw[dw,adO]
  rw[Ib]at ES
  obtain⟨x,hx⟩:∃x:Nat,aq p k=x:=⟨(aq p k).toNat,by omega⟩
  rw[hx]at pE WM ES Ye
  rw[Int.toNat_natCast]at WM
  have hel:=qW (g:=g) (p:=p) (k:=g.n.toNat)
  have WR:x<(gC g p g.n.toNat).length:=by omega
  have Ig:=wu WR
  rw[WM]at Ig
  have hvl:(vT (gC g p g.n.toNat)).length=(gC g p g.n.toNat).length:=vT_length
  repeat' (first|(show cR _ (.region 14 _ _) _ _;(refine dY hX 38 1 202 200 rfl rfl rfl (by first|exact .inl rfl|exact .inr rfl) (by decide) (by decide) ?_;simp only[List.set_cons_zero,List.set_cons_succ,go_sem,simprocAttr,hb,pE,Ig,hvl,N2,N3]))|refine Rn.p ?_|((first|refine Rs.p ?_|refine Hd.mk ?_|(refine aS [(10000,38),(10001,200),(10002,35),(10003,201),(10004,202)] (ES) ?_ ?_;(focus(simp[go_sem,simprocAttr,hb,pE,Ig,hvl,N2,N3];done))));try simp only[go_sem,simprocAttr,hb,pE,Ig,hvl,N2,N3])|with_reducible (apply And.intro)|omega)
  refine⟨k+1,by omega, ?_,by omega⟩
  refine Le.of ?_ ?_<;>simp[go_sem,simprocAttr,hb,pE,Ig,hvl,N2,N3]
 have hb:decide ((k:Int)<(p.ord.length:Int))=false:=ac6 (by omega)
 obtain rfl:k=g.n.toNat:=by omega
 by_cases h1:1<(bu g p).length
 ·have hb1:decide ((1:Int)<((bu g p).length:Int))=true:=ac7 (by omega)
  obtain⟨_,_,hrl⟩:=bz hm mY (k:=g.n.toNat) (adh _) hrun.2.2
  have hmul:g.n.toNat*(g.es.length+1)<=64*129:=afR (by omega) (by omega)
  have hrl:(bu g p).length<=g.n.toNat*(g.es.length+1):=hrl
  obtain⟨vt,Jm⟩:=iB hrun
  have G4:newL g p=iM g.n (bu g p):=ada h1
  have ES:=G3 (g.n+1) (g.es++dL g p g.n.toNat) (p.ord++ [g.n]) (eM g.es.length (dL g p g.n.toNat) p.outs++ [[]]) g.n (bu g p) (by rw[adj];omega) (fun v hv=>by
   have:=(Jm (v,g.n) (by unfold bg;rw[G4];exact ad0 _ (adb.2 ⟨v,hv,rfl⟩))).1
   simp only at this
   rw[adj,kD];omega)
  have hq:eM (g.es++dL g p g.n.toNat).length (iM g.n (bu g p)) (eM g.es.length (dL g p g.n.toNat) p.outs++ [[]])=(bK g p).outs:=by
   show _=eM g.es.length (bg g p) (if 1<(bu g p).length then p.outs++ [[]] else p.outs)
   have Au:=Dn (m:=g.es.length) (N:=dL g p g.n.toNat) (O:=p.outs) (fun e he=>by
    have:=RT e he
    omega)
   rw[ada h1,bg,G4,xe,adj,Au]
  have he:g.es++dL g p g.n.toNat++iM g.n (bu g p)=(aj g p).es:=by
   show _=g.es++bg g p
   rw[bg,G4,adO]
  have ho:p.ord++ [g.n]=(bK g p).ord:=(ada h1).symm
  have hg:g.n+1=(aj g p).n:=(ada h1).symm
  have hvs:vI (eM g.es.length (dL g p g.n.toNat) p.outs)++ [[D.sl 1 []]]=vI (eM g.es.length (dL g p g.n.toNat) p.outs++ [[]]):=by simp[vI,sI]
  have hos:p.ord.map rI++ [[D.sc (.int .i64 g.n)]]=(p.ord++ [g.n]).map rI:=by simp[rI]
  rw[hq,he]at ES
  have y6:(aj g p).es.length<=1000:=by
   rw[<- he,adj,adj]
   have:(iM g.n (bu g p)).length<=g.n.toNat:=by
    have:=jP (adu.1 (by rw[bg,adt]at vt;exact vt)).2.1 (m:=dD g.n.toNat) fun v NU=>cE.2 (by
     obtain⟨e,he,rfl⟩:=adb.1 NU
     have:=(Jm e (ad0 _ he)).1
     omega)
    rw[gY,ado,G4]at this
    exact this
   omega
  have M9:AR=if 64<(aj g p).n\/128<(aj g p).es.length then(gz,pz,10) else(aj g p,bK g p,0):=Qr
  clear Qr
  have hql:(bK g p).outs.length=(bK g p).outs.length:=rfl
  have hpp:bK g p=⟨(bK g p).ord,(bK g p).outs⟩:=rfl
  generalize aj g p=G at he hg ES M9 y6
  rw[ho]at ES hos
  generalize bK g p=Q at hq ho ES M9 hos
  by_cases h2:64<G.n
  ·have hb2:decide (64<G.n)=true:=ac7 h2
   rw[ada (.inl h2)]at M9
   subst M9
   repeat' (first|refine Rn.p ?_|((first|refine Rs.p ?_|refine Hd.mk ?_|(refine aS [(10000,38),(10001,200),(10002,87),(10003,98),(10004,203)] (ES) ?_ ?_;(focus(simp[go_sem,simprocAttr,hb,hb1,hb2,N2,N3,hvs,hos,hg,gz,pz,vI,adP];done))));try simp only[go_sem,simprocAttr,hb,hb1,hb2,N2,N3,hvs,hos,hg,gz,pz,vI,adP])|with_reducible (first|apply And.intro|refine oD (by kernel_rfl) ?_)|omega)
  ·have hb2:decide (64<G.n)=false:=ac6 h2
   by_cases h3:128<G.es.length
   ·have hb3:decide (128<(G.es.length:Int))=true:=ac7 (by omega)
    rw[ada (.inr h3)]at M9
    subst M9
    repeat' (first|refine Rn.p ?_|((first|refine Rs.p ?_|refine Hd.mk ?_|(refine aS [(10000,38),(10001,200),(10002,87),(10003,98),(10004,203)] (ES) ?_ ?_;(focus(simp[go_sem,simprocAttr,hb,hb1,hb2,hb3,N2,N3,hvs,hos,hg,gz,pz];done))));try simp only[go_sem,simprocAttr,hb,hb1,hb2,hb3,N2,N3,hvs,hos,hg,gz,pz])|with_reducible (first|apply And.intro|refine oD (by kernel_rfl) ?_)|omega)
    all_goals rfl
   ·have hb3:decide (128<(G.es.length:Int))=false:=ac6 (by omega)
    rw[ac8 (by rintro(h|h);exact h2 h;exact h3 h)]at M9
    subst M9
    repeat' (first|refine Rn.p ?_|((first|refine Rs.p ?_|refine Hd.mk ?_|(refine aS [(10000,38),(10001,200),(10002,87),(10003,98),(10004,203)] (ES) ?_ ?_;(focus(simp[go_sem,simprocAttr,hb,hb1,hb2,hb3,N2,N3,hvs,hos,hg];done))));try simp only[go_sem,simprocAttr,hb,hb1,hb2,hb3,N2,N3,hvs,hos,hg])|with_reducible (first|apply And.intro|refine oD (by kernel_rfl) ?_)|omega)
 ·have hb1:decide ((1:Int)<((bu g p).length:Int))=false:=ac6 (by omega)
  have G4:newL g p= []:=ac8 h1
  have he:g.es++dL g p g.n.toNat=(aj g p).es:=by
   show _=g.es++bg g p
   rw[bg,G4,ad5]
  have hq:eM g.es.length (dL g p g.n.toNat) p.outs=(bK g p).outs:=by
   show _=eM g.es.length (bg g p) (if 1<(bu g p).length then p.outs++ [[]] else p.outs)
   rw[ac8 h1,bg,G4,ad5]
  have ho:p.ord=(bK g p).ord:=(ac8 h1).symm
  have hg:g.n=(aj g p).n:=(ac8 h1).symm
  have hml:(g.es++dL g p g.n.toNat).map rE=(aj g p).es.map rE:=by rw[he]
  have aa7:(aj g p).es.length=g.es.length+(dL g p g.n.toNat).length:=by rw[<- he,adj]
  have YZ:p.ord.map rI=(bK g p).ord.map rI:=by rw[<- ho]
  generalize aj g p=G at he hg Qr hml aa7
  generalize bK g p=Q at hq ho Qr YZ
  by_cases h2:64<G.n
  ·omega
  ·have hb2:decide (64<G.n)=false:=ac6 h2
   by_cases h3:128<G.es.length
   ·have hb3:decide (128<(G.es.length:Int))=true:=ac7 (by omega)
    rw[ada (.inr h3)]at Qr
    subst Qr
    rw[he]
    repeat' (first|refine Rn.p ?_|((first|refine Rs.p ?_|refine Hd.mk ?_);try simp only[go_sem,simprocAttr,hb,hb1,hb2,hb3,hg,gz,pz])|with_reducible (first|apply And.intro|(intro h;try simp only[go_sem,simprocAttr,hb,hb1,hb2,hb3,hg,gz,pz]at h))|omega)
    all_goals rfl
   ·have hb3:decide (128<(G.es.length:Int))=false:=ac6 (by omega)
    rw[ac8 (by rintro(h|h);exact h2 h;exact h3 h)]at Qr
    subst Qr
    rw[he,hq]
    have aa8:=YZ.symm
    have hg2:=hg.symm
    rw[hg2]at hb2
    repeat' (first|refine Rn.p ?_|((first|refine Rs.p ?_|refine Hd.mk ?_);try simp only[go_sem,simprocAttr,hb,hb1,hb2,hb3,hg2,aa8])|with_reducible (refine oD (by kernel_rfl) ?_))
def acO(p:Pl)(x:Gr)(k:Nat):List (List Int):=(List.range k).map fun v=>if 0<(p.outs.getD v []).length then p.outs.getD v [] else b8 x (v:Int)
theorem BN{g:Gr}{p:Pl}(hr:aG g p):∀t∈bu g p,t.1<0:=by
 obtain⟨hc,h,hok⟩:=hr
 have hm:=ah hc
 have hn:=aB hm
 obtain⟨hi,dI,_⟩:=bz hm h (k:=g.n.toNat) (adh _) hok
 intro t ht
 refine adm fun h0=> ?_
 rcases hi.it t ht with ⟨h1,_⟩|⟨h1,h2,_,h4⟩
 ·omega
 ·have Vx:=(cU hm (k:=t.1.toNat) (by omega)).2
  rw[<- h4]at Vx
  refine hi.head t ht h1 (jQ hi.tofL ?_ Vx)
  rw[dI,adH,aI h];omega
def BO(g:Gr)(p:Pl):Bool:=decide (200<g.es.length)||decide (100<p.ord.length)||decide (100<p.outs.length)||p.outs.any fun l=>decide (200<l.length)
theorem KY{g:Gr}{p:Pl}(h:BO g p=false):g.es.length<=200/\p.ord.length<=100/\p.outs.length<=100/\∀l∈p.outs,l.length<=200:=by
 simp only[BO,aeq,adM,adV,ade]at h
 obtain⟨⟨⟨h1,h2⟩,h3⟩,h4⟩:=h
 exact⟨by omega,by omega,by omega,fun l hl=>by have:=h4 l hl;omega⟩
theorem Qs{g:Gr}{p:Pl}(h:BO g p=false):uc p:=by
 obtain⟨_,h1,h2,h3⟩:=KY h
 exact⟨by omega,by omega,fun l hl=>by have:=h3 l hl;omega⟩
structure Qt (p:Pl):Prop where
 ord:p.ord.length<=9223372036854775807
 outs:p.outs.length<=9223372036854775807
 each:∀l∈p.outs,l.length<=9223372036854775807
theorem EX(g:Gr)(p:Pl)(hl:g.es.length<=9223372036854775807)(hp:Qt p):Spec Tryz.prog 19 (Args [eG g,ePl p]) [] (eB (BO g p)) []:=by
 have ho:=hp.ord
 have hu:=hp.outs
 (refine T.h [] [] [.t 4] Tryz.func19 rfl rfl (by kernel_rfl) fun X hX hP hC aA bB=> ?_)
 generalize hB:BO g p=B
 by_cases h1:200<g.es.length
 ·have hb1:decide (200<(g.es.length:Int))=true:=ac7 (by omega)
  have:B=true:=by rw[<- hB,BO,ac7 h1];rfl
  subst this
  repeat' (first|refine Rn.p ?_|((first|refine Rs.p ?_|refine Hd.mk ?_);try simp only[go_sem,simprocAttr,hb1]))
 have hb1:decide (200<(g.es.length:Int))=false:=ac6 (by omega)
 by_cases h2:100<p.ord.length
 ·have hb2:decide (100<(p.ord.length:Int))=true:=ac7 (by omega)
  have:B=true:=by rw[<- hB,BO,ac7 h2];simp
  subst this
  repeat' (first|refine Rn.p ?_|((first|refine Rs.p ?_|refine Hd.mk ?_);try simp only[go_sem,simprocAttr,hb1,hb2]))
 have hb2:decide (100<(p.ord.length:Int))=false:=ac6 (by omega)
 by_cases h3:100<p.outs.length
 ·have hb3:decide (100<(p.outs.length:Int))=true:=ac7 (by omega)
  have:B=true:=by rw[<- hB,BO,ac7 h3];simp
  subst this
  repeat' (first|refine Rn.p ?_|((first|refine Rs.p ?_|refine Hd.mk ?_);try simp only[go_sem,simprocAttr,hb1,hb2,hb3]))
 have hb3:decide (100<(p.outs.length:Int))=false:=ac6 (by omega)
 have CI:B=p.outs.any fun l=>decide (200<l.length):=by rw[<- hB,BO,ac6 h1,ac6 h2,ac6 h3];simp
 clear hB
 repeat' (first|refine Rn.p ?_|((first|refine Rs.p ?_|refine Hd.mk ?_);try simp only[go_sem,simprocAttr,hb1,hb2,hb3]))
 refine ag (fun k:Nat=>k<=p.outs.length/\∀j,j<k->(p.outs.getD j []).length<=200) (fun k=>⟨[(24, .d (.sl 1 (vI p.outs))),(25,eN p.outs.length),(26,eN k)], []⟩) (fun k=>p.outs.length - k) 0 (by simp) ?_ ?_
 ·(refine Le.of ?_ ?_<;>simp[go_sem,simprocAttr])
 rintro k ⟨hk,hg⟩
 rcases adk k p.outs.length with cM|RI
 ·have hb:decide ((k:Int)<(p.outs.length:Int))=true:=ac7 (by omega)
  have hv:=jr cM
  have hm:=az (d:= []) cM
  have iF:=hp.each _ hm
  by_cases h4:200<(p.outs.getD k []).length
  ·have hb4:decide (200<((p.outs.getD k []).length:Int))=true:=ac7 (by omega)
   have:B=true:=by rw[CI,adR];exact⟨_,hm,ac7 h4⟩
   subst this
   repeat' (first|refine Rn.p ?_|((first|refine Rs.p ?_|refine Hd.mk ?_);try simp only[go_sem,simprocAttr,hb,hv,hb4])|with_reducible (apply And.intro)|omega)
  ·have hb4:decide (200<((p.outs.getD k []).length:Int))=false:=ac6 (by omega)
   repeat' (first|refine Rn.p ?_|((first|refine Rs.p ?_|refine Hd.mk ?_);try simp only[go_sem,simprocAttr,hb,hv,hb4])|with_reducible (apply And.intro)|omega)
   refine⟨k+1,⟨by omega,fun j hj=> ?_⟩, ?_,by omega⟩
   ·by_cases e:j=k
    ·subst e;omega
    ·exact hg j (by omega)
   ·(refine Le.of ?_ ?_<;>simp[go_sem,simprocAttr,hb,hv,hb4])
 ·have hb:decide ((k:Int)<(p.outs.length:Int))=false:=ac6 (by omega)
  have:B=false:=by
   rw[CI,adV]
   intro l hl
   obtain⟨j,hj,rfl⟩:=ads.1 hl
   have:=hg j (by omega)
   rw[aas,acF hj,Option.getD_some]at this
   simp;omega
  subst this
  repeat' (first|refine Rn.p ?_|((first|refine Rs.p ?_|refine Hd.mk ?_);try simp only[go_sem,simprocAttr,hb]))
def q8(g:Gr):Bool:=decide ((bX g).1=0)&&decide ((bZ (·.1) g).length=1)
theorem u5(g:Gr)(hl:g.es.length<=1000):Spec Tryz.prog 39 (Args [eG g]) [] (eB (q8 g)) []:=by
 by_cases hc:(bX g).1=0
 ·have hm:=ah hc
  have hb1:decide ((bX g).1=0)=true:=ac7 hc
  have hI:q8 g=decide (((bZ (·.1) g).length:Int)=1):=by
   unfold q8;rw[hb1,aep,decide_eq_decide];omega
  rw[hI]
  generalize Ct:bZ (·.1) g=bl
  have hS:=ID g hm
  rw[Ct]at hS
  (refine T.h [] [] [.t 2] Tryz.func39 rfl rfl (by kernel_rfl) fun X hX hP hC aA bB=> ?_)
  repeat' (first|refine Rn.p ?_|((first|refine Rs.p ?_|refine Hd.mk ?_|refine aa (iE g hl) rfl ?_|refine aa (sx g hm) rfl ?_|refine aa (hS) rfl ?_);try simp only[go_sem,simprocAttr,hb1]))
 ·have hb1:decide ((bX g).1=0)=false:=ac6 hc
  have hI:q8 g=false:=by unfold q8;rw[hb1];rfl
  rw[hI]
  (refine T.h [] [] [.t 2] Tryz.func39 rfl rfl (by kernel_rfl) fun X hX hP hC aA bB=> ?_)
  repeat' (first|refine Rn.p ?_|((first|refine Rs.p ?_|refine Hd.mk ?_|refine aa (iE g hl) rfl ?_);try simp only[go_sem,simprocAttr,hb1]))
def g16:Gr:=⟨3, [(0,1),(0,2)]⟩
def p16:Pl:=⟨[0,1,2], [[0,1], [], []]⟩
def x16:Gr:=⟨4, [(0,1),(0,2),(1,3),(2,3)]⟩
def q16:Pl:=⟨[0,1,2,3], [[0,1], [2], [3], []]⟩
def upB(l:List Int)(k:Nat):Bool:=(List.range k).all fun i=>decide (l.getD i 0=(i:Int))
def SZ(g:Gr)(names order:List Int)(k:Nat):List Edge:=(List.range k).map fun i=>(names.getD (g.es.getD (order.getD i 0).toNat (0,0)).1.toNat 0,names.getD (g.es.getD (order.getD i 0).toNat (0,0)).2.toNat 0)
def kH(g:Gr)(names order:List Int):Gr:=⟨g.n,SZ g names order order.length⟩
theorem G5{g:Gr}{names order:List Int}{k:Nat} :(SZ g names order k).length=k:=by simp[SZ]
def Yi(g:Gr)(names order:List Int):Bool:=aM g&&ql names g.n&&ql order g.es.length
def acP(g:Gr)(names order:List Int):Gr:=if Yi g names order then kH g names order else⟨0, []⟩
end Go.Ab
end
section
namespace Go.Ab
def Ed(g:Gr)(a b:Int):Prop:=∃i,i<g.es.length/\tl g i=a/\hd g i=b
def Zj(g:Gr)(l:List Int):Prop:=∀i,i<l.length->Ed g (l.getD i 0) (l.getD ((i+1) % l.length) 0)
def Qu(g:Gr)(way:List Int)(at_:Int):Prop:=∀p,p<way.length->Ed g ((way++ [at_]).getD (p+1) 0) (way.getD p 0)
theorem yo{l:List Int}{a:Int} :(l++ [a]).getD l.length 0=a:=by
 rw[aas,adx (adh _)];simp
theorem BP{g:Gr}(hm:aM g=true):∀(f:Nat) (way:List Int) (a:Nat),a<g.n.toNat->(a:Int)∉aZ g->Qu g way a->left g way<=f->
 Qu g (pK g (eS g (aZ g)) f way a).1 (pK g (eS g (aZ g)) f way a).2/\0<=(pK g (eS g (aZ g)) f way a).2/\(pK g (eS g (aZ g)) f way a).2∈(pK g (eS g (aZ g)) f way a).1
 |f,way,a,ha,hn,hc,hl=>by
  by_cases hmem:(a:Int)∈way
  ·rw[nZ (.inr hmem)]
   exact⟨hc,by simp only;omega,hmem⟩
  ·have hla:=lX ha hmem
   cases f with
   |zero=>omega
   |succ f=>
    obtain⟨⟨i,hi,VL,htl,RT⟩,_⟩:=Ba hm (Vm hm ha hn)
    have htr:=aT hm hi
    rw[htl]at htr
    obtain⟨b,j9⟩:∃b:Nat,mU g (eS g (aZ g)) a=b:=⟨(mU g (eS g (aZ g)) a).toNat,by omega⟩
    rw[j9]at RT htr htl
    have e1:pK g (eS g (aZ g)) (f+1) way a=pK g (eS g (aZ g)) f (way++ [(a:Int)]) b:=by
     simp only[pK];rw[ac8 (by intro h;rcases h with h|h;omega;exact hmem h),j9]
    rw[e1]
    refine BP hm f (way++ [(a:Int)]) b (by omega) RT ?_ (by omega)
    intro p hp
    rw[adj,List.length_singleton]at hp
    by_cases dI:p<way.length
    ·have:=hc p dI
     rw[qR (by simp;omega),qR dI]
     exact this
    ·have:p=way.length:=by omega
     subst this
     have e2:=yo (l:=way++ [(a:Int)]) (a:=(b:Int))
     rw[adj,List.length_singleton]at e2
     rw[e2,yo]
     exact⟨i,hi,htl,VL⟩
theorem getD_drop{l:List Int}{k p:Nat} :(l.drop k).getD p 0=l.getD (k+p) 0:=by
 rw[aas,ad4, <- List.getD_eq_getElem?_getD]
theorem Zj.Sv{g:Gr}{l:List Int}(h:∀p,p<l.length->Ed g (l.getD ((p+1) % l.length) 0) (l.getD p 0))(h0:0<l.length):Zj g (qi l.reverse):=by
 have Zc:0<l.reverse.length:=by simpa using h0
 obtain⟨k,Ao,hk2,_⟩:=fS (lZ Zc)
 rw[aeQ]at hk2
 have e1:qi l.reverse=l.reverse.drop k++l.reverse.take k:=by simp only[qi,Ao,Int.toNat_natCast]
 have hlen:(qi l.reverse).length=l.length:=by rw[e1];simp;omega
 have hg:∀i,i<l.length->(qi l.reverse).getD i 0=l.getD (l.length - 1 - (i+k) % l.length) 0:=by
  intro i hi
  rw[e1,aas]
  by_cases hik:i<l.length - k
  ·rw[ady (by simp;omega),ad4,afb (by omega),aeC (by omega), <- List.getD_eq_getElem?_getD]
   congr 1;omega
  ·rw[adx (by simp;omega),aeD,aeQ,adE,ada (by omega),afb (by omega), <- List.getD_eq_getElem?_getD]
   have:(i+k) % l.length=i+k - l.length:=by rw[Nat.mod_eq_sub_mod (by omega),aeC (by omega)]
   rw[this];congr 1;omega
 intro i hi
 rw[hlen]at hi ⊢
 rw[hg i hi,hg _ (ahb _ h0)]
 have hmm:((i+1) % l.length+k) % l.length=((i+k) % l.length+1) % l.length:=by
  rw[Nat.mod_add_mod,Nat.mod_add_mod];congr 1;omega
 rw[hmm]
 have hj:=ahb (i+k) h0
 generalize (i+k) % l.length=j at hj ⊢
 by_cases Qv:j+1<l.length
 ·rw[aeC Qv]
  have:=h (l.length - 1 - (j+1)) (by omega)
  rw[aeC (by omega),show l.length - 1 - (j+1)+1=l.length - 1 - j from by omega]at this
  exact this
 ·have:j+1=l.length:=by omega
  rw[this,ahg]
  have:=h (l.length - 1) (by omega)
  rw[show l.length - 1+1=l.length from by omega,ahg]at this
  rw[show l.length - 1 - j=0 from by omega]
  exact this
def aa9(g:Gr):Prop:=∃r:Int->Nat,∀i,i<g.es.length->r (tl g i)<r (hd g i)
theorem zT{g:Gr}(hm:aM g=true):KJ g=true↔aa9 g:=by
 constructor
 ·intro h
  refine⟨fun v=>((GI g.n.toNat (aZ g) (aZ g).length).getD v.toNat 0).toNat,fun i hi=> ?_⟩
  have h1:=P7 (MP hm h) hi
  have h2:=Bp (n:=g.n.toNat) (l:=aZ g) (k:=(aZ g).length) (y:=(tl g i).toNat)
  simp only;omega
 ·rintro⟨r,hr⟩
  cases h:KJ g with
  |true=>rfl
  |false=>
   exfalso
   obtain⟨y,hy,hn⟩:=KL hm h
   have key:∀(p:Nat) (y:Nat),y<g.n.toNat->(y:Int)∉aZ g->r y=p->False:=by
    intro p
    induction p using Nat.strongRecOn with
    |_ p ih=>
     intro y hy hn hp
     obtain⟨t,i,hi,h1,rfl,h2⟩:=Vm hm hy hn
     have htr:=aT hm hi
     have hlt:=hr i hi
     rw[h1,hp]at hlt
     have e:((tl g i).toNat:Int)=tl g i:=by omega
     exact ih (r (tl g i)) hlt (tl g i).toNat (by omega) (by rw[e];exact h2) (by rw[e])
   exact key _ y hy hn rfl
theorem EY{g:Gr}(hm:aM g=true)(h:KJ g=true):nW g= []:=by
 have hall:=(cV.1 (KK hm h)).2
 have hn:=aB hm
 rcases start_eq hm with ⟨h1,h2⟩|⟨a,ha,h1,h2,h3⟩
 ·have:nV g=([], -1):=by
   unfold nV;rw[h1];exact nZ (.inl (by omega)) _
  simp only[nW,this]
  rw[ada (by omega)]
 ·exact absurd (hall a (cE.2 (by omega))) h3
theorem Qw{g:Gr}(hm:aM g=true)(h:KJ g=false):0<(nW g).length/\Zj g (nW g):=by
 obtain⟨y,hy,hny⟩:=KL hm h
 have hn:=aB hm
 rcases start_eq hm with ⟨h1,h2⟩|⟨a,ha,h1,h2,h3⟩
 ·exfalso
  rcases jK (f:=fun n:Int=>decide (0<n)) (l:=eS g (aZ g)) 0 with ⟨_,h4⟩|⟨k,h4,_⟩
  ·have h5:=(x5 hm hy).2 hny
   have h6:=h4 ((eS g (aZ g)).getD y 0) (by rw[aas,pH hy];exact adN (pH hy))
   rw[qM hy]at h6
   exact absurd h5 (of_decide_eq_false h6)
  ·omega
 ·obtain⟨h4,h5,h6⟩:=BP hm g.n.toNat [] a ha h3 (fun p hp=>by simp at hp) Er
  have hw:nV g=pK g (eS g (aZ g)) g.n.toNat [] a:=by unfold nV;rw[h1]
  rw[<- hw]at h4 h5 h6
  obtain⟨k,Ao,hk2,WI⟩:=fS h6
  have hc:nW g=qi ((nV g).1.drop k).reverse:=by
   simp only[nW]
   rw[ac8 (by omega),Ao,Int.toNat_natCast]
  have hlen:((nV g).1.drop k).length=(nV g).1.length - k:=by simp
  have h0:0<((nV g).1.drop k).length:=by omega
  refine⟨?_, ?_⟩
  ·rw[hc]
   simp only[qi,adj,aeD,adH,aeQ]
   omega
  ·rw[hc]
   refine Zj.Sv (fun p hp=> ?_) h0
   rw[hlen]at hp ⊢
   have h7:=h4 (k+p) (by omega)
   rw[getD_drop (p:=p)]
   by_cases Qv:p+1<(nV g).1.length - k
   ·rw[aeC Qv,getD_drop]
    rw[qR (by omega)]at h7
    exact h7
   ·have:p+1=(nV g).1.length - k:=by omega
    rw[this,ahg,getD_drop,Nat.add_zero,WI]
    rw[show k+p+1=(nV g).1.length from by omega,yo]at h7
    exact h7
def nm(names:List Int)(v:Int):Int:=names.getD v.toNat 0
structure mZ (g:Gr) (names order:List Int):Prop where
 may:aM g=true
 VM:ql names g.n=true
 ord:ql order (g.es.length:Int)=true
section
variable {g:Gr} {names order:List Int} (h:mZ g names order)
include h
theorem mZ.len:(kH g names order).es.length=g.es.length:=by
 have:=(cV.1 h.ord).1
 simp only[kH,G5];omega
theorem mZ.nP{i:Nat}(hi:i<g.es.length):∃j,j<g.es.length/\order.getD i 0=(j:Int)/\(kH g names order).es.getD i (0,0)=(nm names (tl g j),nm names (hd g j)):=by
 have Ax:=(cV.1 h.ord).1
 have:=Bo h.ord _ (l8 (l:=order) (m:=i) (by omega))
 refine⟨(order.getD i 0).toNat,by omega,by omega, ?_⟩
 simp only[kH,SZ,nm,tl,hd]
 rw[aas,adn,adq (by omega)]
 rfl
theorem mZ.back{j:Nat}(hj:j<g.es.length):∃i,i<g.es.length/\order.getD i 0=(j:Int)/\(kH g names order).es.getD i (0,0)=(nm names (tl g j),nm names (hd g j)):=by
 obtain⟨Ax,hall⟩:=cV.1 h.ord
 obtain⟨i,hi,hil,he⟩:=fS (hall (j:Int) (cE.2 (by omega)))
 obtain⟨j',_,h2,h3⟩:=h.nP (i:=i) (by omega)
 have:j'=j:=by omega
 subst this
 exact⟨i,by omega,he,h3⟩
theorem mZ.inj{a b:Int}(ha:0<=a/\a<g.n)(hb:0<=b/\b<g.n)(e:nm names a=nm names b):a=b:=by
 have hnl:=(cV.1 h.VM).1
 have:=pR h.VM (i:=a.toNat) (j:=b.toNat) (by omega) (by omega) e
 omega
theorem mZ.range{a:Int}(ha:0<=a/\a<g.n):0<=nm names a/\nm names a<g.n:=by
 have hnl:=(cV.1 h.VM).1
 exact Bo h.VM _ (l8 (by omega))
theorem mZ.inv{a:Int}(ha:0<=a/\a<g.n):jg names (nm names a)=a:=by
 have hnl:=(cV.1 h.VM).1
 obtain⟨k,hk,cM,he⟩:=fS (l8 (l:=names) (m:=a.toNat) (by omega))
 have h2:=pR h.VM cM (j:=a.toNat) (by omega) he
 have h3:jg names (nm names a)=k:=hk
 omega
theorem mZ.of{v:Int}(hv:0<=v/\v<g.n):∃a,(0<=a/\a<g.n)/\nm names a=v:=by
 obtain⟨hnl,hall⟩:=cV.1 h.VM
 obtain⟨k,hk,cM,he⟩:=fS (hall v (cE.2 (by omega)))
 exact⟨k,by omega,he⟩
theorem mZ.may':aM (kH g names order)=true:=by
 have hn:=aB h.may
 have hlen:=h.len
 have hall:(kH g names order).es.any (uE (kH g names order))=false:=by
  rw[adV]
  intro e he
  obtain⟨i,hi,rfl⟩:=ae4 he
  obtain⟨j,hj,_,h3⟩:=h.nP (i:=i) (by omega)
  rw[aas,acF hi,Option.getD_some]at h3
  rw[h3]
  have h4:=h.range (aT h.may hj)
  have h5:=h.range (aU h.may hj)
  have e1:(kH g names order).n=g.n:=rfl
  simp only[uE,AY,e1,adL,ade]
  omega
 have e1:(kH g names order).n=g.n:=rfl
 simp only[aM,hall,e1,aft,aeZ,adg,ade]
 omega
omit h in
theorem yp{i j:Nat}(e:(kH g names order).es.getD i (0,0)=(nm names (tl g j),nm names (hd g j))):tl (kH g names order) i=nm names (tl g j)/\hd (kH g names order) i=nm names (hd g j):=⟨congrArg Prod.fst e,congrArg Prod.snd e⟩
theorem mZ.loop:(0<=l7 (kH g names order))↔0<=l7 g:=by
 have key:∀g:Gr,(0<=l7 g)↔∃i,i<g.es.length/\tl g i=hd g i:=by
  intro g
  have:=cT (fun e:Edge=>decide (e.1=e.2)) g.es
  rw[show(0<=l7 g)↔g.es.any (fun e:Edge=>decide (e.1=e.2))=true from by rw[<- this];simp[l7],adR]
  constructor
  ·rintro⟨e,he,h2⟩
   obtain⟨i,hi,rfl⟩:=ae4 he
   refine⟨i,hi, ?_⟩
   simpa[tl,hd,aas,acF hi]using h2
  ·rintro⟨i,hi,h2⟩
   refine⟨_,ad3 hi, ?_⟩
   simpa[tl,hd,aas,acF hi]using h2
 rw[key,key,h.len]
 constructor
 ·rintro⟨i,hi,e⟩
  obtain⟨j,hj,_,h3⟩:=h.nP hi
  obtain⟨e1,e2⟩:=yp h3
  exact⟨j,hj,h.inj (aT h.may hj) (aU h.may hj) (by rw[<- e1, <- e2,e])⟩
 ·rintro⟨j,hj,e⟩
  obtain⟨i,hi,_,h3⟩:=h.back hj
  obtain⟨e1,e2⟩:=yp h3
  exact⟨i,hi,by rw[e1,e2,e]⟩
omit h in
theorem lF(g:Gr):(0<=fC g)↔∃i k,i<g.es.length/\k<g.es.length/\i≠k/\g.es.getD i (0,0)=g.es.getD k (0,0):=by
 have:=cT (uH g) (List.range g.es.length)
 rw[show(0<=fC g)↔(List.range g.es.length).any (uH g)=true from by rw[<- this];simp[fC],adR]
 constructor
 ·rintro⟨i,hi,h2⟩
  have hil:=adl.1 hi
  have h3:=ael h2
  rw[aej]at h3
  obtain⟨k,hk⟩:=h3
  rw[adE]at hk
  split at hk
  ·rename_i hki
   exact⟨i,k,hil,by omega,by omega,by rw[aas (i:=k),hk];rfl⟩
  ·cases hk
 ·rintro⟨i,k,hi,hk,hne,e⟩
  have main:∀i k,k<i->i<g.es.length->g.es.getD i (0,0)=g.es.getD k (0,0)->uH g i=true:=by
   intro i k hki hi e
   refine ac7 ?_
   rw[e,aej]
   refine⟨k, ?_⟩
   rw[adE,ada hki,aas,acF (by omega)];rfl
  rcases Nat.lt_or_gt_of_ne hne with hlt|hgt
  ·exact⟨k,adl.2 hk,main k i hlt hk e.symm⟩
  ·exact⟨i,adl.2 hi,main i k hgt hi e⟩
theorem mZ.Yj:(0<=fC (kH g names order))↔0<=fC g:=by
 have Ax:=(cV.1 h.ord).1
 rw[lF,lF,h.len]
 constructor
 ·rintro⟨i,k,hi,hk,hne,e⟩
  obtain⟨j,hj,ho,h3⟩:=h.nP hi
  obtain⟨j',hj',ho',NW⟩:=h.nP hk
  refine⟨j,j',hj,hj',fun e'=> ?_, ?_⟩
  ·subst e'
   exact hne (pR h.ord (by omega) (by omega) (by rw[ho,ho']))
  ·rw[h3,NW,aff]at e
   have e1:=h.inj (aT h.may hj) (aT h.may hj') e.1
   have e2:=h.inj (aU h.may hj) (aU h.may hj') e.2
   exact afs e1 e2
 ·rintro⟨j,j',hj,hj',hne,e⟩
  obtain⟨i,hi,ho,h3⟩:=h.back hj
  obtain⟨k,hk,ho',NW⟩:=h.back hj'
  refine⟨i,k,hi,hk,fun e'=> ?_, ?_⟩
  ·subst e';omega
  ·have e1:tl g j=tl g j':=congrArg Prod.fst e
   have e2:hd g j=hd g j':=congrArg Prod.snd e
   rw[h3,NW,e1,e2]
theorem mZ.aba:KJ (kH g names order)=KJ g:=by
 rw[ad1,zT h.may',zT h.may]
 constructor
 ·rintro⟨r,hr⟩
  refine⟨fun v=>r (nm names v),fun j hj=> ?_⟩
  obtain⟨i,hi,_,h3⟩:=h.back hj
  obtain⟨e1,e2⟩:=yp h3
  have:=hr i (by rw[h.len];exact hi)
  rwa [e1,e2]at this
 ·rintro⟨r,hr⟩
  refine⟨fun v=>r (jg names v),fun i hi=> ?_⟩
  rw[h.len]at hi
  obtain⟨j,hj,_,h3⟩:=h.nP hi
  obtain⟨e1,e2⟩:=yp h3
  have:=hr j hj
  rw[e1,e2];simp only;rw[h.inv (aT h.may hj),h.inv (aU h.may hj)]
  exact this
omit h in
theorem mB{g:Gr}{y:Int} :y∈bZ (·.2) g↔(0<=y/\y<g.n)/\∀i,i<g.es.length->hd g i≠y:=by
 simp only[bZ,lW,adb,adJ,adl,ade]
 have he:∀x:Nat,x<g.n.toNat->(((eR (·.2) g).getD x []).length=0↔∀i,i<g.es.length->hd g i≠(x:Int)):=by
  intro x hx
  have e:(eR (·.2) g).getD x []=aJ (·.2) g.es g.es.length (x:Int):=by
   simp[eR,aas,adq hx,oe]
  rw[e,agz]
  simp only[aJ,aeG,aeA,adl,ade]
  rfl
 constructor
 ·rintro⟨x,⟨hx,h0⟩,rfl⟩
  refine⟨by simp;omega,(he x hx).1 h0⟩
 ·rintro⟨⟨h1,h2⟩,h3⟩
  have e:((y.toNat:Nat):Int)=y:=by omega
  exact⟨y.toNat,⟨by omega,(he _ (by omega)).2 (by rw[e];exact h3)⟩,e⟩
omit h in
theorem gm{f:Edge->Int}{g:Gr} :(bZ f g).Nodup:=by
 unfold bZ lW
 refine aey _ (fun a b h e=>h (afp e)) (agH _ afW)
theorem mZ.bare:(bZ (·.2) (kH g names order)).length=(bZ (·.2) g).length:=by
 have e1:(kH g names order).n=g.n:=rfl
 have h1:((bZ (·.2) g).map (nm names)).length<=(bZ (·.2) (kH g names order)).length:=by
  refine aek (count_le _ (bZ (·.2) (kH g names order)) ?_ ?_) aeR
  ·rw[List.nodup_iff_pairwise_ne]
   refine aey _ (fun a b h=>h) ?_
   refine aeU ?_ gm
   intro a b ha hb hab e
   exact hab (h.inj (mB.1 ha).1 (mB.1 hb).1 e)
  ·intro v hv
   obtain⟨y,hy,rfl⟩:=adb.1 hv
   obtain⟨hy1,hy2⟩:=mB.1 hy
   refine mB.2 ⟨h.range hy1,fun i hi e=> ?_⟩
   rw[h.len]at hi
   obtain⟨j,hj,_,h3⟩:=h.nP hi
   rw[(yp h3).2]at e
   exact hy2 j hj (h.inj (aU h.may hj) hy1 e)
 have h2:((bZ (·.2) (kH g names order)).map (jg names)).length<=(bZ (·.2) g).length:=by
  have hsplit:∀v∈bZ (·.2) (kH g names order),∃a,(0<=a/\a<g.n)/\nm names a=v:=fun v hv=>h.of (mB.1 hv).1
  refine aek (count_le _ (bZ (·.2) g) ?_ ?_) aeR
  ·rw[List.nodup_iff_pairwise_ne]
   refine aey _ (fun a b h=>h) ?_
   refine aeU ?_ gm
   intro a b ha hb hab e
   obtain⟨a',T0,rfl⟩:=hsplit a ha
   obtain⟨b',hb',rfl⟩:=hsplit b hb
   rw[h.inv T0,h.inv hb']at e
   exact hab (by rw[e])
  ·intro v hv
   obtain⟨y,hy,rfl⟩:=adb.1 hv
   obtain⟨a,ha,rfl⟩:=hsplit y hy
   rw[h.inv ha]
   refine mB.2 ⟨ha,fun j hj e=> ?_⟩
   obtain⟨i,hi,_,h3⟩:=h.back hj
   refine(mB.1 hy).2 i (by rw[h.len];exact hi) ?_
   rw[(yp h3).2,e]
 simp only[ado]at h1 h2
 omega
theorem mZ.kind:(bX (kH g names order)).1=(bX g).1:=by
 have hm:=h.may'
 have hc:(0<(nW (kH g names order)).length)↔0<(nW g).length:=by
  have key:∀g:Gr,aM g=true->((0<(nW g).length)↔KJ g=false):=by
   intro g hm
   cases ho:KJ g with
   |true=>rw[EY hm ho];simp
   |false=>simp[(Qw hm ho).1]
  rw[key _ hm,key _ h.may,h.aba]
 have h1:=h.loop
 have h2:=h.Yj
 have h3:=h.bare
 simp only[bX,iT,hm,h.may]
 simp only[Bool.true_eq_false,if_false,h1,h2,hc,h3]
 split
 ·rfl
 split
 ·rfl
 split
 ·rfl
 split<;>rfl
end
end Go.Ab
end
section
namespace Go.Ab
open Go.Proofs
set_option maxRecDepth 10000
def N4:Nat->List Edge->Int->Option (Int × Int)
 |_, [],_=>none
 |m,e::N,v=>if e.1=v then some ((m:Int),e.2) else N4 (m+1) N v
theorem G6{v:Int} :∀ {m:Nat} {N:List Edge},(∀e∈N,e.1≠v)->N4 m N v=none
 |_, [],_=>rfl
 |m,e::N,h=>by rw[N4,ac8 (h e (adI ..)),G6 fun e' he=>h e' (adA _ he)]
theorem G7:∀ {m:Nat} {N:List Edge},(N.map (·.1)).Nodup->∀ {j:Nat},j<N.length->N4 m N (N.getD j (0,0)).1=some (((m+j:Nat):Int),(N.getD j (0,0)).2)
 |m,e::N,hd,0,_=>by rw[afm,N4,ada rfl];rfl
 |m,e::N,hd,j+1,hj=>by
  rw[adD,ad6]at hd
  have hj':j<N.length:=by simpa using hj
  rw[agJ,N4,ac8 (fun h=>hd.1 (adb.2 ⟨_,az hj',h.symm⟩)),G7 hd.2 hj']
  congr 2
  omega
theorem ng{m:Nat}{N:List Edge}(hd:(N.map (·.1)).Nodup){v h:Int}(he:(v,h)∈N):∃j:Nat,j<N.length/\N4 m N v=some (((m+j:Nat):Int),h)/\N.getD j (0,0)=(v,h):=by
 obtain⟨j,hj,e⟩:=ads.1 he
 have e2:N.getD j (0,0)=(v,h):=by rw[aas,acF hj,Option.getD_some,e]
 have:=G7 (m:=m) hd hj
 rw[e2]at this
 exact⟨j,hj,this,e2⟩
theorem oz{m:Nat}{N:List Edge}(hd:(N.map (·.1)).Nodup)(v:Int):(N4 m N v=none/\∀e∈N,e.1≠v)\/∃h,(v,h)∈N:=by
 by_cases h:∃e∈N,e.1=v
 ·obtain⟨e,he,rfl⟩:=h
  exact .inr ⟨e.2,he⟩
 ·have h':∀e∈N,e.1≠v:=fun e he h2=>h ⟨e,he,h2⟩
  exact .inl ⟨G6 h',h'⟩
def mC(m:Nat)(N:List Edge)(t:It):It:=if 0<=t.1 then t else match N4 m N t.2.1 with
 |some (i,h)=>(i,t.2.1,h)
 |none=>t
theorem kE{m:Nat}{N:List Edge}{t:It}(h:0<=t.1):mC m N t=t:=ada h
theorem jb{m:Nat}{N:List Edge}{t:It}(h:t.1<0){i x:Int}(hn:N4 m N t.2.1=some (i,x)):mC m N t=(i,t.2.1,x):=by
 unfold mC
 rw[ac8 (by omega),hn]
theorem q9{m:Nat}{N:List Edge}{t:It}(hn:N4 m N t.2.1=none):mC m N t=t:=by
 unfold mC
 split
 ·rfl
 ·rw[hn]
structure qn (g:Gr) (p:Pl):Prop where
 run:aG g p
 n:(aj g p).n<=64
 es:(aj g p).es.length<=128
variable {g:Gr} {p:Pl}
theorem BQ{v x:Int} :∀ {k:Nat},(v,x)∈dL g p k->∃i,i<k/\x=aq p i/\v∈loose (cB g p i)
 |k+1,h=>by
  rw[dL,ac9]at h
  rcases h with h|h
  ·obtain⟨i,h1,h2⟩:=BQ h
   exact⟨i,by omega,h2⟩
  ·obtain⟨w,hw,e⟩:=adb.1 h
   cases e
   exact⟨k,by omega,rfl,hw⟩
theorem rq{v:Int} :∀ {k i:Nat},i<k->v∈loose (cB g p i)->(v,aq p i)∈dL g p k
 |k+1,i,hi,h=>by
  rw[dL,ac9]
  by_cases e:i=k
  ·subst e;exact .inr (adb.2 ⟨v,h,rfl⟩)
  ·exact .inl (rq (by omega) h)
theorem xg{v x:Int}(h:(v,x)∈bg g p):(∃i,i<g.n.toNat/\x=aq p i/\v∈loose (cB g p i))\/(1<(bu g p).length/\x=g.n/\v∈loose (bu g p)):=by
 rw[bg,ac9]at h
 rcases h with h|h
 ·exact .inl (BQ h)
 ·unfold newL at h
  split at h
  ·obtain⟨w,hw,e⟩:=adb.1 h
   cases e
   exact .inr ⟨by assumption,rfl,hw⟩
  ·cases h
theorem jS{l:List It}{t:It}(h:t∈l)(h0:t.1<0):t.2.1∈loose l:=adb.2 ⟨t,adJ.2 ⟨h,ac7 h0⟩,rfl⟩
theorem zU(h:qn g p):aM (aj g p)=true:=by
 have hm:=ah h.run.1
 have hn:=aB hm
 have SI:g.n<=(aj g p).n:=by unfold aj;split<;>simp only<;>omega
 have h1:=h.n
 have h2:=h.es
 simp only[aM,adg,ade,adK,adV]
 refine⟨⟨⟨by omega,h1⟩,by omega⟩,fun e he=> ?_⟩
 have he:e∈g.es++bg g p:=he
 simp only[uE,AY,adL,ade,not_or]
 rcases ac9.1 he with he|he
 ·obtain⟨i,hi,rfl⟩:=ads.1 he
  have:=cU hm hi
  rw[aas,acF hi,Option.getD_some]at this
  omega
 ·have q1:=((iB h.run).2 e he).1
  rcases xg (v:=e.1) (x:=e.2) he with ⟨i,hi,hx,_⟩|⟨hl,hx,_⟩
  ·have:=aD h.run.2.1 hi
   omega
  ·have:(aj g p).n=g.n+1:=ada hl
   omega
theorem xh{v:Int} :b8 (aj g p) v=b8 g v++(aJ (·.1) (bg g p) (bg g p).length v).map (· +(g.es.length:Int)):=ym
theorem yq(i:Nat)(hi:i<g.es.length):(aj g p).es.getD i (0,0)=g.es.getD i (0,0):=by
 show(g.es++bg g p).getD i (0,0)=_
 rw[aas,ady hi, <- List.getD_eq_getElem?_getD]
theorem xm(j:Nat):(aj g p).es.getD (g.es.length+j) (0,0)=(bg g p).getD j (0,0):=by
 show(g.es++bg g p).getD _ (0,0)=_
 rw[aas,adx (by omega),af3, <- List.getD_eq_getElem?_getD]
theorem yu(hr:aG g p){v:Int}(h0:0<=v/\v<g.n)(hs:bE p v= []):(∀h,(v,h)∈bg g p->∃j:Nat,N4 g.es.length (bg g p) v=some (((g.es.length+j:Nat):Int),h)/\b8 (aj g p) v= [((g.es.length+j:Nat):Int)]/\(aj g p).es.getD (g.es.length+j) (0,0)=(v,h))/\
 ((∀e∈bg g p,e.1≠v)->b8 (aj g p) v= []):=by
 obtain⟨vt,Jm⟩:=iB hr
 have hz:b8 g v= []:=(mA hr.2.1 h0.1 h0.2).2 hs
 constructor
 ·intro h hm
  obtain⟨j,hj,h1,h2⟩:=ng (m:=g.es.length) vt hm
  refine⟨j,h1, ?_,by rw[xm,h2]⟩
  have e1:=G0 vt hj
  rw[h2]at e1
  rw[xh,hz,e1]
  simp;omega
 ·intro h
  rw[xh,hz,lD h];rfl
theorem BR(hr:aG g p){v:Int}(h0:0<=v/\v<g.n)(hs:bE p v≠ []):b8 (aj g p) v=b8 g v:=by
 obtain⟨vt,Jm⟩:=iB hr
 rw[xh,lD fun e he h=>hs (by rw[<- h];exact(Jm e he).2)]
 simp
theorem e9:g.n<=(aj g p).n/\(aj g p).n<=g.n+1:=by
 unfold aj;split<;>simp only<;>omega
theorem EZ(hr:aG g p){v:Int}(h0:0<=v/\v<g.n):bE (bK g p) v=if bE p v≠ [] then bE p v else b8 (aj g p) v:=by
 have hn:=e9 (g:=g) (p:=p)
 unfold bE
 rw[BM hr,Jl,aas,adn,adq (by omega)]
 simp only[Option.map_some,Option.getD_some]
 rw[show((v.toNat:Nat):Int)=v by omega]
 by_cases h:p.outs.getD v.toNat []= []
 ·rw[h];simp
 ·rw[ada (ae7.2 h),ada h]
theorem zV(hr:aG g p)(hl:1<(bu g p).length):bE (bK g p) g.n= []/\b8 (aj g p) g.n= []:=by
 have hm:=ah hr.1
 have hn:=aB hm
 have hG:(aj g p).n=g.n+1:=ada hl
 have hz:b8 (aj g p) g.n= []:=by
  rw[xh,lD fun e he h=>by have:=((iB hr).2 e he).1;omega]
  simp only[adP,ad5]
  refine lD fun e he h=> ?_
  obtain⟨i,hi,rfl⟩:=ads.1 he
  have:=(cU hm hi).1
  rw[aas,acF hi,Option.getD_some]at this
  omega
 refine⟨?_,hz⟩
 unfold bE
 rw[BM hr,Jl,aas,adn,adq (by omega)]
 simp only[Option.map_some,Option.getD_some]
 rw[show((g.n.toNat:Nat):Int)=g.n by omega,hz]
 have:p.outs.getD g.n.toNat []= []:=by rw[aas,adp (by rw[hr.2.1.1];exact adh _)];rfl
 rw[this];rfl
theorem ru(hr:aG g p):bq (aj g p) (bK g p):=by
 have h:=hr.2.1
 have hm:=ah hr.1
 have hn:=aB hm
 have ha:=e9 (g:=g) (p:=p)
 refine⟨by rw[BM hr];simp[Jl], ?_,fun x hx=> ?_⟩
 ·unfold bK aj
  split
  ·have e:(g.n+1).toNat=g.n.toNat+1:=by omega
   have e2:dD (g.n.toNat+1)=dD g.n.toNat++ [g.n]:=by
    simp only[dD,adW,adt,adD,adP]
    congr 2
    show((g.n.toNat:Nat):Int)=g.n
    omega
   show(p.ord++ [g.n]).Perm (dD (g.n+1).toNat)
   rw[e,e2]
   exact h.2.1.append_right _
  ·exact h.2.1
 ·have hl:(bK g p).outs.getD x []=bE (bK g p) (x:Int):=by unfold bE;rw[Int.toNat_natCast]
  rw[hl]
  by_cases Gh:(x:Int)<g.n
  ·rw[EZ hr ⟨by omega,Gh⟩]
   split
   ·rename_i h2
    rw[BR hr ⟨by omega,Gh⟩ h2]
    exact aW h (by omega) Gh
   ·exact agM _
  ·have NZ:1<(bu g p).length:=adm fun hl=>by
    have:(aj g p).n=g.n:=ac8 hl
    omega
   have e:(x:Int)=g.n:=by omega
   rw[e,(zV hr NZ).1,(zV hr NZ).2]
theorem zW(hr:aG g p){k:Nat}(hk:k<g.n.toNat):aq (bK g p) k=aq p k:=by
 have:=aI hr.2.1
 unfold aq bK
 simp only
 split
 ·rw[aas,ady (by omega), <- List.getD_eq_getElem?_getD]
 ·rfl
theorem S0(hr:aG g p)(hl:1<(bu g p).length):aq (bK g p) g.n.toNat=g.n:=by
 have:=aI hr.2.1
 unfold aq bK
 simp only
 rw[ada hl,aas,adx (by omega),this]
 simp
theorem Dq(hr:aG g p){x:Int}(h0:0<=x/\x<g.n):aQ (aj g p) x (bE (bK g p) x)=(aQ g x (bE p x)).map (mC g.es.length (bg g p)):=by
 obtain⟨vt,Jm⟩:=iB hr
 rw[EZ hr h0]
 by_cases hs:bE p x= []
 ·obtain⟨s1,s2⟩:=yu hr h0 hs
  have ha:aQ g x (bE p x)= [(-1,x, -1)]:=ada hs
  rw[ac8 (by simp[hs]),ha]
  rcases oz (m:=g.es.length) vt x with ⟨h1,h2⟩|⟨h,hm⟩
  ·rw[s2 h2,adD,adP,q9 h1]
   rfl
  ·obtain⟨j,h1,h2,h3⟩:=s1 h hm
   rw[h2,adD,adP,jb (t:=(-1,x, -1)) (by simp) h1]
   have NW:((aj g p).es.getD (((g.es.length+j:Nat):Int)).toNat (0,0))=(x,h):=by rw[Int.toNat_natCast];exact h3
   simp only[aQ,gM,List.cons_ne_nil,if_false,adD,adP,NW]
 ·rw[ada hs]
  unfold aQ
  rw[ac8 hs,ac8 hs,aeF]
  refine ae6 fun i hi=> ?_
  obtain⟨k,rfl,hk,ht⟩:=ko ((aW hr.2.1 h0.1 h0.2).mem_iff.1 hi)
  simp only[Function.comp]
  rw[kE (t:=gM g x (k:Int)) (by simp[gM])]
  simp only[gM,Int.toNat_natCast,yq k hk]
theorem xo{x:Int} :aV (aj g p) x=aV g x+((bg g p).filter fun e=>decide (e.2=x)).length:=by
 unfold aV
 have:aJ (·.2) (aj g p).es (aj g p).es.length x=aJ (·.2) g.es g.es.length x++(aJ (·.2) (bg g p) (bg g p).length x).map (· +(g.es.length:Int)):=ym
 rw[this,adj,ado]
 congr 1
 generalize bg g p=N
 unfold aJ
 rw[ado, <- List.countP_eq_length_filter, <- List.countP_eq_length_filter]
 have e:N=(List.range N.length).map fun i=>N.getD i (0,0):=by
  refine agn (by simp) fun i h1 h2=> ?_
  simp[aas,acF h1]
 conv=>rhs;rw[e]
 rw[List.countP_map]
 rfl
end Go.Ab
end
section
namespace Go.Ab
open Go.Proofs
set_option maxRecDepth 10000
variable {g:Gr} {p:Pl}
theorem za(h:bq g p){k:Nat} :∀ {K:Nat},K<=g.n.toNat->k<g.n.toNat->(dL g p K).filter (fun e=>decide (e.2=aq p k))=if k<K then(loose (cB g p k)).map fun v=>(v,aq p k) else []
 |0,_,_=>by simp[dL]
 |K+1,hK,hk=>by
  rw[dL,ad9,za h (by omega) hk]
  by_cases e:k=K
  ·subst e
   rw[ac8 (by omega),ada (by omega),List.nil_append,afl.2]
   intro e he
   obtain⟨v,_,rfl⟩:=adb.1 he
   simp
  ·have:((loose (cB g p K)).map fun v=>(v,aq p K)).filter (fun e=>decide (e.2=aq p k))= []:=aeA.2 fun e' he=>by
    obtain⟨v,_,rfl⟩:=adb.1 he
    simp only[ade]
    intro h2
    exact e (dS h hk (by omega) h2.symm)
   rw[this,ad5]
   by_cases h3:k<K
   ·rw[ada h3,ada (by omega)]
   ·rw[ac8 h3,ac8 (by omega)]
theorem zf(hr:aG g p){k:Nat}(hk:k<g.n.toNat):((bg g p).filter fun e=>decide (e.2=aq p k)).length=(loose (cB g p k)).length:=by
 have hx:=aD hr.2.1 hk
 rw[bg,ad9,za hr.2.1 (adh _) hk,ada hk]
 have:(newL g p).filter (fun e=>decide (e.2=aq p k))= []:=aeA.2 fun e' he=>by
  unfold newL at he
  split at he
  ·obtain⟨v,_,rfl⟩:=adb.1 he
   simp only[ade];omega
  ·cases he
 rw[this];simp
theorem BS{l:List Int}(h:l.Nodup){k:Nat}(hk:k<l.length):l.getD k 0∉l.take k:=by
 intro hm
 obtain⟨j,hj,e⟩:=ads.1 hm
 simp only[adH]at hj
 have e2:l.getD j 0=l.getD k 0:=by
  rw[<- e,aas,acF (by omega)]
  simp
 have:=l9 h (by omega) hk e2
 omega
theorem take_at{p:Pl}{k:Nat}{v:Int}(hk:k<=p.ord.length)(h:v∈p.ord.take k):∃j,j<k/\aq p j=v:=by
 obtain⟨j,hj,e⟩:=ads.1 h
 simp only[adH]at hj
 refine⟨j,by omega, ?_⟩
 rw[<- e,aq,aas,acF (by omega)]
 simp
theorem zg{x:Int}{X:List It}(h:∀t∈X,(t.1<0↔¬t.2.2=x)):X.countP (lz x)+(loose X).length=X.length:=by
 rw[List.length_eq_countP_add_countP (lz x)]
 congr 1
 unfold loose
 rw[ado, <- List.countP_eq_length_filter]
 refine afj fun t ht=> ?_
 have:=h t ht
 simp only[lz,ade,Bool.not_eq_true,adM]
 exact this
theorem Zk(h:qn g p):∀ {k:Nat},k<=g.n.toNat->(∀j,j<k->xP (aj g p) (bK g p) j=true)/\(fK (aj g p) (bK g p) k).row=(fK g p k).row.map (mC g.es.length (bg g p))
 |0,_=>⟨fun j hj=>by omega,rfl⟩
 |k+1,hk=>by
  have hr:=h.run
  have mY:=hr.2.1
  have hm:=ah hr.1
  have BT:=zU h
  have hQ:=ru hr
  obtain⟨vt,Jm⟩:=iB hr
  have hnG:=e9 (g:=g) (p:=p)
  obtain⟨WS,hrow⟩:=Zk h (k:=k) (by omega)
  obtain⟨hi,_,_⟩:=bz hm mY (k:=k) (by omega) fun j hj=>hr.2.2 j (by omega)
  obtain⟨S1,Jo,_⟩:=bz BT hQ (k:=k) (by omega) WS
  have hR:au g (fK g p k) (aq p k)=true:=hr.2.2 k (by omega)
  have pE:=zW hr (k:=k) (by omega)
  have hx:=aD mY (k:=k) (by omega)
  obtain⟨NZ,IA⟩:=lE hm mY (k:=k) (by omega) fun j hj=>hr.2.2 j (by omega)
  have hlr:(loose (fK g p k).row).Nodup:=(adu.1 NZ).2.1
  have hnot:aq p k∉(fK (aj g p) (bK g p) k).pl:=by
   rw[Jo, <- pE]
   exact BS (cF hQ) (by rw[aI hQ];omega)
  have Jp:=zf hr (k:=k) (by omega)
  have bR:=xo (g:=g) (p:=p) (x:=aq p k)
  have VN:=Dq hr hx
  have hin:∀v,(v,aq p k)∈bg g p->v∈loose (cB g p k):=fun v hv=>by
   rcases xg hv with ⟨i,h1,h2,h3⟩|⟨_,h2,_⟩
   ·have:=dS mY (by omega) h1 h2
    subst this;exact h3
   ·omega
  have hout:∀v,v∈loose (cB g p k)->(v,aq p k)∈bg g p:=fun v hv=>adS _ (rq (by omega) hv)
  suffices hs:xP (aj g p) (bK g p) k=true/\(fK (aj g p) (bK g p) (k+1)).row=(fK g p (k+1)).row.map (mC g.es.length (bg g p)) by
   refine⟨fun j hj=> ?_,hs.2⟩
   by_cases e:j=k
   ·subst e;exact hs.1
   ·exact WS j (by omega)
  have hfG:(fK (aj g p) (bK g p) (k+1))=(aC (aj g p) (fK (aj g p) (bK g p) k) (aq p k) (bE (bK g p) (aq p k))).2:=by
   rw[<- pE];rfl
  have hfg:(fK g p (k+1))=(aC g (fK g p k) (aq p k) (bE p (aq p k))).2:=rfl
  have hok:xP (aj g p) (bK g p) k=au (aj g p) (fK (aj g p) (bK g p) k) (aq p k):=by unfold xP;rw[pE]
  rw[hfG,hfg,hok]
  have GB:cB g p k=(aC g (fK g p k) (aq p k) (bE p (aq p k))).1.1:=rfl
  generalize aq p k=x at*
  by_cases hn:aV g x=0
  ·have hno:=dO hm hi.tofL hx.1 hn
   rw[cH _ hno]at GB
   have S2:aV (aj g p) x=0:=by rw[bR,hn,Jp,GB];rfl
   have VO:=dO BT S1.tofL hx.1 S2
   refine⟨?_, ?_⟩
   ·unfold au
    rw[ac8 (by rintro(h|h|h);omega;omega;exact hnot h),ada S2]
   ·rw[cH _ hno,cH _ VO]
    simp only[adt]
    rw[VN,hrow]
  ·obtain⟨A,X,C,hrw,nA,nC,hX,cX⟩:=bD hm hi.tofL hR hn
   rw[dR _ hrw nA nC hX]at GB
   simp only at GB
   rw[GB]at hin hout Jp
   have hXm:∀t∈X,t∈(fK g p k).row:=fun t ht=>by rw[hrw];simp[ht]
   have hAm:∀t∈A,t∈(fK g p k).row:=fun t ht=>by rw[hrw];simp[ht]
   have hCm:∀t∈C,t∈(fK g p k).row:=fun t ht=>by rw[hrw];simp[ht]
   have hit:∀t∈X,(t.1<0↔¬t.2.2=x):=fun t ht=>by
    have h1:=(hi.it t (hXm t ht)).head hm
    have h2:=hX.al t ht
    omega
   rw[hrw,bY,bY,adu,adu]at hlr
   have Zl:gv x (A.map (mC g.es.length (bg g p))):=fun t' ht'=>by
    obtain⟨t,ht,rfl⟩:=adb.1 ht'
    by_cases h0:0<=t.1
    ·rw[kE h0];exact nA t ht
    ·rcases oz (m:=g.es.length) vt t.2.1 with ⟨h1,_⟩|⟨y,h1⟩
     ·rw[q9 h1];exact nA t ht
     ·obtain⟨j,_,h2,_⟩:=ng (m:=g.es.length) vt h1
      rw[jb (by omega) h2]
      intro e
      have e:y=x:=e
      subst e
      exact hlr.1.2.2 _ (jS ht (by omega)) _ (hin _ h1) rfl
   have Zm:gv x (C.map (mC g.es.length (bg g p))):=fun t' ht'=>by
    obtain⟨t,ht,rfl⟩:=adb.1 ht'
    by_cases h0:0<=t.1
    ·rw[kE h0];exact nC t ht
    ·rcases oz (m:=g.es.length) vt t.2.1 with ⟨h1,_⟩|⟨y,h1⟩
     ·rw[q9 h1];exact nC t ht
     ·obtain⟨j,_,h2,_⟩:=ng (m:=g.es.length) vt h1
      rw[jb (by omega) h2]
      intro e
      have e:y=x:=e
      subst e
      exact hlr.2.2 _ (ad0 _ (hin _ h1)) _ (jS ht (by omega)) rfl
   have KZ:∀t∈X,(mC g.es.length (bg g p) t).2.2=x:=fun t ht=>by
    by_cases h0:0<=t.1
    ·rw[kE h0]
     have:=hit t ht
     omega
    ·obtain⟨j,_,h2,_⟩:=ng (m:=g.es.length) vt (hout _ (jS ht (by omega)))
     rw[jb (by omega) h2]
   have Jg:Mid x (X.map (mC g.es.length (bg g p))):=by
    obtain⟨q,X0,e1,_⟩:=hX.fst
    obtain⟨X1,q',e2,_⟩:=hX.GM
    refine⟨⟨mC g.es.length (bg g p) q,X0.map (mC g.es.length (bg g p)),by rw[e1];rfl,KZ q (by rw[e1];simp)⟩,⟨X1.map (mC g.es.length (bg g p)),mC g.es.length (bg g p) q',by rw[e2];simp,KZ q' (by rw[e2];simp)⟩,fun t' ht'=> ?_⟩
    obtain⟨t,ht,rfl⟩:=adb.1 ht'
    exact .inl (KZ t ht)
   have AQ:(X.map (mC g.es.length (bg g p))).countP (lz x)=aV (aj g p) x:=by
    have h1:(X.map (mC g.es.length (bg g p))).countP (lz x)=(X.map (mC g.es.length (bg g p))).length:=afI.2 fun t' ht'=>by
     obtain⟨t,ht,rfl⟩:=adb.1 ht'
     simp[lz,KZ t ht]
    rw[h1,ado,bR,Jp, <- cX,zg hit]
   have VP:(fK (aj g p) (bK g p) k).row=A.map (mC g.es.length (bg g p))++X.map (mC g.es.length (bg g p))++C.map (mC g.es.length (bg g p)):=by rw[hrow,hrw];simp
   refine⟨mu BT S1.tofL hx.1 (by omega) hnot VP Zl Zm Jg AQ, ?_⟩
   rw[dR _ hrw nA nC hX,dR _ VP Zl Zm Jg]
   simp only[adt]
   rw[VN]
theorem K0(hr:aG g p){v:Int}{k:Nat} :∀ {K:Nat},k<=K->K<=g.n.toNat->v∈loose (fK g p k).row->(∃i,i<K/\v∈loose (cB g p i))\/v∈loose (fK g p K).row
 |0,h1,_,hv=>by
  obtain rfl:k=0:=by omega
  exact .inr hv
 |K+1,h1,h2,hv=>by
  by_cases e:k=K+1
  ·subst e;exact .inr hv
  ·rcases K0 hr (K:=K) (by omega) (by omega) hv with ⟨i,h3,h4⟩|h3
   ·exact .inl ⟨i,by omega,h4⟩
   ·have hm:=ah hr.1
    obtain⟨hi,_,_⟩:=bz hm hr.2.1 (k:=K) (by omega) fun j hj=>hr.2.2 j (by omega)
    obtain⟨A,X,C,hrw,_,_,_,hs⟩:=iJ hm hi.tofL (hr.2.2 K (by omega))
    have hg:cB g p K=X:=by unfold cB;rw[hs]
    have hrow:(fK g p (K+1)).row=A++aQ g (aq p K) (bE p (aq p K))++C:=by show(aC _ _ _ _).2.row=_;rw[hs]
    rw[hrw,bY,bY,ac9,ac9]at h3
    rcases h3 with (h3|h3)|h3
    ·refine .inr ?_
     rw[hrow,bY,bY];simp[h3]
    ·exact .inl ⟨K,by omega,by rw[hg];exact h3⟩
    ·refine .inr ?_
     rw[hrow,bY,bY];simp[h3]
end Go.Ab
end
section
namespace Go.Ab
open Go.Proofs
set_option maxRecDepth 10000
variable {g:Gr} {p:Pl}
theorem S3(hr:aG g p):bu g p≠ []:=by
 have hm:=ah hr.1
 have hn:=aB hm
 obtain⟨k,hk⟩:∃k,g.n.toNat=k+1:=⟨g.n.toNat - 1,by omega⟩
 obtain⟨hi,_,_⟩:=bz hm hr.2.1 (k:=k) (by omega) fun j hj=>hr.2.2 j (by omega)
 obtain⟨A,X,C,hrw,_,_,_,hs⟩:=iJ hm hi.tofL (hr.2.2 k (by omega))
 unfold bu
 rw[hk]
 show(aC _ _ _ _).2.row≠ []
 rw[hs]
 have:=(uT (g:=g) (x:=aq p k) (outs:=bE p (aq p k))).1
 intro e
 have h2:=congrArg List.length e
 simp at h2
 rw[h2.2.1]at this
 simp at this
theorem oL(hr:aG g p):bE p (aq p (g.n.toNat - 1))= []/\aq p (g.n.toNat - 1)∈loose (bu g p):=by
 have hm:=ah hr.1
 have hn:=aB hm
 obtain⟨k,hk⟩:∃k,g.n.toNat=k+1:=⟨g.n.toNat - 1,by omega⟩
 obtain⟨hi,_,_⟩:=bz hm hr.2.1 (k:=k) (by omega) fun j hj=>hr.2.2 j (by omega)
 obtain⟨A,X,C,hrw,_,_,_,hs⟩:=iJ hm hi.tofL (hr.2.2 k (by omega))
 have hL:bu g p=A++aQ g (aq p k) (bE p (aq p k))++C:=by
  unfold bu;rw[hk]
  show(aC _ _ _ _).2.row=_
  rw[hs]
 have Ao:g.n.toNat - 1=k:=by omega
 rw[Ao]
 have iF:=BN hr
 have hx:=aD hr.2.1 (k:=k) (by omega)
 have h0:bE p (aq p k)= []:=by
  refine adm fun h0=> ?_
  have ha:aQ g (aq p k) (bE p (aq p k))=(bE p (aq p k)).map (gM g (aq p k)):=ac8 h0
  obtain⟨i,hi'⟩:=agS _ h0
  have h1:=iF (gM g (aq p k) i) (by rw[hL,ha];simp;exact .inr (.inl ⟨i,hi',rfl⟩))
  obtain⟨e,rfl,_⟩:=ko ((aW hr.2.1 hx.1 hx.2).mem_iff.1 hi')
  simp[gM]at h1
  omega
 refine⟨h0, ?_⟩
 have ha:aQ g (aq p k) (bE p (aq p k))= [(-1,aq p k, -1)]:=ada h0
 rw[hL,ha,bY,bY]
 simp[loose]
theorem Qx(hr:aG g p)(hl:¬1<(bu g p).length){v:Int}(hv:v∈loose (bu g p)):v=aq p (g.n.toNat - 1):=by
 have h1:=(oL hr).2
 have h2:(loose (bu g p)).length<=1:=aek Dp (by omega)
 match hL:loose (bu g p),h2 with
 | [],_=>rw[hL]at hv;cases hv
 | [w],_=>
   rw[hL,adv]at hv h1
   rw[hv,h1]
theorem Qy(h:qn g p)(hl:1<(bu g p).length):xP (aj g p) (bK g p) g.n.toNat=true/\(fK (aj g p) (bK g p) (g.n.toNat+1)).row= [(-1,g.n, -1)]:=by
 have hr:=h.run
 have hm:=ah hr.1
 have hn:=aB hm
 have BT:=zU h
 have hQ:=ru hr
 obtain⟨vt,Jm⟩:=iB hr
 obtain⟨WS,hrow⟩:=Zk h (k:=g.n.toNat) (adh _)
 have hG:(aj g p).n=g.n+1:=ada hl
 obtain⟨S1,Jo,_⟩:=bz BT hQ (k:=g.n.toNat) (by omega) WS
 have hx:=S0 hr hl
 have hnot:g.n∉(fK (aj g p) (bK g p) g.n.toNat).pl:=by
  rw[Jo]
  have:=BS (cF hQ) (k:=g.n.toNat) (by rw[aI hQ];omega)
  rw[show(bK g p).ord.getD g.n.toNat 0=g.n from hx]at this
  exact this
 have iF:=BN hr
 have hrow:(fK (aj g p) (bK g p) g.n.toNat).row=(bu g p).map (mC g.es.length (bg g p)):=hrow
 have hmem:∀v∈loose (bu g p),(v,g.n)∈bg g p:=fun v hv=>by
  refine ad0 _ ?_
  unfold newL
  rw[ada hl]
  exact adb.2 ⟨v,hv,rfl⟩
 have KZ:∀t∈bu g p,(mC g.es.length (bg g p) t).2.2=g.n:=fun t ht=>by
  obtain⟨j,_,h2,_⟩:=ng (m:=g.es.length) vt (hmem _ (jS ht (iF t ht)))
  rw[jb (iF t ht) h2]
 have Jg:Mid g.n ((bu g p).map (mC g.es.length (bg g p))):=by
  have hne:=S3 hr
  refine⟨?_, ?_,fun t' ht'=> ?_⟩
  ·match hL:bu g p,hne with
   |t::l,_=>exact⟨_,_,rfl,KZ t (by rw[hL];simp)⟩
  ·have e:=List.dropLast_concat_getLast hne
   refine⟨(bu g p).dropLast.map (mC g.es.length (bg g p)),mC g.es.length (bg g p) ((bu g p).getLast hne), ?_,KZ _ (List.getLast_mem hne)⟩
   conv=>lhs;rw[<- e]
   simp
  ·obtain⟨t,ht,rfl⟩:=adb.1 ht'
   exact .inl (KZ t ht)
 have hno:aV g g.n=0:=by
  have:¬0<aV g g.n:=fun h0=>by
   obtain⟨i,hi⟩:=List.exists_mem_of_length_pos h0
   obtain⟨⟨h1,h2⟩,h3⟩:=gA hi
   have:=(cU hm (k:=i.toNat) (by omega)).2
   have h3:(g.es.getD i.toNat (0,0)).2=g.n:=h3
   omega
  omega
 have AQ:((bu g p).map (mC g.es.length (bg g p))).countP (lz g.n)=aV (aj g p) g.n:=by
  have h1:((bu g p).map (mC g.es.length (bg g p))).countP (lz g.n)=((bu g p).map (mC g.es.length (bg g p))).length:=afI.2 fun t' ht'=>by
   obtain⟨t,ht,rfl⟩:=adb.1 ht'
   simp[lz,KZ t ht]
  have h2:(dL g p g.n.toNat).filter (fun e=>decide (e.2=g.n))= []:=aeA.2 fun e he=>by
   obtain⟨i,hi,hx2,_⟩:=BQ (v:=e.1) (x:=e.2) he
   have:=aD hr.2.1 hi
   simp only[ade];omega
  have h3:(newL g p).filter (fun e=>decide (e.2=g.n))=newL g p:=afl.2 fun e he=>by
   unfold newL at he
   rw[ada hl]at he
   obtain⟨v,_,rfl⟩:=adb.1 he
   simp
  have h4:(loose (bu g p)).length=(bu g p).length:=by
   unfold loose
   rw[ado,afl.2]
   intro t ht
   exact ac7 (iF t ht)
  rw[h1,ado,xo,hno,bg,ad9,h2,h3]
  unfold newL
  rw[ada hl]
  simp[h4]
 have VP:(fK (aj g p) (bK g p) g.n.toNat).row= []++(bu g p).map (mC g.es.length (bg g p))++ []:=by rw[hrow];simp
 have nil:gv g.n ([]:List It):=fun t ht=>by cases ht
 refine⟨?_, ?_⟩
 ·unfold xP
  rw[hx]
  exact mu BT S1.tofL (by omega) (by omega) hnot VP nil nil Jg AQ
 ·show(aC _ _ _ _).2.row=_
  rw[hx,dR _ VP nil nil Jg,(zV hr hl).1]
  rfl
theorem K5(h:qn g p):∀k,k<(aj g p).n.toNat->xP (aj g p) (bK g p) k=true:=by
 have hn:=aB (ah h.run.1)
 intro k hk
 by_cases hkn:k<g.n.toNat
 ·exact(Zk h (k:=g.n.toNat) (adh _)).1 k hkn
 ·by_cases hl:1<(bu g p).length
  ·have hG:(aj g p).n=g.n+1:=ada hl
   obtain rfl:k=g.n.toNat:=by omega
   exact(Qy h hl).1
  ·have hG:(aj g p).n=g.n:=ac8 hl
   omega
theorem jc{f:Edge->Int}{g:Gr}{y:Int} :y∈bZ f g↔(0<=y/\y<g.n)/\aJ f g.es g.es.length y= []:=by
 simp only[bZ,lW,adb,adJ,adl,ade]
 have he:∀x:Nat,x<g.n.toNat->(((eR f g).getD x []).length=0↔aJ f g.es g.es.length (x:Int)= []):=by
  intro x hx
  have e:(eR f g).getD x []=aJ f g.es g.es.length (x:Int):=by
   simp[eR,aas,adq hx,oe]
  rw[e,agz]
 constructor
 ·rintro⟨x,⟨hx,h0⟩,rfl⟩
  exact⟨by simp;omega,(he x hx).1 h0⟩
 ·rintro⟨⟨h1,h2⟩,h3⟩
  have e:((y.toNat:Nat):Int)=y:=by omega
  exact⟨y.toNat,⟨by omega,(he _ (by omega)).2 (by rw[e];exact h3)⟩,e⟩
theorem E5{l:List Int}(hd:l.Nodup){s:Int}(h:∀y∈l,y=s):l.length<=1:=by
 match l,hd,h with
 | [],_,_=>simp
 | [_],_,_=>simp
 |a::b::l,hd,h=>
  rw[ad6]at hd
  exact absurd (by rw[h a (by simp),h b (by simp)];simp) hd.1
theorem G8(h:qn g p):(bX (aj g p)).1=0:=by
 have hr:=h.run
 have hm:=ah hr.1
 have hn:=aB hm
 have BT:=zU h
 have hQ:=ru hr
 have Yk:=K5 h
 have hna:=e9 (g:=g) (p:=p)
 obtain⟨vt,Jm⟩:=iB hr
 have hfw:∀i,i<(aj g p).es.length->∃j k,j<k/\k<(aj g p).n.toNat/\tl (aj g p) i=aq (bK g p) j/\hd (aj g p) i=aq (bK g p) k:=fun i hi=>by
  have hh:=(cU BT hi).2
  obtain⟨k,hk,e⟩:=cq hQ hh.1 hh.2
  obtain⟨S1,Jo,_⟩:=bz BT hQ (k:=k) (by omega) fun j hj=>Yk j (by omega)
  obtain⟨t,ht,e1,e2,_⟩:=yf BT S1 (Yk k hk) hi e.symm
  have hin:=S1.tail t ht (by omega)
  rw[Jo]at hin
  obtain⟨j,hj,e3⟩:=take_at (by rw[aI hQ];omega) hin
  exact⟨j,k,hj,hk,by rw[<- e2,e3],e.symm⟩
 have Qz:KJ (aj g p)=true:=(zT BT).2 ⟨fun v=>(bT (fun y=>decide (y=v)) (bK g p).ord).toNat,fun i hi=>by
  obtain⟨j,k,hjk,hk,e1,e2⟩:=hfw i hi
  have qy:∀q,q<(aj g p).n.toNat->bT (fun y=>decide (y=aq (bK g p) q)) (bK g p).ord=q:=fun q hq=>
   b9 (d:=0) (by rw[aI hQ];exact hq) (fun i' hi'=>ac6 fun e=>by
    have:=dS hQ (by omega) hq e
    omega) (ac7 rfl)
  simp only
  rw[e1,e2,qy j (by omega),qy k hk]
  omega⟩
 have QA:¬0<=l7 (aj g p):=fun hl=>by
  have h1:=cT (fun e:Edge=>decide (e.1=e.2)) (aj g p).es
  have h0:decide (0<=bT (fun e:Edge=>decide (e.1=e.2)) (aj g p).es)=true:=ac7 hl
  rw[h0]at h1
  obtain⟨e,he,h2⟩:=adR.1 h1.symm
  obtain⟨i,hi,rfl⟩:=ads.1 he
  obtain⟨j,k,hjk,hk,e1,e2⟩:=hfw i hi
  have h3:tl (aj g p) i=hd (aj g p) i:=by simpa[tl,hd,aas,acF hi]using h2
  have:=dS hQ (by omega) hk (e1.symm.trans (h3.trans e2))
  omega
 have Pu:¬0<=fC (aj g p):=fun ht=>by
  obtain⟨i,k,hi,hk,hik,e⟩:=(lF _).1 ht
  have hgt:¬0<=fC g:=by
   have:=hr.1
   unfold bX iT at this
   intro h2
   split at this
   ·cases this
   split at this
   ·cases this
   cases this
  have hel:(aj g p).es.length=g.es.length+(bg g p).length:=adj
  have mixed:∀a b,a<g.es.length->b<(bg g p).length->g.es.getD a (0,0)≠(bg g p).getD b (0,0):=fun a b ha hb e=>by
   obtain⟨q0,q1⟩:=Jm _ (az (d:=(0,0)) hb)
   have hz:=(mA hr.2.1 q0.1 q0.2).2 q1
   have:(a:Int)∈b8 g ((bg g p).getD b (0,0)).1:=Qp.2 ⟨⟨by omega,by omega⟩,by rw[Int.toNat_natCast,e]⟩
   rw[hz]at this
   cases this
  by_cases h1:i<g.es.length
  ·by_cases h2:k<g.es.length
   ·rw[yq i h1,yq k h2]at e
    exact hgt ((lF g).2 ⟨i,k,h1,h2,hik,e⟩)
   ·obtain⟨b,rfl⟩:∃b,k=g.es.length+b:=⟨k - g.es.length,by omega⟩
    rw[yq i h1,xm]at e
    exact mixed i b h1 (by omega) e
  ·obtain⟨a,rfl⟩:∃a,i=g.es.length+a:=⟨i - g.es.length,by omega⟩
   by_cases h2:k<g.es.length
   ·rw[yq k h2,xm]at e
    exact mixed k a h2 (by omega) e.symm
   ·obtain⟨b,rfl⟩:∃b,k=g.es.length+b:=⟨k - g.es.length,by omega⟩
    rw[xm,xm]at e
    have e1:∀q,q<(bg g p).length->((bg g p).map (·.1)).getD q 0=((bg g p).getD q (0,0)).1:=fun q hq=>by
     simp[aas,acF hq]
    have:=l9 vt (i:=a) (j:=b) (by simp;omega) (by simp;omega) (by rw[e1 a (by omega),e1 b (by omega),e])
    omega
 have QB:¬1<(bZ (·.2) (aj g p)).length:=fun hb=>by
  obtain⟨s,hs⟩:∃s,∀y∈bZ (·.2) (aj g p),y=s:=by
   refine⟨aq p 0,fun y hy=> ?_⟩
   obtain⟨⟨y0,y1⟩,y2⟩:=sR.1 hy
   rw[xo]at y2
   have yn:y<g.n:=by
    refine adm fun Vl=> ?_
    have hl:1<(bu g p).length:=adm fun hl=>by
     have hG:(aj g p).n=g.n:=ac8 hl
     omega
    have e:y=g.n:=by have hG:(aj g p).n=g.n+1:=ada hl;omega
    have Cw:=(oL hr).2
    have:(aq p (g.n.toNat - 1),y)∈(bg g p).filter fun e=>decide (e.2=y):=adJ.2 ⟨ad0 _ (by
     unfold newL
     rw[ada hl]
     exact adb.2 ⟨_,Cw,by rw[e]⟩),by simp⟩
    have:=afD this
    omega
   have h0:=aD hr.2.1 (k:=0) (by omega)
   refine gB hr.1 ⟨y0,yn⟩ h0 (by omega) ?_
   refine adm fun hnz=> ?_
   obtain⟨A,X,C,hrw,_,_,hX,_⟩:=bD hm (wR g).tofL (hr.2.2 0 (by omega)) hnz
   obtain⟨q,X0,e1,_⟩:=hX.fst
   rw[e1]at hrw
   simp at hrw
  have:=E5 gm hs
  omega
 unfold bX iT
 rw[ac8 (by simp[BT]),ac8 QA,ac8 Pu,ac8 (by rw[EY BT Qz];simp),ac8 QB]
theorem ij(h:qn g p):aG (aj g p) (bK g p):=⟨G8 h,ru h.run,K5 h⟩
theorem QC(h:qn g p):q8 (aj g p)=true:=by
 have hr:=h.run
 have hm:=ah hr.1
 have hn:=aB hm
 have hna:=e9 (g:=g) (p:=p)
 obtain⟨vt,Jm⟩:=iB hr
 unfold q8
 rw[ac7 (G8 h),aep,ade]
 obtain⟨NZ,IA⟩:=lE hm hr.2.1 (k:=g.n.toNat) (adh _) hr.2.2
 have key:∀y,0<=y/\y<g.n->b8 (aj g p) y= []->¬1<(bu g p).length/\y∈loose (bu g p):=fun y hy hz=>by
  have hs:bE p y= []:=by
   refine adm fun hs=> ?_
   rw[BR hr hy hs]at hz
   exact hs ((mA hr.2.1 hy.1 hy.2).1 hz)
  obtain⟨s1,_⟩:=yu hr hy hs
  have hno:∀x,(y,x)∉bg g p:=fun x hx=>by
   obtain⟨j,_,h2,_⟩:=s1 x hx
   rw[hz]at h2;cases h2
  obtain⟨k,hk,e⟩:=cq hr.2.1 hy.1 hy.2
  obtain⟨hi,_,_⟩:=bz hm hr.2.1 (k:=k) (by omega) fun j hj=>hr.2.2 j (by omega)
  obtain⟨A,X,C,hrw,_,_,_,hs'⟩:=iJ hm hi.tofL (hr.2.2 k hk)
  have hin:y∈loose (fK g p (k+1)).row:=by
   have hrow:(fK g p (k+1)).row=A++aQ g (aq p k) (bE p (aq p k))++C:=by show(aC _ _ _ _).2.row=_;rw[hs']
   rw[hrow,e,hs,bY,bY]
   simp[aQ,loose]
  rcases K0 hr (K:=g.n.toNat) (by omega) (adh _) hin with ⟨i,h1,h2⟩|h2
  ·exact absurd (adS _ (rq h1 h2)) (hno _)
  ·refine⟨fun hl=>hno g.n (ad0 _ ?_),h2⟩
   unfold newL
   rw[ada hl]
   exact adb.2 ⟨_,h2,rfl⟩
 have le1:(bZ (·.1) (aj g p)).length<=1:=by
  by_cases hl:1<(bu g p).length
  ·refine E5 (s:=g.n) gm fun y hy=> ?_
   obtain⟨hy1,hy2⟩:=jc.1 hy
   refine adm fun hne=> ?_
   have hG:(aj g p).n=g.n+1:=ada hl
   exact(key y ⟨hy1.1,by omega⟩ hy2).1 hl
  ·refine E5 (s:=aq p (g.n.toNat - 1)) gm fun y hy=> ?_
   obtain⟨hy1,hy2⟩:=jc.1 hy
   have hG:(aj g p).n=g.n:=ac8 hl
   exact Qx hr hl (key y ⟨hy1.1,by omega⟩ hy2).2
 have ge1:0<(bZ (·.1) (aj g p)).length:=by
  by_cases hl:1<(bu g p).length
  ·have hG:(aj g p).n=g.n+1:=ada hl
   exact afD (jc.2 ⟨⟨by omega,by omega⟩,(zV hr hl).2⟩:g.n∈bZ (·.1) (aj g p))
  ·have hw:=aD hr.2.1 (k:=g.n.toNat - 1) (by omega)
   obtain⟨h1,h2⟩:=oL hr
   refine afD (jc.2 ⟨⟨hw.1,by omega⟩,(yu hr hw h1).2 fun e he h3=> ?_⟩:aq p (g.n.toNat - 1)∈bZ (·.1) (aj g p))
   rcases xg (v:=e.1) (x:=e.2) he with ⟨i,h4,_,h5⟩|⟨h4,_⟩
   ·exact(adu.1 NZ).2.2 e.1 (adb.2 ⟨_,rq h4 h5,rfl⟩) _ h2 h3
   ·exact hl h4
 omega
end Go.Ab
end
section
set_option maxRecDepth 10000
namespace Go.Ab
open Go.Proofs
def ef(l:List It):List It:=l.filter fun t=>decide (0<=t.1)
theorem kR{a b:List It} :ef (a++b)=ef a++ef b:=by simp[ef]
theorem eX{l:List It}{t:It} :t∈ef l↔t∈l/\0<=t.1:=by simp[ef]
theorem zX{x:Int}{l:List It}(h:gv x l):gv x (ef l):=fun t ht=>h t (eX.1 ht).1
def zD(x:Int)(l:List It):Prop:=∀t∈l,t.2.2=x
theorem jT{g:Gr}{x:Int}{o:List Int}(ho:∀i∈o,0<=i):ef (aQ g x o)=o.map (gM g x):=by
 unfold aQ
 split
 ·rename_i h;subst h;rfl
 ·refine afl.2 fun t ht=> ?_
  obtain⟨i,hi,rfl⟩:=adb.1 ht
  exact ac7 (ho i hi)
theorem Ds{x:Int} :∀ {X Y c d:List It},zD x X->zD x Y->gv x c->gv x d->X++c=Y++d->X=Y/\c=d
 | [], [],c,d,_,_,_,_,e=>⟨rfl,e⟩
 | [],u::Y,c,d,_,hY,hc,_,e=>by
   simp only[List.nil_append]at e
   exact absurd (hY u (by simp)) (hc u (by rw[e];simp))
 |t::X, [],c,d,hX,_,_,hd,e=>by
  simp only[List.nil_append]at e
  exact absurd (hX t (by simp)) (hd t (by rw[<- e];simp))
 |t::X,u::Y,c,d,hX,hY,hc,hd,e=>by
  simp only[List.cons_append,adB]at e
  obtain⟨e1,e2⟩:=Ds (fun s hs=>hX s (by simp[hs])) (fun s hs=>hY s (by simp[hs])) hc hd e.2
  exact⟨by rw[e.1,e1],e2⟩
theorem G9{x:Int} :∀ {a b X Y c d:List It},gv x a->gv x b->zD x X->zD x Y->gv x c->gv x d->X≠ []->Y≠ []->a++X++c=b++Y++d->a=b/\X=Y/\c=d
 |t::a, [],X,u::Y,c,d,ha,_,_,hY,_,_,_,_,e=>by
  simp only[List.cons_append,List.nil_append,adB]at e
  exact absurd (by rw[e.1];exact hY u (by simp)) (ha t (by simp))
 | [],t::b,u::X,Y,c,d,_,hb,hX,_,_,_,_,_,e=>by
   simp only[List.cons_append,List.nil_append,adB]at e
   exact absurd (by rw[<- e.1];exact hX u (by simp)) (hb t (by simp))
 |t::a,u::b,X,Y,c,d,ha,hb,hX,hY,hc,hd,nX,nY,e=>by
  simp only[List.cons_append,adB]at e
  obtain⟨e1,e2,e3⟩:=G9 (fun s hs=>ha s (by simp[hs])) (fun s hs=>hb s (by simp[hs])) hX hY hc hd nX nY e.2
  exact⟨by rw[e.1,e1],e2,e3⟩
 | [], [],X,Y,c,d,_,_,hX,hY,hc,hd,_,_,e=>by
   refine⟨rfl, ?_⟩
   simp only[List.nil_append]at e
   exact Ds hX hY hc hd e
 | [],_::_, [],_,_,_,_,_,_,_,_,_,h,_,_=>absurd rfl h
 |_::_, [],_, [],_,_,_,_,_,_,_,_,_,h,_=>absurd rfl h
theorem He{g:Gr}(hm:aM g=true){f:Fr}(hi:fL g f){x:Int}(hR:au g f x=true)(hn:aV g x≠0):
 ∃a X c,ef f.row=a++X++c/\gv x a/\gv x c/\zD x X/\X.length=aV g x/\∀o,ef (aC g f x o).2.row=a++ef (aQ g x o)++c:=by
 obtain⟨A,X,C,hr,hA,hC,hX,cX⟩:=bD hm hi hR hn
 have hx:=(aF hR).1
 have hmem:∀t∈X,t∈f.row:=fun t ht=>by rw[hr];simp[ht]
 have hiff:∀t∈X,(0<=t.1↔t.2.2=x):=fun t ht=>by
  have h1:=(hi.it t (hmem t ht)).head hm
  have h2:=hX.al t ht
  omega
 refine⟨ef A,ef X,ef C,by rw[hr,kR,kR],zX hA,zX hC,fun t ht=> ?_, ?_,fun o=> ?_⟩
 ·obtain⟨h1,h2⟩:=eX.1 ht
  exact(hiff t h1).1 h2
 ·rw[<- cX,ef, <- List.countP_eq_length_filter]
  refine afj fun t ht=> ?_
  simp only[lz,ade]
  exact hiff t ht
 ·rw[dR o hr hA hC hX]
  simp only[kR]
theorem E6{g:Gr}(hm:aM g=true){f:Fr}(hi:fL g f){x:Int}(hR:au g f x=true)(hn:aV g x≠0){a X c:List It}(e:ef f.row=a++X++c)(ha:gv x a)(hc:gv x c)(hX:zD x X)(nX:X≠ [])(o:List Int):
 ef (aC g f x o).2.row=a++ef (aQ g x o)++c:=by
 obtain⟨b,Y,d,e',hb,hd,hY,lY,hs⟩:=He hm hi hR hn
 have nY:Y≠ []:=fun h=>hn (by rw[<- lY,h];rfl)
 obtain⟨e1,_,e3⟩:=G9 hb ha hY hX hd hc nY nX (e'.symm.trans e)
 rw[hs o,e1,e3]
theorem BU{g:Gr}(hm:aM g=true){f:Fr}(hi:fL g f){x:Int}(h0:0<=x)(h1:x<g.n)(hp:x∉f.pl){a X c:List It}(e:ef f.row=a++X++c)(ha:gv x a)(hc:gv x c)(hX:zD x X)(nX:X≠ [])(hl:X.length=aV g x):au g f x=true:=by
 have hmem:∀j,j<f.row.length->Jf g (f.row.getD j (0,0,0)):=fun j hj=>hi.it _ (az hj)
 have AQ:f.row.countP (lz x)=X.length:=by
  have h2:f.row.countP (lz x)=(ef f.row).countP (lz x):=by
   rw[ef,List.countP_filter]
   refine afj fun t ht=> ?_
   have:=(hi.it t ht).head hm
   simp only[lz,adg,ade]
   omega
  have c1:a.countP (lz x)=0:=ae5.2 fun t ht=>by simp[lz,ha t ht]
  have c2:c.countP (lz x)=0:=ae5.2 fun t ht=>by simp[lz,hc t ht]
  have c3:X.countP (lz x)=X.length:=afI.2 fun t ht=>by simp[lz,hX t ht]
  rw[h2,e,aeN,aeN,c1,c2,c3]
  omega
 rw[<- kj hm hi,gh,ac8 (by rintro(h|h|h);omega;omega;exact hp h),jO h0 h1,adg,ade]
 have hN:(aJ (fun e=>e.2) g.es g.es.length x).length=aV g x:=rfl
 rw[hN]
 refine⟨?_, ?_⟩
 ·unfold bH
  rw[ot,pU (adh _),aef,AQ,hl]
 ·rw[adL];right
  rcases gX (row:=f.row) (x:=x) f.row.length with ⟨hs,hno⟩|⟨p,q,n,hs,hab,Ct,hc0,hcl,hpx,hqx,hlo,hhi⟩
  ·have hs':bH f.row x=(-1,0,0):=hs
   rw[hs'];simp[y5]
  ·have hs':bH f.row x=((p:Int),(q:Int),(n:Int)):=hs
   rw[hs']
   simp only[Int.toNat_natCast,y5,adK]
   rw[<- Bool.not_eq_true,Df Ct]
   rintro⟨j,h2,h3,h4⟩
   simp only[pS,adg,ade]at h4
   have hja:p<j:=by
    refine Nat.lt_of_le_of_ne h2 fun e=> ?_
    subst e;exact h4.1 hpx
   have hjb:j<q - 1:=by
    refine Nat.lt_of_le_of_ne (by omega) fun e=> ?_
    subst e;exact h4.1 hqx
   have hsub:=((By (i:=j+1) (j:=q - 1) (By (i:=p+1) (j:=j) (By (i:=0) (j:=p) (List.nil_sublist _) (by omega) (by omega)) (by omega) (by omega)) (by omega) (by omega)).trans (List.take_sublist _ f.row)).filter fun t=>decide (0<=t.1)
   have hp1:=(hmem p (by omega)).head hm
   have hj1:=(hmem j (by omega)).head hm
   have hq1:=(hmem (q - 1) (by omega)).head hm
   generalize f.row.getD p (0,0,0)=s1 at hsub hp1 hpx
   generalize f.row.getD j (0,0,0)=s2 at hsub hj1 h4
   generalize f.row.getD (q - 1) (0,0,0)=s3 at hsub hq1 hqx
   have hf:([]++ [s1]++ [s2]++ [s3]).filter (fun t=>decide (0<=t.1))= [s1,s2,s3]:=afl.2 fun t ht=>by
    simp only[List.nil_append,List.cons_append,adw,aeo,or_false]at ht
    rcases ht with rfl|rfl|rfl
    ·exact ac7 (hp1.1.2 (by omega))
    ·exact ac7 (hj1.1.2 h4.2)
    ·exact ac7 (hq1.1.2 (by omega))
   rw[hf]at hsub
   have hsub: [s1,s2,s3].Sublist (a++(X++c)):=by rw[<- List.append_assoc, <- e];exact hsub
   rw[af2]at hsub
   obtain⟨l1,l',el,k1,k'⟩:=hsub
   rw[af2]at k'
   obtain⟨l2,l3,rfl,k2,k3⟩:=k'
   match l1,el,k1 with
   |t::l1,el,k1=>
    simp only[List.cons_append,adB]at el
    exact ha t (k1.subset (by simp)) (by rw[<- el.1];exact hpx)
   | [],el,_=>
     match l2,el,k2 with
     | [],el,_=>
       simp only[List.nil_append]at el
       exact hc s1 (k3.subset (by rw[<- el];simp)) hpx
     | [t],el,_=>
       simp only[List.nil_append,List.cons_append,adB]at el
       exact hc s3 (k3.subset (by rw[<- el.2];simp)) hqx
     |t::u::l2,el,k2=>
      simp only[List.nil_append,List.cons_append,adB]at el
      exact h4.1 (by rw[el.2.1];exact hX u (k2.subset (by simp)))
end Go.Ab
end
section
namespace Go.Ab
open Go.Proofs
set_option maxRecDepth 10000
def Yl(gone:List Int)(i:Nat):Bool:= !decide ((i:Int)∈gone)
def Wq(gone:List Int)(k:Nat):List Nat:=(List.range k).filter (Yl gone)
def atN(gone:List Int)(k:Nat):Nat:=(Wq gone k).length
def abb(gone:List Int)(es:List Edge)(k:Nat):List Edge:=(Wq gone k).map fun i=>es.getD i (0,0)
def acQ(g:Gr)(gone:List Int):Gr:=⟨g.n,abb gone g.es g.es.length⟩
def atZ(gone:List Int)(i:Int):Int:=if i∈gone then -1 else(atN gone i.toNat:Int)
def abc(gone:List Int)(l:List Int):List Int:=(l.filter fun i=>decide (i∉gone)).map (atZ gone)
def acR(p:Pl)(gone:List Int):Pl:=⟨p.ord,p.outs.map (abc gone)⟩
variable {g:Gr} {p:Pl} {gone:List Int}
def kap(gone:List Int)(t:It):It:=(atZ gone t.1,t.2.1,t.2.2)
def acS(gone:List Int)(l:List It):List It:=(l.filter fun t=>decide (t.1∉gone)).map (kap gone)
theorem gE(hr:aG g p):aV g (aq p 0)=0:=by
 have hm:=ah hr.1
 have hn:=aB hm
 refine adm fun hnz=> ?_
 obtain⟨A,X,C,hrw,_,_,hX,_⟩:=bD hm (wR g).tofL (hr.2.2 0 (by omega)) hnz
 obtain⟨q,X0,e1,_⟩:=hX.fst
 rw[e1]at hrw
 simp at hrw
end Go.Ab
end
section
set_option maxRecDepth 10000
namespace Go.Ab
open Go.Proofs
theorem xq{g:Gr}(hm:aM g=true){f:Fr}(hi:fL g f){x:Int}(hR:au g f x=true)(hn:aV g x≠0)(o:List Int):
 ∃a c,ef f.row=a++ef (aC g f x o).1.1++c/\gv x a/\gv x c/\zD x (ef (aC g f x o).1.1)/\(ef (aC g f x o).1.1).length=aV g x/\ef (aC g f x o).2.row=a++ef (aQ g x o)++c:=by
 obtain⟨A,X,C,hr,hA,hC,hX,hc⟩:=bD hm hi hR hn
 have hx:=(aF hR).1
 have hmem:∀t∈X,t∈f.row:=fun t ht=>by rw[hr];simp[ht]
 have hiff:∀t∈X,(0<=t.1↔t.2.2=x):=fun t ht=>by
  have h1:=(hi.it t (hmem t ht)).head hm
  have h2:=hX.al t ht
  constructor
  ·intro h;rcases h2 with h2|h2
   ·exact h2
   ·exact absurd h2 (h1.1.1 h)
  ·intro h;exact h1.1.2 (by omega)
 rw[dR o hr hA hC hX]
 refine⟨ef A,ef C,by rw[hr,kR,kR],zX hA,zX hC,fun t ht=> ?_, ?_,by simp only[kR]⟩
 ·obtain⟨h1,h2⟩:=eX.1 ht
  exact(hiff t h1).1 h2
 ·rw[<- hc,ef, <- List.countP_eq_length_filter]
  refine afj fun t ht=> ?_
  simp only[lz,ade]
  exact hiff t ht
def dP(g:Gr)(p:Pl)(x:Int):List Int:=(ef ((gC g p g.n.toNat).getD x.toNat [])).map (·.1)
def pZ(g:Gr)(p:Pl)(f:Fr)(x:Int):List Int:=(ef (aC g f x (bE p x)).1.1).map (·.1)
def ud(g:Gr)(p:Pl):Nat->Fr->Prop
 |0,f=>(f.pl.length:Int)=g.n
 |m+1,f=>∃x,au g f x=true/\pZ g p f x=dP g p x/\ud g p m (w9 g p f x)
theorem BW{g:Gr}{p:Pl} :∀ {m:Nat} {f f':Fr},f.row=f'.row->f.pl.Perm f'.pl->ud g p m f->ud g p m f'
 |0,f,f',_,hp,h=>by
  have h:(f.pl.length:Int)=g.n:=h
  show(f'.pl.length:Int)=g.n
  rw[<- hp.length_eq];exact h
 |m+1,f,f',hr,hp,⟨x,h1,h3,h2⟩=>by
  refine⟨x,by rw[<- y8 hr hp];exact h1, ?_,BW ?_ ?_ h2⟩
  ·simp only[pZ,aC,hr]at h3 ⊢;exact h3
  ·simp only[w9,aC,hr]
  ·exact hp.append_right _
theorem s5{g:Gr}(hc:(bX g).1=0){p:Pl}(hp:bq g p):∀ {m:Nat} {f:Fr},Bx g f->(f.pl.length:Int)+(m+1:Nat)=g.n->ud g p (m+1) f->∀ {x:Int},au g f x=true->pZ g p f x=dP g p x/\ud g p m (w9 g p f x)
 |m,f,hi,hl,⟨y,zC,Zn,hcan⟩,x,hR=>by
  have hm:=ah hc
  by_cases hxy:x=y
  ·subst hxy;exact⟨Zn,hcan⟩
  have py:=aW hp (aF zC).1 (aF zC).2.1
  have px:=aW hp (aF hR).1 (aF hR).2.1
  have i2:=kr hm hi zC py
  match m,hl,hcan with
  |0,hl,hcan=>
   exfalso
   have h1:=jQ i2.tofL (by show((f.pl++ [y]).length:Int)=g.n;simp;omega) (x:=x) ⟨(aF hR).1,(aF hR).2.1⟩
   have h2:x∈f.pl++ [y]:=h1
   simp[(aF hR).2.2,hxy]at h2
  |m+1,hl,hcan=>
   obtain⟨h4,h5,h6,h7,h8⟩:=Dg hc hi hxy hR zC px py
   obtain⟨h9,h3⟩:=s5 hc hp i2 (by show(((f.pl++ [y]).length:Nat):Int)+_=_;simp;omega) hcan h5
   refine⟨?_,y,h4, ?_,BW h6.symm ?_ h3⟩
   ·unfold pZ at h9 ⊢;rw[h7];exact h9
   ·unfold pZ at Zn ⊢;rw[h8]at Zn;exact Zn
   show(f.pl++ [y]++ [x]).Perm (f.pl++ [x]++ [y])
   rw[adO,adO]
   exact ag9 _ (List.Perm.swap ..)
theorem yw{g:Gr}{p:Pl}(h:aG g p):∀ {d k:Nat},k+d=g.n.toNat->ud g p d (fK g p k)
 |0,k,hk=>by
  have hn:=aB (ah h.1)
  obtain⟨_,dI,_⟩:=bz (ah h.1) h.2.1 (k:=k) (by omega) fun j hj=>h.2.2 j (by omega)
  show((fK g p k).pl.length:Int)=g.n
  rw[dI,adH,aI h.2.1];omega
 |d+1,k,hk=>⟨aq p k,h.2.2 k (by omega),by
   unfold dP
   rw[wT h.2.1 (adh _) (show k<g.n.toNat by omega)]
   rfl,yw h (k:=k+1) (by omega)⟩
theorem K6{g:Gr}(hc:(bX g).1=0){p:Pl}(hp:bq g p):∀ {m:Nat} {f:Fr},Bx g f->ud g p m f->∀ {i:Nat},i<g.es.length->tl g i∈f.pl->hd g i∉f.pl->∃t∈f.row,t.1=(i:Int)
 |0,f,hi,h,i,hil,_,hh=>by
  have hr:=aU (ah hc) hil
  exact absurd (jQ hi.tofL h (x:=hd g i) hr) hh
 |m+1,f,hi,⟨x,hR,_,h⟩,i,hil,ht,hh=>by
  have hm:=ah hc
  have px:=aW hp (aF hR).1 (aF hR).2.1
  by_cases hx:hd g i=x
  ·obtain⟨t,h1,h2,_⟩:=yf hm hi hR hil hx
   exact⟨t,h1,h2⟩
  ·obtain⟨t,h1,h2⟩:=K6 hc hp (kr hm hi hR px) h hil (ac9.2 (.inl ht)) (fun h1=>by
    rcases ac9.1 h1 with h1|h1
    ·exact hh h1
    ·exact hx (by simpa using h1))
   obtain⟨A,X,C,hr,_,_,_,hs⟩:=iJ hm hi.tofL hR
   rw[hs]at h1
   simp only[ac9]at h1
   rcases h1 with (h1|h1)|h1
   ·exact⟨t,by rw[hr];simp[h1],h2⟩
   ·rcases ow (fun i hi=>px.mem_iff.1 hi) h1 with ⟨h3,_⟩|⟨k,h3,h4,h5,_,h6,_⟩
    ·omega
    ·have:k=i:=by omega
     subst this
     exact absurd (h6 ▸ ht) (aF hR).2.2
   ·exact⟨t,by rw[hr];simp[h1],h2⟩
def bt(g:Gr)(e:Int):Int:=(g.es.getD e.toNat (0,0)).1
def bA(g:Gr)(e:Int):Int:=(g.es.getD e.toNat (0,0)).2
def fN(g:Gr)(x:Int):Prop:=0<=x/\x<g.n
instance {g:Gr} {x:Int} :Decidable (fN g x):=inferInstanceAs (Decidable (0<=x/\x<g.n))
def ry(g:Gr)(p:Pl)(k:Nat)(W D:List Int):Prop:=∃f,Bx g f/\f.pl=D/\W=(ef f.row).map (·.1)/\ud g p k f/\(D.length:Int)+k=g.n/\aq p 0∈D
def QD(g:Gr)(p:Pl)(x:Int):Nat:=((GI g.n.toNat p.ord p.ord.length).getD x.toNat 0).toNat
def aP(g:Gr)(p:Pl):PS:=
 {m:=g.es.length,src:=aq p 0,VF:=aq p (g.n.toNat - 1),tl:=bt g,hd:=bA g,ins:=fun x=>if fN g x then dP g p x else [],outs:=fun x=>if fN g x then bE p x else [],WL:=QD g p,Row:=ry g p,k0:=g.n.toNat - 1}
theorem gR{g:Gr}{p:Pl}{x:Int}(h:fN g x):(aP g p).ins x=dP g p x:=ada h
theorem nh{g:Gr}{p:Pl}{x:Int}(h:¬fN g x):(aP g p).ins x= []:=ac8 h
theorem eo{g:Gr}{p:Pl}{x:Int}(h:fN g x):(aP g p).outs x=bE p x:=ada h
theorem oM{g:Gr}{p:Pl}{x:Int}(h:¬fN g x):(aP g p).outs x= []:=ac8 h
theorem aX{f:Edge->Int}{es:List Edge}{x e:Int} :e∈aJ f es es.length x↔(0<=e/\e<es.length)/\f (es.getD e.toNat (0,0))=x:=by
 refine⟨gA,fun ⟨h1,h2⟩=> ?_⟩
 simp only[aJ,adb,adJ,adl,ade]
 exact⟨e.toNat,⟨by omega,h2⟩,by simp;omega⟩
section
variable {g:Gr} {p:Pl}
theorem K7(hm:aM g=true)(hp:bq g p){k:Nat}(hk:k<g.n.toNat):QD g p (aq p k)=k:=by
 have hE:=((SQ hm).2 hp).1
 have:=EI hE (p:=k) (k:=p.ord.length) (by rw[aI hp];exact hk) (adh _)
 unfold QD
 show((GI _ _ _).getD (p.ord.getD k 0).toNat 0).toNat=k
 rw[this];simp
theorem E7(h:aG g p){e:Int}(he:0<=e/\e<g.es.length){k:Nat}(hk:k<g.n.toNat)(hx:bA g e=aq p k):∃j,j<k/\aq p j=bt g e:=by
 have hm:=ah h.1
 obtain⟨hi,dI,_⟩:=bz hm h.2.1 (k:=k) (by omega) fun j hj=>h.2.2 j (by omega)
 obtain⟨t,h1,h2,h3,_⟩:=yf hm hi (h.2.2 k hk) (i:=e.toNat) (by omega) hx
 have h4:=hi.tail t h1 (by omega)
 rw[h3,dI]at h4
 exact take_at (by rw[aI h.2.1];omega) h4
theorem xu(hm:aM g=true){f:Fr}(hi:fL g f){t:It}(ht:t∈ef f.row):(0<=t.1/\t.1<g.es.length)/\t.2.1=bt g t.1/\t.2.2=bA g t.1:=by
 obtain⟨h1,h2⟩:=eX.1 ht
 rcases hi.it t h1 with h3|h3
 ·omega
 ·exact⟨⟨h3.1,h3.2.1⟩,h3.2.2.1,h3.2.2.2⟩
theorem QE{f:Fr}(hi:Bx g f):((ef f.row).map (·.1)).Nodup:=by
 refine aeJ.2 ?_
 have:=hi.once.filter (fun t:It=>decide (0<=t.1))
 refine aeU (fun {s t} hs ht h1=>h1 (eX.1 hs).2) this
theorem S4(hm:aM g=true){f:Fr}(hi:Bx g f){x:Int}(hR:au g f x=true):(pZ g p f x).Nodup/\∀e,e∈pZ g p f x↔(0<=e/\e<g.es.length)/\bA g e=x:=by
 by_cases hn:aV g x=0
 ·have hno:=dO hm hi.tofL (aF hR).1 hn
  have e0:pZ g p f x= []:=by unfold pZ;rw[cH _ hno];rfl
  rw[e0]
  refine⟨ae1,fun e=>⟨fun h=>by(cases h),fun ⟨h1,h2⟩=> ?_⟩⟩
  have:=aX.2 ⟨h1,h2⟩
  have h3:aJ (·.2) g.es g.es.length x= []:=adF hn
  rw[h3]at this;cases this
 ·obtain⟨a,c,e1,ha,hc,hX,hl,_⟩:=xq hm hi.tofL hR hn (bE p x)
  have bR:=QE hi
  have hmem:∀t∈ef (aC g f x (bE p x)).1.1,t∈ef f.row:=fun t ht=>by rw[e1];simp[ht]
  rw[e1,adt,adt,adu]at bR
  have WC:(pZ g p f x).Nodup:=(adu.1 bR.1).2.1
  have hsub:∀e∈pZ g p f x,e∈aJ (·.2) g.es g.es.length x:=fun e he=>by
   obtain⟨t,ht,rfl⟩:=adb.1 he
   obtain⟨h1,_,h3⟩:=xu hm hi.tofL (hmem t ht)
   exact aX.2 ⟨h1,by rw[<- hX t ht,h3];rfl⟩
  have hlen:(aJ (·.2) g.es g.es.length x).length=(pZ g p f x).length:=by
   unfold pZ;rw[ado,hl];rfl
  exact⟨WC,fun e=>⟨fun he=>aX.1 (hsub e he),fun he=>Je WC hsub hlen e (aX.2 he)⟩⟩
theorem ni(h:aG g p){k:Nat}(hk:k<g.n.toNat):dP g p (aq p k)=pZ g p (fK g p k) (aq p k):=by
 unfold dP
 rw[wT h.2.1 (adh _) hk];rfl
theorem er(h:aG g p){x:Int}(hx:fN g x):(dP g p x).Nodup/\∀e,e∈dP g p x↔(0<=e/\e<g.es.length)/\bA g e=x:=by
 obtain⟨k,hk,rfl⟩:=cq h.2.1 hx.1 hx.2
 have hm:=ah h.1
 obtain⟨hi,_,_⟩:=bz hm h.2.1 (k:=k) (by omega) fun j hj=>h.2.2 j (by omega)
 rw[ni h hk]
 exact S4 hm hi (h.2.2 k hk)
theorem jt(h:aG g p){x:Int}(hx:fN g x):(dP g p x).length=aV g x:=by
 obtain⟨h1,h2⟩:=er h hx
 refine ag1 ?_ ?_
 ·exact lB h1 fun e he=>aX.2 ((h2 e).1 he)
 ·exact lB b7 fun e he=>(h2 e).2 (aX.1 he)
theorem oN(h:aG g p)(hI:q8 g=true){x:Int}(hx:fN g x):bE p x= []↔x=aq p (g.n.toNat - 1):=by
 have hm:=ah h.1
 have hn:=aB hm
 constructor
 ·intro h1
  have hs:=(oL h).1
  have hsi:=aD h.2.1 (k:=g.n.toNat - 1) (by omega)
  have b1:=jc (f:=(·.1)) (g:=g) (y:=x) |>.2 ⟨hx,(mA h.2.1 hx.1 hx.2).2 h1⟩
  have b2:=jc (f:=(·.1)) (g:=g) (y:=aq p (g.n.toNat - 1)) |>.2 ⟨hsi,(mA h.2.1 hsi.1 hsi.2).2 hs⟩
  have hl:(bZ (·.1) g).length=1:=by
   unfold q8 at hI
   simp only[adg,ade]at hI
   exact hI.2
  obtain⟨y,hy⟩:=List.length_eq_one_iff.1 hl
  rw[hy,adv]at b1 b2
  rw[b1,b2]
 ·rintro rfl;exact(oL h).1
theorem Dt(h:aG g p)(hI:q8 g=true){f:Fr}(hi:Bx g f):∀ {d k:Nat},k+d=g.n.toNat->k<g.n.toNat->aq p k∉f.pl->aq p (g.n.toNat - 1)∉f.pl
 |0,k,h1,h2,_=>by omega
 |d+1,k,h1,h2,h3=>by
  have hm:=ah h.1
  have hx:=aD h.2.1 h2
  by_cases hs:bE p (aq p k)= []
  ·rw[(oN h hI hx).1 hs]at h3;exact h3
  ·obtain⟨e,u,he⟩:=jZ hs
   have Cw:e∈b8 g (aq p k):=(aW h.2.1 hx.1 hx.2).mem_iff.1 (by rw[he];simp)
   obtain⟨yL,Cu⟩:=aX.1 Cw
   have hh:=aU hm (i:=e.toNat) (by omega)
   obtain⟨k',hk',e'⟩:=cq h.2.1 hh.1 hh.2
   obtain⟨j,hj,e2⟩:=E7 h yL hk' e'.symm
   have:j=k:=dS h.2.1 (by omega) h2 (e2.trans Cu)
   refine Dt h hI hi (d:=g.n.toNat - k') (k:=k') (by omega) hk' fun h4=> ?_
   have:=hi.low e.toNat (by omega) (e' ▸ h4)
   have h5:tl g e.toNat=aq p k:=Cu
   exact h3 (h5 ▸ this)
 termination_by d=>d
theorem ry.nd{k:Nat}{W D:List Int}(h:ry g p k W D):W.Nodup:=by
 obtain⟨f,hi,_,rfl,_⟩:=h;exact QE hi
theorem ry.mem(h:aG g p){k:Nat}{W D:List Int}(hr:ry g p k W D)(e:Int):e∈W↔(0<=e/\e<g.es.length)/\bt g e∈D/\bA g e∉D:=by
 have hm:=ah h.1
 obtain⟨f,hi,rfl,rfl,hc,_⟩:=hr
 constructor
 ·intro he
  obtain⟨t,ht,rfl⟩:=adb.1 he
  obtain⟨h1,h2,h3⟩:=xu hm hi.tofL ht
  obtain⟨h4,h5⟩:=eX.1 ht
  exact⟨h1,h2 ▸ hi.tail t h4 h5,h3 ▸ hi.head t h4 h5⟩
 ·rintro⟨h1,h2,h3⟩
  obtain⟨t,h4,h5⟩:=K6 h.1 h.2.1 hi hc (i:=e.toNat) (by omega) h2 h3
  exact adb.2 ⟨t,eX.2 ⟨h4,by omega⟩,by omega⟩
theorem ry.next(h:aG g p){k:Nat}{W D:List Int}(hr:ry g p (k+1) W D):∃x A C,W=A++(aP g p).ins x++C/\(aP g p).ins x≠ []:=by
 have hm:=ah h.1
 obtain⟨f,hi,rfl,rfl,⟨x,hR,hg,_⟩,_,hs⟩:=hr
 obtain⟨x0,x1,x2⟩:=aF hR
 have hx:fN g x:=⟨x0,x1⟩
 have hn:aV g x≠0:=fun h0=>by
  have:=gB h.1 (x:=x) (y:=aq p 0) hx (hi.lg _ hs) h0 (gE h)
  exact x2 (this ▸ hs)
 obtain⟨a,c,e1,_,_,_,hl,_⟩:=xq hm hi.tofL hR hn (bE p x)
 refine⟨x,a.map (·.1),c.map (·.1), ?_, ?_⟩
 ·rw[gR hx, <- hg,e1,adt,adt];rfl
 ·rw[gR hx]
  intro h0
  have:=jt h hx
  rw[h0]at this
  exact hn this.symm
theorem ry.step(h:aG g p){k:Nat}{W D A C:List Int}{x:Int}(hr:ry g p k W D)(hW:W=A++(aP g p).ins x++C)(hI:(aP g p).ins x≠ []):∃k',k=k'+1/\ry g p k' (A++(aP g p).outs x++C) (D++ [x]):=by
 have hm:=ah h.1
 have hx:fN g x:=adm fun h0=>hI (nh h0)
 have bR:=hr.nd
 have hmem:=ry.mem h hr
 rw[gR hx]at hW hI
 rw[eo hx]
 obtain⟨i1,i2⟩:=er h hx
 obtain⟨e0,u0,Ph⟩:=jZ hI
 have N5:x∉D:=by
  have h1:=(i2 e0).1 (by rw[Ph];simp)
  have h2:=(hmem e0).1 (by rw[hW,Ph];simp)
  rw[h1.2]at h2;exact h2.2.2
 obtain⟨f,hi,rfl,hWf,hc,hD,hs⟩:=hr
 rw[hWf]at hW bR
 obtain⟨l1,c,e1,e2,e3⟩:=af9.1 hW
 obtain⟨a,X,e4,e5,e6⟩:=af9.1 e2
 have hrow:ef f.row=a++X++c:=by rw[e1,e4]
 rw[hrow,adt,adt,e5,e6,e3]at bR
 have hit:∀t∈a++X++c,(0<=t.1/\t.1<g.es.length)/\t.2.1=bt g t.1/\t.2.2=bA g t.1:=fun t ht=>xu hm hi.tofL (by rw[hrow];exact ht)
 have hX:zD x X:=fun t ht=>by
  have h1:t.1∈dP g p x:=by rw[<- e6];exact aeP ht
  rw[(hit t (by simp[ht])).2.2,((i2 _).1 h1).2]
 have hin:∀t∈a++X++c,t.2.2=x->t.1∈dP g p x:=fun t ht e=>by
  obtain⟨h1,_,h3⟩:=hit t ht
  exact(i2 _).2 ⟨h1,by rw[<- h3,e]⟩
 have ha:gv x a:=fun t ht e=>by
  have h1:=hin t (by simp[ht]) e
  have h2:t.1∈A:=by rw[<- e5];exact aeP ht
  exact(adu.1 (adu.1 bR).1).2.2 _ h2 _ h1 rfl
 have Um:gv x c:=fun t ht e=>by
  have h1:=hin t (by simp[ht]) e
  have h2:t.1∈C:=by rw[<- e3];exact aeP ht
  exact(adu.1 bR).2.2 _ (ac9.2 (.inr h1)) _ h2 rfl
 have Uk:X.length=aV g x:=by rw[<- jt h hx, <- e6,ado]
 have nX:X≠ []:=fun h0=>hI (by rw[<- e6,h0];rfl)
 have hR:=BU hm hi.tofL hx.1 hx.2 N5 hrow ha Um hX nX Uk
 have hn:aV g x≠0:=fun h0=>nX (adF (Uk.trans h0))
 have px:=aW h.2.1 hx.1 hx.2
 cases k with
 |zero=>exact absurd (jQ hi.tofL (by omega) hx) N5
 |succ k=>
  refine⟨k,rfl,w9 g p f x,kr hm hi hR px,rfl, ?_,(s5 h.1 h.2.1 hi (by omega) hc hR).2, ?_,ac9.2 (.inl hs)⟩
  ·have:=E6 hm hi.tofL hR hn hrow ha Um hX nX (bE p x)
   show _=(ef (aC g f x (bE p x)).2.row).map (·.1)
   rw[this,adt,adt,e5,e3,jT (fun i hi=>by
    have:=aX.1 (px.mem_iff.1 hi);exact this.1.1),aeF]
   have e7:((fun t:It=>t.1) ∘ gM g x)=id:=rfl
   rw[e7,agF]
  ·show(((f.pl++ [x]).length:Nat):Int)+_=_
   rw[adj,List.length_singleton];omega
theorem Na(h:aG g p):ry g p (g.n.toNat - 1) (bE p (aq p 0)) [aq p 0]:=by
 have hm:=ah h.1
 have hn:=aB hm
 have hx:=aD h.2.1 (k:=0) (by omega)
 obtain⟨hi,dI,_⟩:=bz hm h.2.1 (k:=1) (by omega) fun j hj=>h.2.2 j (by omega)
 have px:=aW h.2.1 hx.1 hx.2
 have hno:gv (aq p 0) (fK g p 0).row:=fun t ht=>by cases ht
 have hf:fK g p 1=⟨aQ g (aq p 0) (bE p (aq p 0)), [aq p 0]⟩:=by
  show(aC g (fK g p 0) (aq p 0) _).2=_
  rw[cH _ hno]
  show(⟨_++ [], []++ [_]⟩:Fr)=_
  simp
 refine⟨fK g p 1,hi,by rw[hf], ?_,yw h (by omega),by simp;omega,by simp⟩
 rw[hf]
 show _=(ef (aQ g (aq p 0) (bE p (aq p 0)))).map (·.1)
 rw[jT (fun i hi=>(aX.1 (px.mem_iff.1 hi)).1.1),aeF]
 have e7:((fun t:It=>t.1) ∘ gM g (aq p 0))=id:=rfl
 rw[e7,agF]
theorem nj(h:aG g p)(hI:q8 g=true):(aP g p).Ok:=by
 have hm:=ah h.1
 have hn:=aB hm
 have h0:fN g (aq p 0):=aD h.2.1 (by omega)
 exact {
  bI:=fun x e=>by
   show _↔(0<=e/\e<g.es.length)/\bt g e=x
   by_cases hx:fN g x
   ·rw[eo hx,(aW h.2.1 hx.1 hx.2).mem_iff];exact aX
   ·rw[oM hx]
    refine⟨fun h=>by(cases h),fun ⟨h1,h2⟩=>absurd ?_ hx⟩
    rw[<- h2];exact aT hm (i:=e.toNat) (by omega)
  cz:=fun x e=>by
   show _↔(0<=e/\e<g.es.length)/\bA g e=x
   by_cases hx:fN g x
   ·rw[gR hx];exact(er h hx).2 e
   ·rw[nh hx]
    refine⟨fun h=>by(cases h),fun ⟨h1,h2⟩=>absurd ?_ hx⟩
    rw[<- h2];exact aU hm (i:=e.toNat) (by omega)
  wW:=fun x=>by
   by_cases hx:fN g x
   ·rw[eo hx,(aW h.2.1 hx.1 hx.2).nodup_iff];exact b7
   ·rw[oM hx];exact ae1
  Jh:=fun x=>by
   by_cases hx:fN g x
   ·rw[gR hx];exact(er h hx).1
   ·rw[nh hx];exact ae1
  EO:=fun e he=>by
   have he:0<=e/\e<g.es.length:=he
   have hh:=aU hm (i:=e.toNat) (by omega)
   obtain⟨k,hk,e1⟩:=cq h.2.1 hh.1 hh.2
   obtain⟨j,hj,e2⟩:=E7 h he hk e1.symm
   show QD g p (bt g e)<QD g p (bA g e)
   have e3:bA g e=aq p k:=e1.symm
   rw[<- e2,e3,K7 hm h.2.1 hk,K7 hm h.2.1 (by omega)]
   exact hj
  SU:=by
   show ry g p (g.n.toNat - 1) ((aP g p).outs (aq p 0)) [aq p 0]
   rw[eo h0];exact Na h
  qX:=fun hr=>ry.nd hr
  eW:=fun hr e=>ry.mem h hr e
  qY:=fun hr=>ry.next h hr
  row_step:=fun hr h1 h2=>ry.step h hr h1 h2
  sV:=fun {W D} hr e he=>by
   obtain⟨f,hi,rfl,_,_,hD,_⟩:=hr
   exact jQ hi.tofL (by omega) (aU hm (i:=e.toNat) (by have:=he.1;have:=he.2;have:e<g.es.length:=he.2;omega))
  wX:=fun {k W D} hr=>by obtain⟨f,hi,rfl,_,_,_,hs⟩:=hr;exact hs
  zR:=fun {k W D} hr hs=>by
   obtain⟨f,hi,rfl,_,_,hD,_⟩:=hr
   refine adm fun hk=> ?_
   have:∃k',k'<g.n.toNat/\aq p k'∉f.pl:=by
    refine adm fun hall=> ?_
    have hall:∀k',k'<g.n.toNat->aq p k'∈f.pl:=fun k' hk'=>adm fun h1=>hall ⟨k',hk',h1⟩
    have:=lB (l:=p.ord) (m:=f.pl) (cF h.2.1) fun x hx=>by
     have hx:=cE.1 (h.2.1.2.1.mem_iff.1 hx)
     obtain⟨k',h1,rfl⟩:=cq h.2.1 hx.1 (by omega)
     exact hall k' h1
    rw[aI h.2.1]at this
    omega
   obtain⟨k',h1,h2⟩:=this
   exact Dt h hI hi (d:=g.n.toNat - k') (by omega) h1 h2 hs
  BA:=by
   show(aP g p).ins (aq p 0)= []
   rw[gR h0]
   have:=jt h h0
   rw[gE h]at this
   exact adF this
  wY:=fun x hx=>by
   have MI:fN g x:=adm fun h0=>hx (nh h0)
   rw[eo MI]
   exact oN h hI MI}
end
def eD(d:Dr)(x:Int):Pt:=d.pts.getD x.toNat (0,0)
def ff(d:Dr)(e:Int):List Pt:=d.ls.getD e.toNat []
structure yx (g:Gr) (d:Dr):Prop where
 AA:(bX g).1=0
 np:(d.pts.length:Int)=g.n
 nl:d.ls.length=g.es.length
 Zo:∀q∈d.pts,bC q
 len:∀l∈d.ls,2<=l.length/\l.length<=8
 qx:∀l∈d.ls,∀q∈l,bC q
 fst:∀i,i<g.es.length->(d.ls.getD i []).getD 0 (0,0)=eD d (tl g i)
 GM:∀i,i<g.es.length->(d.ls.getD i []).getD ((d.ls.getD i []).length - 1) (0,0)=eD d (hd g i)
 I3:∀i,i<g.es.length->∀k,k+1<(d.ls.getD i []).length->((d.ls.getD i []).getD k (0,0)).2<((d.ls.getD i []).getD (k+1) (0,0)).2
 alone:∀x z:Nat,x<z->z<d.pts.length->d.pts.getD x (0,0)≠d.pts.getD z (0,0)
 free:∀i x:Nat,i<g.es.length->x<d.pts.length->(x:Int)≠tl g i->(x:Int)≠hd g i->SF (d.ls.getD i []) (d.pts.getD x (0,0))=false
 apart:∀i k:Nat,i<g.es.length->k<i->∀a∈fe (d.ls.getD i []),∀b∈fe (d.ls.getD k []),dH (gW g d i k) a b=false
theorem oO{n:Nat}{f:Nat->Bool}(h:¬0<=bP n f){i:Nat}(hi:i<n):f i=true:=by
 refine adm fun hf=>h ?_
 have h1:=cT (fun i=> !f i) (List.range n)
 have h2:(List.range n).any (fun i=> !f i)=true:=adR.2 ⟨i,adl.2 hi,by simp[hf]⟩
 rw[h2]at h1
 exact ael h1
theorem Du{p:Pt}(h:nF p=false):bC p:=by
 rw[sD]at h
 simpa using h
theorem s6{l:List Pt}{k:Nat}(h:k+1<l.length):(l.getD k (0,0),l.getD (k+1) (0,0))∈fe l:=by
 unfold fe MD
 exact adb.2 ⟨k,adl.2 (by omega),rfl⟩
theorem VQ{g:Gr}{d:Dr}(h:(kG g d).1=0):kG g d=(0,0)/\yx g d:=by
 unfold kG at h ⊢
 split at h
 ·cases h
 rename_i h1
 split at h
 ·cases h
 rename_i h2
 split at h
 ·cases h
 rename_i h3
 split at h
 ·cases h
 rename_i h4
 split at h
 ·cases h
 rename_i h5
 split at h
 ·cases h
 rename_i h6
 split at h
 ·cases h
 rename_i h7
 rw[ac8 h1,ac8 h2,ac8 h3,ac8 h4,ac8 h5,ac8 h6,ac8 h7]
 refine⟨rfl, ?_⟩
 simp only[Bool.not_eq_false]at h1 h2
 simp only[ga,adg,ade]at h1
 simp only[dZ,adg,adK,adV]at h2
 obtain⟨⟨c1,c2⟩,c3⟩:=h1
 have hb:∀l∈d.ls,2<=l.length/\l.length<=8/\∀q∈l,nF q=false:=fun l hl=>by
  have:=h2.2 l hl
  simp only[jC,adL,ade,not_or,adR,not_exists,not_and,Bool.not_eq_true]at this
  exact⟨by omega,by omega,this.2⟩
 have he:∀i,i<g.es.length->(d.ls.getD i []).getD 0 (0,0)=eD d (tl g i)/\(d.ls.getD i []).getD ((d.ls.getD i []).length - 1) (0,0)=eD d (hd g i):=fun i hi=>by
  have:=oO h3 hi
  simp only[qT,adg,ade]at this
  exact this
 exact {
  AA:=c1,np:=c2,nl:=c3
  Zo:=fun q hq=>Du (by have:=h2.1 q hq;simpa using this)
  len:=fun l hl=>⟨(hb l hl).1,(hb l hl).2.1⟩
  qx:=fun l hl q hq=>Du ((hb l hl).2.2 q hq)
  fst:=fun i hi=>(he i hi).1
  GM:=fun i hi=>(he i hi).2
  I3:=fun i hi k hk=>by
   have:=oO h4 hi
   simp only[gL,adK,adV,ade,ahc]at this
   exact this _ (s6 hk)
  alone:=fun x z hx hz e=>by
   have:=oO h5 hz
   simp only[fD,adK,adM]at this
   refine this ?_
   rw[<- e,aas,acF (by omega)]
   exact ads.2 ⟨x,by simp;omega,by simp⟩
  free:=fun i x hi hx h8 h9=>by
   have:=oO h6 hi
   simp only[kL,oq,ad8,adl,adL,ade,adK]at this
   rcases this x hx with (h|h)|h
   ·exact absurd h h8
   ·exact absurd h h9
   ·exact h
  apart:=fun i k hi hk a ha b hb'=>by
   have:=oO h7 hi
   simp only[fZ,jm,ad8,adl,adK]at this
   exact this k hk a ha b hb'}
def jv(d:Dr)(e:Int):Pt:=(ff d e).getD 1 (0,0)
def yy(d:Dr)(x i k:Int):Int:=tm (eD d x) (jv d k) (eD d x) (jv d i)
def mD(d:Dr)(x i k:Int):Prop:=0<yy d x i k
theorem S5{a b c:Pt} :tm a b a c= -tm a c a b:=by unfold tm;grind
theorem BX{d:Dr}{x i k:Int} :yy d x i k= -yy d x k i:=S5
theorem Jq{u1 u2 v1 v2 w1 w2:Int}(hu:0<u2)(hv:0<v2)(hw:0<w2)(h1:0<v1*u2 - v2*u1)(h2:0<w1*v2 - w2*v1):0<w1*u2 - w2*u1:=by
 have e:(v1*u2 - v2*u1)*w2+(w1*v2 - w2*v1)*u2=v2*(w1*u2 - w2*u1):=by grind
 have p1:=afn h1 hw
 have p2:=afn h2 hu
 have p3:0<v2*(w1*u2 - w2*u1):=by omega
 exact Int.pos_of_mul_pos_right p3 hv
section
variable {g:Gr} {d:Dr} (h:yx g d)
include h
theorem iN{e:Int}(h0:0<=e)(h1:e<g.es.length):ff d e∈d.ls:=by
 unfold ff
 exact az (by have:=h.nl;omega)
theorem u6{e x:Int}(h0:0<=e)(h1:e<g.es.length)(hx:bt g e=x):(eD d x).2<(jv d e).2:=by
 have hl:=(h.len _ (iN h h0 h1)).1
 have h2:=h.I3 e.toNat (by omega) 0 (by show 0+1<(ff d e).length;omega)
 have h3:=h.fst e.toNat (by omega)
 have h4:tl g e.toNat=x:=hx
 rw[h3,h4]at h2
 exact h2
theorem Nb{x i k j:Int}(hi:0<=i/\i<g.es.length)(hk:0<=k/\k<g.es.length)(hj:0<=j/\j<g.es.length)(xi:bt g i=x)(xk:bt g k=x)(xj:bt g j=x)(h1:mD d x i k)(h2:mD d x k j):mD d x i j:=by
 have u:=u6 h hi.1 hi.2 xi
 have v:=u6 h hk.1 hk.2 xk
 have w:=u6 h hj.1 hj.2 xj
 unfold mD yy tm at*
 exact Jq (u1:=(jv d i).1 - (eD d x).1) (v1:=(jv d k).1 - (eD d x).1) (w1:=(jv d j).1 - (eD d x).1) (by omega) (by omega) (by omega) h1 h2
end
theorem xw{d:Dr}{x i k:Int}(h1:mD d x i k)(h2:mD d x k i):False:=by
 unfold mD at*
 rw[BX]at h2
 omega
theorem QF{p a b:Pt}(hp:bC p)(ha:bC a)(hb:bC b)(ua:p.2<a.2)(ub:p.2<b.2)(h0:tm p a p b=0):fF p a p b=2:=by
 rw[<- KI]
 unfold jk
 have e1:p≠a:=fun e=>by rw[e]at ua;omega
 have e2:p≠b:=fun e=>by rw[e]at ub;omega
 have hA:ai p a p=0:=by unfold ai;grind
 have hB:ai p a b=0:=by unfold ai;unfold tm at h0;grind
 have c0:jh 0 0=0:=by decide
 rw[ada ⟨hp,ha,hp,hb⟩,ac8 e1,ac8 e2,hA,hB,c0,ada ⟨rfl,rfl⟩]
 have d1:an p a p=0:=by unfold an;grind
 have d2:0<an p a a:=by
  unfold an
  have h1:0<(a.2 - p.2)*(a.2 - p.2):=afn (by omega) (by omega)
  have h2:0<=(a.1 - p.1)*(a.1 - p.1):=by
   rcases agv 0 (a.1 - p.1) with h|h
   ·exact agh h h
   ·exact afK h h
  omega
 have d3:0<an p a b:=by
  unfold an
  unfold tm at h0
  have hab:0<(a.2 - p.2)*(b.2 - p.2):=afn (by omega) (by omega)
  have e:((b.1 - p.1)*(a.1 - p.1)+(b.2 - p.2)*(a.2 - p.2))*((a.2 - p.2)*(b.2 - p.2))=((a.1 - p.1)*(b.2 - p.2))*((a.1 - p.1)*(b.2 - p.2))+((a.2 - p.2)*(b.2 - p.2))*((a.2 - p.2)*(b.2 - p.2)):=by grind
  have h2:0<=((a.1 - p.1)*(b.2 - p.2))*((a.1 - p.1)*(b.2 - p.2)):=by
   rcases agv 0 ((a.1 - p.1)*(b.2 - p.2)) with h|h
   ·exact agh h h
   ·exact afK h h
  have h3:=afn hab hab
  have h4:0<((b.1 - p.1)*(a.1 - p.1)+(b.2 - p.2)*(a.2 - p.2))*((a.2 - p.2)*(b.2 - p.2)):=by omega
  exact Int.pos_of_mul_pos_left h4 hab
 rw[d1]
 rw[ac8 (by omega),ac8 (by omega)]
section
variable {g:Gr} {d:Dr} (h:yx g d)
include h
theorem Nc{x i k:Int}(hi:0<=i/\i<g.es.length)(hk:0<=k/\k<g.es.length)(xi:bt g i=x)(xk:bt g k=x)(hne:i≠k):mD d x i k\/mD d x k i:=by
 have key:∀ {i k:Int},(0<=i/\i<g.es.length)->(0<=k/\k<g.es.length)->bt g i=x->bt g k=x->k<i->yy d x i k≠0:=fun {i k} hi hk xi xk hlt e=>by
  have hx:bC (eD d x):=by
   have:=h.fst i.toNat (by omega)
   have e2:tl g i.toNat=x:=xi
   rw[e2]at this
   rw[<- this]
   exact h.qx _ (iN h hi.1 hi.2) _ (az (by have:=(h.len _ (iN h hi.1 hi.2)).1;show 0<(ff d i).length;omega))
  have li:=(h.len _ (iN h hi.1 hi.2)).1
  have lk:=(h.len _ (iN h hk.1 hk.2)).1
  have p1:=s6 (l:=ff d i) (k:=0) (by omega)
  have p2:=s6 (l:=ff d k) (k:=0) (by omega)
  have f1:(ff d i).getD 0 (0,0)=eD d x:=by rw[<- xi];exact h.fst i.toNat (by omega)
  have f2:(ff d k).getD 0 (0,0)=eD d x:=by rw[<- xk];exact h.fst k.toNat (by omega)
  have hb:=h.apart i.toNat k.toNat (by omega) (by omega) _ p1 _ p2
  rw[f1,f2]at hb
  have m2:=QF (p:=eD d x) (a:=jv d i) (b:=jv d k) hx (h.qx _ (iN h hi.1 hi.2) _ (az (by omega))) (h.qx _ (iN h hk.1 hk.2) _ (az (by omega))) (u6 h hi.1 hi.2 xi) (u6 h hk.1 hk.2 xk) (by
   have:yy d x i k=0:=e
   rw[BX]at this
   unfold yy at this
   omega)
  have m3:fF (eD d x) ((ff d i).getD (0+1) (0,0)) (eD d x) ((ff d k).getD (0+1) (0,0))=2:=m2
  unfold dH at hb
  simp only[m3]at hb
  simp at hb
 have e0:=BX (d:=d) (x:=x) (i:=i) (k:=k)
 rcases afz i k with hlt|he|hlt
 ·have:=key hk hi xk xi hlt
  unfold mD
  omega
 ·exact absurd he hne
 ·have:=key hi hk xi xk hlt
  unfold mD
  omega
end
structure Cv (p q:Pt) (y X:Rat):Prop where
 lo:(p.2:Rat)<=y
 hi:y<=(q.2:Rat)
 eq:(X - p.1)*(q.2 - p.2)=(q.1 - p.1)*(y - p.2)
theorem xx{p q r s:Pt}{y X:Rat}(h1:Cv p q y X)(h2:Cv r s y X):((ai p q r:Int):Rat)*(s.2 - r.2)=(r.2 - y)*((tm p q r s:Int):Rat):=by
 have e1:=h1.eq
 have e2:=h2.eq
 unfold ai tm
 push_cast
 grind
theorem Hf{p q r s:Pt}{y X:Rat}(h1:Cv p q y X)(h2:Cv r s y X):((ai p q s:Int):Rat)*(s.2 - r.2)=(s.2 - y)*((tm p q r s:Int):Rat):=by
 have e1:=h1.eq
 have e2:=h2.eq
 unfold ai tm
 push_cast
 grind
theorem gn{a b:Rat}(ha:a<=0)(hb:0<=b):a*b<=0:=by
 have:=aeB (show 0<= -a by grind) hb
 grind
theorem yz(a:Rat):0<=a*a:=by
 rcases(show 0<=a\/a<=0 from Rat.le_total) with h|h
 ·exact aeB h h
 ·have:=aeB (show 0<= -a by grind) (show 0<= -a by grind)
  grind
theorem K8{p q r s:Pt}{y X:Rat}(h1:Cv p q y X)(h2:Cv r s y X)(hr:r.2<s.2):ai p q r*ai p q s<=0:=by
 have a1:=xx h1 h2
 have a2:=Hf h1 h2
 have hp:(0:Rat)<s.2 - r.2:=by
  have:(r.2:Rat)<s.2:=by exact_mod_cast hr
  grind
 generalize ((tm p q r s:Int):Rat)=M at a1 a2
 have l1:=h2.lo
 have l2:=h2.hi
 have k:((ai p q r*ai p q s:Int):Rat)<=0:=by
  push_cast
  generalize ((ai p q r:Int):Rat)=A at a1 a2 ⊢
  generalize ((ai p q s:Int):Rat)=B at a1 a2 ⊢
  generalize hD:(s.2:Rat) - r.2=D at*
  have e:(A*B)*(D*D)=(((r.2:Rat) - y)*(s.2 - y))*(M*M):=by grind
  have n1:((r.2:Rat) - y)*(s.2 - y)<=0:=gn (by grind) (by grind)
  have n2:=gn n1 (yz M)
  have dp:0<D*D:=aeK hp hp
  refine afE.1 fun hn=> ?_
  have:=aeK hn dp
  grind
 exact_mod_cast k
theorem rz{p q c:Pt}(hu:p.2<q.2)(h:ai p q c=0)(h1:p.2<=c.2)(h2:c.2<=q.2):iz p q c=true:=by
 refine dK.2 ⟨h, ?_, ?_⟩
 ·have e:((p.1 - c.1)*(q.1 - c.1))*((q.2 - p.2)*(q.2 - p.2))= -(((q.1 - p.1)*(q.1 - p.1))*((c.2 - p.2)*(q.2 - c.2))):=by
   unfold ai at h
   grind
  refine cD (s:=q.2 - p.2) (by omega) ?_
  rw[e]
  have:=agh (sq_nonneg (q.1 - p.1)) (agh (show 0<=c.2 - p.2 by omega) (show 0<=q.2 - c.2 by omega))
  omega
 ·exact agB (by omega) (by omega)
theorem Nd{p q c:Pt}(hu:p.2<q.2)(h:iz p q c=true):p.2<=c.2/\c.2<=q.2/\ai p q c=0:=by
 obtain⟨h1,_,h3⟩:=dK.1 h
 refine⟨agy.1 fun hn=> ?_,agy.1 fun hn=> ?_,h1⟩
 ·have:=afn (show 0<p.2 - c.2 by omega) (show 0<q.2 - c.2 by omega)
  omega
 ·have:=afM (show p.2 - c.2<0 by omega) (show q.2 - c.2<0 by omega)
  omega
theorem dr{p q c:Pt}(hu:p.2<q.2)(h:iz p q c=true):Cv p q c.2 c.1:=by
 obtain⟨h1,h2,h3⟩:=Nd hu h
 refine⟨by exact_mod_cast h1,by exact_mod_cast h2, ?_⟩
 have e:(c.1 - p.1)*(q.2 - p.2)=(q.1 - p.1)*(c.2 - p.2):=by unfold ai at h3;grind
 exact_mod_cast e
theorem QG{p q c:Pt}(hu:p.2<q.2)(h:Cv p q c.2 c.1):iz p q c=true:=by
 have e:(c.1 - p.1)*(q.2 - p.2)=(q.1 - p.1)*(c.2 - p.2):=by have:=h.eq;exact_mod_cast this
 have h1:=h.lo
 have h2:=h.hi
 exact rz hu (by unfold ai;grind) (by exact_mod_cast h1) (by exact_mod_cast h2)
theorem QH{l:List (List Int)}{a b:List Int}(ha:a∈l)(hb:b∈l)(hne:a≠b):2<=l.length:=by
 match l,ha,hb with
 | [c],ha,hb=>simp at ha hb;exact absurd (ha.trans hb.symm) hne
 |_::_::_,_,_=>simp
theorem zY{p q r s:Pt}{y X:Rat}(h1:Cv p q y X)(h2:Cv r s y X)(hr:r.2<s.2)(hT:tm p q r s=0):ai p q r=0/\ai p q s=0:=by
 have a1:=xx h1 h2
 have a2:=Hf h1 h2
 rw[hT]at a1 a2
 have hp:(0:Rat)<s.2 - r.2:=by
  have:(r.2:Rat)<s.2:=by exact_mod_cast hr
  grind
 refine⟨?_, ?_⟩
 ·have:((ai p q r:Int):Rat)=0:=by
   generalize ((ai p q r:Int):Rat)=A at*
   push_cast at a1
   grind
  exact_mod_cast this
 ·have:((ai p q s:Int):Rat)=0:=by
   generalize ((ai p q s:Int):Rat)=A at*
   push_cast at a2
   grind
  exact_mod_cast this
theorem K9{p q:Pt}{y X:Rat}{c:Int}(h:Cv p q y X):((c:Rat)<=y->c<=q.2)/\(y<=(c:Rat)->p.2<=c):=by
 have h1:=h.lo
 have h2:=h.hi
 exact⟨fun h3=>by have:(c:Rat)<=q.2:=by grind
                  exact_mod_cast this,fun h3=>by have:(p.2:Rat)<=c:=by grind
                                                 exact_mod_cast this⟩
theorem QI{p q r s:Pt}{y X:Rat}(hu:p.2<q.2)(hr:r.2<s.2)(h1:Cv p q y X)(h2:Cv r s y X)(hT:tm p q r s=0):∃c,Cx p q r s c/\(c.2:Rat)<=y:=by
 have H7:tm r s p q=0:=by rw[zQ];omega
 have f1:=(zY h1 h2 hr hT).1
 have f2:=(zY h2 h1 hu H7).1
 rcases agv p.2 r.2 with h|h
 ·exact⟨r, .inr (.inr (.inl ⟨rz hu f1 h ((K9 h1).1 h2.lo),rfl⟩)),h2.lo⟩
 ·exact⟨p, .inl ⟨rz hr f2 h ((K9 h2).1 h1.lo),rfl⟩,h1.lo⟩
theorem VR{p q r s:Pt}{y X:Rat}(hu:p.2<q.2)(hr:r.2<s.2)(h1:Cv p q y X)(h2:Cv r s y X)(hT:tm p q r s=0):∃c,Cx p q r s c/\y<=(c.2:Rat):=by
 have H7:tm r s p q=0:=by rw[zQ];omega
 have f1:=(zY h1 h2 hr hT).2
 have f2:=(zY h2 h1 hu H7).2
 rcases agv q.2 s.2 with h|h
 ·exact⟨q, .inr (.inl ⟨rz hr f2 ((K9 h2).2 h1.hi) h,rfl⟩),h1.hi⟩
 ·exact⟨s, .inr (.inr (.inr ⟨rz hu f1 ((K9 h1).2 h2.hi) h,rfl⟩)),h2.hi⟩
theorem S6{p q r s:Pt}{y X:Rat}(hu:p.2<q.2)(hr:r.2<s.2)(h1:Cv p q y X)(h2:Cv r s y X):1<=c8 p q r s:=by
 by_cases hT:tm p q r s=0
 ·obtain⟨c,hc,_⟩:=QI hu hr h1 h2 hT
  have:0<(K4 p q r s).length:=ae7.2 (List.ne_nil_of_mem (jl.2 ⟨c,hc,rfl⟩))
  unfold c8
  rw[ada this]
  omega
 ·rw[kf hT,ada ⟨K8 h1 h2 hr,K8 h2 h1 hu⟩]
  omega
theorem Hg{p q r s:Pt}{y z X Z:Rat}(hu:p.2<q.2)(hr:r.2<s.2)(h1:Cv p q y X)(h2:Cv r s y X)(h3:Cv p q z Z)(h4:Cv r s z Z)(hyz:y<z):c8 p q r s=2:=by
 have hT:tm p q r s=0:=by
  have a1:=xx h1 h2
  have a2:=xx h3 h4
  have:((tm p q r s:Int):Rat)=0:=by
   generalize ((tm p q r s:Int):Rat)=M at*
   have:(z - y)*M=0:=by grind
   have:z - y≠0:=by grind
   grind
  exact_mod_cast this
 obtain⟨c,hc,c1⟩:=QI hu hr h1 h2 hT
 obtain⟨e,he,e1⟩:=VR hu hr h3 h4 hT
 have hne:key c≠key e:=fun h=>by
  have:c.2=e.2:=by unfold key at h;simp at h;exact h.2
  rw[this]at c1
  grind
 have:=QH (jl.2 ⟨c,hc,rfl⟩) (jl.2 ⟨e,he,rfl⟩) hne
 unfold c8
 rw[ada (by omega)]
 omega
theorem zZ{p q:Pt}{y X Z:Rat}(hu:p.2<q.2)(h1:Cv p q y X)(h2:Cv p q y Z):X=Z:=by
 have hp:(0:Rat)<q.2 - p.2:=by
  have:(p.2:Rat)<q.2:=by exact_mod_cast hu
  grind
 have e1:=h1.eq
 have e2:=h2.eq
 generalize (q.2:Rat) - p.2=D at*
 have:(X - Z)*D=0:=by grind
 grind
theorem zh{p q:Pt}{y:Rat}(hu:p.2<q.2)(h1:(p.2:Rat)<=y)(h2:y<=q.2):∃X,Cv p q y X:=by
 have hp:(0:Rat)<q.2 - p.2:=by
  have:(p.2:Rat)<q.2:=by exact_mod_cast hu
  grind
 refine⟨p.1+(q.1 - p.1)*(y - p.2) / (q.2 - p.2),h1,h2, ?_⟩
 generalize (q.2:Rat) - p.2=D at*
 grind
def rC(l:List Pt)(y X:Rat):Prop:=∃j,j+1<l.length/\Cv (l.getD j (0,0)) (l.getD (j+1) (0,0)) y X
def S7(l:List Pt):Prop:=∀k,k+1<l.length->(l.getD k (0,0)).2<(l.getD (k+1) (0,0)).2
theorem E8{l:List Pt}(h:S7 l){i:Nat} :∀ {j:Nat},i<j->j<l.length->(l.getD i (0,0)).2<(l.getD j (0,0)).2
 |j+1,hij,hj=>by
  have h1:=h j hj
  rcases adk i j with h2|h2
  ·have:=E8 h h2 (by omega)
   omega
  ·rw[show i=j by omega];exact h1
theorem BY{l:List Pt}(h:S7 l){i j:Nat}(hij:i<=j)(hj:j<l.length):(l.getD i (0,0)).2<=(l.getD j (0,0)).2:=by
 rcases adk i j with h2|h2
 ·exact ahd (E8 h h2 hj)
 ·rw[show i=j by omega];omega
theorem Dv{l:List Pt}(h:S7 l){y X Z:Rat}{i j:Nat}(hij:i<=j)(hj:j+1<l.length)(h1:Cv (l.getD i (0,0)) (l.getD (i+1) (0,0)) y X)(h2:Cv (l.getD j (0,0)) (l.getD (j+1) (0,0)) y Z):X=Z:=by
 rcases adk i j with hlt|hge
 ·have a1:=BY h (show i+1<=j by omega) (by omega)
  have a2:(l.getD j (0,0)).2<=(l.getD (i+1) (0,0)).2:=by
   have k1:=h1.hi
   have k2:=h2.lo
   have:((l.getD j (0,0)).2:Rat)<=(l.getD (i+1) (0,0)).2:=by grind
   exact_mod_cast this
  have hji:j=i+1:=by
   rcases adk (i+1) j with h3|h3
   ·have:=E8 h h3 (by omega);omega
   ·omega
  subst hji
  have u1:=h i (by omega)
  have u2:=h (i+1) (by omega)
  have hy:y=(l.getD (i+1) (0,0)).2:=by
   have k1:=h1.hi
   have k2:=h2.lo
   grind
  rw[hy]at h1 h2
  have c1:=dr u1 (c:=l.getD (i+1) (0,0)) (by rw[fV];exact eV)
  have c2:=dr u2 (c:=l.getD (i+1) (0,0)) eV
  exact(zZ u1 h1 c1).trans (zZ u2 c2 h2)
 ·obtain rfl:i=j:=by omega
  exact zZ (h i hj) h1 h2
theorem jw{l:List Pt}(h:S7 l){y X Z:Rat}(h1:rC l y X)(h2:rC l y Z):X=Z:=by
 obtain⟨i,hi,h1⟩:=h1
 obtain⟨j,hj,h2⟩:=h2
 rcases Nat.le_total i j with hij|hij
 ·exact Dv h hij hj h1 h2
 ·exact(Dv h hij hi h2 h1).symm
theorem s7{l:List Pt}{y:Int}(h0:(l.getD 0 (0,0)).2<=y):∀ {n:Nat},n<l.length->y<(l.getD n (0,0)).2->∃j,j+1<l.length/\(l.getD j (0,0)).2<=y/\y+1<=(l.getD (j+1) (0,0)).2
 |0,_,h=>absurd h0 (by omega)
 |n+1,hn,h=>by
  rcases Int.lt_or_le y (l.getD n (0,0)).2 with h1|h1
  ·exact s7 h0 (by omega) h1
  ·exact⟨n,hn,h1,by omega⟩
theorem VS{l:List Pt}(h:S7 l){y:Int}(hl:2<=l.length)(h0:(l.getD 0 (0,0)).2<=y)(h1:y<=(l.getD (l.length - 1) (0,0)).2):∃X,rC l y X:=by
 rcases Int.lt_or_le y (l.getD (l.length - 1) (0,0)).2 with h2|h2
 ·obtain⟨j,j1,j2,j3⟩:=s7 h0 (by omega) h2
  obtain⟨X,hX⟩:=zh (p:=l.getD j (0,0)) (q:=l.getD (j+1) (0,0)) (y:=(y:Rat)) (by omega) (by exact_mod_cast j2) (by exact_mod_cast (show y<=_ by omega))
  exact⟨X,j,j1,hX⟩
 ·obtain⟨m,hm⟩:∃m,l.length=m+2:=⟨l.length - 2,by omega⟩
  have hy:y=(l.getD (m+1) (0,0)).2:=by rw[hm]at h1 h2;simp only[Nat.add_sub_cancel,show m+2 - 1=m+1 by omega]at h1 h2;omega
  rw[hy]
  exact⟨_,m,by omega,dr (h m (by omega)) (by rw[fV];exact eV)⟩
theorem QJ{p q:Pt}{y t X1 X2:Rat}(hu:p.2<q.2)(h1:Cv p q y X1)(h2:Cv p q (y+1) X2)(t1:y<=t)(t2:t<=y+1):Cv p q t (X1+(X2 - X1)*(t - y)):=by
 have e1:=h1.eq
 have e2:=h2.eq
 have l1:=h1.lo
 have l2:=h2.hi
 refine⟨by grind,by grind, ?_⟩
 have:(X2 - X1)*((q.2:Rat) - p.2)=q.1 - p.1:=by grind
 grind
theorem Hh{l m:List Pt}(hl:S7 l)(hm:S7 m)(ll:2<=l.length)(lm:2<=m.length){y:Int}{X1 X2 Z1 Z2:Rat}
 (a1:rC l y X1) (b1:rC m y Z1) (a2:rC l (y+1:Int) X2) (b2:rC m (y+1:Int) Z2) (h1:X1<Z1) (h2:Z2<X2):∃t W:Rat,(y:Rat)<t/\t<(y+1:Int)/\rC l t W/\rC m t W:=by
 have lg:∀ {l:List Pt} {y:Int} {X:Rat},S7 l->rC l y X->(l.getD 0 (0,0)).2<=y/\y<=(l.getD (l.length - 1) (0,0)).2:=fun {l y X} hl h=>by
  obtain⟨j,hj,h⟩:=h
  have k1:=h.lo
  have k2:=h.hi
  have k3:(l.getD j (0,0)).2<=y:=by exact_mod_cast k1
  have k4:y<=(l.getD (j+1) (0,0)).2:=by exact_mod_cast k2
  have k5:=BY hl (afC j) (by omega)
  have k6:=BY hl (show j+1<=l.length - 1 by omega) (by omega)
  omega
 obtain⟨j,j1,j2,j3⟩:=s7 (lg hl a1).1 (n:=l.length - 1) (by omega) (by have:=(lg hl a2).2;omega)
 obtain⟨i,i1,i2,i3⟩:=s7 (lg hm b1).1 (n:=m.length - 1) (by omega) (by have:=(lg hm b2).2;omega)
 have uj:=hl j j1
 have ui:=hm i i1
 have cast:((y+1:Int):Rat)=(y:Rat)+1:=by push_cast;rfl
 obtain⟨x1,c1⟩:=zh (y:=(y:Rat)) uj (by exact_mod_cast j2) (by exact_mod_cast (show y<=_ by omega))
 obtain⟨x2,c2⟩:=zh (y:=((y+1:Int):Rat)) uj (by exact_mod_cast (show _<=y+1 by omega)) (by exact_mod_cast j3)
 obtain⟨z1,d1⟩:=zh (y:=(y:Rat)) ui (by exact_mod_cast i2) (by exact_mod_cast (show y<=_ by omega))
 obtain⟨z2,d2⟩:=zh (y:=((y+1:Int):Rat)) ui (by exact_mod_cast (show _<=y+1 by omega)) (by exact_mod_cast i3)
 obtain rfl:=jw hl a1 ⟨j,j1,c1⟩
 obtain rfl:=jw hl a2 ⟨j,j1,c2⟩
 obtain rfl:=jw hm b1 ⟨i,i1,d1⟩
 obtain rfl:=jw hm b2 ⟨i,i1,d2⟩
 rw[cast]at c2 d2
 obtain⟨u,hu⟩:∃u:Rat,u=(Z1 - X1) / ((Z1 - X1)+(X2 - Z2)):=⟨_,rfl⟩
 have hD:0<(Z1 - X1)+(X2 - Z2):=by grind
 have WT:u*((Z1 - X1)+(X2 - Z2))=Z1 - X1:=by grind
 have u0:0<u:=by
  refine Rat.not_le.1 fun hn=> ?_
  have:=gn hn (agj hD)
  grind
 have u1:u<1:=by
  refine Rat.not_le.1 fun hn=> ?_
  have:=aeB (show 0<=u - 1 by grind) (agj hD)
  grind
 refine⟨y+u,X1+(X2 - X1)*u,by grind,by rw[cast];grind,⟨j,j1, ?_⟩,⟨i,i1, ?_⟩⟩
 ·have:=QJ uj c1 c2 (t:=y+u) (by grind) (by grind)
  rwa [show(y:Rat)+u - y=u by grind]at this
 ·have:=QJ ui d1 d2 (t:=y+u) (by grind) (by grind)
  rw[show(y:Rat)+u - y=u by grind,show Z1+(Z2 - Z1)*u=X1+(X2 - X1)*u by grind]at this
  exact this
end Go.Ab
end
