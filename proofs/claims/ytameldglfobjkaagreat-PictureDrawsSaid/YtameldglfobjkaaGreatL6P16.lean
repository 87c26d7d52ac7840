/- A part of the proof. -/
import Derived.Test.YtameldglfobjkaaGreatL6P15
set_option linter.unusedSimpArgs false
set_option linter.unusedVariables false
section
set_option maxHeartbeats 4000000
set_option maxRecDepth 10000
namespace Go.Ab
attribute [local congr] ACall.congr gd.congr Ny.congr vcOps.congr
open Go.Proofs
def iS(g:Gr)(ws:List Int)(b:Int)(e:Int):Int:=if 0<ws.getD (tl g e.toNat).toNat 0/\(b<0\/tl g e.toNat<b) then tl g e.toNat else b
theorem Po(g:Gr)(ws:List Int)(b:Int)(i:Nat):iS g ws b (i:Int)=if 0<ws.getD (g.es.getD i (0,0)).1.toNat 0/\(b<0\/(g.es.getD i (0,0)).1<b) then(g.es.getD i (0,0)).1 else b:=rfl
def C3(g:Gr)(ws:List Int)(es:List Int):Int:=es.foldl (iS g ws) (-1)
def mU(g:Gr)(ws:List Int)(at_:Int):Int:=C3 g ws (qx g at_.toNat)
def pK(g:Gr)(ws:List Int):Nat->List Int->Int->List Int × Int
 |0,way,at_=>(way,at_)
 |f+1,way,at_=>if at_<0\/at_∈way then(way,at_) else pK g ws f (way++ [at_]) (mU g ws at_)
def nV(g:Gr):List Int × Int:=pK g (eS g (aZ g)) g.n.toNat [] (bT (fun n=>decide (0<n)) (eS g (aZ g)))
def qi(l:List Int):List Int:=l.drop (jg l (pJ l)).toNat++l.take (jg l (pJ l)).toNat
def nW(g:Gr):List Int:=if(nV g).2<0 then [] else qi ((nV g).1.drop (jg (nV g).1 (nV g).2).toNat).reverse
theorem Mp(n:Int):Spec Tryz.prog 163 (Args [eN n]) [] (eB (decide (0<n))) []:=by
 (refine T.h [] [] [.t 2] Tryz.func163 rfl rfl (by kernel_rfl) fun X hX hP hC aA bB=> ?_)
 repeat' (first|refine Rn.p ?_|((first|refine Rs.p ?_|with_reducible intro K hK|(refine hK _ ?_;clear hK K));try simp only[go_sem,simprocAttr]))
structure Way (g:Gr) (way:List Int):Prop where
 lo:∀x∈way,0<=x/\x<g.n
 fuel:way.length+left g way=g.n.toNat
theorem vU{g:Gr} :left g []=g.n.toNat:=by
 have:=(gP.nil g).fuel
 rw[List.length_nil,adT]at this
 exact this
theorem lX{g:Gr}{way:List Int}{a:Nat}(ha:a<g.n.toNat)(hn:(a:Int)∉way):left g way=left g (way++ [(a:Int)])+1:=by
 unfold left
 rw[<- qN (p:=fun y:Nat=> !decide ((y:Int)∈way)) (x:=a) (by simp[hn]) ha]
 congr 1
 refine afi fun y _=> ?_
 simp;omega
theorem Way.nil(g:Gr):Way g []:=⟨by simp,by rw[vU];simp⟩
theorem Way.next{g:Gr}{way:List Int}{a:Nat}(h:Way g way)(ha:a<g.n.toNat)(hn:(a:Int)∉way):Way g (way++ [(a:Int)]):=by
 refine⟨fun x hx=> ?_, ?_⟩
 ·rcases ac8.1 hx with hx|hx
  ·exact h.lo x hx
  ·simp at hx;omega
 ·have h1:=h.fuel
  have h2:=lX ha hn
  rw[adi,List.length_singleton];omega
theorem El{g:Gr}{x:Nat}{e:Int}(h:e∈qx g x):∃i:Nat,e=i/\i<g.es.length/\hd g i=x:=by
 simp only[qx,gU,ada,adI,adk,adb]at h
 obtain⟨i,⟨h1,h2⟩,rfl⟩:=h
 exact⟨i,rfl,h1,h2⟩
theorem Mq{α β:Type}{f:β->α->β}{b:β}{l:List α}{j:Nat}{x:α}(h:l[j]? =some x):(l.take (j+1)).foldl f b=f ((l.take j).foldl f b) x:=by
 rw[ad1,List.foldl_append,h];rfl
theorem yT{g:Gr}(hm:aM g=true)(ws:List Int):∀(l:List Int) (b:Int),(b= -1\/(0<=b/\b<g.n))->(∀e∈l,∃i:Nat,e=i/\i<g.es.length)->l.foldl (iS g ws) b= -1\/(0<=l.foldl (iS g ws) b/\l.foldl (iS g ws) b<g.n)
 | [],b,hb,_=>hb
 |e::l,b,hb,h=>by
  refine yT hm ws l _ ?_ fun e he=>h e (adz _ he)
  obtain⟨i,rfl,hi⟩:=h e adH
  obtain⟨⟨h1,h2⟩,_⟩:=cU hm hi
  unfold iS
  split
  ·exact .inr ⟨h1,h2⟩
  ·exact hb
theorem Pp{g:Gr}{x:Nat} :∀e∈qx g x,∃i:Nat,e=i/\i<g.es.length:=fun e he=>by
 obtain⟨i,h1,h2,_⟩:=El he;exact⟨i,h1,h2⟩
theorem nZ{g:Gr}{ws way:List Int}{a:Int}(h:a<0\/a∈way):∀f,pK g ws f way a=(way,a)
 |0=>rfl
 |f+1=>by simp only[pK];rw[ac9 h]
theorem fS{l:List Int}{x:Int}(h:x∈l):∃k:Nat,jg l x=k/\k<l.length/\l.getD k 0=x:=by
 rcases jK (f:=fun y:Int=>decide (x=y)) (l:=l) 0 with ⟨h1,h2⟩|⟨k,h1,h2,h3,_⟩
 ·exact absurd (h2 x h) (by simp)
 ·exact⟨k,h1,h2,(aek h3).symm⟩
theorem lZ:∀ {l:List Int},0<l.length->pJ l∈l
 |a::r,_=>by
  have:∀(r:List Int) (a:Int),r.foldl min a=a\/r.foldl min a∈r:=by
   intro r
   induction r with
   |nil=>intro a;exact .inl rfl
   |cons b r ih=>
    intro a
    simp only[List.foldl_cons]
    rcases ih (min a b) with h|h
    ·by_cases hab:a<=b
     ·left;rw[h];omega
     ·right;rw[h];simp;omega
    ·right;simp[h]
  rcases this r a with h|h
  ·simp[pJ,h]
  ·simp[pJ,h]
theorem ID(g:Gr)(hm:aM g=true):Spec Tryz.prog 114 (Args [.d (vw g)]) [] (.d (sI (nW g))) []:=by
 have hn:=aB hm
 have Y9:(eS g (aZ g)).length<=9223372036854775807:=by rw[wts_length];omega
 (refine T.h [30] [] [.t 2] Tryz.func114 rfl rfl (by kernel_rfl) fun X hX hP hC aA bB=> ?_)
 repeat' (first|refine Rn.p ?_|((first|refine Rs.p ?_|with_reducible intro K hK|(refine hK _ ?_;clear hK K)|refine aa (Pf g hm) rfl ?_|refine aa (zx cC.nil _ [] _ Mp (eS g (aZ g)) Y9) rfl ?_);try simp only[go_sem,simprocAttr]))
 (refine dQ hX 6 30 (.own 3 1 []) (by simp only[go_sem,simprocAttr]) (by simp only[go_sem,simprocAttr]) (by decide) ⟨3,1,by decide, .inl rfl⟩ ?_;simp only[go_sem,simprocAttr])
 refine ag (fun i:List Int × Int=>Way g i.1/\(i.2= -1\/(0<=i.2/\i.2<g.n))/\pK g (eS g (aZ g)) (left g i.1) i.1 i.2=nV g) (fun i=>⟨[(0, .d (vw g)),(4, .d (sI (eS g (aZ g)))),(5,eN i.2),(6, .ref 30)], [(30, .own 3 1 (i.1.map rI))]⟩) (fun i=>left g i.1) ([],bT (fun n=>decide (0<n)) (eS g (aZ g))) ⟨Way.nil g, ?_, ?_⟩ ?_ ?_
 ·rcases Gb (fun n:Int=>decide (0<n)) (eS g (aZ g)) with h|h
  ·exact .inl h
  ·rw[wts_length]at h;exact .inr (by simp only;omega)
 ·rw[vU];rfl
 ·(refine Le.of ?_ ?_<;>simp[go_sem,simprocAttr])
 rintro⟨way,at_⟩ ⟨Gj,qy,hrun⟩
 simp only at Gj qy hrun ⊢
 have hwl:way.length<=64:=by have:=Gj.fuel;omega
 have C4:way.length<=9223372036854775807:=by omega
 by_cases h0:at_<0
 ·have hb1:decide (0<=at_)=false:=ac5 (by omega)
  have hb3:decide (at_<0)=true:=ac6 h0
  have he:nW g= []:=by
   have:=nZ (g:=g) (ws:=eS g (aZ g)) (way:=way) (.inl h0) (left g way)
   rw[hrun]at this
   simp only[nW,this];rw[ac9 h0]
  repeat' (first|refine Rn.p ?_|((first|refine Rs.p ?_|with_reducible intro K hK|(refine hK _ ?_;clear hK K));try simp only[go_sem,simprocAttr,hb1,hb3]))
  rw[he];rfl
 obtain⟨a,rfl⟩:∃a:Nat,at_=a:=⟨at_.toNat,by omega⟩
 have Sk:a<g.n.toNat:=by omega
 have hb1:decide (0<=(a:Int))=true:=ac6 (by omega)
 by_cases hmem:(a:Int)∈way
 ·have hb2:decide ((a:Int)∈way)=true:=ac6 hmem
  have hb3:decide ((a:Int)<0)=false:=ac5 h0
  have hend:=nZ (g:=g) (ws:=eS g (aZ g)) (.inr hmem) (left g way)
  rw[hrun]at hend
  obtain⟨k,hk,cM,_⟩:=fS hmem
  obtain⟨rev,tU⟩:∃rev,rev=(way.drop k).reverse:=⟨_,rfl⟩
  have hrl:rev.length=way.length - k:=by rw[tU];simp
  have Ua:0<rev.length:=by omega
  have hrev:rev.length<=1000000:=by omega
  have XS:rev.length<=9223372036854775807:=by omega
  have hlr:(way.drop k).length<=1000000:=by simp;omega
  obtain⟨k2,hk2,acC,_⟩:=fS (lZ Ua)
  have hc1: [rev.drop k2,rev.take k2].length<=1000:=by simp
  have Pq:0< [rev.drop k2,rev.take k2].flatten.length:=by simp;omega
  have WD: [rev.drop k2,rev.take k2].flatten.length<=1000000:=by simp;omega
  have Vi:nW g= [rev.drop k2,rev.take k2].flatten:=by
   simp only[nW,hend]
   rw[ac7 h0,hk]
   simp only[Int.toNat_natCast, <- tU,qi,hk2,List.flatten_cons,List.flatten_nil,ad4]
  repeat' (first|(show cR _ (.seq (.region 20 _ _) _) _ _;(refine pG hX 75 rfl (.inr rfl) ?_;simp only[go_sem,simprocAttr,hb1,hb2,hb3,hk,hk2, <- List.map_take, <- List.map_drop,aee, <- tU,vL]))|refine Rn.p ?_|((first|refine Rs.p ?_|with_reducible intro K hK|(refine hK _ ?_;clear hK K)|(refine cr (dm way a C4) ?_ ?_ ?_;iterate 2 (focus(simp only[go_sem,simprocAttr,hb1,hb2,hb3,hk,hk2, <- List.map_take, <- List.map_drop,aee, <- tU,vL];done)))|(refine cr (iR way a C4) ?_ ?_ ?_;iterate 2 (focus(simp only[go_sem,simprocAttr,hb1,hb2,hb3,hk,hk2, <- List.map_take, <- List.map_drop,aee, <- tU,vL];done)))|(refine aS [(10000,75)] (Ei (way.drop k) hlr) ?_ ?_;(focus(simp[go_sem,simprocAttr,hb1,hb2,hb3,hk,hk2, <- List.map_take, <- List.map_drop,aee, <- tU,vL];done)))|(refine cr (Pj rev Ua hrev) ?_ ?_ ?_;iterate 2 (focus(simp only[go_sem,simprocAttr,hb1,hb2,hb3,hk,hk2, <- List.map_take, <- List.map_drop,aee, <- tU,vL];done)))|(refine cr (iR rev (pJ rev) XS) ?_ ?_ ?_;iterate 2 (focus(simp only[go_sem,simprocAttr,hb1,hb2,hb3,hk,hk2, <- List.map_take, <- List.map_drop,aee, <- tU,vL];done)))|(refine dN (yS [rev.drop k2,rev.take k2] hc1 Pq WD) ?_ rfl ?_;(focus(simp only[go_sem,simprocAttr,hb1,hb2,hb3,hk,hk2, <- List.map_take, <- List.map_drop,aee, <- tU,vL];done))));try simp only[go_sem,simprocAttr,hb1,hb2,hb3,hk,hk2, <- List.map_take, <- List.map_drop,aee, <- tU,vL])|with_reducible (first|apply And.intro|refine oD (by kernel_rfl) ?_)|omega)
  rw[Vi]
 ·have hb2:decide ((a:Int)∈way)=false:=ac5 hmem
  have hv:=qO (f:=(·.2)) Sk
  have NY:(qx g a).length<=g.es.length:=kZ
  repeat' (first|refine Rn.p ?_|((first|refine Rs.p ?_|with_reducible intro K hK|(refine hK _ ?_;clear hK K)|(refine cr (dm way a C4) ?_ ?_ ?_;iterate 2 (focus(simp only[go_sem,simprocAttr,hb1,hb2,hv,cm];done))));try simp only[go_sem,simprocAttr,hb1,hb2,hv,cm])|with_reducible (apply And.intro)|omega)
  refine ag (fun j:Nat=>j<=(qx g a).length) (fun j=>⟨[(39,eN j),(38,eN (qx g a).length),(37, .d (sI (qx g a))),(7,eN (C3 g (eS g (aZ g)) ((qx g a).take j))),(0, .d (WC g)),(4, .d (sI (eS g (aZ g)))),(6, .ref 30)], [(30, .own 3 1 ((way++ [(a:Int)]).map rI))]⟩) (fun j=>(qx g a).length - j) 0 (by simp) ?_ ?_
  ·refine Le.of ?_ ?_<;>simp[go_sem,simprocAttr,hb1,hb2,hv,cm,qx,rI,C3]
  rintro j hj
  rcases adj j (qx g a).length with hlt|hge
  ·have hb4:decide ((j:Int)<((qx g a).length:Int))=true:=ac6 (by omega)
   obtain⟨i,hi,hil,hit⟩:=El (ad2 hlt)
   have hi1:(qx g a)[j]? =some (i:Int):=by rw[acF hlt,hi]
   have hi2:(qx g a).getD j 0=(i:Int):=by rw[aas,hi1];rfl
   obtain⟨⟨Pg,yL⟩,_⟩:=cU hm hil
   have hstep:C3 g (eS g (aZ g)) ((qx g a).take (j+1))=iS g (eS g (aZ g)) (C3 g (eS g (aZ g)) ((qx g a).take j)) i:=Mq hi1
   rw[Po]at hstep
   repeat' (first|refine Rn.p ?_|((first|refine Rs.p ?_|with_reducible intro K hK|(refine hK _ ?_;clear hK K));try simp only[go_sem,simprocAttr,hb4,hi2,wts_length])|with_reducible (first|apply And.intro|(intro h;try simp only[go_sem,simprocAttr,hb4,hi2,wts_length]at h))|omega)
   all_goals(refine⟨j+1,by omega, ?_,by omega⟩;first|rw[ac9 (by omega)]at hstep|rw[ac7 (by omega)]at hstep)
   all_goals(refine Le.of ?_ ?_<;>simp[go_sem,simprocAttr,hb4,hi2,wts_length,hstep])
  ·have hb4:decide ((j:Int)<((qx g a).length:Int))=false:=ac5 (by omega)
   have ht:(qx g a).take j=qx g a:=adB (by omega)
   repeat' (first|refine Rn.p ?_|((first|refine Rs.p ?_|with_reducible intro K hK|(refine hK _ ?_;clear hK K));try simp only[go_sem,simprocAttr,hb4,ht]))
   refine⟨(way++ [(a:Int)],mU g (eS g (aZ g)) a),⟨Gj.next Sk hmem,yT hm _ _ _ (.inl rfl) Pp, ?_⟩, ?_, ?_⟩
   ·simp only
    rw[<- hrun,lX Sk hmem]
    simp only[pK]
    rw[ac7 (by intro h;rcases h with h|h;omega;exact hmem h)]
   ·refine Le.of ?_ ?_<;>simp[go_sem,simprocAttr,hb4,ht,mU]
   ·have:=lX Sk hmem;simp only;omega
def eF(f:Int × Int × List Int):AV:= .agg [eN f.1,eN f.2.1, .d (sI f.2.2)]
attribute [go_sem] eF
def l7(g:Gr):Int:=bT (fun e:Edge=>decide (e.1=e.2)) g.es
def uH(g:Gr)(i:Nat):Bool:=decide (g.es.getD i (0,0)∈g.es.take i)
def fC(g:Gr):Int:=bT (uH g) (List.range g.es.length)
def iT(g:Gr)(cyc bare:List Int):Int × Int × List Int:=
 if aM g=false then(1,0, []) else
 if 0<=l7 g then(13,l7 g, []) else
 if 0<=fC g then(14,fC g, []) else
 if 0<cyc.length then(15,0,cyc) else
 if 1<bare.length then(16,0,bare.take 2) else(0,0, [])
def bX(g:Gr):Int × Int × List Int:=iT g (nW g) (bZ (·.2) g)
theorem C5(e:Edge):Spec Tryz.prog 112 (Args [eE e]) [] (eB (decide (e.1=e.2))) []:=by
 (refine T.h [] [] [.t 2] Tryz.func112 rfl rfl (by kernel_rfl) fun X hX hP hC aA bB=> ?_)
 repeat' (first|refine Rn.p ?_|((first|refine Rs.p ?_|with_reducible intro K hK|(refine hK _ ?_;clear hK K));try simp only[go_sem,simprocAttr]))
theorem dB{n k:Nat}(h:k<n)(d:Nat):(List.range n).getD k d=k:=by
 simp[aas,adp h]
theorem iE(g:Gr)(hl:g.es.length<=1000):Spec Tryz.prog 65 (Args [eG g]) [] (eF (bX g)) []:=by
 have hl:g.es.length<=9223372036854775807:=by omega
 (refine T.h [] [] [.c 2 64] Tryz.func65 rfl rfl (by kernel_rfl) fun X hX hP hC aA bB=> ?_)
 cases hm:aM g with
 |false=>
  repeat' (first|refine Rn.p ?_|((first|refine Rs.p ?_|with_reducible intro K hK|(refine hK _ ?_;clear hK K)|refine aa (qJ g hl) rfl ?_);try simp only[go_sem,simprocAttr,hm])|with_reducible (apply And.intro))
  all_goals simp[bX,iT,hm]
 |true=>
 have hn:=aB hm
 by_cases hlo:0<=l7 g
 ·have hb1:decide (0<=bT (fun p:Edge=>decide (p.1=p.2)) g.es)=true:=ac6 hlo
  repeat' (first|refine Rn.p ?_|((first|refine Rs.p ?_|with_reducible intro K hK|(refine hK _ ?_;clear hK K)|refine aa (qJ g hl) rfl ?_|refine aa (iy cC.nil _ [] _ C5 g.es hl) rfl ?_);try simp only[go_sem,simprocAttr,hm,hb1])|with_reducible (apply And.intro))
  all_goals(
   have hc:bX g=(13,l7 g, []):=by
    simp only[bX,iT];rw[ac7 (by simp[hm]),ac9 hlo]
   rw[hc]<;>rfl)
 have hb1:decide (0<=bT (fun p:Edge=>decide (p.1=p.2)) g.es)=false:=ac5 hlo
 repeat' (first|refine Rn.p ?_|((first|refine Rs.p ?_|with_reducible intro K hK|(refine hK _ ?_;clear hK K)|refine aa (qJ g hl) rfl ?_|refine aa (iy cC.nil _ [] _ C5 g.es hl) rfl ?_);try simp only[go_sem,simprocAttr,hm,hb1]))
 refine ag (fun k:Nat=>k<=g.es.length/\∀j,j<k->uH g j=false) (fun k=>⟨[(23,eN k),(22,eN g.es.length),(21, .d (sE g.es)),(1, .ptr 1 0),(2, .ptr 2 0)], [(1, .box [eN g.n, .d (sE g.es)]),(2, .box [eN 0,eN 0, .nil 3])]⟩) (fun k=>g.es.length - k) 0 (by simp) ?_ ?_
 ·(refine Le.of ?_ ?_<;>simp[go_sem,simprocAttr,hm,hb1])
 rintro k ⟨hk,Pr⟩
 rcases adj k g.es.length with hlt|hge
 ·have hb2:decide ((k:Int)<(g.es.length:Int))=true:=ac6 (by omega)
  have hlk:(g.es.take k).length<=9223372036854775807:=by rw[adG];omega
  repeat' (first|refine Rn.p ?_|((first|refine Rs.p ?_|with_reducible intro K hK|(refine hK _ ?_;clear hK K)|refine aa (AZ (g.es.take k) (g.es.getD k (0,0)) hlk) rfl ?_);try simp only[go_sem,simprocAttr,hm,hb1,hb2, <- List.map_take])|with_reducible (first|apply And.intro|refine oD (by kernel_rfl) ?_|(intro h;try simp only[go_sem,simprocAttr,hm,hb1,hb2, <- List.map_take]at h))|omega)
  any_goals (
   have htI:fC g=(k:Int):=b9 (d:=0) (by simpa using hlt) (fun j hj=>by rw[dB (by omega)];exact Pr j hj) (by rw[dB hlt];exact ac6 h)
   have hc:bX g=(14,fC g, []):=by
    simp only[bX,iT];rw[ac7 (by simp[hm]),ac7 hlo,ac9 (by omega)]
   rw[hc]<;>first|rfl|exact htI.symm)
  refine⟨k+1,⟨by omega,fun j hj=> ?_⟩, ?_,by omega⟩
  ·by_cases hjk:j=k
   ·subst hjk;exact ac5 h
   ·exact Pr j (by omega)
  ·(refine Le.of ?_ ?_<;>simp[go_sem,simprocAttr,hm,hb1,hb2, <- List.map_take])
 ·have hb2:decide ((k:Int)<(g.es.length:Int))=false:=ac5 (by omega)
  have Pu:¬0<=fC g:=by
   have:fC g= -1:=bL 0 fun j hj=>by
    rw[ae2]at hj
    rw[dB hj];exact Pr j (by omega)
   omega
  repeat' (first|refine Rn.p ?_|((first|refine Rs.p ?_|with_reducible intro K hK|(refine hK _ ?_;clear hK K)|refine aa (sx g hm) rfl ?_|refine aa (ID g hm) rfl ?_|refine aa (Ek g hm) rfl ?_);try simp only[go_sem,simprocAttr,hm,hb1,hb2])|with_reducible (first|apply And.intro|(intro h;try simp only[go_sem,simprocAttr,hm,hb1,hb2]at h))|omega)
  all_goals(
   have hc:bX g=if 0<(nW g).length then(15,0,nW g) else if 1<(bZ (·.2) g).length then(16,0,(bZ (·.2) g).take 2) else(0,0, []):=by
    simp only[bX,iT];rw[ac7 (by simp[hm]),ac7 hlo,ac7 Pu]
   first|rw[ac9 (by omega)]at hc|(rw[ac7 (by omega)]at hc;first|rw[ac9 (by omega)]at hc|rw[ac7 (by omega)]at hc)
   rw[hc]<;>first|rfl|simp only[aeu])
theorem Gk(ps:List Int)(x:Int)(hl:ps.length<=9223372036854775807):
 Spec Tryz.prog 196 (Args [.d (sI ps),eN x]) [] (eN (jg ps x)) []:=by
 (refine T.h [] [] [.t 4] Tryz.func196 rfl rfl (by kernel_rfl) fun X hX hP hC aA bB=> ?_)
 repeat' (first|refine Rn.p ?_|((first|refine Rs.p ?_|with_reducible intro K hK|(refine hK _ ?_;clear hK K));try simp only[go_sem,simprocAttr]))
 refine ag (fun k:Nat=>k<=ps.length/\∀j,j<k->decide (x=ps.getD j 0)=false) (fun k=>⟨[(0, .d (sI ps)),(1,eN x),(5,eN k)], []⟩) (fun k=>ps.length - k) 0 (by simp) ?_ ?_
 ·(refine⟨bS ?_,fun _ _ h=>h⟩;simp[go_sem,simprocAttr])
 rintro k ⟨hk,hg⟩
 repeat' (first|refine Rn.p ?_|((first|refine Rs.p ?_|with_reducible intro K hK|(refine hK _ ?_;clear hK K));try simp only[go_sem,simprocAttr])|with_reducible (first|apply And.intro|(intro h;try simp only[go_sem,simprocAttr]at h))|omega)
 ·exact(b9 (by omega) hg (by simpa using h.symm)).symm
 ·refine⟨k+1,⟨by omega,fun j hj=> ?_⟩, ?_,by omega⟩
  ·by_cases hjk:j=k
   ·subst hjk;exact fun e=>h (Eq.symm e)
   ·simpa using hg j (by omega)
  ·(refine⟨bS ?_,fun _ _ h=>h⟩;simp[go_sem,simprocAttr])
 ·exact(bL 0 fun j hj=>hg j (by omega)).symm
def aJ(f:Edge->Int)(es:List Edge)(k:Nat)(x:Int):List Int:=((List.range k).filter fun i=>decide (f (es.getD i (0,0))=x)).map Int.ofNat
theorem oe(f:Edge->Int)(es:List Edge)(k x:Nat):gU f es k x=aJ f es k (x:Int):=rfl
theorem iU{f:Edge->Int}{es:List Edge}{k:Nat}{x:Int} :(aJ f es k x).length<=k:=by
 simpa[aJ]using aeH (fun i=>decide (f (es.getD i (0,0))=x)) (List.range k)
theorem A6{f:Edge->Int}{es:List Edge}{k:Nat}{x:Int} :aJ f es (k+1) x=aJ f es k x++if f (es.getD k (0,0))=x then [(k:Int)] else []:=by
 simp only[aJ,adV,ad8,ads,aeD,List.filter_nil]
 split<;>simp_all
def tF(b:Bool)(e:Edge):Int:=if b then e.1 else e.2
theorem Mr(g:Gr)(x:Int)(b:Bool)(hl:g.es.length<=1000):Spec Tryz.prog 55 (Args [eG g,eN x,eB b]) [] (.d (sI (aJ (tF b) g.es g.es.length x))) []:=by
 (refine T.h [] [] [.t 6] Tryz.func55 rfl rfl (by kernel_rfl) fun X hX hP hC aA bB=> ?_)
 repeat' (first|refine Rn.p ?_|((first|refine Rs.p ?_|with_reducible intro K hK|(refine hK _ ?_;clear hK K));try simp only[go_sem,simprocAttr]))
 (refine uC hX 7 9 45 (by simp only[go_sem,simprocAttr]) rfl (by first|exact .inl rfl|exact .inr rfl) (by decide) ?_;simp only[go_sem,simprocAttr])
 refine ag (fun k:Nat=>k<=g.es.length) (fun k=>⟨[(1,eN x),(2,eB b),(3, .ptr 3 0),(8,eN k),(7, .ref 45)], [(3, .box [eN g.n, .d (sE g.es)]),(45, .tip 3 1 ((aJ (tF b) g.es k x).map rI))]⟩) (fun k=>g.es.length - k) 0 (by simp) ?_ ?_
 ·refine Le.of ?_ ?_<;>simp[go_sem,simprocAttr,aJ]
 rintro k hk
 rcases adj k g.es.length with hlt|hge
 ·have hb:decide ((k:Int)<(g.es.length:Int))=true:=ac6 (by omega)
  have iF:=iU (f:=tF b) (es:=g.es) (k:=k) (x:=x)
  cases b
  ·have dw:aJ (tF false) g.es (k+1) x=aJ (tF false) g.es k x++if(g.es.getD k (0,0)).2=x then [(k:Int)] else []:=A6
   repeat' (first|refine Rn.p ?_|((first|refine Rs.p ?_|with_reducible intro K hK|(refine hK _ ?_;clear hK K));try simp only[go_sem,simprocAttr,hb])|with_reducible (first|apply And.intro|(intro h;try simp only[go_sem,simprocAttr,hb]at h))|omega)
   all_goals(first|rw[ac9 (by assumption)]at dw|rw[ac7 (by assumption),ad4]at dw)
   all_goals(refine⟨k+1,by omega, ?_,by omega⟩;refine Le.of ?_ ?_<;>simp[go_sem,simprocAttr,hb,dw,rI])
  ·have dw:aJ (tF true) g.es (k+1) x=aJ (tF true) g.es k x++if(g.es.getD k (0,0)).1=x then [(k:Int)] else []:=A6
   repeat' (first|refine Rn.p ?_|((first|refine Rs.p ?_|with_reducible intro K hK|(refine hK _ ?_;clear hK K));try simp only[go_sem,simprocAttr,hb])|with_reducible (first|apply And.intro|(intro h;try simp only[go_sem,simprocAttr,hb]at h))|omega)
   all_goals(first|rw[ac9 (by assumption)]at dw|rw[ac7 (by assumption),ad4]at dw)
   all_goals(refine⟨k+1,by omega, ?_,by omega⟩;refine Le.of ?_ ?_<;>simp[go_sem,simprocAttr,hb,dw,rI])
 ·have hb:decide ((k:Int)<(g.es.length:Int))=false:=ac5 (by omega)
  obtain rfl:k=g.es.length:=by omega
  repeat' (first|refine Rn.p ?_|((first|refine Rs.p ?_|with_reducible intro K hK|(refine hK _ ?_;clear hK K));try simp only[go_sem,simprocAttr,hb]))
theorem Em(g:Gr)(b:Bool)(hl:g.es.length<=1000)(hn:0<=g.n/\g.n<=1000):Spec Tryz.prog 17 (Args [eG g,eB b]) [] (.d (sI (bZ (tF (!b)) g))) []:=by
 (refine T.h [] [] [.t 4] Tryz.func17 rfl rfl (by kernel_rfl) fun X hX hP hC aA bB=> ?_)
 repeat' (first|refine Rn.p ?_|((first|refine Rs.p ?_|with_reducible intro K hK|(refine hK _ ?_;clear hK K));try simp only[go_sem,simprocAttr]))
 (refine uC hX 5 7 24 (by simp only[go_sem,simprocAttr]) rfl (by first|exact .inl rfl|exact .inr rfl) (by decide) ?_;simp only[go_sem,simprocAttr])
 refine ag (fun k:Nat=>k<=g.n.toNat) (fun k=>⟨[(1,eB b),(2, .ptr 2 0),(6,eN k),(5, .ref 24)], [(2, .box [eN g.n, .d (sE g.es)]),(24, .tip 3 1 ((lW (eR (tF (!b)) g) k).map rI))]⟩) (fun k=>g.n.toNat - k) 0 (by simp) ?_ ?_
 ·refine Le.of ?_ ?_<;>simp[go_sem,simprocAttr,lW]
 rintro k hk
 rcases adj k g.n.toNat with hlt|hge
 ·have hb:decide ((k:Int)<g.n)=true:=ac6 (by omega)
  have iF:=C1 (ls:=eR (tF (!b)) g) (k:=k)
  have he:(eR (tF (!b)) g).getD k []=aJ (tF (!b)) g.es g.es.length (k:Int):=by
   simp[eR,aas,adp hlt,oe]
  have dw:=uG (ls:=eR (tF (!b)) g) (k:=k)
  rw[he]at dw
  repeat' (first|refine Rn.p ?_|((first|refine Rs.p ?_|with_reducible intro K hK|(refine hK _ ?_;clear hK K)|refine aa (Mr g (k:Int) (!b) hl) rfl ?_);try simp only[go_sem,simprocAttr,hb])|with_reducible (first|apply And.intro|(intro h;try simp only[go_sem,simprocAttr,hb]at h))|omega)
  all_goals(first|rw[ac9 (by omega)]at dw|rw[ac7 (by omega),ad4]at dw)
  all_goals(refine⟨k+1,by omega, ?_,by omega⟩;refine Le.of ?_ ?_<;>simp[go_sem,simprocAttr,hb,dw,rI])
 ·have hb:decide ((k:Int)<g.n)=false:=ac5 (by omega)
  obtain rfl:k=g.n.toNat:=by omega
  repeat' (first|refine Rn.p ?_|((first|refine Rs.p ?_|with_reducible intro K hK|(refine hK _ ?_;clear hK K));try simp only[go_sem,simprocAttr,hb]))
  rfl
def rB(b:Bool):List D:= [.sc (.bool b)]
def sB(l:List Bool):D:= .sl 1 (l.map rB)
theorem getD_rB(l:List Bool)(i:Nat):(l.map rB).getD i [.sc (.bool false)]= [.sc (.bool (l.getD i false))]:=by
 simp only[aas,adm]
 cases l[i]? <;>rfl
attribute [go_sem] getD_rB sB
theorem IE(l:List Bool)(k:Nat)(v:Bool):(l.map rB).set k [.sc (.bool v)]=(l.set k v).map rB:=by
 rw[aeR];rfl
theorem C6{α:Type}{n k:Nat}{f:Nat->α}{v:α} :((List.range n).map f).set k v=(List.range n).map fun y=>if y=k then v else f y:=by
 refine adY fun i=> ?_
 rw[aea,adn,ae2]
 by_cases hi:i<n
 ·rw[adm,adm,adp hi]
  by_cases h:k=i
  ·subst h;simp[hi]
  ·have:¬i=k:=fun e=>h e.symm
   simp[h,this]
 ·rw[ado (by simp;omega),ado (by simp;omega)]
  split
  ·rw[ac7 (by omega)]
  ·rfl
def qj(n k:Nat):List Bool:=(List.range n).map fun y=>decide (y<k)
def gV(g:Gr)(l:List Bool)(j:Nat):List Bool:=(List.range g.n.toNat).map fun y:Nat=>(List.range j).any fun i=>decide (hd g i=(y:Int))&&(l.getD (tl g i).toNat false&&l.getD (hd g i).toNat false)
def iW(g:Gr):Nat->List Bool
 |0=>qj g.n.toNat g.n.toNat
 |k+1=>gV g (iW g k) g.es.length
theorem trueK_length{n k:Nat} :(qj n k).length=n:=by simp[qj]
theorem nextK_length{g:Gr}{l:List Bool}{j:Nat} :(gV g l j).length=g.n.toNat:=by simp[gV]
theorem leftK_length{g:Gr}{k:Nat} :(iW g k).length=g.n.toNat:=by
 cases k
 ·exact trueK_length
 ·exact nextK_length
theorem IF{n:Nat} :List.replicate n [D.sc (.bool false)]=(qj n 0).map rB:=by
 refine adY fun i=> ?_
 by_cases hi:i<n
 ·simp[qj,hi,rB,adp hi]
 ·rw[ado (by simp;omega),ado (by simp[qj];omega)]
theorem IG{n k:Nat} :(qj n k).set k true=qj n (k+1):=by
 unfold qj;rw[C6]
 refine ae5 fun y _=> ?_
 split
 ·rename_i h;subst h;simp
 ·rename_i h
  rw[ad0];simp;omega
theorem II{g:Gr}{l:List Bool} :List.replicate g.n.toNat [D.sc (.bool false)]=(gV g l 0).map rB:=by
 refine adY fun i=> ?_
 by_cases hi:i<g.n.toNat
 ·simp[gV,hi,rB,adp hi]
 ·rw[ado (by simp;omega),ado (by simp[gV];omega)]
theorem Ms{g:Gr}{l:List Bool}{j:Nat}(h0:0<=hd g j)(h:(l.getD (tl g j).toNat false&&l.getD (hd g j).toNat false)=true):(gV g l j).set (hd g j).toNat true=gV g l (j+1):=by
 unfold gV;rw[C6]
 refine ae5 fun y _=> ?_
 rw[adV,agY]
 simp only[List.any_cons,List.any_nil,h,aeY,afp]
 split
 ·rename_i e
  have:hd g j=(y:Int):=by omega
  simp[this]
 ·rename_i e
  have:¬hd g j=(y:Int):=by omega
  simp[this]
theorem Pv{g:Gr}{l:List Bool}{j:Nat}(h:(l.getD (tl g j).toNat false&&l.getD (hd g j).toNat false)=false):gV g l j=gV g l (j+1):=by
 unfold gV
 refine ae5 fun y _=> ?_
 rw[adV,agY]
 simp only[List.any_cons,List.any_nil,h,afR,afp]
attribute [go_sem] trueK_length nextK_length leftK_length
theorem Mt(g:Gr)(hm:aM g=true):Spec Tryz.prog 195 (Args [eG g]) [] (.d (sB (iW g g.n.toNat))) []:=by
 have hn:=aB hm
 (refine T.h [] [] [.t 2] Tryz.func195 rfl rfl (by kernel_rfl) fun X hX hP hC aA bB=> ?_)
 repeat' (first|refine Rn.p ?_|((first|refine Rs.p ?_|with_reducible intro K hK|(refine hK _ ?_;clear hK K));try simp only[go_sem,simprocAttr])|with_reducible (apply And.intro)|omega)
 refine ag (fun k:Nat=>k<=g.n.toNat) (fun k=>⟨[(1, .ptr 1 0),(4,eN k),(3, .ref 11)], [(1, .box [eN g.n, .d (sE g.es)]),(11, .own 4 1 ((qj g.n.toNat k).map rB))]⟩) (fun k=>g.n.toNat - k) 0 (by simp) ?_ ?_
 ·refine Le.of ?_ ?_<;>simp[go_sem,simprocAttr]
  exact IF
 rintro k hk
 rcases adj k g.n.toNat with hlt|hge
 ·have hb:decide ((k:Int)<g.n)=true:=ac6 (by omega)
  repeat' (first|refine Rn.p ?_|((first|refine Rs.p ?_|with_reducible intro K hK|(refine hK _ ?_;clear hK K));try simp only[go_sem,simprocAttr,hb,IE,IG])|with_reducible (apply And.intro)|omega)
  refine⟨k+1,by omega, ?_,by omega⟩
  (refine Le.of ?_ ?_<;>simp[go_sem,simprocAttr])
 ·have hb:decide ((k:Int)<g.n)=false:=ac5 (by omega)
  obtain rfl:k=g.n.toNat:=by omega
  repeat' (first|(show cR _ (.seq (.region 6 _ _) _) _ _;(refine pG hX 11 rfl (.inl rfl) ?_;simp only[go_sem,simprocAttr,hb]))|refine Rn.p ?_|((first|refine Rs.p ?_|with_reducible intro K hK|(refine hK _ ?_;clear hK K));try simp only[go_sem,simprocAttr,hb]))
  clear hb hk hge
  refine ag (fun k:Nat=>k<=g.n.toNat) (fun k=>⟨[(1, .ptr 1 0),(5,eN k),(3, .d (sB (iW g k)))], [(1, .box [eN g.n, .d (sE g.es)])]⟩) (fun k=>g.n.toNat - k) 0 (by simp) ?_ ?_
  ·refine Le.of ?_ ?_<;>simp[go_sem,simprocAttr,iW]
  rintro k hk
  rcases adj k g.n.toNat with hlt|hge
  ·have hb:decide ((k:Int)<g.n)=true:=ac6 (by omega)
   repeat' (first|refine Rn.p ?_|((first|refine Rs.p ?_|with_reducible intro K hK|(refine hK _ ?_;clear hK K));try simp only[go_sem,simprocAttr,hb])|with_reducible (apply And.intro)|omega)
   refine ag (fun j:Nat=>j<=g.es.length) (fun j=>⟨[(1, .ptr 1 0),(5,eN k),(3, .d (sB (iW g k))),(7,eN j),(6, .ref 29)], [(1, .box [eN g.n, .d (sE g.es)]),(29, .own 4 1 ((gV g (iW g k) j).map rB))]⟩) (fun j=>g.es.length - j) 0 (by simp) ?_ ?_
   ·refine Le.of ?_ ?_<;>simp[go_sem,simprocAttr]
    exact II
   rintro j hj
   rcases adj j g.es.length with hjl|WE
   ·have hb2:decide ((j:Int)<(g.es.length:Int))=true:=ac6 (by omega)
    obtain⟨⟨Pg,yL⟩,⟨Cu,yM⟩⟩:=cU hm hjl
    repeat' (first|refine Rn.p ?_|((first|refine Rs.p ?_|with_reducible intro K hK|(refine hK _ ?_;clear hK K));try simp only[go_sem,simprocAttr,hb2,IE])|with_reducible (first|apply And.intro|(intro h;try simp only[go_sem,simprocAttr,hb2,IE]at h))|omega)
    ·have hy:(gV g (iW g k) j).set (g.es.getD j (0,0)).2.toNat true=gV g (iW g k) (j+1):=Ms Cu (by rw[adf];exact⟨by assumption,by assumption⟩)
     refine⟨j+1,by omega, ?_,by omega⟩
     refine Le.of ?_ ?_<;>simp[go_sem,simprocAttr]
     rw[<- hy,aeR];rfl
    all_goals(
     have hy:gV g (iW g k) j=gV g (iW g k) (j+1):=Pv (aeS.2 (by first|exact .inl (by assumption)|exact .inr (by assumption)))
     refine⟨j+1,by omega, ?_,by omega⟩
     refine Le.of ?_ ?_<;>simp[go_sem,simprocAttr, <- hy])
   ·have hb2:decide ((j:Int)<(g.es.length:Int))=false:=ac5 (by omega)
    obtain rfl:j=g.es.length:=by omega
    repeat' (first|(show cR _ (.region 8 _ _) _ _;(refine pG hX 29 rfl (.inl rfl) ?_;simp only[go_sem,simprocAttr,hb2]))|refine Rn.p ?_|((first|refine Rs.p ?_|with_reducible intro K hK|(refine hK _ ?_;clear hK K));try simp only[go_sem,simprocAttr,hb2])|with_reducible (apply And.intro)|omega)
    refine⟨k+1,by omega, ?_,by omega⟩
    refine Le.of ?_ ?_<;>simp[go_sem,simprocAttr,iW]
  ·have hb:decide ((k:Int)<g.n)=false:=ac5 (by omega)
   obtain rfl:k=g.n.toNat:=by omega
   repeat' (first|refine Rn.p ?_|((first|refine Rs.p ?_|with_reducible intro K hK|(refine hK _ ?_;clear hK K));try simp only[go_sem,simprocAttr,hb]))
def En(g:Gr):List Bool:=iW g g.n.toNat
theorem Vj{g:Gr} :iW g g.n.toNat=En g:=rfl
def RQ(g:Gr):Int:=if bT (fun b:Bool=>b) (En g)<0 then g.n else bT (fun b:Bool=>b) (En g)
def Eo(g:Gr)(x:Int)(b:Int)(i:Nat):Int:=if hd g i=x/\(En g).getD (tl g i).toNat false=true then min b (tl g i) else b
def fT(g:Gr)(x:Int)(k:Nat):Int:=(List.range k).foldl (Eo g x) g.n
def uI(g:Gr):Nat->List Int->Int->List Int × Int
 |0,way,x=>(way,x)
 |f+1,way,x=>if x∈way then(way,x) else uI g f (way++ [x]) (fT g x g.es.length)
def gx(g:Gr):Gr:=⟨g.n+1,g.es⟩
def vV(g:Gr):List Int × Int:=uI g (g.n.toNat+1) [] (RQ g)
def zy(l:List Int)(m k:Nat):List Int:=(List.range k).map fun i=>l.getD ((m+l.length - i) % l.length) 0
def C7(l:List Int):List Int:=zy l (jg l (pJ l)).toNat l.length
def qP(g:Gr):List Int:=if RQ g=g.n then [] else C7 ((vV g).1.drop (jg (vV g).1 (vV g).2).toNat)
theorem uJ{g:Gr}{x:Int}{k:Nat} :fT g x (k+1)=Eo g x (fT g x k) k:=by
 simp[fT,adV]
theorem yU{g:Gr}(hm:aM g=true){x:Int} :∀ {k:Nat},k<=g.es.length->0<=fT g x k/\fT g x k<=g.n
 |0,_=>by have:=aB hm;simp[fT];omega
 |k+1,h=>by
  have ih:=yU hm (x:=x) (k:=k) (by omega)
  obtain⟨⟨h1,h2⟩,_⟩:=cU hm (k:=k) (by omega)
  rw[uJ];unfold Eo tl
  split<;>omega
theorem Mu{l:List Int}{m k:Nat} :zy l m (k+1)=zy l m k++ [l.getD ((m+l.length - k) % l.length) 0]:=by
 simp[zy,adV]
theorem Gl{g:Gr}{way:List Int}{a:Int}(h:a∈way):∀f,uI g f way a=(way,a)
 |0=>rfl
 |f+1=>by simp only[uI];rw[ac9 h]
theorem Ep:∀ {l:List Int} {x:Int},x∈l->pJ l<=x
 |a::r,x,h=>by
  have:∀(r:List Int) (a:Int),r.foldl min a<=a/\∀x∈r,r.foldl min a<=x:=by
   intro r
   induction r with
   |nil=>intro a;exact⟨afP _,by simp⟩
   |cons b r ih=>
    intro a
    obtain⟨h1,h2⟩:=ih (min a b)
    simp only[List.foldl_cons]
    refine⟨by omega,fun x hx=> ?_⟩
    rcases adv.1 hx with rfl|hx
    ·omega
    ·exact h2 x hx
  obtain⟨h1,h2⟩:=this r a
  rcases adv.1 h with rfl|h
  ·exact h1
  ·exact h2 x h
theorem l8{l:List Int}{m:Nat}(h:m<l.length):l.getD m 0∈l:=by
 rw[aas,acF h];exact ad2 h
theorem Pw{l:List Int}{m:Nat}(hm:m<l.length)(h1:∀j,j<l.length->l.getD m 0<=l.getD j 0)(h2:∀j,j<m->l.getD m 0<l.getD j 0):jg l (pJ l)=m:=by
 have hmin:pJ l=l.getD m 0:=by
  have g1:=Ep (l8 hm)
  obtain⟨j,hj,e⟩:=ae3 (lZ (l:=l) (by omega))
  have g2:=h1 j hj
  rw[aas (l:=l) (i:=j),acF hj,Option.getD_some,e]at g2
  omega
 refine b9 (d:=0) hm (fun j hj=> ?_) ?_
 ·have:=h2 j hj
  rw[hmin];simp only[adL];omega
 ·rw[hmin];simp
theorem Gm(g:Gr)(hm:aM g=true):Spec Tryz.prog 156 (Args [eG g]) [] (.d (sI (qP g))) []:=by
 have hn:=aB hm
 have hlf:(En g).length=g.n.toNat:=leftK_length
 (refine T.h [] [] [.t 2] Tryz.func156 rfl rfl (by kernel_rfl) fun X hX hP hC aA bB=> ?_)
 repeat' (first|refine Rn.p ?_|((first|refine Rs.p ?_|with_reducible intro K hK|(refine hK _ ?_;clear hK K)|refine aa (Mt g hm) rfl ?_);try simp only[go_sem,simprocAttr,Vj]))
 refine ag (fun k:Nat=>k<=g.n.toNat/\∀j,j<k->(En g).getD j false=false) (fun k=>⟨[(1, .ptr 1 0),(4,eN k),(3, .d (sB (En g)))], [(1, .box [eN g.n, .d (sE g.es)])]⟩) (fun k=>g.n.toNat - k) 0 (by simp) ?_ ?_
 ·refine Le.of ?_ ?_<;>simp[go_sem,simprocAttr,En]
 rintro k ⟨hk,hno⟩
 rcases adj k g.n.toNat with hlt|hge
 ·have hb:decide ((k:Int)<g.n)=true:=ac6 (by omega)
  cases hkb:(En g).getD k false with
  |false=>
   repeat' (first|refine Rn.p ?_|((first|refine Rs.p ?_|with_reducible intro K hK|(refine hK _ ?_;clear hK K));try simp only[go_sem,simprocAttr,hb,hkb,hlf])|with_reducible (apply And.intro)|omega)
   refine⟨k+1,⟨by omega,fun j hj=> ?_⟩, ?_,by omega⟩
   ·by_cases hjk:j=k
    ·subst hjk;exact hkb
    ·exact hno j (by omega)
   ·(refine Le.of ?_ ?_<;>simp[go_sem,simprocAttr,hb,hkb,hlf])
  |true=>
   have hst:RQ g=k:=by
    have:bT (fun b:Bool=>b) (En g)=k:=b9 (d:=false) (by omega) hno hkb
    unfold RQ;rw[this,ac7 (by omega)]
   have hne:decide ((k:Int)=g.n)=false:=ac5 (by omega)
   repeat' (first|refine Rn.p ?_|((first|refine Rs.p ?_|with_reducible intro K hK|(refine hK _ ?_;clear hK K));try simp only[go_sem,simprocAttr,hb,hkb,hlf,hne])|with_reducible (apply And.intro)|omega)
   clear hno hb hne hkb
   (refine uC hX 5 31 39 (by simp only[go_sem,simprocAttr]) rfl (by first|exact .inl rfl|exact .inr rfl) (by decide) ?_;simp only[go_sem,simprocAttr])
   refine ag (fun i:List Int × Int=>Way (gx g) i.1/\(0<=i.2/\i.2<=g.n)/\uI g (left (gx g) i.1) i.1 i.2=vV g) (fun i=>⟨[(1, .ptr 1 0),(4,eN i.2),(3, .d (sB (En g))),(5, .ref 39)], [(1, .box [eN g.n, .d (sE g.es)]),(39, .tip 3 1 (i.1.map rI))]⟩) (fun i=>left (gx g) i.1) ([],(k:Int)) ⟨Way.nil _,by simp only;omega, ?_⟩ ?_ ?_
   ·simp only[vU,vV,gx,hst]
    rw[show(g.n+1).toNat=g.n.toNat+1 from by omega]
   ·refine Le.of ?_ ?_<;>simp[go_sem,simprocAttr]
   rintro⟨way,x⟩ ⟨Gj,hx,hrun⟩
   simp only at Gj hx hrun ⊢
   have hwl:way.length<=65:=by have:=Gj.fuel;simp only[gx]at this;omega
   have C4:way.length<=9223372036854775807:=by omega
   by_cases hmem:x∈way
   ·have hend:=Gl (g:=g) hmem (left (gx g) way)
    rw[hrun]at hend
    obtain⟨m,Cw,hm2,_⟩:=fS hmem
    have hneg:decide ((m:Int)<0)=false:=ac5 (by omega)
    obtain⟨l,XT⟩:∃l,l=way.drop m:=⟨_,rfl⟩
    have iF:l.length=way.length - m:=by rw[XT];simp
    have Vi:qP g=C7 l:=by
     simp only[qP,hend,Cw,Int.toNat_natCast, <- XT]
     rw[ac7 (by omega)]
    repeat' (first|refine Rn.p ?_|((first|refine Rs.p ?_|with_reducible intro K hK|(refine hK _ ?_;clear hK K)|(refine cr (Gk way x C4) ?_ ?_ ?_;iterate 2 (focus(simp only[go_sem,simprocAttr,Cw,hneg, <- List.map_take, <- List.map_drop,aee, <- XT];done))));try simp only[go_sem,simprocAttr,Cw,hneg, <- List.map_take, <- List.map_drop,aee, <- XT])|with_reducible (apply And.intro)|omega)
    clear hrun Gj hend Cw hneg XT
    have hl0:0<l.length:=by omega
    have hlm:l.length<=65:=by omega
    refine ag (fun i:Nat × Nat=>i.1<=l.length/\i.2<l.length/\(∀j,j<i.1->l.getD i.2 0<=l.getD j 0)/\(∀j,j<i.2->l.getD i.2 0<l.getD j 0)) (fun i=>⟨[(9,eN i.1),(8,eN i.2),(5, .d (sI l))], []⟩) (fun i=>l.length - i.1) (0,0) ⟨by simp,hl0,by simp,by simp⟩ ?_ ?_
    ·refine Le.of ?_ ?_<;>simp[go_sem,simprocAttr]
    rintro⟨i,q⟩ ⟨hi,hq,hq1,Mb⟩
    simp only at hi hq hq1 Mb ⊢
    rcases adj i l.length with hil|N0
    ·have hb:decide ((i:Int)<(l.length:Int))=true:=ac6 (by omega)
     repeat' (first|refine Rn.p ?_|((first|refine Rs.p ?_|with_reducible intro K hK|(refine hK _ ?_;clear hK K));try simp only[go_sem,simprocAttr,hb])|with_reducible (first|apply And.intro|refine oD (by kernel_rfl) ?_|(intro h;try simp only[go_sem,simprocAttr,hb]at h))|omega)
     ·refine⟨(i+1,i),⟨by simp only;omega,hil,fun j hj=> ?_,fun j hj=> ?_⟩, ?_,by simp only;omega⟩
      ·simp only at hj ⊢
       by_cases hji:j=i
       ·subst hji;exact afP _
       ·have:=hq1 j (by omega);omega
      ·simp only at hj ⊢
       have:=hq1 j hj;omega
      ·refine Le.of ?_ ?_<;>simp[go_sem,simprocAttr]
     ·refine⟨(i+1,q),⟨by simp only;omega,hq,fun j hj=> ?_,Mb⟩, ?_,by simp only;omega⟩
      ·simp only at hj ⊢
       by_cases hji:j=i
       ·subst hji;omega
       ·exact hq1 j (by omega)
      ·refine Le.of ?_ ?_<;>simp[go_sem,simprocAttr]
    ·have hb:decide ((i:Int)<(l.length:Int))=false:=ac5 (by omega)
     obtain rfl:i=l.length:=by omega
     have hidx:=Pw hq hq1 Mb
     repeat' (first|refine Rn.p ?_|((first|refine Rs.p ?_|with_reducible intro K hK|(refine hK _ ?_;clear hK K));try simp only[go_sem,simprocAttr,hb]))
     clear hi hb N0
     (refine uC hX 10 98 119 (by simp only[go_sem,simprocAttr]) rfl (by first|exact .inl rfl|exact .inr rfl) (by decide) ?_;simp only[go_sem,simprocAttr])
     refine ag (fun i:Nat=>i<=l.length) (fun i=>⟨[(5, .d (sI l)),(8,eN q),(11,eN i),(10, .ref 119)], [(119, .tip 3 1 ((zy l q i).map rI))]⟩) (fun i=>l.length - i) 0 (by simp) ?_ ?_
     ·refine Le.of ?_ ?_<;>simp[go_sem,simprocAttr,zy]
     rintro i hi
     have hrl:(zy l q i).length=i:=by simp[zy]
     rcases adj i l.length with hil|N0
     ·have hb:decide ((i:Int)<(l.length:Int))=true:=ac6 (by omega)
      have Sx:((q:Int)+(l.length:Int) - (i:Int)).tmod (l.length:Int)=(((q+l.length - i) % l.length:Nat):Int):=by
       rw[show(q:Int)+(l.length:Int) - (i:Int)=((q+l.length - i:Nat):Int) from by omega]
       rw[Int.tmod_eq_emod_of_nonneg (by omega)];rfl
      have hmod:(q+l.length - i) % l.length<l.length:=aha _ hl0
      repeat' (first|refine Rn.p ?_|((first|refine Rs.p ?_|with_reducible intro K hK|(refine hK _ ?_;clear hK K));try simp only[go_sem,simprocAttr,hb,Sx])|with_reducible (apply And.intro)|omega)
      refine⟨i+1,by omega, ?_,by omega⟩
      rw[Mu]
      refine Le.of ?_ ?_<;>simp[go_sem,simprocAttr,rI]
     ·have hb:decide ((i:Int)<(l.length:Int))=false:=ac5 (by omega)
      obtain rfl:i=l.length:=by omega
      repeat' (first|refine Rn.p ?_|((first|refine Rs.p ?_|with_reducible intro K hK|(refine hK _ ?_;clear hK K));try simp only[go_sem,simprocAttr,hb]))
      rw[Vi,C7,hidx];rfl
   ·have hi:jg way x= -1:=by
     rcases jK (f:=fun y:Int=>decide (x=y)) (l:=way) 0 with ⟨h1,_⟩|⟨q,_,h2,h3,_⟩
     ·exact h1
     ·exact absurd (by rw[aek h3,aas,acF h2];exact ad2 h2) hmem
    obtain⟨a,rfl⟩:∃a:Nat,x=a:=⟨x.toNat,by omega⟩
    have Sk:a<(gx g).n.toNat:=by simp only[gx];omega
    repeat' (first|refine Rn.p ?_|((first|refine Rs.p ?_|with_reducible intro K hK|(refine hK _ ?_;clear hK K)|(refine cr (Gk way (a:Int) C4) ?_ ?_ ?_;iterate 2 (focus(simp only[go_sem,simprocAttr,hi];done))));try simp only[go_sem,simprocAttr,hi])|with_reducible (apply And.intro)|omega)
    refine ag (fun j:Nat=>j<=g.es.length) (fun j=>⟨[(1, .ptr 1 0),(4,eN a),(3, .d (sB (En g))),(5, .ref 39),(6,eN (fT g a j)),(7,eN j)], [(1, .box [eN g.n, .d (sE g.es)]),(39, .tip 3 1 ((way++ [(a:Int)]).map rI))]⟩) (fun j=>g.es.length - j) 0 (by simp) ?_ ?_
    ·refine Le.of ?_ ?_<;>simp[go_sem,simprocAttr,rI,fT]
    rintro j hj
    rcases adj j g.es.length with hjl|WE
    ·have hb2:decide ((j:Int)<(g.es.length:Int))=true:=ac6 (by omega)
     obtain⟨⟨Pg,yL⟩,_⟩:=cU hm hjl
     have dw:fT g a (j+1)=if(g.es.getD j (0,0)).2=(a:Int)/\(En g).getD (g.es.getD j (0,0)).1.toNat false=true then min (fT g a j) (g.es.getD j (0,0)).1 else fT g a j:=uJ
     repeat' (first|refine Rn.p ?_|((first|refine Rs.p ?_|with_reducible intro K hK|(refine hK _ ?_;clear hK K));try simp only[go_sem,simprocAttr,hb2,hlf])|with_reducible (first|apply And.intro|(intro h;try simp only[go_sem,simprocAttr,hb2,hlf]at h))|omega)
     all_goals(first|rw[ac9 ⟨by assumption,by assumption⟩]at dw|rw[ac7 (fun e=>by first|exact absurd e.1 (by assumption)|simp_all)]at dw)
     all_goals(refine⟨j+1,by omega, ?_,by omega⟩;refine Le.of ?_ ?_<;>simp[go_sem,simprocAttr,dw])
    ·have hb2:decide ((j:Int)<(g.es.length:Int))=false:=ac5 (by omega)
     obtain rfl:j=g.es.length:=by omega
     repeat' (first|refine Rn.p ?_|((first|refine Rs.p ?_|with_reducible intro K hK|(refine hK _ ?_;clear hK K));try simp only[go_sem,simprocAttr,hb2]))
     refine⟨(way++ [(a:Int)],fT g a g.es.length),⟨Gj.next Sk hmem,yU hm (adg _), ?_⟩, ?_, ?_⟩
     ·simp only
      rw[<- hrun,lX Sk hmem]
      simp only[uI]
      rw[ac7 hmem]
     ·refine Le.of ?_ ?_<;>simp[go_sem,simprocAttr]
     ·have:=lX Sk hmem;simp only;omega
 ·have hb:decide ((k:Int)<g.n)=false:=ac5 (by omega)
  have hst:RQ g=g.n:=by
   have:bT (fun b:Bool=>b) (En g)= -1:=bL false fun j hj=>hno j (by omega)
   unfold RQ;rw[this,ac9 (by omega)]
  have hne:decide ((k:Int)=g.n)=true:=ac6 (by omega)
  repeat' (first|refine Rn.p ?_|((first|refine Rs.p ?_|with_reducible intro K hK|(refine hK _ ?_;clear hK K));try simp only[go_sem,simprocAttr,hb,hne]))
  simp only[qP];rw[ac9 hst];rfl
def qQ(g:Gr):Int × Int × List Int:=iT g (qP g) (bZ (·.2) g)
theorem Gn{l:List Edge}{k:Nat}{x:Edge} :x∈l.take k↔∃j,j<k/\j<l.length/\l.getD j (0,0)=x:=by
 rw[aei]
 constructor
 ·rintro⟨j,hj⟩
  rw[adD]at hj
  split at hj
  ·exact⟨j,by assumption,(adh.1 hj).1,by rw[aas,hj];rfl⟩
  ·cases hj
 ·rintro⟨j,h1,h2,h3⟩
  refine⟨j, ?_⟩
  rw[adD,ac9 h1,acF h2]
  rw[aas,acF h2]at h3
  exact congrArg some h3
theorem CD(g:Gr)(hl0:g.es.length<=1000):Spec Tryz.prog 107 (Args [eG g]) [] (.tup [eN (qQ g).1,eN (qQ g).2.1, .d (sI (qQ g).2.2)]) []:=by
 have hl:g.es.length<=9223372036854775807:=by omega
 (refine T.h [] [] [.t 2, .t 3, .t 4] Tryz.func107 rfl rfl (by kernel_rfl) fun X hX hP hC aA bB=> ?_)
 cases hm:aM g with
 |false=>
  repeat' (first|refine Rn.p ?_|((first|refine Rs.p ?_|with_reducible intro K hK|(refine hK _ ?_;clear hK K)|refine aa (yR g hl) rfl ?_);try simp only[go_sem,simprocAttr,hm])|with_reducible (apply And.intro))
  all_goals simp[qQ,iT,hm]
 |true=>
 have hn:=aB hm
 have hn0:0<=g.n/\g.n<=1000:=by omega
 repeat' (first|refine Rn.p ?_|((first|refine Rs.p ?_|with_reducible intro K hK|(refine hK _ ?_;clear hK K)|refine aa (yR g hl) rfl ?_);try simp only[go_sem,simprocAttr,hm]))
 refine ag (fun k:Nat=>k<=g.es.length/\∀j,j<k->decide ((g.es.getD j (0,0)).1=(g.es.getD j (0,0)).2)=false) (fun k=>⟨[(5,eN k),(1, .ptr 1 0)], [(1, .box [eN g.n, .d (sE g.es)])]⟩) (fun k=>g.es.length - k) 0 (by simp) ?_ ?_
 ·(refine Le.of ?_ ?_<;>simp[go_sem,simprocAttr,hm])
 rintro k ⟨hk,hno⟩
 rcases adj k g.es.length with hlt|hge
 ·have hb2:decide ((k:Int)<(g.es.length:Int))=true:=ac6 (by omega)
  repeat' (first|refine Rn.p ?_|((first|refine Rs.p ?_|with_reducible intro K hK|(refine hK _ ?_;clear hK K));try simp only[go_sem,simprocAttr,hm,hb2])|with_reducible (first|apply And.intro|refine oD (by kernel_rfl) ?_|(intro h;try simp only[go_sem,simprocAttr,hm,hb2]at h))|omega)
  any_goals (
   have hlo:l7 g=(k:Int):=b9 (d:=(0,0)) hlt hno (ac6 h)
   have hc:qQ g=(13,l7 g, []):=by
    simp only[qQ,iT];rw[ac7 (by simp[hm]),ac9 (by omega)]
   rw[hc]<;>first|rfl|exact hlo.symm)
  refine⟨k+1,⟨by omega,fun j hj=> ?_⟩, ?_,by omega⟩
  ·by_cases hjk:j=k
   ·subst hjk;exact h
   ·simpa using hno j (by omega)
  ·(refine Le.of ?_ ?_<;>simp[go_sem,simprocAttr,hm,hb2])
 ·have hb2:decide ((k:Int)<(g.es.length:Int))=false:=ac5 (by omega)
  have hlo:¬0<=l7 g:=by
   have:l7 g= -1:=bL (0,0) fun j hj=>hno j (by omega)
   omega
  repeat' (first|refine Rn.p ?_|((first|refine Rs.p ?_|with_reducible intro K hK|(refine hK _ ?_;clear hK K));try simp only[go_sem,simprocAttr,hm,hb2]))
  clear hno hb2 hk hge
  refine ag (fun k:Nat=>k<=g.es.length/\∀j,j<k->uH g j=false) (fun k=>⟨[(6,eN k),(1, .ptr 1 0)], [(1, .box [eN g.n, .d (sE g.es)])]⟩) (fun k=>g.es.length - k) 0 (by simp) ?_ ?_
  ·(refine Le.of ?_ ?_<;>simp[go_sem,simprocAttr])
  rintro k ⟨hk,Pr⟩
  rcases adj k g.es.length with hlt|hge
  ·have hb2:decide ((k:Int)<(g.es.length:Int))=true:=ac6 (by omega)
   repeat' (first|refine Rn.p ?_|((first|refine Rs.p ?_|with_reducible intro K hK|(refine hK _ ?_;clear hK K));try simp only[go_sem,simprocAttr,hm,hb2]))
   refine ag (fun q:Nat=>q<=k/\∀j,j<q->¬g.es.getD j (0,0)=g.es.getD k (0,0)) (fun q=>⟨[(6,eN k),(7,eN q),(1, .ptr 1 0)], [(1, .box [eN g.n, .d (sE g.es)])]⟩) (fun q=>k - q) 0 (by simp) ?_ ?_
   ·(refine Le.of ?_ ?_<;>simp[go_sem,simprocAttr,hm,hb2])
   rintro q ⟨hq,hne⟩
   rcases adj q k with Sy|Sy
   ·have hb3:decide ((q:Int)<(k:Int))=true:=ac6 (by omega)
    repeat' (first|refine Rn.p ?_|((first|refine Rs.p ?_|with_reducible intro K hK|(refine hK _ ?_;clear hK K));try simp only[go_sem,simprocAttr,hb3,qK])|with_reducible (first|apply And.intro|refine oD (by kernel_rfl) ?_|(intro h;try simp only[go_sem,simprocAttr,hb3,qK]at h))|omega)
    any_goals (
     have Pu:uH g k=true:=ac6 (Gn.2 ⟨q,Sy,by omega,h⟩)
     have htI:fC g=(k:Int):=b9 (d:=0) (by simpa using hlt) (fun j hj=>by rw[dB (by omega)];exact Pr j hj) (by rw[dB hlt];exact Pu)
     have hc:qQ g=(14,fC g, []):=by
      simp only[qQ,iT];rw[ac7 (by simp[hm]),ac7 hlo,ac9 (by omega)]
     rw[hc]<;>first|rfl|exact htI.symm)
    refine⟨q+1,⟨by omega,fun j hj=> ?_⟩, ?_,by omega⟩
    ·by_cases hjk:j=q
     ·subst hjk;exact h
     ·exact hne j (by omega)
    ·refine Le.of ?_ ?_<;>simp[go_sem,simprocAttr]
   ·have hb3:decide ((q:Int)<(k:Int))=false:=ac5 (by omega)
    repeat' (first|refine Rn.p ?_|((first|refine Rs.p ?_|with_reducible intro K hK|(refine hK _ ?_;clear hK K));try simp only[go_sem,simprocAttr,hb3])|with_reducible (apply And.intro)|omega)
    refine⟨k+1,⟨by omega,fun j hj=> ?_⟩, ?_,by omega⟩
    ·by_cases hjk:j=k
     ·subst hjk
      refine ac5 fun h=> ?_
      obtain⟨i,h1,_,h3⟩:=Gn.1 h
      exact hne i (by omega) h3
     ·exact Pr j (by omega)
    ·(refine Le.of ?_ ?_<;>simp[go_sem,simprocAttr,hb3])
  ·have hb2:decide ((k:Int)<(g.es.length:Int))=false:=ac5 (by omega)
   have Pu:¬0<=fC g:=by
    have:fC g= -1:=bL 0 fun j hj=>by
     rw[ae2]at hj
     rw[dB hj];exact Pr j (by omega)
    omega
   repeat' (first|refine Rn.p ?_|((first|refine Rs.p ?_|with_reducible intro K hK|(refine hK _ ?_;clear hK K)|refine aa (Gm g hm) rfl ?_|refine aa (Em g true hl0 hn0) rfl ?_);try simp only[go_sem,simprocAttr,hm,hb2])|with_reducible (first|apply And.intro|refine oD (by kernel_rfl) ?_|(intro h;try simp only[go_sem,simprocAttr,hm,hb2]at h))|omega)
   all_goals(
    have hc:qQ g=if 0<(qP g).length then(15,0,qP g) else if 1<(bZ (tF false) g).length then(16,0,(bZ (tF false) g).take 2) else(0,0, []):=by
     show iT g (qP g) (bZ (tF false) g)=_
     simp only[iT];rw[ac7 (by simp[hm]),ac7 hlo,ac7 Pu]
    first|rw[ac9 (by omega)]at hc|(rw[ac7 (by omega)]at hc;first|rw[ac9 (by omega)]at hc|rw[ac7 (by omega)]at hc)
    rw[hc]<;>first|rfl|simp only[aeu])
end Go.Ab
end
section
namespace Go.Ab
def Ord(g:Gr)(out:List Int):Prop:=∀p,p<out.length->∀i,i<g.es.length->hd g i=out.getD p 0->tl g i∈out.take p
theorem qR{l r:List Int}{p:Nat}(h:p<l.length):(l++r).getD p 0=l.getD p 0:=by
 rw[aas,aas,adx h]
theorem Ord.next{g:Gr}{out:List Int}(h:Ord g out){x:Nat}(hb:∀i,i<g.es.length->hd g i=x->tl g i∈out):Ord g (out++ [(x:Int)]):=by
 intro p hp i hi hh
 rw[adi,List.length_singleton]at hp
 by_cases dI:p<out.length
 ·rw[qR dI]at hh
  have:=h p dI i hi hh
  rw[aey (by omega)]
  exact this
 ·have hpe:p=out.length:=by omega
  subst hpe
  rw[aas,adw (by omega)]at hh
  simp at hh
  rw[aey (by omega),adB (by omega)]
  exact hb i hi hh
theorem A7{g:Gr}(hm:aM g=true):∀f out,gP g out->Ord g out->left g out<=f->gP g (CB g f out)/\Ord g (CB g f out)/\jg (eS g (CB g f out)) 0<0
 |f,out,hP,hO,hl=>by
  rcases XR (g:=g) out with hx|⟨x,hx,Gg,hw⟩
  ·rw[Gh (by omega)];exact⟨hP,hO,by omega⟩
  ·obtain⟨Ub,_,hb⟩:=hP.next hm Gg hw
   have hn:=CZ hP Ub
   cases f with
   |zero=>omega
   |succ f=>
    have:=A7 hm f (out++ [(x:Int)]) Ub (hO.next hb) (by omega)
    simp only[CB,hx]
    rw[ac7 (by omega)]
    exact this
theorem jL{g:Gr}(hm:aM g=true):gP g (aZ g)/\Ord g (aZ g)/\jg (eS g (aZ g)) 0<0:=
 A7 hm _ _ (gP.nil g) (fun p hp=>by simp at hp) (by rw[vU];exact adg _)
theorem x5{g:Gr}(hm:aM g=true){y:Nat}(hy:y<g.n.toNat):0<wt g (aZ g) y↔(y:Int)∉aZ g:=by
 obtain⟨_,_,hi⟩:=jL hm
 constructor
 ·intro h hin;simp[wt,hin]at h
 ·intro h
  have h0:wt g (aZ g) y≠0:=by
   intro e
   rcases jK (f:=fun y:Int=>decide (0=y)) (l:=eS g (aZ g)) 0 with ⟨_,h2⟩|⟨k,h1,_⟩
   ·have:=h2 _ (adM (pH hy))
    rw[e]at this;simp at this
   ·have:jg (eS g (aZ g)) 0=k:=h1
    omega
  have:0<=wt g (aZ g) y:=by simp only[wt,h,if_false];omega
  omega
theorem A8{g:Gr}{l:List Bool}{j y:Nat}(h:y<g.n.toNat):(gV g l j).getD y false=(List.range j).any fun i=>decide (hd g i=(y:Int))&&(l.getD (tl g i).toNat false&&l.getD (hd g i).toNat false):=by
 simp[gV,aas,adp h]
theorem A9{g:Gr}(hm:aM g=true):∀k y,y<g.n.toNat->(y:Int)∉aZ g->(iW g k).getD y false=true
 |0,y,hy,_=>by simp[iW,qj,aas,adp hy];omega
 |k+1,y,hy,h=>by
  have hw:=(x5 hm hy).2 h
  simp only[wt,h,if_false]at hw
  obtain⟨i,hi,hp⟩:=af0.1 (Int.natCast_pos.1 hw)
  simp only[adf,adb,adJ,adL]at hp
  have hil:=adk.1 hi
  obtain⟨⟨h1,h2⟩,_⟩:=cU hm hil
  have ht:(g.es.getD i (0,0)).1=tl g i:=rfl
  rw[ht]at h1 h2
  have e:((tl g i).toNat:Int)=tl g i:=by omega
  have g1:=A9 hm k (tl g i).toNat (by omega) (by rw[e];exact hp.2)
  have g2:=A9 hm k y hy h
  show(gV g (iW g k) g.es.length).getD y false=true
  rw[A8 hy,adQ]
  refine⟨i,hi, ?_⟩
  rw[hp.1,Int.toNat_natCast,g1,g2];simp
theorem KA{g:Gr}(hm:aM g=true):∀k p,p<k->p<(aZ g).length->(iW g k).getD ((aZ g).getD p 0).toNat false=false
 |0,p,h,_=>by omega
 |k+1,p,h,hp=>by
  obtain⟨hP,hO,_⟩:=jL hm
  have hr:=hP.lo _ (l8 hp)
  obtain⟨y,hy⟩:∃y:Nat,(aZ g).getD p 0=y:=⟨((aZ g).getD p 0).toNat,by omega⟩
  have Vk:y<g.n.toNat:=by omega
  rw[hy,Int.toNat_natCast]
  show(gV g (iW g k) g.es.length).getD y false=false
  rw[A8 Vk,adU]
  intro i hi
  have hil:=adk.1 hi
  simp only[adf,adb]
  rintro⟨h1,h2,_⟩
  have ht:=hO p hp i hil (by rw[h1,hy])
  rw[aei]at ht
  obtain⟨q,hq⟩:=ht
  rw[adD]at hq
  split at hq
  ·rename_i hqp
   have:=KA hm k q (by omega) (by omega)
   rw[aas (l:=aZ g),hq]at this
   rw[Option.getD_some,h2]at this
   cases this
  ·cases hq
theorem Px{g:Gr}(hm:aM g=true){y:Nat}(hy:y<g.n.toNat):(En g).getD y false=true↔(y:Int)∉aZ g:=by
 constructor
 ·intro h hin
  obtain⟨hP,_,_⟩:=jL hm
  obtain⟨p,hp,e⟩:=ae3 hin
  have hl:=hP.fuel
  have:=KA hm g.n.toNat p (by omega) hp
  rw[aas (l:=aZ g),acF hp,Option.getD_some,e,Int.toNat_natCast]at this
  have h2:(iW g g.n.toNat).getD y false=true:=h
  rw[this]at h2;cases h2
 ·intro h;exact A9 hm _ y hy h
theorem Py{g:Gr}(hm:aM g=true){y:Nat}(hy:y<g.n.toNat):(En g).getD y false=decide (0<(eS g (aZ g)).getD y 0):=by
 rw[qM hy,ad0,Px hm hy,adb,x5 hm hy]
theorem start_eq{g:Gr}(hm:aM g=true):(bT (fun n=>decide (0<n)) (eS g (aZ g))= -1/\RQ g=g.n)\/∃a:Nat,a<g.n.toNat/\bT (fun n=>decide (0<n)) (eS g (aZ g))=a/\RQ g=a/\(a:Int)∉aZ g:=by
 have hlf:(En g).length=g.n.toNat:=leftK_length
 rcases jK (f:=fun n:Int=>decide (0<n)) (l:=eS g (aZ g)) 0 with ⟨h1,h2⟩|⟨k,h1,h2,h3,h4⟩
 ·refine .inl ⟨h1, ?_⟩
  have:bT (fun b:Bool=>b) (En g)= -1:=bL false fun j hj=>by
   rw[hlf]at hj
   rw[Py hm hj]
   exact h2 _ (by rw[aas,pH hj];exact adM (pH hj))
  unfold RQ;rw[this,ac9 (by omega)]
 ·rw[wts_length]at h2
  refine .inr ⟨k,h2,h1, ?_, ?_⟩
  ·have:bT (fun b:Bool=>b) (En g)=k:=b9 (d:=false) (by omega) (fun j hj=>by
    rw[Py hm (by omega)];exact h4 j hj) (by rw[Py hm h2];exact h3)
   unfold RQ;rw[this,ac7 (by omega)]
  ·rw[<- x5 hm h2]
   rw[qM h2]at h3
   exact aek h3
def Q(g:Gr)(a:Nat)(t:Int):Prop:=∃i,i<g.es.length/\hd g i=(a:Int)/\tl g i=t/\t∉aZ g
theorem aT{g:Gr}(hm:aM g=true){i:Nat}(hi:i<g.es.length):0<=tl g i/\tl g i<g.n:=(cU hm hi).1
theorem aU{g:Gr}(hm:aM g=true){i:Nat}(hi:i<g.es.length):0<=hd g i/\hd g i<g.n:=(cU hm hi).2
theorem Mv{g:Gr}(hm:aM g=true){i:Nat}(hi:i<g.es.length):0<(eS g (aZ g)).getD (tl g i).toNat 0↔tl g i∉aZ g:=by
 have h:=aT hm hi
 have e:((tl g i).toNat:Int)=tl g i:=by omega
 rw[qM (by omega),x5 hm (by omega),e]
theorem yV{g:Gr}(hm:aM g=true):∀(l:List Int) (b:Int),(∀e∈l,∃i:Nat,e=i/\i<g.es.length)->
 (b= -1\/0<=b)->(l.foldl (iS g (eS g (aZ g))) b=b\/∃i:Nat,(i:Int)∈l/\tl g i∉aZ g/\l.foldl (iS g (eS g (aZ g))) b=tl g i)/\(0<=b->l.foldl (iS g (eS g (aZ g))) b<=b)/\
   (∀i:Nat,(i:Int)∈l->tl g i∉aZ g->0<=l.foldl (iS g (eS g (aZ g))) b/\l.foldl (iS g (eS g (aZ g))) b<=tl g i)
 | [],b,_,_=>⟨.inl rfl,fun _=>afP _,by simp⟩
 |e::l,b,he,hb=>by
  obtain⟨i,rfl,hi⟩:=he e adH
  have htr:=aT hm hi
  have hw:=Mv hm hi
  have hstep:iS g (eS g (aZ g)) b (i:Int)=if tl g i∉aZ g/\(b<0\/tl g i<b) then tl g i else b:=by
   simp only[iS,Int.toNat_natCast,hw]
  have hb':iS g (eS g (aZ g)) b (i:Int)= -1\/0<=iS g (eS g (aZ g)) b (i:Int):=by
   rw[hstep];split
   ·exact .inr htr.1
   ·exact hb
  obtain⟨h1,h2,h3⟩:=yV hm l (iS g (eS g (aZ g)) b (i:Int)) (fun e h=>he e (adz _ h)) hb'
  simp only[List.foldl_cons]
  generalize hr:l.foldl (iS g (eS g (aZ g))) (iS g (eS g (aZ g)) b (i:Int))=r at h1 h2 h3 ⊢
  refine⟨?_, ?_, ?_⟩
  ·rcases h1 with h1|⟨j,hj,h4,h5⟩
   ·rw[hstep]at h1
    split at h1
    ·rename_i hc
     exact .inr ⟨i,by simp,hc.1,h1⟩
    ·exact .inl h1
   ·exact .inr ⟨j,by simp[hj],h4,h5⟩
  ·intro h0
   rw[hstep]at h2
   split at h2
   ·rename_i hc;have:=h2 htr.1;omega
   ·exact h2 h0
  ·intro j hj hjn
   rcases adv.1 hj with hj|hj
   ·have:j=i:=afo hj
    subst this
    rw[hstep]at h1 h2
    split at h1
    ·rename_i hc
     rw[ac9 hc]at h2
     have:=h2 htr.1
     rcases h1 with h1|⟨q,hq,h4,h5⟩
     ·omega
     ·obtain⟨i',e',hi'⟩:=he q (adz _ hq)
      have:q=i':=afo e'
      subst this
      have:=aT hm hi';omega
    ·rename_i hc
     rw[ac7 hc]at h2
     have Sh:¬(b<0\/tl g j<b):=fun h=>hc ⟨hjn,h⟩
     have:=h2 (by omega)
     rcases h1 with h1|⟨q,hq,h4,h5⟩
     ·omega
     ·obtain⟨i',e',hi'⟩:=he q (adz _ hq)
      have:q=i':=afo e'
      subst this
      have:=aT hm hi';omega
   ·exact h3 j hj hjn
theorem Ba{g:Gr}(hm:aM g=true){a:Nat}(h:∃t,Q g a t):Q g a (mU g (eS g (aZ g)) a)/\∀t,Q g a t->mU g (eS g (aZ g)) a<=t:=by
 have hin:∀i,i<g.es.length->hd g i=(a:Int)->(i:Int)∈qx g a:=by
  intro i hi hh
  simp only[qx,gU,ada,adI,adk,adb]
  exact⟨i,⟨hi,hh⟩,rfl⟩
 obtain⟨h1,_,h3⟩:=yV hm (qx g a) (-1) Pp (.inl rfl)
 have hG:mU g (eS g (aZ g)) a=(qx g a).foldl (iS g (eS g (aZ g))) (-1):=by simp[mU,C3]
 rw[<- hG]at h1 h3
 have hle:∀t,Q g a t->0<=mU g (eS g (aZ g)) a/\mU g (eS g (aZ g)) a<=t:=by
  rintro t ⟨i,h4,h5,rfl,h6⟩
  exact h3 i (hin i h4 h5) h6
 obtain⟨t,ht⟩:=h
 have h0:=(hle t ht).1
 refine⟨?_,fun t ht=>(hle t ht).2⟩
 rcases h1 with h1|⟨i,hi,h4,h5⟩
 ·omega
 ·obtain⟨i',e',hi',hh⟩:=El hi
  have:i=i':=afo e'
  subst this
  exact⟨i,hi',hh,h5.symm,by rw[h5];exact h4⟩
theorem Bb{g:Gr}(hm:aM g=true){a:Nat} :∀k,k<=g.es.length->(fT g a k=g.n\/Q g a (fT g a k))/\fT g a k<=g.n/\∀i,i<k->hd g i=(a:Int)->tl g i∉aZ g->fT g a k<=tl g i
 |0,_=>⟨.inl rfl,afP _,by simp⟩
 |k+1,hk=>by
  obtain⟨h1,h2,h3⟩:=Bb hm (a:=a) k (by omega)
  have htr:=aT hm (i:=k) (by omega)
  have e:((tl g k).toNat:Int)=tl g k:=by omega
  have hlf:=Px hm (y:=(tl g k).toNat) (by omega)
  rw[e]at hlf
  rw[uJ]
  unfold Eo
  split
  ·rename_i hc0
   have hc:hd g k=(a:Int)/\tl g k∉aZ g:=⟨hc0.1,hlf.1 hc0.2⟩
   refine⟨?_,by omega, ?_⟩
   ·by_cases hle:fT g a k<=tl g k
    ·rw[Int.min_eq_left hle];exact h1
    ·rw[Int.min_eq_right (by omega)];exact .inr ⟨k,by omega,hc.1,rfl,hc.2⟩
   ·intro i hi hh hn
    by_cases hik:i=k
    ·subst hik;omega
    ·have:=h3 i (by omega) hh hn;omega
  ·rename_i hc
   refine⟨h1,h2, ?_⟩
   intro i hi hh hn
   by_cases hik:i=k
   ·subst hik;exact absurd ⟨hh,hlf.2 hn⟩ hc
   ·exact h3 i (by omega) hh hn
theorem back_eq{g:Gr}(hm:aM g=true){a:Nat}(h:∃t,Q g a t):mU g (eS g (aZ g)) a=fT g a g.es.length/\Q g a (fT g a g.es.length):=by
 obtain⟨h1,h2⟩:=Ba hm h
 obtain⟨h3,h4,h5⟩:=Bb hm (a:=a) g.es.length (adg _)
 have hb:fT g a g.es.length<=mU g (eS g (aZ g)) a:=by
  obtain⟨i,h6,h7,h8,h9⟩:=h1
  rw[<- h8]at h9 ⊢
  exact h5 i h6 h7 h9
 have hlt:mU g (eS g (aZ g)) a<g.n:=by
  obtain⟨i,h6,h7,h8,h9⟩:=h1
  rw[<- h8];exact(aT hm h6).2
 rcases h3 with h3|h3
 ·omega
 ·exact⟨by have:=h2 _ h3;omega,h3⟩
theorem Vl{g:Gr}(hm:aM g=true){a:Nat}(ha:a<g.n.toNat)(h:(a:Int)∉aZ g):∃t,Q g a t:=by
 have hw:=(x5 hm ha).2 h
 simp only[wt,h,if_false]at hw
 obtain⟨i,hi,hp⟩:=af0.1 (Int.natCast_pos.1 hw)
 simp only[adf,adb,adJ,adL]at hp
 exact⟨tl g i,i,adk.1 hi,hp.1,rfl,hp.2⟩
theorem Pz{g:Gr}(hm:aM g=true):∀(f f':Nat) (way:List Int) (a:Nat),way.Nodup->a<g.n.toNat->(a:Int)∉aZ g->left g way<=f->left g way<=f'->
 pK g (eS g (aZ g)) f way a=uI g f' way a/\(0<=(uI g f' way a).2/\(uI g f' way a).2∈(uI g f' way a).1/\(uI g f' way a).1.Nodup)
 |f,f',way,a,hd,ha,hn,h1,h2=>by
  by_cases hmem:(a:Int)∈way
  ·rw[nZ (.inr hmem),Gl hmem]
   exact⟨rfl,by simp only;omega,hmem,hd⟩
  ·have hla:=lX ha hmem
   cases f with
   |zero=>omega
   |succ f=>
    cases f' with
    |zero=>omega
    |succ f'=>
     obtain⟨hb,hq⟩:=back_eq hm (Vl hm ha hn)
     obtain⟨i,hi,_,ht,RR⟩:=hq
     have htr:=aT hm hi
     rw[ht]at htr
     obtain⟨b,j9⟩:∃b:Nat,fT g a g.es.length=b:=⟨(fT g a g.es.length).toNat,by omega⟩
     rw[j9]at hb RR htr
     have hd':(way++ [(a:Int)]).Nodup:=by
      rw[adt]
      refine⟨hd,by simp, ?_⟩
      intro x hx y hy e
      simp at hy
      rw[<- hy, <- e]at hmem;exact hmem hx
     have ih:=Pz hm f f' (way++ [(a:Int)]) b hd' (by omega) RR (by omega) (by omega)
     have e1:pK g (eS g (aZ g)) (f+1) way a=pK g (eS g (aZ g)) f (way++ [(a:Int)]) b:=by
      simp only[pK];rw[ac7 (by intro h;rcases h with h|h;omega;exact hmem h),hb]
     have e2:uI g (f'+1) way a=uI g f' (way++ [(a:Int)]) b:=by
      simp only[uI];rw[ac7 hmem,j9]
     rw[e1,e2];exact ih
theorem Er{g:Gr}{way:List Int} :left g way<=g.n.toNat:=by
 unfold left
 have:=aeQ (p:=fun y:Nat=> !decide ((y:Int)∈way)) (l:=List.range g.n.toNat)
 simpa using this
theorem l9{l:List Int}(h:l.Nodup){i j:Nat}(hi:i<l.length)(hj:j<l.length)(e:l.getD i 0=l.getD j 0):i=j:=by
 rw[aas,aas,acF hi,acF hj]at e
 exact(agl h).1 e
theorem PA{l:List Int}{i:Nat}(hi:i<l.length):l.reverse.getD i 0=l.getD (l.length - 1 - i) 0:=by
 rw[aas,aas,afa hi]
theorem Sz{l:List Int}(hd:l.Nodup)(h0:0<l.length):qi l.reverse=C7 l:=by
 obtain⟨m,Cw,hm2,WG⟩:=fS (lZ h0)
 have Zb:0<l.reverse.length:=by simpa using h0
 obtain⟨k,Ao,hk2,WH⟩:=fS (lZ Zb)
 have hmin:pJ l.reverse=pJ l:=by
  have h1:=Ep (aeX.2 (lZ h0))
  have h2:=Ep (aeX.1 (lZ Zb))
  omega
 rw[aeP]at hk2
 have hk:l.length - 1 - k=m:=l9 hd (by omega) hm2 (by rw[<- PA hk2,WH,WG,hmin])
 have e1:qi l.reverse=l.reverse.drop k++l.reverse.take k:=by
  simp only[qi,Ao,Int.toNat_natCast]
 have e2:C7 l=zy l m l.length:=by simp only[C7,Cw,Int.toNat_natCast]
 rw[e1,e2]
 refine adY fun i=> ?_
 by_cases hi:i<l.length
 ·have hr:(zy l m l.length)[i]? =some (l.getD ((m+l.length - i) % l.length) 0):=by
   simp[zy,adp hi]
  rw[hr]
  by_cases hik:i<l.length - k
  ·rw[adx (by simp;omega),ad3,afa (by omega)]
   have:(m+l.length - i) % l.length=m - i:=by
    rw[show m+l.length - i=(m - i)+l.length from by omega,Nat.add_mod_right,aeB (by omega)]
   rw[this,show l.length - 1 - (k+i)=m - i from by omega,aas,acF (by omega)];rfl
  ·rw[adw (by simp;omega),aeC,aeP,adD,ac9 (by omega),afa (by omega)]
   have:(m+l.length - i) % l.length=m+l.length - i:=aeB (by omega)
   rw[this,show l.length - 1 - (i - (l.length - k))=m+l.length - i from by omega,aas,acF (by omega)];rfl
 ·rw[ado (by simp;omega),ado (by simp[zy];omega)]
theorem Vm{g:Gr}(hm:aM g=true):nW g=qP g:=by
 have hn:=aB hm
 rcases start_eq hm with ⟨h1,h2⟩|⟨a,ha,h1,h2,h3⟩
 ·have:nV g=([], -1):=by
   unfold nV;rw[h1];exact nZ (.inl (by omega)) _
  simp only[nW,qP,this]
  rw[ac9 (by omega),ac9 h2]
 ·obtain⟨he,h4,h5,h6⟩:=Pz hm g.n.toNat (g.n.toNat+1) [] a (by simp) ha h3 Er (Nat.le_succ_of_le Er)
  have hw:nV g=vV g:=by
   unfold nV vV;rw[h1,h2];exact he
  have hr:uI g (g.n.toNat+1) [] a=vV g:=by unfold vV;rw[h2]
  rw[hr]at h4 h5 h6
  simp only[nW,qP,hw]
  rw[ac7 (by omega),ac7 (by omega)]
  obtain⟨k,Ao,hk2,_⟩:=fS h5
  rw[Ao,Int.toNat_natCast]
  exact Sz (List.Pairwise.drop h6) (by simp;omega)
theorem Vn(g:Gr):bX g=qQ g:=by
 unfold bX qQ
 cases hm:aM g with
 |false=>simp[iT,hm]
 |true=>rw[Vm hm]
end Go.Ab
end
section
set_option maxHeartbeats 4000000
set_option maxRecDepth 10000
namespace Go.Ab
attribute [local congr] ACall.congr gd.congr Ny.congr vcOps.congr
open Go.Proofs
abbrev Pt:=Int × Int
def eP(p:Pt):AV:= .agg [.d (.sc (.int .i64 p.1)), .d (.sc (.int .i64 p.2))]
def rP(p:Pt):List D:= [.sc (.int .i64 p.1), .sc (.int .i64 p.2)]
attribute [go_sem] eP
def bC(p:Pt):Prop:=(-262144<=p.1/\p.1<=262144)/\(-262144<=p.2/\p.2<=262144)
theorem qu{x y m n:Int}(hx: -m<=x/\x<=m)(hy: -n<=y/\y<=n): -(m*n)<=x*y/\x*y<=m*n:=by
 have hm:0<=m:=by omega
 have hn:0<=n:=by omega
 have h1:x.natAbs<=m.natAbs:=by omega
 have h2:y.natAbs<=n.natAbs:=by omega
 have h3:(x*y).natAbs<=(m*n).natAbs:=by rw[Int.natAbs_mul,Int.natAbs_mul];exact afQ h1 h2
 have h4:0<=m*n:=agf hm hn
 omega
theorem IJ(n:Int):Spec Tryz.prog 132 (Args [eN n]) [] (eB false) []:=by
 (refine T.h [] [] [.t 2] Tryz.func132 rfl rfl (by kernel_rfl) fun X hX hP hC aA bB=> ?_)
 repeat' (first|refine Rn.p ?_|((first|refine Rs.p ?_|with_reducible intro K hK|(refine hK _ ?_;clear hK K));try simp only[go_sem,simprocAttr]))
def jh(a b:Int):Int:=if a<b then -1 else if b<a then 1 else 0
theorem Es(a b:Int):Spec Tryz.prog 79 (Args [eN a,eN b]) [] (eN (jh a b)) []:=by
 (refine T.h [] [] [.t 4] Tryz.func79 rfl rfl (by kernel_rfl) fun X hX hP hC aA bB=> ?_)
 repeat' (first|refine Rn.p ?_|((first|refine Rs.p ?_|with_reducible intro K hK|(refine hK _ ?_;clear hK K)|refine aa (IJ _) rfl ?_);try simp only[go_sem,simprocAttr])|with_reducible (first|apply And.intro|(intro h;try simp only[go_sem,simprocAttr]at h)))
 all_goals(unfold jh;repeat' split)<;>omega
def sy(a b n:Int):Bool:=decide (min a b<=n)&&decide (n<=max a b)
theorem Et(a b n:Int):Spec Tryz.prog 197 (Args [eN a,eN b,eN n]) [] (eB (sy a b n)) []:=by
 (refine T.h [] [] [.t 6] Tryz.func197 rfl rfl (by kernel_rfl) fun X hX hP hC aA bB=> ?_)
 repeat' (first|refine Rn.p ?_|((first|refine Rs.p ?_|with_reducible intro K hK|(refine hK _ ?_;clear hK K));try simp only[go_sem,simprocAttr])|with_reducible (first|apply And.intro|(intro h;try simp only[go_sem,simprocAttr]at h)))
 all_goals(unfold sy;rw[ad0];simp;omega)
def tm(a b c d:Pt):Int:=(b.1 - a.1)*(d.2 - c.2) - (b.2 - a.2)*(d.1 - c.1)
theorem IK(a b c d:Pt)(ha:bC a)(hb:bC b)(hc:bC c)(hd:bC d):Spec Tryz.prog 183 (Args [eP a,eP b,eP c,eP d]) [] (eN (tm a b c d)) []:=by
 (refine T.h [] [] [.t 8] Tryz.func183 rfl rfl (by kernel_rfl) fun X hX hP hC aA bB=> ?_)
 obtain⟨a1,a2⟩:=a
 obtain⟨b1,b2⟩:=b
 obtain⟨c1,c2⟩:=c
 obtain⟨d1,d2⟩:=d
 simp only[bC]at ha hb hc hd
 have m1:=qu (x:=b1 - a1) (y:=d2 - c2) (m:=524288) (n:=524288) (by omega) (by omega)
 have m2:=qu (x:=b2 - a2) (y:=d1 - c1) (m:=524288) (n:=524288) (by omega) (by omega)
 repeat' (first|refine Rn.p ?_|((first|refine Rs.p ?_|with_reducible intro K hK|(refine hK _ ?_;clear hK K));try simp only[go_sem,simprocAttr])|with_reducible (apply And.intro)|omega)
 all_goals simp[tm]
def sd(a b c:Pt):Int:=jh (tm a b a c) 0
theorem C8(a b c:Pt)(ha:bC a)(hb:bC b)(hc:bC c):Spec Tryz.prog 131 (Args [eP a,eP b,eP c]) [] (eN (sd a b c)) []:=by
 (refine T.h [] [] [.t 6] Tryz.func131 rfl rfl (by kernel_rfl) fun X hX hP hC aA bB=> ?_)
 repeat' (first|refine Rn.p ?_|((first|refine Rs.p ?_|with_reducible intro K hK|(refine hK _ ?_;clear hK K)|refine aa (Es _ _) rfl ?_|refine aa (IK _ _ _ _ (by assumption) (by assumption) (by assumption) (by assumption)) rfl ?_);try simp only[go_sem,simprocAttr]))
 all_goals rfl
def iz(a b c:Pt):Bool:=decide (sd a b c=0)&&sy a.1 b.1 c.1&&sy a.2 b.2 c.2
theorem vW(a b c:Pt)(ha:bC a)(hb:bC b)(hc:bC c):Spec Tryz.prog 171 (Args [eP a,eP b,eP c]) [] (eB (iz a b c)) []:=by
 (refine T.h [] [] [.t 6] Tryz.func171 rfl rfl (by kernel_rfl) fun X hX hP hC aA bB=> ?_)
 repeat' (first|refine Rn.p ?_|((first|refine Rs.p ?_|with_reducible intro K hK|(refine hK _ ?_;clear hK K)|refine aa (Et _ _ _) rfl ?_|refine aa (C8 _ _ _ (by assumption) (by assumption) (by assumption)) rfl ?_);try simp only[go_sem,simprocAttr])|with_reducible (first|apply And.intro|(intro h;try simp only[go_sem,simprocAttr]at h)))
 all_goals simp_all[iz]
def nF(p:Pt):Bool:=decide (262144<max p.1 p.2)||decide (min p.1 p.2< -262144)
theorem Mw(p:Pt):Spec Tryz.prog 166 (Args [eP p]) [] (eB (nF p)) []:=by
 (refine T.h [] [] [.t 2] Tryz.func166 rfl rfl (by kernel_rfl) fun X hX hP hC aA bB=> ?_)
 repeat' (first|refine Rn.p ?_|((first|refine Rs.p ?_|with_reducible intro K hK|(refine hK _ ?_;clear hK K));try simp only[go_sem,simprocAttr])|with_reducible (first|apply And.intro|(intro h;try simp only[go_sem,simprocAttr]at h)))
 all_goals simp_all[nF]
 all_goals omega
theorem getD_rP(ps:List Pt)(i:Nat):(ps.map rP).getD i [.sc (.int .i64 0), .sc (.int .i64 0)]=rP (ps.getD i (0,0)):=by
 simp only[aas,adm]
 cases ps[i]? <;>rfl
theorem rP_eq(p:Pt):rP p= [.sc (.int .i64 p.1), .sc (.int .i64 p.2)]:=rfl
attribute [go_sem] getD_rP rP_eq Int.toNat_natCast
theorem zA(f:Nat)(g:Pt->Bool)(hf:∀p,Spec Tryz.prog f (Args [eP p]) [] (eB (g p)) [])(ps:List Pt)(hl:ps.length<=9223372036854775806):
 Spec Tryz.prog 172 (Args [.d (.sl 2 (ps.map rP)), .fn f [] []]) [] (eN (bT g ps)) []:=by
 (refine T.h [] [] [.t 4] Tryz.func172 rfl rfl (by kernel_rfl) fun X hX hP hC aA bB=> ?_)
 repeat' (first|refine Rn.p ?_|((first|refine Rs.p ?_|with_reducible intro K hK|(refine hK _ ?_;clear hK K));try simp only[go_sem,simprocAttr]))
 refine ag (fun k:Nat=>k<=ps.length/\∀j,j<k->g (ps.getD j (0,0))=false) (fun k=>⟨[(0, .d (.sl 2 (ps.map rP))),(1, .fn f [] []),(7, .d (.sc (.int .i64 (ps.length:Int)))),(8, .d (.sc (.int .i64 (k:Int))))], []⟩) (fun k=>ps.length - k) 0 (by simp) ?_ ?_
 ·refine Le.of ?_ ?_<;>simp[go_sem,simprocAttr]
 rintro k ⟨hk,hg⟩
 repeat' (first|refine Rn.p ?_|((first|refine Rs.p ?_|with_reducible intro K hK|(refine hK _ ?_;clear hK K)|refine aa (hf _) rfl ?_);try simp only[go_sem,simprocAttr])|with_reducible (first|apply And.intro|(intro h;try simp only[go_sem,simprocAttr]at h))|omega)
 ·exact(b9 (d:=(0,0)) (by omega) hg h).symm
 ·refine⟨k+1,⟨by omega,fun j hj=> ?_⟩,Le.of ?_ ?_,by omega⟩
  ·by_cases hjk:j=k
   ·subst hjk;exact h
   ·exact hg j (by omega)
  ·simp[go_sem,simprocAttr]
  ·simp[go_sem,simprocAttr]
 ·exact(bL (0,0) fun j hj=>hg j (by omega)).symm
theorem uK(f:Nat)(g:Pt->Bool)(hf:∀p,Spec Tryz.prog f (Args [eP p]) [] (eB (g p)) [])(ps:List Pt)(hl:ps.length<=9223372036854775806):
 Spec Tryz.prog 127 (Args [.d (.sl 2 (ps.map rP)), .fn f [] []]) [] (eB (ps.any g)) []:=by
 (refine T.h [] [] [.t 4] Tryz.func127 rfl rfl (by kernel_rfl) fun X hX hP hC aA bB=> ?_)
 repeat' (first|refine Rn.p ?_|((first|refine Rs.p ?_|with_reducible intro K hK|(refine hK _ ?_;clear hK K)|refine aa (zA _ _ hf _ hl) rfl ?_);try simp only[go_sem,simprocAttr]))
 rw[<- cT]
theorem sC(ps:List Pt)(hl:ps.length<=9223372036854775806):Spec Tryz.prog 115 (Args [.d (.sl 2 (ps.map rP))]) [] (eB (!ps.any nF)) []:=by
 (refine T.h [] [] [.t 2] Tryz.func115 rfl rfl (by kernel_rfl) fun X hX hP hC aA bB=> ?_)
 repeat' (first|refine Rn.p ?_|((first|refine Rs.p ?_|with_reducible intro K hK|(refine hK _ ?_;clear hK K)|refine aa (uK _ _ Mw _ hl) rfl ?_);try simp only[go_sem,simprocAttr]))
end Go.Ab
end
