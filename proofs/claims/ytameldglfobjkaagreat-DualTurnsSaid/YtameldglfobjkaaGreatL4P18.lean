/- A part of the proof. -/
import Derived.Test.YtameldglfobjkaaGreatL4P17
set_option linter.unusedSimpArgs false
set_option linter.unusedVariables false
section
namespace Go.Ab
open Go.Proofs
set_option maxRecDepth 10000
set_option linter.unusedSectionVars false
section
variable {P:PS} (h:P.Ok) {L R:Int→Int} {f0 f1:Int} {low:Int→Int} (F:P.gm L R f0 f1 low)
include h F
theorem EB (hm:0<P.m):gH L R f0 (P.ins P.DD)∧jf R f0 (P.ins P.DD)=f1∧P.ins P.DD≠ []:=by
 have hj:P.m - 1<P.m:=by omega
 have hA:=HU h
 have hB:(P.st P.m).B= []:=by
  have hi:=P.inv h P.m (Nat.le_refl _)
  obtain ⟨k,hr⟩:=hi.row
  cases hB:(P.st P.m).B with
  |nil=>rfl
  |cons e B=>
   exfalso
   have hm:=(h.fW hr e).1 (by rw [hB];simp)
   obtain ⟨j,hj,e2⟩:=vu h hm.1
   have h1:e∈P.tY P.m:=PS.vr.2 ⟨j,hj,e2⟩
   rcases ((hi.sh e).1 h1).2 with h2|h2
   ·rw [hA] at h2;simp at h2
   ·exact hm.2.2 h2
 have hF:=xK h F hj
 obtain ⟨B,Kl,hc⟩:=vv h hj
 rw [show P.m - 1+1=P.m by omega] at hc
 rcases hc with ⟨A',h1,h2,h3⟩|⟨_,h3⟩
 ·rw [h3] at hA hB
  have hA:A'= []:=hA
  subst hA
  have hB:=List.append_eq_nil_iff.1 hB
  have hs:=(h.l8 _ h2).1 hB.1
  have e:(P.st (P.m - 1)).A++(P.st (P.m - 1)).B=P.ins P.DD:=by
   rw [Kl,hB.2,h1,hs];rfl
  rw [hs] at h2
  rw [e] at hF
  exact ⟨hF.lk,hF.en,h2⟩
 ·rw [h3] at hA
  simp at hA
end
theorem zy {g:Gr} {p:Pl} {x:Nat} (hx:x<p.outs.length):(aF g p).getD x []=qs g p x:=by
 rw [List.getD_eq_getElem?_getD,List.getElem?_eq_getElem (by rw [j0];exact hx)]
 simp [aF]
def iK (g:Gr) (p:Pl) (h:Int):Int:=if h % 2=0 then Lf g p (h / 2) else Rf g p (h / 2)
theorem vY {g:Gr} {e:Int} :nJ g (2*e)=iB g e:=by
 unfold nJ;rw [if_pos (by omega),show 2*e / 2=e by omega]
theorem zA {g:Gr} {e:Int} :nJ g (2*e+1)=jj g e:=by
 unfold nJ;rw [if_neg (by omega),show (2*e+1) / 2=e by omega]
theorem EC {e:Int} :gr (2*e)=2*e+1:=by unfold gr;rw [if_neg (by omega)]
theorem Gn {e:Int} :gr (2*e+1)=2*e:=by unfold gr;rw [if_pos (by omega)];omega
theorem gu {g:Gr} {p:Pl} {e:Int} :iK g p (2*e)=Lf g p e:=by
 unfold iK;rw [if_pos (by omega),show 2*e / 2=e by omega]
theorem ja {g:Gr} {p:Pl} {e:Int} :iK g p (2*e+1)=Rf g p e:=by
 unfold iK;rw [if_neg (by omega),show (2*e+1) / 2=e by omega]
theorem ED {f:Int→Int} (hf:∀a b,f a=f b→a=b) {l:List Int} (hn:l.Nodup):(l.map f).Nodup:=
 jg hn fun a _ b _ e=>hf a b e
section
variable {g:Gr} {p:Pl} (hrun:bM g p) (hI:jV g=true) (h0:0<g.es.length)
include hrun hI
theorem oZ {x:Int} (hx:nw g x):(aF g p).getD x.toNat []=((bC g p).outs x).map (fun i=>2*i)++((bC g p).ins x).reverse.map fun i=>2*i+1:=by
 have hx':x=((x.toNat:Nat):Int):=by have:=hx.1;omega
 have Dg:x.toNat<g.n.toNat:=by have:=hx.1;have:=hx.2;omega
 rw [zy (by rw [hrun.2.1.1];exact Dg),En hrun Dg,gP hx,jk hx, ← hx']
 rfl
theorem GY {e:Int} (he:(bC g p).E e):nw g (iB g e)∧nw g (jj g e):=by
 have:=eA (aE hrun.1) (k:=e.toNat) (by have:=he.1;have:=he.2;show e.toNat<(bC g p).m;omega)
 exact ⟨this.1,this.2⟩
theorem EE {x:Int} (hx:nw g x) {z:Int} :z∈(aF g p).getD x.toNat []↔(0≤z∧z<2*(g.es.length:Int))∧nJ g z=x:=by
 have hO:=nH hrun hI
 rw [oZ hrun hI hx,List.mem_append,List.mem_map,List.mem_map]
 have hE:∀e,(bC g p).E e↔0≤e∧e<(g.es.length:Int):=fun e=>Iff.rfl
 constructor
 ·rintro (⟨e,h1,rfl⟩|⟨e,h1,rfl⟩)
  ·obtain ⟨h2,h3⟩:=(hO.cq x e).1 h1
   have h2:=(hE e).1 h2
   exact ⟨by omega,by rw [vY];exact h3⟩
  ·obtain ⟨h2,h3⟩:=(hO.cA x e).1 (List.mem_reverse.1 h1)
   have h2:=(hE e).1 h2
   exact ⟨by omega,by rw [zA];exact h3⟩
 ·rintro ⟨h1,h2⟩
  rcases (show z=2*(z / 2)∨z=2*(z / 2)+1 by omega) with e|e
  ·rw [e,vY] at h2
   exact .inl ⟨z / 2,(hO.cq x _).2 ⟨(hE _).2 (by omega),h2⟩,e.symm⟩
  ·rw [e,zA] at h2
   exact .inr ⟨z / 2,List.mem_reverse.2 ((hO.cA x _).2 ⟨(hE _).2 (by omega),h2⟩),e.symm⟩
theorem vZ {x:Int} (hx:nw g x):((aF g p).getD x.toNat []).Nodup:=by
 have hO:=nH hrun hI
 rw [oZ hrun hI hx,List.nodup_append]
 refine ⟨ED (fun a b e=>by omega) (hO.kA x),ED (fun a b e=>by omega) (l9.2 (hO.vn x)),fun a ha b hb e=> ?_⟩
 obtain ⟨a',_,rfl⟩:=List.mem_map.1 ha
 obtain ⟨b',_,rfl⟩:=List.mem_map.1 hb
 have e:2*a'=2*b'+1:=e
 omega
theorem s8:uE g (aF g p) where
 len:=by rw [j0,hrun.2.1.1]
 nd:=fun x hx=>by
  have:=vZ hrun hI (x:=(x:Int)) ⟨by omega,by omega⟩
  rwa [Int.toNat_natCast] at this
 mem:=fun x hx z=>by
  have:=EE hrun hI (x:=(x:Int)) ⟨by omega,by omega⟩ (z:=z)
  rwa [Int.toNat_natCast] at this
theorem uF (hm0:0<g.es.length) {e:Int} (he:(bC g p).E e):
 (∃a,(bC g p).E a∧fc g (aF g p) (2*e)=2*a+1∧(Rf g p a=Lf g p e∨Rf g p a=cN g p∧Lf g p e=0))∨
 (∃o,(bC g p).E o∧fc g (aF g p) (2*e)=2*o∧iB g o=jj g e∧Lf g p o=Lf g p e):=by
 have hO:=nH hrun hI
 have hF:=fA hrun hI
 have hx:=(GY hrun hI he).2
 have dV:fc g (aF g p) (2*e)=nK ((aF g p).getD (jj g e).toNat []) (2*e+1):=by unfold fc;rw [EC,zA]
 have b8:=vZ hrun hI hx
 have hrw:=oZ hrun hI hx
 have hie:e∈(bC g p).ins (jj g e):=(hO.cA _ e).2 ⟨he,rfl⟩
 obtain ⟨u,v,huv⟩:=List.append_of_mem hie
 rw [dV]
 rw [huv,List.reverse_append,List.reverse_cons,List.map_append,List.map_append,List.map_cons,List.map_nil] at hrw
 by_cases hu:u= []
 ·subst hu
  have hend:=AI (o:=2*e+1) (u:=((bC g p).outs (jj g e)).map (fun i=>2*i)++v.reverse.map fun i=>2*i+1) b8 (by rw [hrw];simp)
  cases ho:(bC g p).outs (jj g e) with
  |cons o w=>
   right
   refine ⟨o,((hO.cq _ o).1 (by rw [ho];simp)).1, ?_,((hO.cq _ o).1 (by rw [ho];simp)).2,(hF.fst huv ho).symm⟩
   rw [hend,hrw,ho];rfl
  |nil=>
   left
   have hs:=(hO.l8 _ (by rw [huv];simp)).1 ho
   obtain ⟨k1,k2,k3⟩:=EB hO hF (show 0<(bC g p).m from hm0)
   rw [← hs,huv] at k1 k2
   obtain ⟨w,a,hw⟩:=c7 (l:=(bC g p).ins (jj g e)) (by rw [huv];simp)
   rw [huv] at hw
   rw [hw,fN] at k2
   have ha:a∈(bC g p).ins (jj g e):=by rw [huv,hw];simp
   refine ⟨a,((hO.cA _ a).1 ha).1, ?_, .inr ⟨k2,k1.1⟩⟩
   have e2:(v.reverse.map fun i=>2*i+1)++([2*e+1]++List.map (fun i=>2*i+1) ([]:List Int).reverse)=(([]++e::v).reverse).map fun i=>2*i+1:=by simp
   rw [hend,hrw,ho]
   simp only [List.map_nil,List.nil_append,List.reverse_nil,List.append_nil]
   have e3:(v.reverse.map fun i=>2*i+1)++ [2*e+1]=((w++ [a]).reverse).map fun i=>2*i+1:=by rw [← hw];simp
   rw [e3];simp
 ·left
  obtain ⟨u',a,rfl⟩:=c7 hu
  have ha:a∈(bC g p).ins (jj g e):=by rw [huv];simp
  refine ⟨a,((hO.cA _ a).1 ha).1, ?_, .inl (hF.sD (u:=u') (b:=e) (v:=v) (by rw [huv];simp))⟩
  refine vV (u:=((bC g p).outs (jj g e)).map (fun i=>2*i)++v.reverse.map fun i=>2*i+1) (v:=u'.reverse.map fun i=>2*i+1) b8 ?_
  rw [hrw];simp
theorem ye {e:Int} (he:(bC g p).E e):
 (∃o,(bC g p).E o∧fc g (aF g p) (2*e+1)=2*o∧((∃u v,(bC g p).outs (iB g e)=u++e::o::v)∨Rf g p e=cN g p∧∃v,(bC g p).outs (bC g p).src=o::v))∨
 (∃a,(bC g p).E a∧fc g (aF g p) (2*e+1)=2*a+1∧jj g a=iB g e∧Rf g p a=Rf g p e):=by
 have hO:=nH hrun hI
 have hF:=fA hrun hI
 have hx:=(GY hrun hI he).1
 have dV:fc g (aF g p) (2*e+1)=nK ((aF g p).getD (iB g e).toNat []) (2*e):=by unfold fc;rw [Gn,vY]
 have b8:=vZ hrun hI hx
 have hrw:=oZ hrun hI hx
 have hie:e∈(bC g p).outs (iB g e):=(hO.cq _ e).2 ⟨he,rfl⟩
 obtain ⟨u,v,huv⟩:=List.append_of_mem hie
 rw [dV]
 rw [huv,List.map_append,List.map_cons] at hrw
 cases v with
 |cons o w=>
  left
  have ho:o∈(bC g p).outs (iB g e):=by rw [huv];simp
  refine ⟨o,((hO.cq _ o).1 ho).1, ?_, .inl ⟨u,w,huv⟩⟩
  refine vV (u:=u.map fun i=>2*i) (v:=w.map (fun i=>2*i)++((bC g p).ins (iB g e)).reverse.map fun i=>2*i+1) b8 ?_
  rw [hrw];simp
 |nil=>
  by_cases hi:(bC g p).ins (iB g e)= []
  ·left
   have hs:iB g e=(bC g p).src:=Decidable.byContradiction fun hne=>pR hO hF he hne hi
   rw [hi] at hrw
   have hend:=AI (o:=2*e) (u:=u.map fun i=>2*i) b8 (by rw [hrw];simp)
   obtain ⟨o,w,how⟩:=gN (l:=(bC g p).outs (iB g e)) (by rw [huv];simp)
   have ho:o∈(bC g p).outs (iB g e):=by rw [how];simp
   refine ⟨o,((hO.cq _ o).1 ho).1, ?_, .inr ⟨hF.s1 (b:=e) (v:=u) (by rw [← hs,huv]),w,by rw [← hs,how]⟩⟩
   have e2:u.map (fun i=>2*i)++ [2*e]=(o::w).map fun i=>2*i:=by rw [← how,huv];simp
   rw [hend,hrw]
   simp only [List.map_nil,List.reverse_nil,List.append_nil]
   rw [e2];rfl
  ·right
   obtain ⟨w,a,hw⟩:=c7 hi
   have ha:a∈(bC g p).ins (iB g e):=by rw [hw];simp
   refine ⟨a,((hO.cA _ a).1 ha).1, ?_,((hO.cA _ a).1 ha).2,hF.EX hw huv⟩
   refine vV (u:=u.map fun i=>2*i) (v:=w.reverse.map fun i=>2*i+1) b8 ?_
   rw [hrw,hw];simp
def p8 (c:Int) (g:Gr) (p:Pl):Int:=if c=cN g p then 0 else c
theorem EF:p8 0 g p=0:=by unfold p8;split<;>rfl
theorem EG:p8 (cN g p) g p=0:=if_pos rfl
def KX (g:Gr) (p:Pl) (c z:Int):Prop:=(c=0∧∃o v,(bC g p).outs (bC g p).src=o::v∧z=2*o)∨∃a x u o v,(bC g p).outs x=u++a::o::v∧Rf g p a=c∧z=2*o
theorem Ir {c z z':Int} (h1:KX g p c z) (h2:KX g p c z'):z=z':=by
 have hO:=nH hrun hI
 have hF:=fA hrun hI
 rcases h1 with ⟨c1,o,v,e1,rfl⟩|⟨a,x,u,o,v,e1,r1,rfl⟩<;>rcases h2 with ⟨c2,o',v',e2,rfl⟩|⟨a',x',u',o',v',e2,r2,rfl⟩
 ·rw [e1] at e2
  rw [(List.cons.inj e2).1]
 ·exact absurd (r2.trans c1) (hF.new e2).2.1
 ·exact absurd (r1.trans c2) (hF.new e1).2.1
 ·have NS:a=a':=F3 hO hF ⟨x,u,o,v,e1⟩ ⟨x',u',o',v',e2⟩ (r1.trans r2.symm)
  subst NS
  have t1:=((hO.cq x a).1 (by rw [e1];simp)).2
  have t2:=((hO.cq x' a).1 (by rw [e2];simp)).2
  have:x=x':=t1.symm.trans t2
  subst this
  have:=(xI (hO.kA x) e1 e2).2
  rw [(List.cons.inj this).1]
theorem v7:∀ {d:Nat} {e:Int},(bC g p).xG (iB g e)<d→(bC g p).E e→∃z,Rc (fc g (aF g p)) (2*e+1) z∧KX g p (p8 (Rf g p e) g p) z
 |0,e,hd,_=>by omega
 |d+1,e,hd,he=>by
  have hO:=nH hrun hI
  have hF:=fA hrun hI
  rcases ye hrun hI he with ⟨o,ho,hn,⟨u,v,e1⟩|⟨e1,v,e2⟩⟩|⟨a,ha,hn,ht,hR⟩
  ·refine ⟨2*o,⟨1,hn⟩, .inr ⟨e,_,u,o,v,e1, ?_,rfl⟩⟩
   unfold p8
   rw [if_neg (hF.new e1).2.2]
  ·exact ⟨2*o,⟨1,hn⟩, .inl ⟨by rw [e1];exact if_pos rfl,o,v,e2,rfl⟩⟩
  ·have hp:=hO.nk a ha
   have hp:(bC g p).xG (iB g a)<(bC g p).xG (jj g a):=hp
   rw [ht] at hp
   obtain ⟨z,h1,h2⟩:=v7 (d:=d) (e:=a) (by omega) ha
   exact ⟨z,(show Rc (fc g (aF g p)) _ (2*a+1) from ⟨1,hn⟩).trans h1,by rw [← hR];exact h2⟩
theorem Gp:∃B:Nat,∀e,(bC g p).E e→(bC g p).xG (jj g e)≤B:=by
 have:∀m:Nat,∃B:Nat,∀e:Int,0≤e∧e<m→(bC g p).xG (jj g e)≤B:=fun m=>by
  induction m with
  |zero=>exact ⟨0,fun e he=>by omega⟩
  |succ m ih=>
   obtain ⟨B,hB⟩:=ih
   refine ⟨B+(bC g p).xG (jj g m),fun e he=> ?_⟩
   by_cases h1:e=m
   ·subst h1;omega
   ·have:=hB e (by omega);omega
 exact this g.es.length
theorem GZ (hm0:0<g.es.length) {B:Nat} (hB:∀e,(bC g p).E e→(bC g p).xG (jj g e)≤B):∀ {d:Nat} {e:Int},B - (bC g p).xG (jj g e)<d→(bC g p).E e→∃z,Rc (fc g (aF g p)) (2*e) z∧KX g p (p8 (Lf g p e) g p) z
 |0,e,hd,_=>by omega
 |d+1,e,hd,he=>by
  have hO:=nH hrun hI
  rcases uF hrun hI hm0 he with ⟨a,ha,hn,hR⟩|⟨o,ho,hn,ht,hL⟩
  ·obtain ⟨z,h1,h2⟩:=v7 hrun hI (d:=_+1) (Nat.lt_succ_self _) ha
   refine ⟨z,(show Rc (fc g (aF g p)) _ (2*a+1) from ⟨1,hn⟩).trans h1, ?_⟩
   rcases hR with hR|⟨hR,hL⟩
   ·rw [← hR];exact h2
   ·rw [hL,EF hrun hI];rw [hR,EG hrun hI] at h2;exact h2
  ·have hp:(bC g p).xG (iB g o)<(bC g p).xG (jj g o):=hO.nk o ho
   have hb:=hB o ho
   rw [ht] at hp
   obtain ⟨z,h1,h2⟩:=GZ hm0 hB (d:=d) (e:=o) (by omega) ho
   exact ⟨z,(show Rc (fc g (aF g p)) _ (2*o) from ⟨1,hn⟩).trans h1,by rw [← hL];exact h2⟩
theorem EH (hm0:0<g.es.length) {z:Int} (hz:0≤z∧z<2*(g.es.length:Int)):p8 (iK g p (fc g (aF g p) z)) g p=p8 (iK g p z) g p:=by
 have hF:=fA hrun hI
 have hE:∀e,(bC g p).E e↔0≤e∧e<(g.es.length:Int):=fun e=>Iff.rfl
 rcases (show z=2*(z / 2)∨z=2*(z / 2)+1 by omega) with e|e
 all_goals
  have he:(bC g p).E (z / 2):=(hE _).2 (by omega)
  generalize z / 2=y at e he
  subst e
 ·rcases uF hrun hI hm0 he with ⟨a,ha,hn,hR|⟨hR,hL⟩⟩|⟨o,ho,hn,ht,hL⟩
  ·rw [hn,ja,gu,hR]
  ·rw [hn,ja,gu,hR,hL,EF hrun hI,EG hrun hI]
  ·rw [hn,gu,gu,hL]
 ·rcases ye hrun hI he with ⟨o,ho,hn,⟨u,v,e1⟩|⟨e1,v,e2⟩⟩|⟨a,ha,hn,ht,hR⟩
  ·rw [hn,gu,ja,hF.fX e1]
  ·rw [hn,gu,ja,hF.s0 e2,e1,EF hrun hI,EG hrun hI]
  ·rw [hn,ja,ja,hR]
theorem EI (hm0:0<g.es.length) {z:Int} (hz:0≤z∧z<2*(g.es.length:Int)):∀ {n:Nat},p8 (iK g p (jr (fc g (aF g p)) n z)) g p=p8 (iK g p z) g p
 |0=>rfl
 |n+1=>by
  have hm:=aE hrun.1
  have hr:=s8 hrun hI
  have:=fU (f:=fc g (aF g p)) (M:=2*g.es.length) (fun h h0 h1=>by have:=(mA hm hr h0 (by omega)).1;omega) (h:=z) hz.1 (by omega) (n:=n)
  show p8 (iK g p (fc g (aF g p) (jr _ n z))) g p=_
  rw [EH hrun hI hm0 ⟨this.1,by omega⟩,EI hm0 hz]
theorem zB (hm0:0<g.es.length) {a b:Int} (ha:0≤a∧a<2*(g.es.length:Int)) (hb:0≤b∧b<2*(g.es.length:Int)):(iK g p a=iK g p b→Rc (fc g (aF g p)) a b)∧
 (Rc (fc g (aF g p)) a b→iK g p a≠0→iK g p a≠cN g p→iK g p b≠0→iK g p b≠cN g p→iK g p a=iK g p b):=by
 have hm:=aE hrun.1
 have hr:=s8 hrun hI
 obtain ⟨B,hB⟩:=Gp hrun hI
 have hE:∀e,(bC g p).E e↔0≤e∧e<(g.es.length:Int):=fun e=>Iff.rfl
 have key:∀z:Int,0≤z∧z<2*(g.es.length:Int)→∃y,Rc (fc g (aF g p)) z y∧KX g p (p8 (iK g p z) g p) y:=fun z hz=>by
  rcases (show z=2*(z / 2)∨z=2*(z / 2)+1 by omega) with e|e
  all_goals
   have he:(bC g p).E (z / 2):=(hE _).2 (by omega)
   generalize z / 2=y at e he
   subst e
  ·rw [gu];exact GZ hrun hI hm0 hB (d:=_+1) (Nat.lt_succ_self _) he
  ·rw [ja];exact v7 hrun hI (d:=_+1) (Nat.lt_succ_self _) he
 refine ⟨fun e=> ?_,fun hR a0 a1 b0 b1=> ?_⟩
 ·obtain ⟨y,h1,h2⟩:=key a ha
  obtain ⟨y',h3,h4⟩:=key b hb
  rw [e] at h2
  have:=Ir hrun hI h2 h4
  subst this
  exact h1.trans (Rc.symm (M:=2*g.es.length) (fun h h0 h1=>by have:=(mA hm hr h0 (by omega)).1;omega) (fun a b a0 a1 b0 b1 e=>vW hm hr a0 (by omega) b0 (by omega) e) hb.1 (by omega) h3)
 ·obtain ⟨n,rfl⟩:=hR
  have:=EI hrun hI hm0 ha (n:=n)
  unfold p8 at this
  rw [if_neg a1,if_neg b1] at this
  exact this.symm
end
end Go.Ab
end
section
namespace Go.Ab
open Go.Proofs
attribute [local congr] ACall.congr gd.congr Nx.congr
set_option maxRecDepth 20000
set_option maxHeartbeats 16000000
def kS (g:Gr) (p:Pl) (M k:Nat):List Int:=(List.range M).map fun h:Nat=>if h<2*k then iK g p (h:Int) else 0
theorem gv {g:Gr} {p:Pl} {M k:Nat} :(kS g p M k).length=M:=by simp [kS]
theorem iD {g:Gr} {p:Pl} {M k h:Nat} (hh:h<M):(kS g p M k).getD h 0=if h<2*k then iK g p (h:Int) else 0:=by
 simp [kS,List.getD_eq_getElem?_getD,List.getElem?_range hh]
theorem Is {g:Gr} {p:Pl} {M:Nat} :kS g p M 0=List.replicate M 0:=by
 refine jZ (by rw [gv,List.length_replicate]) fun h hh=> ?_
 rw [gv] at hh
 rw [iD hh,if_neg (by omega)]
 simp [List.getD_eq_getElem?_getD,hh]
theorem B3 {g:Gr} {p:Pl} {M k z z1:Nat} (hz:z=2*k) (FC:z1=z+1) (hM:z1<M):((kS g p M k).set z (Lf g p k)).set z1 (Rf g p k)=kS g p M (k+1):=by
 refine jZ (by rw [List.length_set,List.length_set,gv,gv]) fun h hh=> ?_
 rw [List.length_set,List.length_set,gv] at hh
 rw [List.getD_eq_getElem?_getD,List.getElem?_set]
 by_cases e:z1=h
 ·subst e
  rw [if_pos rfl,if_pos (by rw [List.length_set,gv];exact hh),iD hh,if_pos (by omega)]
  show Rf g p k=iK g p _
  rw [show ((z1:Nat):Int)=2*(k:Int)+1 by omega,ja]
 ·rw [if_neg e,List.getElem?_set]
  by_cases e2:z=h
  ·subst e2
   rw [if_pos rfl,if_pos (by rw [gv];exact hh),iD hh,if_pos (by omega)]
   show Lf g p k=iK g p _
   rw [show ((z:Nat):Int)=2*(k:Int) by omega,gu]
  ·rw [if_neg e2, ← List.getD_eq_getElem?_getD,iD hh,iD hh]
   by_cases e3:h<2*k
   ·rw [if_pos e3,if_pos (by omega)]
   ·rw [if_neg e3,if_neg (by omega)]
theorem Gq {A l:List Int} {j:Nat} {k:Int} (hj:j<l.length):wj A (l.take (j+1)) k=(wj A (l.take j) k).set (l.getD j 0).toNat k:=by
 rw [Ey hj rfl]
 unfold wj
 rw [List.foldl_append];rfl
theorem s9 (g:Gr) (p:Pl) (hl:g.es.length≤9223372036854775807) (hp:Aj p):Spec Tryz.prog 3 (Args [eG g,ePl p]) [] (eB true) []:=by
 obtain ⟨b,hr⟩:=Qw g p
 have KY:=vQ g hl p hp b hr
 (refine Spec.hd (C:=T.cfg [72,77] []) (rs:= [.t 4]) (T.ai _ _) Tryz.func3 rfl rfl Tryz.ntmps3 Tryz.results3 (by simp [AObj.isNest]) (by simp [AObj.isNest]) (by kernel_rfl) T.mixed fun X hX hP hC aK cw=> ?_)
 cases ha:x8 b g p with
 |false=>
  rw [ha] at KY
  repeat' (first|refine Rn.p ?_|(with_reducible apply And.intro)|((first|(refine hK _ ?_;clear hK K)|with_reducible intro K hK|refine Rs.p ?_|((with_reducible first|apply oP|apply oQ);exact rfl)|refine aa hX hC hP (jm) rfl rfl rfl (by simp only [go_sem,simprocAttr]) rfl ?_|refine aa hX hC hP (KY) rfl rfl rfl (by simp only [go_sem,simprocAttr]) rfl ?_);try simp only [go_sem,simprocAttr])|((with_reducible refine oD ?_ ?_);kernel_rfl)|((with_reducible intro h);try simp only [go_sem,simprocAttr] at h)|omega|intro h)
 |true=>
 rw [ha] at KY
 obtain ⟨hB,hI,hrun,h0,Il⟩:=Ii hr ha
 have hm:=aE hrun.1
 have hD:=qq g (by omega) p (xY hB) b hr
 rw [Ij hr hrun hI h0] at hD
 simp only at hD
 have Fk:(cN g p:Int)≤9223372036854775807:=by
  have h1:=aU (Ga hrun hI h0 Il)
  have h2:(IV g p).n=(cN g p:Int)+1:=rfl
  omega
 have Gs:=s8 hrun hI
 have OY:=BY g (by omega) p hrun
 have OZ:=yd g hm _ Gs
 have yf:=yc g hm _ Gs
 obtain ⟨M,hM1⟩:∃M:Nat,M=2*g.es.length:=⟨_,rfl⟩
 have vX:2*(g.es.length:Int)=(M:Int):=by omega
 have hmap:∀h:Int,0≤h→h<M→0≤fc g (aF g p) h∧fc g (aF g p) h<M:=fun h h0 h1=>by have:=(mA hm Gs h0 (by omega)).1;omega
 have hinj:∀a b:Int,0≤a→a<M→0≤b→b<M→fc g (aF g p) a=fc g (aF g p) b→a=b:=fun a b a0 a1 b0 b1 e=>vW hm Gs a0 (by omega) b0 (by omega) e
 rw [← hM1] at yf
 have Sf:=AK (f:=fc g (aF g p)) (M:=M) (k:=M)
 have Rb:∀k,k<(bR (fc g (aF g p)) M M).length→((bR (fc g (aF g p)) M M).getD k []).length≤M∧∀h∈(bR (fc g (aF g p)) M M).getD k [],0≤h∧h<M:=fun k hk=>by
  have e2:(bR (fc g (aF g p)) M M).getD k []=(bR (fc g (aF g p)) M M)[k]:=by rw [List.getD_eq_getElem?_getD,List.getElem?_eq_getElem hk];rfl
  obtain ⟨h',g1,g2,g3⟩:=(mz hmap hinj).1 (List.getElem_mem hk)
  rw [e2,g3]
  refine ⟨?_,fun h hh=> ?_⟩
  ·have:=(pX hmap hinj (h:=(h':Int)) (by omega) (by omega)).2.1
   unfold s6;rw [List.length_map,List.length_range];exact this
  ·obtain ⟨j,_,rfl⟩:=List.mem_map.1 hh
   exact fU hmap (by omega) (by omega)
 have wR:∀a b:Nat,a<M→b<M→((kS g p M g.es.length).getD a 0=(kS g p M g.es.length).getD b 0→(nI (bR (fc g (aF g p)) M M) (List.replicate M 0) (bR (fc g (aF g p)) M M).length).getD a 0=(nI (bR (fc g (aF g p)) M M) (List.replicate M 0) (bR (fc g (aF g p)) M M).length).getD b 0)∧
  ((nI (bR (fc g (aF g p)) M M) (List.replicate M 0) (bR (fc g (aF g p)) M M).length).getD a 0=(nI (bR (fc g (aF g p)) M M) (List.replicate M 0) (bR (fc g (aF g p)) M M).length).getD b 0→(kS g p M g.es.length).getD a 0≠0→(kS g p M g.es.length).getD a 0≠cN g p→(kS g p M g.es.length).getD b 0≠0→(kS g p M g.es.length).getD b 0≠cN g p→(kS g p M g.es.length).getD a 0=(kS g p M g.es.length).getD b 0):=fun a b ha hb=>by
  rw [Et hmap hinj ha hb,iD ha,iD hb,if_pos (by omega),if_pos (by omega)]
  exact zB hrun hI h0 (a:=(a:Int)) (b:=(b:Int)) ⟨by omega,by omega⟩ ⟨by omega,by omega⟩
 have hs0:=Is (g:=g) (p:=p) (M:=M)
 have hst:=fun k z z1 h1 h2 h3=>B3 (g:=g) (p:=p) (M:=M) (k:=k) (z:=z) (z1:=z1) h1 h2 h3
 have ym:=fun k=>gv (g:=g) (p:=p) (M:=M) (k:=k)
 have a1:=fun (i:Nat) (hi:i<g.es.length)=>vN (f:=Lf g p) hi
 have a2:=fun (i:Nat) (hi:i<g.es.length)=>vN (f:=Rf g p) hi
 have c1:(arr (Lf g p) g.es.length).length=g.es.length:=ee
 have c2:(arr (Rf g p) g.es.length).length=g.es.length:=ee
 have hlo:=F8 (g:=g) (p:=p)
 have hw0:nI (bR (fc g (aF g p)) M M) (List.replicate M 0) 0=List.replicate M 0:=rfl
 have La:=fun k=>vS (ls:=bR (fc g (aF g p)) M M) (A:=List.replicate M 0) (k:=k)
 have Re:∀k:Nat,nI (bR (fc g (aF g p)) M M) (List.replicate M 0) (k+1)=wj (nI (bR (fc g (aF g p)) M M) (List.replicate M 0) k) ((bR (fc g (aF g p)) M M).getD k []) k:=fun k=>rfl
 have Ho:∀(k z z1:Nat),k<g.es.length→z=2*k→z1=z+1→z1<M→((kS g p M k).set z ((arr (Lf g p) g.es.length).getD k 0)).set z1 ((arr (Rf g p) g.es.length).getD k 0)=kS g p M (k+1):=fun k z z1 hk h1 h2 h3=>by
  rw [a1 k hk,a2 k hk];exact hst k z z1 h1 h2 h3
 clear hst a1 a2 hmap hinj
 generalize Ov:nI (bR (fc g (aF g p)) M M) (List.replicate M 0)=W at*
 generalize bR (fc g (aF g p)) M M=Fs at*
 generalize aF g p=T at*
 generalize arr (Lf g p) g.es.length=LA at*
 generalize arr (Rf g p) g.es.length=RA at*
 generalize IU g p=lo at*
 generalize Lm g p=NT at*
 generalize kS g p M=SA at*
 generalize cN g p=cn at*
 have Eh:(lo.length:Int) - 1=(cn:Int):=by omega
 repeat' (first|refine Rn.p ?_|(with_reducible apply And.intro)|((first|(refine hK _ ?_;clear hK K)|with_reducible intro K hK|refine Rs.p ?_|((with_reducible first|apply oP|apply oQ);exact rfl)|refine aa hX hC hP (jm) rfl rfl rfl (by simp only [go_sem,simprocAttr,pV,c1,c2,vX,Int.toNat_natCast,decide_true,decide_false]) rfl ?_|refine aa hX hC hP (KY) rfl rfl rfl (by simp only [go_sem,simprocAttr,pV,c1,c2,vX,Int.toNat_natCast,decide_true,decide_false]) rfl ?_|refine aa hX hC hP (hD) rfl rfl rfl (by simp only [go_sem,simprocAttr,pV,c1,c2,vX,Int.toNat_natCast,decide_true,decide_false]) rfl ?_|refine aa hX hC hP (OY) rfl rfl rfl (by simp only [go_sem,simprocAttr,pV,c1,c2,vX,Int.toNat_natCast,decide_true,decide_false]) rfl ?_|refine aa hX hC hP (OZ) rfl rfl rfl (by simp only [go_sem,simprocAttr,pV,c1,c2,vX,Int.toNat_natCast,decide_true,decide_false]) rfl ?_);try simp only [go_sem,simprocAttr,pV,c1,c2,vX,Int.toNat_natCast,decide_true,decide_false])|((with_reducible refine oD ?_ ?_);kernel_rfl)|((with_reducible intro h);try simp only [go_sem,simprocAttr,pV,c1,c2,vX,Int.toNat_natCast,decide_true,decide_false] at h)|omega|intro h)
 refine ag (fun k:Nat=>k≤g.es.length) (fun k=>⟨[(2, .ptr 2 0),(5, .ptr 5 0),(7, .d (.sl 1 (vI T))),(9, .ref 72),(10, .ref 77),(80,eN g.es.length),(81,eN k)], [(2, .box [eN g.n, .d (sE g.es)]),(5, .box [.d (sI LA), .d (sI RA), .d (sI lo), .d (sI NT)]),(72, .own 3 1 ((SA k).map rI)),(77, .own 3 1 ((List.replicate M (0:Int)).map rI))]⟩) (fun k=>g.es.length - k) 0 (by omega) ?_ ?_
 ·refine Le.of ?_ ?_<;>simp [go_sem,simprocAttr,hs0,rI]
 rintro k hk
 rcases Nat.lt_or_ge k g.es.length with ck|Gx
 ·have ak:decide ((k:Int)<(g.es.length:Int))=true:=decide_eq_true (by omega)
  obtain ⟨z,hz⟩:∃z:Nat,z=2*k:=⟨_,rfl⟩
  obtain ⟨z1,FC⟩:∃z1:Nat,z1=z+1:=⟨_,rfl⟩
  have B6:2*(k:Int)=(z:Int):=by omega
  have yg:(z:Int)+1=(z1:Int):=by omega
  have hs1:=Ho k z z1 ck hz FC (by omega)
  have cD:=ym k
  have Iq:z<M∧z1<M:=by omega
  generalize Rg:SA (k+1)=S2 at hs1
  generalize SA k=S1 at hs1 cD ⊢
  repeat' (first|refine Rn.p ?_|(with_reducible apply And.intro)|((first|(refine hK _ ?_;clear hK K)|with_reducible intro K hK|refine Rs.p ?_|((with_reducible first|apply oP|apply oQ);exact rfl)|refine aa hX hC hP (jm) rfl rfl rfl (by simp only [go_sem,simprocAttr,ak,B6,yg,c1,c2,cD,List.length_map,List.length_set]) rfl ?_|refine aa hX hC hP (KY) rfl rfl rfl (by simp only [go_sem,simprocAttr,ak,B6,yg,c1,c2,cD,List.length_map,List.length_set]) rfl ?_|refine aa hX hC hP (hD) rfl rfl rfl (by simp only [go_sem,simprocAttr,ak,B6,yg,c1,c2,cD,List.length_map,List.length_set]) rfl ?_|refine aa hX hC hP (OY) rfl rfl rfl (by simp only [go_sem,simprocAttr,ak,B6,yg,c1,c2,cD,List.length_map,List.length_set]) rfl ?_|refine aa hX hC hP (OZ) rfl rfl rfl (by simp only [go_sem,simprocAttr,ak,B6,yg,c1,c2,cD,List.length_map,List.length_set]) rfl ?_);try simp only [go_sem,simprocAttr,ak,B6,yg,c1,c2,cD,List.length_map,List.length_set])|((with_reducible refine oD ?_ ?_);kernel_rfl)|((with_reducible intro h);try simp only [go_sem,simprocAttr,ak,B6,yg,c1,c2,cD,List.length_map,List.length_set] at h)|omega|intro h)
  refine ⟨k+1,by omega, ?_,by omega⟩
  rw [Rg, ← hs1]
  have hne:z≠z1:=by omega
  obtain ⟨y,hy⟩:∃y,S1[z1]? =some y:=⟨_,List.getElem?_eq_getElem (by omega)⟩
  refine Le.of ?_ ?_<;>simp [go_sem,simprocAttr,ak,B6,yg,c1,c2,cD,List.length_map,List.length_set,rI,List.getElem?_set_ne hne,hy]
 have ak:decide ((k:Int)<(g.es.length:Int))=false:=decide_eq_false (by omega)
 obtain rfl:k=g.es.length:=by omega
 have cD:=ym g.es.length
 generalize SA g.es.length=S1 at*
 repeat' (first|refine Rn.p ?_|(with_reducible apply And.intro)|((first|(refine hK _ ?_;clear hK K)|with_reducible intro K hK|refine Rs.p ?_|((with_reducible first|apply oP|apply oQ);exact rfl)|refine aa hX hC hP (yf) rfl rfl rfl (by simp only [go_sem,simprocAttr,ak,vI_length]) rfl ?_);try simp only [go_sem,simprocAttr,ak,vI_length])|((with_reducible refine oD ?_ ?_);kernel_rfl)|((with_reducible intro h);try simp only [go_sem,simprocAttr,ak,vI_length] at h)|omega|intro h)
 refine ag (fun k:Nat=>k≤Fs.length) (fun k=>⟨[(5, .ptr 5 0),(9, .ref 72),(10, .ref 77),(106, .d (.sl 1 (vI Fs))),(107,eN Fs.length),(108,eN k)], [(5, .box [.d (sI LA), .d (sI RA), .d (sI lo), .d (sI NT)]),(72, .own 3 1 (S1.map rI)),(77, .own 3 1 ((W k).map rI))]⟩) (fun k=>Fs.length - k) 0 (by omega) ?_ ?_
 ·refine Le.of ?_ ?_<;>simp [go_sem,simprocAttr,hw0,rI]
 rintro k hk
 rcases Nat.lt_or_ge k Fs.length with ck|Gx
 ·have an:decide ((k:Int)<(Fs.length:Int))=true:=decide_eq_true (by omega)
  have j3:=fun d=>fq (ls:=Fs) ck d
  obtain ⟨m1,m2⟩:=Rb k ck
  have Iu:=Re k
  have dL:=La k
  rw [List.length_replicate] at dL
  generalize Fs.getD k []=l at*
  generalize Rh:W (k+1)=W2 at Iu
  generalize W k=W1 at Iu dL ⊢
  repeat' (first|refine Rn.p ?_|(with_reducible apply And.intro)|((first|(refine hK _ ?_;clear hK K)|with_reducible intro K hK|refine Rs.p ?_|((with_reducible first|apply oP|apply oQ);exact rfl)|refine aa hX hC hP (yf) rfl rfl rfl (by simp only [go_sem,simprocAttr,an,vI_length,j3]) rfl ?_);try simp only [go_sem,simprocAttr,an,vI_length,j3])|((with_reducible refine oD ?_ ?_);kernel_rfl)|((with_reducible intro h);try simp only [go_sem,simprocAttr,an,vI_length,j3] at h)|omega|intro h)
  refine ag (fun j:Nat=>j≤l.length) (fun j=>⟨[(5, .ptr 5 0),(9, .ref 72),(10, .ref 77),(12,eN k),(106, .d (.sl 1 (vI Fs))),(107,eN Fs.length),(108,eN k),(113, .d (sI l)),(114,eN l.length),(115,eN j)], [(5, .box [.d (sI LA), .d (sI RA), .d (sI lo), .d (sI NT)]),(72, .own 3 1 (S1.map rI)),(77, .own 3 1 ((wj W1 (l.take j) k).map rI))]⟩) (fun j=>l.length - j) 0 (by omega) ?_ ?_
  ·refine Le.of ?_ ?_<;>simp [go_sem,simprocAttr,wj]
  rintro j hj
  rcases Nat.lt_or_ge j l.length with hjl|IK
  ·have bH:decide ((j:Int)<(l.length:Int))=true:=decide_eq_true (by omega)
   have hq:=m2 _ (aV (d:=0) hjl)
   have hwn:=Gq (A:=W1) (k:=k) hjl
   have EJ:(wj W1 (l.take j) k).length=M:=by rw [zw,dL]
   obtain ⟨z,hz⟩:∃z:Nat,l.getD j 0=(z:Int):=⟨(l.getD j 0).toNat,by omega⟩
   rw [hz] at hq
   rw [hz,Int.toNat_natCast] at hwn
   have Iq:z<M:=by omega
   generalize Ri:wj W1 (l.take (j+1)) k=V2 at hwn
   generalize wj W1 (l.take j) k=V1 at hwn EJ ⊢
   repeat' (first|refine Rn.p ?_|(with_reducible apply And.intro)|((first|(refine hK _ ?_;clear hK K)|with_reducible intro K hK|refine Rs.p ?_|((with_reducible first|apply oP|apply oQ);exact rfl)|refine aa hX hC hP (yf) rfl rfl rfl (by simp only [go_sem,simprocAttr,bH,hz,EJ,List.length_map]) rfl ?_);try simp only [go_sem,simprocAttr,bH,hz,EJ,List.length_map])|((with_reducible refine oD ?_ ?_);kernel_rfl)|((with_reducible intro h);try simp only [go_sem,simprocAttr,bH,hz,EJ,List.length_map] at h)|omega|intro h)
   refine ⟨j+1,by omega, ?_,by omega⟩
   rw [Ri,hwn]
   refine Le.of ?_ ?_<;>simp [go_sem,simprocAttr,bH,hz,EJ,List.length_map,rI]
  ·have bH:decide ((j:Int)<(l.length:Int))=false:=decide_eq_false (by omega)
   obtain rfl:j=l.length:=by omega
   rw [List.take_length, ← Iu]
   repeat' (first|refine Rn.p ?_|(with_reducible apply And.intro)|((first|(refine hK _ ?_;clear hK K)|with_reducible intro K hK|refine Rs.p ?_|((with_reducible first|apply oP|apply oQ);exact rfl)|refine aa hX hC hP (yf) rfl rfl rfl (by simp only [go_sem,simprocAttr,bH]) rfl ?_);try simp only [go_sem,simprocAttr,bH])|((with_reducible refine oD ?_ ?_);kernel_rfl)|((with_reducible intro h);try simp only [go_sem,simprocAttr,bH] at h)|omega|intro h)
   refine ⟨k+1,by omega, ?_,by omega⟩
   rw [Rh]
   refine Le.of ?_ ?_<;>simp [go_sem,simprocAttr,bH]
 have an:decide ((k:Int)<(Fs.length:Int))=false:=decide_eq_false (by omega)
 obtain rfl:k=Fs.length:=by omega
 have dL:=La Fs.length
 rw [List.length_replicate] at dL
 generalize W Fs.length=W1 at*
 repeat' (first|refine Rn.p ?_|(with_reducible apply And.intro)|((first|(refine hK _ ?_;clear hK K)|with_reducible intro K hK|refine Rs.p ?_|((with_reducible first|apply oP|apply oQ);exact rfl)|refine aa hX hC hP (yf) rfl rfl rfl (by simp only [go_sem,simprocAttr,an,Eh,Fk,cD,List.length_map]) rfl ?_);try simp only [go_sem,simprocAttr,an,Eh,Fk,cD,List.length_map])|((with_reducible refine oD ?_ ?_);kernel_rfl)|((with_reducible intro h);try simp only [go_sem,simprocAttr,an,Eh,Fk,cD,List.length_map] at h)|omega|intro h)
 refine ag (fun a:Nat=>a≤M) (fun a=>⟨[(9, .ref 72),(10, .ref 77),(16,eN cn),(130,eN M),(131,eN a)], [(72, .own 3 1 (S1.map rI)),(77, .own 3 1 (W1.map rI))]⟩) (fun a=>M - a) 0 (by omega) ?_ ?_
 ·refine Le.of ?_ ?_<;>simp [go_sem,simprocAttr]
 rintro a ha
 rcases Nat.lt_or_ge a M with wh|Sg
 rotate_left
 ·have bH:decide ((a:Int)<(M:Int))=false:=decide_eq_false (by omega)
  repeat' (first|refine Rn.p ?_|(with_reducible apply And.intro)|((first|(refine hK _ ?_;clear hK K)|with_reducible intro K hK|refine Rs.p ?_|((with_reducible first|apply oP|apply oQ);exact rfl)|refine aa hX hC hP (yf) rfl rfl rfl (by simp only [go_sem,simprocAttr,bH]) rfl ?_);try simp only [go_sem,simprocAttr,bH])|((with_reducible refine oD ?_ ?_);kernel_rfl)|((with_reducible intro h);try simp only [go_sem,simprocAttr,bH] at h)|omega|intro h)
 have bH:decide ((a:Int)<(M:Int))=true:=decide_eq_true (by omega)
 repeat' (first|refine Rn.p ?_|(with_reducible apply And.intro)|((first|(refine hK _ ?_;clear hK K)|with_reducible intro K hK|refine Rs.p ?_|((with_reducible first|apply oP|apply oQ);exact rfl)|refine aa hX hC hP (yf) rfl rfl rfl (by simp only [go_sem,simprocAttr,bH,cD,List.length_map]) rfl ?_);try simp only [go_sem,simprocAttr,bH,cD,List.length_map])|((with_reducible refine oD ?_ ?_);kernel_rfl)|((with_reducible intro h);try simp only [go_sem,simprocAttr,bH,cD,List.length_map] at h)|omega|intro h)
 refine ag (fun c:Nat=>c≤M) (fun c=>⟨[(9, .ref 72),(10, .ref 77),(16,eN cn),(17,eN a),(130,eN M),(131,eN a),(135,eN M),(136,eN c)], [(72, .own 3 1 (S1.map rI)),(77, .own 3 1 (W1.map rI))]⟩) (fun c=>M - c) 0 (by omega) ?_ ?_
 ·refine Le.of ?_ ?_<;>simp [go_sem,simprocAttr]
 rintro c hc
 rcases Nat.lt_or_ge c M with gh|zj
 rotate_left
 ·have hb4:decide ((c:Int)<(M:Int))=false:=decide_eq_false (by omega)
  repeat' (first|refine Rn.p ?_|(with_reducible apply And.intro)|((first|(refine hK _ ?_;clear hK K)|with_reducible intro K hK|refine Rs.p ?_|((with_reducible first|apply oP|apply oQ);exact rfl)|refine aa hX hC hP (yf) rfl rfl rfl (by simp only [go_sem,simprocAttr,hb4]) rfl ?_);try simp only [go_sem,simprocAttr,hb4])|((with_reducible refine oD ?_ ?_);kernel_rfl)|((with_reducible intro h);try simp only [go_sem,simprocAttr,hb4] at h)|omega|intro h)
  refine ⟨a+1,by omega, ?_,by omega⟩
  refine Le.of ?_ ?_<;>simp [go_sem,simprocAttr,hb4]
 have hb4:decide ((c:Int)<(M:Int))=true:=decide_eq_true (by omega)
 obtain ⟨q1,q2⟩:=wR a c wh gh
 clear wR
 generalize mP:S1.getD a 0=sa at*
 generalize kN:S1.getD c 0=sb at*
 generalize mQ:W1.getD a 0=fa at*
 generalize mR:W1.getD c 0=fb at*
 by_cases e1:sa=0
 ·have d1:decide (sa=0)=true:=decide_eq_true e1
  by_cases e5:sa=sb
  ·have d5:decide (sa=sb)=true:=decide_eq_true e5
   have d6:decide (fa=fb)=true:=decide_eq_true (q1 e5)
   repeat' (first|refine Rn.p ?_|(with_reducible apply And.intro)|((first|(refine hK _ ?_;clear hK K)|with_reducible intro K hK|refine Rs.p ?_|((with_reducible first|apply oP|apply oQ);exact rfl)|refine aa hX hC hP (yf) rfl rfl rfl (by simp only [go_sem,simprocAttr,hb4,mP,kN,mQ,mR,cD,dL,List.length_map,d1,d5,d6]) rfl ?_);try simp only [go_sem,simprocAttr,hb4,mP,kN,mQ,mR,cD,dL,List.length_map,d1,d5,d6])|((with_reducible refine oD ?_ ?_);kernel_rfl)|((with_reducible intro h);try simp only [go_sem,simprocAttr,hb4,mP,kN,mQ,mR,cD,dL,List.length_map,d1,d5,d6] at h)|omega|intro h)
   refine ⟨c+1,by omega, ?_,by omega⟩
   refine Le.of ?_ ?_<;>simp [go_sem,simprocAttr,hb4,mP,kN,mQ,mR,cD,dL,List.length_map,d1,d5,d6]
  ·have d5:decide (sa=sb)=false:=decide_eq_false e5
   repeat' (first|refine Rn.p ?_|(with_reducible apply And.intro)|((first|(refine hK _ ?_;clear hK K)|with_reducible intro K hK|refine Rs.p ?_|((with_reducible first|apply oP|apply oQ);exact rfl)|refine aa hX hC hP (yf) rfl rfl rfl (by simp only [go_sem,simprocAttr,hb4,mP,kN,mQ,mR,cD,dL,List.length_map,d1,d5]) rfl ?_);try simp only [go_sem,simprocAttr,hb4,mP,kN,mQ,mR,cD,dL,List.length_map,d1,d5])|((with_reducible refine oD ?_ ?_);kernel_rfl)|((with_reducible intro h);try simp only [go_sem,simprocAttr,hb4,mP,kN,mQ,mR,cD,dL,List.length_map,d1,d5] at h)|omega|intro h)
   refine ⟨c+1,by omega, ?_,by omega⟩
   refine Le.of ?_ ?_<;>simp [go_sem,simprocAttr,hb4,mP,kN,mQ,mR,cD,dL,List.length_map,d1,d5]
 have d1:decide (sa=0)=false:=decide_eq_false e1
 by_cases e2:sa=cn
 ·have d2:decide (sa=(cn:Int))=true:=decide_eq_true e2
  by_cases e5:sa=sb
  ·have d5:decide (sa=sb)=true:=decide_eq_true e5
   have d6:decide (fa=fb)=true:=decide_eq_true (q1 e5)
   repeat' (first|refine Rn.p ?_|(with_reducible apply And.intro)|((first|(refine hK _ ?_;clear hK K)|with_reducible intro K hK|refine Rs.p ?_|((with_reducible first|apply oP|apply oQ);exact rfl)|refine aa hX hC hP (yf) rfl rfl rfl (by simp only [go_sem,simprocAttr,hb4,mP,kN,mQ,mR,cD,dL,List.length_map,d1,d2,d5,d6]) rfl ?_);try simp only [go_sem,simprocAttr,hb4,mP,kN,mQ,mR,cD,dL,List.length_map,d1,d2,d5,d6])|((with_reducible refine oD ?_ ?_);kernel_rfl)|((with_reducible intro h);try simp only [go_sem,simprocAttr,hb4,mP,kN,mQ,mR,cD,dL,List.length_map,d1,d2,d5,d6] at h)|omega|intro h)
   refine ⟨c+1,by omega, ?_,by omega⟩
   refine Le.of ?_ ?_<;>simp [go_sem,simprocAttr,hb4,mP,kN,mQ,mR,cD,dL,List.length_map,d1,d2,d5,d6]
  ·have d5:decide (sa=sb)=false:=decide_eq_false e5
   repeat' (first|refine Rn.p ?_|(with_reducible apply And.intro)|((first|(refine hK _ ?_;clear hK K)|with_reducible intro K hK|refine Rs.p ?_|((with_reducible first|apply oP|apply oQ);exact rfl)|refine aa hX hC hP (yf) rfl rfl rfl (by simp only [go_sem,simprocAttr,hb4,mP,kN,mQ,mR,cD,dL,List.length_map,d1,d2,d5]) rfl ?_);try simp only [go_sem,simprocAttr,hb4,mP,kN,mQ,mR,cD,dL,List.length_map,d1,d2,d5])|((with_reducible refine oD ?_ ?_);kernel_rfl)|((with_reducible intro h);try simp only [go_sem,simprocAttr,hb4,mP,kN,mQ,mR,cD,dL,List.length_map,d1,d2,d5] at h)|omega|intro h)
   refine ⟨c+1,by omega, ?_,by omega⟩
   refine Le.of ?_ ?_<;>simp [go_sem,simprocAttr,hb4,mP,kN,mQ,mR,cD,dL,List.length_map,d1,d2,d5]
 have d2:decide (sa=(cn:Int))=false:=decide_eq_false e2
 by_cases e3:sb=0
 ·have d3:decide (sb=0)=true:=decide_eq_true e3
  have d5:decide (sa=sb)=false:=decide_eq_false (by omega)
  repeat' (first|refine Rn.p ?_|(with_reducible apply And.intro)|((first|(refine hK _ ?_;clear hK K)|with_reducible intro K hK|refine Rs.p ?_|((with_reducible first|apply oP|apply oQ);exact rfl)|refine aa hX hC hP (yf) rfl rfl rfl (by simp only [go_sem,simprocAttr,hb4,mP,kN,mQ,mR,cD,dL,List.length_map,d1,d2,d3,d5]) rfl ?_);try simp only [go_sem,simprocAttr,hb4,mP,kN,mQ,mR,cD,dL,List.length_map,d1,d2,d3,d5])|((with_reducible refine oD ?_ ?_);kernel_rfl)|((with_reducible intro h);try simp only [go_sem,simprocAttr,hb4,mP,kN,mQ,mR,cD,dL,List.length_map,d1,d2,d3,d5] at h)|omega|intro h)
  refine ⟨c+1,by omega, ?_,by omega⟩
  refine Le.of ?_ ?_<;>simp [go_sem,simprocAttr,hb4,mP,kN,mQ,mR,cD,dL,List.length_map,d1,d2,d3,d5]
 have d3:decide (sb=0)=false:=decide_eq_false e3
 by_cases e4:sb=cn
 ·have d4:decide (sb=(cn:Int))=true:=decide_eq_true e4
  have d5:decide (sa=sb)=false:=decide_eq_false (by omega)
  repeat' (first|refine Rn.p ?_|(with_reducible apply And.intro)|((first|(refine hK _ ?_;clear hK K)|with_reducible intro K hK|refine Rs.p ?_|((with_reducible first|apply oP|apply oQ);exact rfl)|refine aa hX hC hP (yf) rfl rfl rfl (by simp only [go_sem,simprocAttr,hb4,mP,kN,mQ,mR,cD,dL,List.length_map,d1,d2,d3,d4,d5]) rfl ?_);try simp only [go_sem,simprocAttr,hb4,mP,kN,mQ,mR,cD,dL,List.length_map,d1,d2,d3,d4,d5])|((with_reducible refine oD ?_ ?_);kernel_rfl)|((with_reducible intro h);try simp only [go_sem,simprocAttr,hb4,mP,kN,mQ,mR,cD,dL,List.length_map,d1,d2,d3,d4,d5] at h)|omega|intro h)
  refine ⟨c+1,by omega, ?_,by omega⟩
  refine Le.of ?_ ?_<;>simp [go_sem,simprocAttr,hb4,mP,kN,mQ,mR,cD,dL,List.length_map,d1,d2,d3,d4,d5]
 have d4:decide (sb=(cn:Int))=false:=decide_eq_false e4
 by_cases e5:sa=sb
 ·have d5:decide (sa=sb)=true:=decide_eq_true e5
  have d6:decide (fa=fb)=true:=decide_eq_true (q1 e5)
  repeat' (first|refine Rn.p ?_|(with_reducible apply And.intro)|((first|(refine hK _ ?_;clear hK K)|with_reducible intro K hK|refine Rs.p ?_|((with_reducible first|apply oP|apply oQ);exact rfl)|refine aa hX hC hP (yf) rfl rfl rfl (by simp only [go_sem,simprocAttr,hb4,mP,kN,mQ,mR,cD,dL,List.length_map,d1,d2,d3,d4,d5,d6]) rfl ?_);try simp only [go_sem,simprocAttr,hb4,mP,kN,mQ,mR,cD,dL,List.length_map,d1,d2,d3,d4,d5,d6])|((with_reducible refine oD ?_ ?_);kernel_rfl)|((with_reducible intro h);try simp only [go_sem,simprocAttr,hb4,mP,kN,mQ,mR,cD,dL,List.length_map,d1,d2,d3,d4,d5,d6] at h)|omega|intro h)
  refine ⟨c+1,by omega, ?_,by omega⟩
  refine Le.of ?_ ?_<;>simp [go_sem,simprocAttr,hb4,mP,kN,mQ,mR,cD,dL,List.length_map,d1,d2,d3,d4,d5,d6]
 ·have d5:decide (sa=sb)=false:=decide_eq_false e5
  have d6:decide (fa=fb)=false:=decide_eq_false fun e=>e5 (q2 e e1 e2 e3 e4)
  repeat' (first|refine Rn.p ?_|(with_reducible apply And.intro)|((first|(refine hK _ ?_;clear hK K)|with_reducible intro K hK|refine Rs.p ?_|((with_reducible first|apply oP|apply oQ);exact rfl)|refine aa hX hC hP (yf) rfl rfl rfl (by simp only [go_sem,simprocAttr,hb4,mP,kN,mQ,mR,cD,dL,List.length_map,d1,d2,d3,d4,d5,d6]) rfl ?_);try simp only [go_sem,simprocAttr,hb4,mP,kN,mQ,mR,cD,dL,List.length_map,d1,d2,d3,d4,d5,d6])|((with_reducible refine oD ?_ ?_);kernel_rfl)|((with_reducible intro h);try simp only [go_sem,simprocAttr,hb4,mP,kN,mQ,mR,cD,dL,List.length_map,d1,d2,d3,d4,d5,d6] at h)|omega|intro h)
  refine ⟨c+1,by omega, ?_,by omega⟩
  refine Le.of ?_ ?_<;>simp [go_sem,simprocAttr,hb4,mP,kN,mQ,mR,cD,dL,List.length_map,d1,d2,d3,d4,d5,d6]
end Go.Ab
end
