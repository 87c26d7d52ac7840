/- A part of the proof. -/
import Derived.Test.YtchjjbfhlchpfaaGreatL10P14
set_option linter.unusedSimpArgs false
set_option linter.unusedVariables false
section
namespace Go.Ab
open Go.Proofs
attribute [local congr] ACall.congr gd.congr Nx.congr
set_option maxRecDepth 10000
set_option maxHeartbeats 8000000
def QI (n:Int) (es:List Edge) (ord:List Int) (O:List (List Int)):List (Nat × AObj):= [(10000, .box [eN n, .ref 10001, .ref 10002, .ref 10003]),(10001, .tip 73 2 (es.map rE)),(10002, .tip 3 1 (ord.map rI)),(10003, .own 31 1 (vI O))]
def QJ (n:Int) (es:List Edge) (ord:List Int) (O:List (List Int)):List (Nat × AObj):= [(10000, .box [eN n, .ref 10004, .ref 10002, .ref 10003]),(10004, .tip 73 2 (es.map rE)),(10002, .tip 3 1 (ord.map rI)),(10003, .own 31 1 (vI O))]
def Pd (x:Int) (items:List It):List Edge:=(loose items).map fun v=>(v,x)
end Go.Ab
end
section
namespace Go.Ab
open Go.Proofs
attribute [local congr] ACall.congr gd.congr Nx.congr
set_option maxRecDepth 10000
set_option maxHeartbeats 16000000
def pz:Pl:=⟨[], []⟩
def Pe (b:Bool) (g:Gr) (p:Pl):Gr × Pl × Int:=
 if (fk b g p).2.1≠0 then (gz,pz,1) else if 64<(Ek g p).n∨128<(Ek g p).es.length then (gz,pz,10) else (Ek g p,MK g p,0)
end Go.Ab
end
section
namespace Go.Ab
open Go.Proofs
attribute [local congr] ACall.congr gd.congr Nx.congr
set_option maxRecDepth 10000
set_option maxHeartbeats 16000000
def Pf (p:Pl) (x:Gr) (k:Nat):List (List Int):=(List.range k).map fun v=>if 0<(p.outs.getD v []).length then p.outs.getD v [] else bq x (v:Int)
end Go.Ab
end
section
namespace Go.Ab
open Go.Proofs
attribute [local congr] ACall.congr gd.congr Nx.congr
set_option maxRecDepth 10000
set_option maxHeartbeats 8000000
def MM (g:Gr) (p:Pl):Bool:=decide (200<g.es.length)||decide (100<p.ord.length)||decide (100<p.outs.length)||p.outs.any fun l=>decide (200<l.length)
structure J2 (p:Pl):Prop where
 ord:p.ord.length≤9223372036854775807
 outs:p.outs.length≤9223372036854775807
 each:∀l∈p.outs,l.length≤9223372036854775807
def J3 (g:Gr):Bool:=decide ((cR g).1=0)&&decide ((dz (·.1) g).length=1)
end Go.Ab
end
section
namespace Go.Ab
open Go.Proofs
attribute [local congr] ACall.congr gd.congr Nx.congr
set_option maxRecDepth 10000
set_option maxHeartbeats 8000000
def g16:Gr:=⟨3, [(0,1),(0,2)]⟩
def QK:Pl:=⟨[0,1,2], [[0,1], [], []]⟩
def QL:Gr:=⟨4, [(0,1),(0,2),(1,3),(2,3)]⟩
def QM:Pl:=⟨[0,1,2,3], [[0,1], [2], [3], []]⟩
end Go.Ab
end
section
namespace Go.Ab
open Go.Proofs
attribute [local congr] ACall.congr gd.congr Nx.congr
set_option maxRecDepth 10000
def QN (l:List Int) (k:Nat):Bool:=(List.range k).all fun i=>decide (l.getD i 0=(i:Int))
def FX (g:Gr) (names order:List Int) (k:Nat):List Edge:=(List.range k).map fun i=>(names.getD (g.es.getD (order.getD i 0).toNat (0,0)).1.toNat 0,names.getD (g.es.getD (order.getD i 0).toNat (0,0)).2.toNat 0)
def gM (g:Gr) (names order:List Int):Gr:=⟨g.n,FX g names order order.length⟩
theorem yd {g:Gr} {names order:List Int} {k:Nat} :(FX g names order k).length=k:=by simp [FX]
def J4 (g:Gr) (names order:List Int):Bool:=aY g&&gm names g.n&&gm order g.es.length
def Pg (g:Gr) (names order:List Int):Gr:=if J4 g names order then gM g names order else ⟨0, []⟩
end Go.Ab
end
section
namespace Go.Ab
def Ed (g:Gr) (a b:Int):Prop:=∃i,i<g.es.length∧tl g i=a∧hd g i=b
def KH (g:Gr) (l:List Int):Prop:=∀i,i<l.length→Ed g (l.getD i 0) (l.getD ((i+1) % l.length) 0)
def Ep (g:Gr) (way:List Int) (at_:Int):Prop:=∀p,p<way.length→Ed g ((way++ [at_]).getD (p+1) 0) (way.getD p 0)
theorem p7 {l:List Int} {a:Int} :(l++ [a]).getD l.length 0=a:=by
 rw [List.getD_eq_getElem?_getD,List.getElem?_append_right (Nat.le_refl _)];simp
theorem tv {g:Gr} (hm:aY g=true):∀(f:Nat) (way:List Int) (a:Nat),a<g.n.toNat→(a:Int)∉aL g→Ep g way a→left g way≤f→
 Ep g (j9 g (cH g (aL g)) f way a).1 (j9 g (cH g (aL g)) f way a).2∧0≤(j9 g (cH g (aL g)) f way a).2∧(j9 g (cH g (aL g)) f way a).2∈(j9 g (cH g (aL g)) f way a).1
 |f,way,a,ha,hn,hc,hl=>by
  by_cases hmem:(a:Int)∈way
  ·rw [jB (.inr hmem)]
   exact ⟨hc,by simp only;omega,hmem⟩
  ·have hla:=iB ha hmem
   cases f with
   |zero=>omega
   |succ f=>
    obtain ⟨⟨i,hi,Ph,pF,JD⟩,_⟩:=sF hm (Ho hm ha hn)
    have htr:=cD hm hi
    rw [pF] at htr
    obtain ⟨b,pq⟩:∃b:Nat,iZ g (cH g (aL g)) a=b:=⟨(iZ g (cH g (aL g)) a).toNat,by omega⟩
    rw [pq] at JD htr pF
    have e1:j9 g (cH g (aL g)) (f+1) way a=j9 g (cH g (aL g)) f (way++ [(a:Int)]) b:=by
     simp only [j9];rw [if_neg (by intro h;rcases h with h|h;omega;exact hmem h),pq]
    rw [e1]
    refine tv hm f (way++ [(a:Int)]) b (by omega) JD ?_ (by omega)
    intro p hp
    rw [List.length_append,List.length_singleton] at hp
    by_cases fH:p<way.length
    ·have:=hc p fH
     rw [oy (by simp;omega),oy fH]
     exact this
    ·have:p=way.length:=by omega
     subst this
     have e2:=p7 (l:=way++ [(a:Int)]) (a:=(b:Int))
     rw [List.length_append,List.length_singleton] at e2
     rw [e2,p7]
     exact ⟨i,hi,pF,Ph⟩
theorem p8 {l:List Int} {k p:Nat} :(l.drop k).getD p 0=l.getD (k+p) 0:=by
 rw [List.getD_eq_getElem?_getD,List.getElem?_drop, ← List.getD_eq_getElem?_getD]
theorem KH.MN {g:Gr} {l:List Int} (h:∀p,p<l.length→Ed g (l.getD ((p+1) % l.length) 0) (l.getD p 0)) (h0:0<l.length):KH g (kJ l.reverse):=by
 have KA:0<l.reverse.length:=by simpa using h0
 obtain ⟨k,Bc,hk2,_⟩:=dN (iC KA)
 rw [List.length_reverse] at hk2
 have e1:kJ l.reverse=l.reverse.drop k++l.reverse.take k:=by simp only [kJ,Bc,Int.toNat_natCast]
 have hlen:(kJ l.reverse).length=l.length:=by rw [e1];simp;omega
 have hg:∀i,i<l.length→(kJ l.reverse).getD i 0=l.getD (l.length - 1 - (i+k) % l.length) 0:=by
  intro i hi
  rw [e1,List.getD_eq_getElem?_getD]
  by_cases hik:i<l.length - k
  ·rw [List.getElem?_append_left (by simp;omega),List.getElem?_drop,List.getElem?_reverse (by omega),Nat.mod_eq_of_lt (by omega), ← List.getD_eq_getElem?_getD]
   congr 1;omega
  ·rw [List.getElem?_append_right (by simp;omega),List.length_drop,List.length_reverse,List.getElem?_take,if_pos (by omega),List.getElem?_reverse (by omega), ← List.getD_eq_getElem?_getD]
   have:(i+k) % l.length=i+k - l.length:=by rw [Nat.mod_eq_sub_mod (by omega),Nat.mod_eq_of_lt (by omega)]
   rw [this];congr 1;omega
 intro i hi
 rw [hlen] at hi ⊢
 rw [hg i hi,hg _ (Nat.mod_lt _ h0)]
 have hmm:((i+1) % l.length+k) % l.length=((i+k) % l.length+1) % l.length:=by
  rw [Nat.mod_add_mod,Nat.mod_add_mod];congr 1;omega
 rw [hmm]
 have hj:=Nat.mod_lt (i+k) h0
 generalize (i+k) % l.length=j at hj ⊢
 by_cases Er:j+1<l.length
 ·rw [Nat.mod_eq_of_lt Er]
  have:=h (l.length - 1 - (j+1)) (by omega)
  rw [Nat.mod_eq_of_lt (by omega),show l.length - 1 - (j+1)+1=l.length - 1 - j from by omega] at this
  exact this
 ·have:j+1=l.length:=by omega
  rw [this,Nat.mod_self]
  have:=h (l.length - 1) (by omega)
  rw [show l.length - 1+1=l.length from by omega,Nat.mod_self] at this
  rw [show l.length - 1 - j=0 from by omega]
  exact this
def MO (g:Gr):Prop:=∃r:Int→Nat,∀i,i<g.es.length→r (tl g i)<r (hd g i)
theorem AY {g:Gr} (hm:aY g=true):Cu g=true↔MO g:=by
 constructor
 ·intro h
  refine ⟨fun v=>((yJ g.n.toNat (aL g) (aL g).length).getD v.toNat 0).toNat,fun i hi=> ?_⟩
  have h1:=D4 (BM hm h) hi
  have h2:=sZ (n:=g.n.toNat) (l:=aL g) (k:=(aL g).length) (y:=(tl g i).toNat)
  simp only;omega
 ·rintro ⟨r,hr⟩
  cases h:Cu g with
  |true=>rfl
  |false=>
   exfalso
   obtain ⟨y,hy,hn⟩:=AD hm h
   have key:∀(p:Nat) (y:Nat),y<g.n.toNat→(y:Int)∉aL g→r y=p→False:=by
    intro p
    induction p using Nat.strongRecOn with
    |_ p ih=>
     intro y hy hn hp
     obtain ⟨t,i,hi,h1,rfl,h2⟩:=Ho hm hy hn
     have htr:=cD hm hi
     have hlt:=hr i hi
     rw [h1,hp] at hlt
     have e:((tl g i).toNat:Int)=tl g i:=by omega
     exact ih (r (tl g i)) hlt (tl g i).toNat (by omega) (by rw [e];exact h2) (by rw [e])
   exact key _ y hy hn rfl
theorem FY {g:Gr} (hm:aY g=true) (h:Cu g=true):jA g= []:=by
 have hall:=(bZ.1 (AB hm h)).2
 have hn:=bM hm
 rcases start_eq hm with ⟨h1,h2⟩|⟨a,ha,h1,h2,h3⟩
 ·have:jy g=([], -1):=by
   unfold jy;rw [h1];exact jB (.inl (by omega)) _
  simp only [jA,this]
  rw [if_pos (by omega)]
 ·exact absurd (hall a (dP.2 (by omega))) h3
theorem Es {g:Gr} (hm:aY g=true) (h:Cu g=false):0<(jA g).length∧KH g (jA g):=by
 obtain ⟨y,hy,Pj⟩:=AD hm h
 have hn:=bM hm
 rcases start_eq hm with ⟨h1,h2⟩|⟨a,ha,h1,h2,h3⟩
 ·exfalso
  rcases fe (f:=fun n:Int=>decide (0<n)) (l:=cH g (aL g)) 0 with ⟨_,h4⟩|⟨k,h4,_⟩
  ·have h5:=(pN hm hy).2 Pj
   have h6:=h4 ((cH g (aL g)).getD y 0) (by rw [List.getD_eq_getElem?_getD,j7 hy];exact List.mem_of_getElem? (j7 hy))
   rw [lC hy] at h6
   exact absurd h5 (of_decide_eq_false h6)
  ·omega
 ·obtain ⟨h4,h5,h6⟩:=tv hm g.n.toNat [] a ha h3 (fun p hp=>by simp at hp) vH
  have hw:jy g=j9 g (cH g (aL g)) g.n.toNat [] a:=by unfold jy;rw [h1]
  rw [← hw] at h4 h5 h6
  obtain ⟨k,Bc,hk2,KB⟩:=dN h6
  have hc:jA g=kJ ((jy g).1.drop k).reverse:=by
   simp only [jA]
   rw [if_neg (by omega),Bc,Int.toNat_natCast]
  have hlen:((jy g).1.drop k).length=(jy g).1.length - k:=by simp
  have h0:0<((jy g).1.drop k).length:=by omega
  refine ⟨?_, ?_⟩
  ·rw [hc]
   simp only [kJ,List.length_append,List.length_drop,List.length_take,List.length_reverse]
   omega
  ·rw [hc]
   refine KH.MN (fun p hp=> ?_) h0
   rw [hlen] at hp ⊢
   have h7:=h4 (k+p) (by omega)
   rw [p8 (p:=p)]
   by_cases Er:p+1<(jy g).1.length - k
   ·rw [Nat.mod_eq_of_lt Er,p8]
    rw [oy (by omega)] at h7
    exact h7
   ·have:p+1=(jy g).1.length - k:=by omega
    rw [this,Nat.mod_self,p8,Nat.add_zero,KB]
    rw [show k+p+1=(jy g).1.length from by omega,p7] at h7
    exact h7
end Go.Ab
end
section
namespace Go.Ab
def nm (names:List Int) (v:Int):Int:=names.getD v.toNat 0
structure jd (g:Gr) (names order:List Int):Prop where
 may:aY g=true
 HI:gm names g.n=true
 ord:gm order (g.es.length:Int)=true
section
variable {g:Gr} {names order:List Int} (h:jd g names order)
include h
theorem jd.len:(gM g names order).es.length=g.es.length:=by
 have:=(bZ.1 h.ord).1
 simp only [gM,yd];omega
theorem jd.jf {i:Nat} (hi:i<g.es.length):∃j,j<g.es.length∧order.getD i 0=(j:Int)∧(gM g names order).es.getD i (0,0)=(nm names (tl g j),nm names (hd g j)):=by
 have Gc:=(bZ.1 h.ord).1
 have:=sY h.ord _ (gE (l:=order) (m:=i) (by omega))
 refine ⟨(order.getD i 0).toNat,by omega,by omega, ?_⟩
 simp only [gM,FX,nm,tl,hd]
 rw [List.getD_eq_getElem?_getD,List.getElem?_map,List.getElem?_range (by omega)]
 rfl
theorem jd.back {j:Nat} (hj:j<g.es.length):∃i,i<g.es.length∧order.getD i 0=(j:Int)∧(gM g names order).es.getD i (0,0)=(nm names (tl g j),nm names (hd g j)):=by
 obtain ⟨Gc,hall⟩:=bZ.1 h.ord
 obtain ⟨i,hi,hil,he⟩:=dN (hall (j:Int) (dP.2 (by omega)))
 obtain ⟨j',_,h2,h3⟩:=h.jf (i:=i) (by omega)
 have:j'=j:=by omega
 subst this
 exact ⟨i,by omega,he,h3⟩
theorem jd.inj {a b:Int} (ha:0≤a∧a<g.n) (hb:0≤b∧b<g.n) (e:nm names a=nm names b):a=b:=by
 have hnl:=(bZ.1 h.HI).1
 have:=ku h.HI (i:=a.toNat) (j:=b.toNat) (by omega) (by omega) e
 omega
theorem jd.range {a:Int} (ha:0≤a∧a<g.n):0≤nm names a∧nm names a<g.n:=by
 have hnl:=(bZ.1 h.HI).1
 exact sY h.HI _ (gE (by omega))
theorem jd.inv {a:Int} (ha:0≤a∧a<g.n):fc names (nm names a)=a:=by
 have hnl:=(bZ.1 h.HI).1
 obtain ⟨k,hk,cq,he⟩:=dN (gE (l:=names) (m:=a.toNat) (by omega))
 have h2:=ku h.HI cq (j:=a.toNat) (by omega) he
 have h3:fc names (nm names a)=k:=hk
 omega
theorem jd.of {v:Int} (hv:0≤v∧v<g.n):∃a,(0≤a∧a<g.n)∧nm names a=v:=by
 obtain ⟨hnl,hall⟩:=bZ.1 h.HI
 obtain ⟨k,hk,cq,he⟩:=dN (hall v (dP.2 (by omega)))
 exact ⟨k,by omega,he⟩
theorem jd.may':aY (gM g names order)=true:=by
 have hn:=bM h.may
 have hlen:=h.len
 have hall:(gM g names order).es.any (pL (gM g names order))=false:=by
  rw [List.any_eq_false]
  intro e he
  obtain ⟨i,hi,rfl⟩:=List.getElem_of_mem he
  obtain ⟨j,hj,_,h3⟩:=h.jf (i:=i) (by omega)
  rw [List.getD_eq_getElem?_getD,List.getElem?_eq_getElem hi,Option.getD_some] at h3
  rw [h3]
  have h4:=h.range (cD h.may hj)
  have h5:=h.range (fM h.may hj)
  have e1:(gM g names order).n=g.n:=rfl
  simp only [pL,vB,e1,Bool.or_eq_true,decide_eq_true_eq]
  omega
 have e1:(gM g names order).n=g.n:=rfl
 simp only [aY,hall,e1,Bool.not_false,Bool.and_true,Bool.and_eq_true,decide_eq_true_eq]
 omega
omit h in
theorem p9 {i j:Nat} (e:(gM g names order).es.getD i (0,0)=(nm names (tl g j),nm names (hd g j))):tl (gM g names order) i=nm names (tl g j)∧hd (gM g names order) i=nm names (hd g j):=⟨congrArg Prod.fst e,congrArg Prod.snd e⟩
theorem jd.loop:(0≤jC (gM g names order))↔0≤jC g:=by
 have key:∀g:Gr,(0≤jC g)↔∃i,i<g.es.length∧tl g i=hd g i:=by
  intro g
  have:=dx (fun e:Edge=>decide (e.1=e.2)) g.es
  rw [show (0≤jC g)↔g.es.any (fun e:Edge=>decide (e.1=e.2))=true from by rw [← this];simp [jC],List.any_eq_true]
  constructor
  ·rintro ⟨e,he,h2⟩
   obtain ⟨i,hi,rfl⟩:=List.getElem_of_mem he
   refine ⟨i,hi, ?_⟩
   simpa [tl,hd,List.getD_eq_getElem?_getD,List.getElem?_eq_getElem hi] using h2
  ·rintro ⟨i,hi,h2⟩
   refine ⟨_,List.getElem_mem hi, ?_⟩
   simpa [tl,hd,List.getD_eq_getElem?_getD,List.getElem?_eq_getElem hi] using h2
 rw [key,key,h.len]
 constructor
 ·rintro ⟨i,hi,e⟩
  obtain ⟨j,hj,_,h3⟩:=h.jf hi
  obtain ⟨e1,e2⟩:=p9 h3
  exact ⟨j,hj,h.inj (cD h.may hj) (fM h.may hj) (by rw [← e1, ← e2,e])⟩
 ·rintro ⟨j,hj,e⟩
  obtain ⟨i,hi,_,h3⟩:=h.back hj
  obtain ⟨e1,e2⟩:=p9 h3
  exact ⟨i,hi,by rw [e1,e2,e]⟩
omit h in
theorem uN (g:Gr):(0≤ff g)↔∃i k,i<g.es.length∧k<g.es.length∧i≠k∧g.es.getD i (0,0)=g.es.getD k (0,0):=by
 have:=dx (nq g) (List.range g.es.length)
 rw [show (0≤ff g)↔(List.range g.es.length).any (nq g)=true from by rw [← this];simp [ff],List.any_eq_true]
 constructor
 ·rintro ⟨i,hi,h2⟩
  have hil:=List.mem_range.1 hi
  have h3:=of_decide_eq_true h2
  rw [List.mem_iff_getElem?] at h3
  obtain ⟨k,hk⟩:=h3
  rw [List.getElem?_take] at hk
  split at hk
  ·rename_i hki
   exact ⟨i,k,hil,by omega,by omega,by rw [List.getD_eq_getElem?_getD (i:=k),hk];rfl⟩
  ·cases hk
 ·rintro ⟨i,k,hi,hk,hne,e⟩
  have main:∀i k,k<i→i<g.es.length→g.es.getD i (0,0)=g.es.getD k (0,0)→nq g i=true:=by
   intro i k hki hi e
   refine decide_eq_true ?_
   rw [e,List.mem_iff_getElem?]
   refine ⟨k, ?_⟩
   rw [List.getElem?_take,if_pos hki,List.getD_eq_getElem?_getD,List.getElem?_eq_getElem (by omega)];rfl
  rcases Nat.lt_or_gt_of_ne hne with hlt|hgt
  ·exact ⟨k,List.mem_range.2 hk,main k i hlt hk e.symm⟩
  ·exact ⟨i,List.mem_range.2 hi,main i k hgt hi e⟩
theorem jd.J5:(0≤ff (gM g names order))↔0≤ff g:=by
 have Gc:=(bZ.1 h.ord).1
 rw [uN,uN,h.len]
 constructor
 ·rintro ⟨i,k,hi,hk,hne,e⟩
  obtain ⟨j,hj,ho,h3⟩:=h.jf hi
  obtain ⟨j',hj',ho',Fl⟩:=h.jf hk
  refine ⟨j,j',hj,hj',fun e'=> ?_, ?_⟩
  ·subst e'
   exact hne (ku h.ord (by omega) (by omega) (by rw [ho,ho']))
  ·rw [h3,Fl,Prod.mk.injEq] at e
   have e1:=h.inj (cD h.may hj) (cD h.may hj') e.1
   have e2:=h.inj (fM h.may hj) (fM h.may hj') e.2
   exact Prod.ext e1 e2
 ·rintro ⟨j,j',hj,hj',hne,e⟩
  obtain ⟨i,hi,ho,h3⟩:=h.back hj
  obtain ⟨k,hk,ho',Fl⟩:=h.back hj'
  refine ⟨i,k,hi,hk,fun e'=> ?_, ?_⟩
  ·subst e';omega
  ·have e1:tl g j=tl g j':=congrArg Prod.fst e
   have e2:hd g j=hd g j':=congrArg Prod.snd e
   rw [h3,Fl,e1,e2]
theorem jd.MP:Cu (gM g names order)=Cu g:=by
 rw [Bool.eq_iff_iff,AY h.may',AY h.may]
 constructor
 ·rintro ⟨r,hr⟩
  refine ⟨fun v=>r (nm names v),fun j hj=> ?_⟩
  obtain ⟨i,hi,_,h3⟩:=h.back hj
  obtain ⟨e1,e2⟩:=p9 h3
  have:=hr i (by rw [h.len];exact hi)
  rwa [e1,e2] at this
 ·rintro ⟨r,hr⟩
  refine ⟨fun v=>r (fc names v),fun i hi=> ?_⟩
  rw [h.len] at hi
  obtain ⟨j,hj,_,h3⟩:=h.jf hi
  obtain ⟨e1,e2⟩:=p9 h3
  have:=hr j hj
  rw [e1,e2];simp only;rw [h.inv (cD h.may hj),h.inv (fM h.may hj)]
  exact this
omit h in
theorem iO {g:Gr} {y:Int} :y∈dz (·.2) g↔(0≤y∧y<g.n)∧∀i,i<g.es.length→hd g i≠y:=by
 simp only [dz,iY,List.mem_map,List.mem_filter,List.mem_range,decide_eq_true_eq]
 have he:∀x:Nat,x<g.n.toNat→(((dY (·.2) g).getD x []).length=0↔∀i,i<g.es.length→hd g i≠(x:Int)):=by
  intro x hx
  have e:(dY (·.2) g).getD x []=aX (·.2) g.es g.es.length (x:Int):=by
   simp [dY,List.getD_eq_getElem?_getD,List.getElem?_range hx,ow]
  rw [e,List.length_eq_zero_iff]
  simp only [aX,List.map_eq_nil_iff,List.filter_eq_nil_iff,List.mem_range,decide_eq_true_eq]
  rfl
 constructor
 ·rintro ⟨x,⟨hx,h0⟩,rfl⟩
  refine ⟨by simp;omega,(he x hx).1 h0⟩
 ·rintro ⟨⟨h1,h2⟩,h3⟩
  have e:((y.toNat:Nat):Int)=y:=by omega
  exact ⟨y.toNat,⟨by omega,(he _ (by omega)).2 (by rw [e];exact h3)⟩,e⟩
omit h in
theorem tw {f:Edge→Int} {g:Gr} :(dz f g).Nodup:=by
 unfold dz iY
 refine List.Pairwise.map _ (fun a b h e=>h (Int.ofNat.inj e)) (List.Pairwise.filter _ List.nodup_range)
theorem jd.bare:(dz (·.2) (gM g names order)).length=(dz (·.2) g).length:=by
 have e1:(gM g names order).n=g.n:=rfl
 have h1:((dz (·.2) g).map (nm names)).length≤(dz (·.2) (gM g names order)).length:=by
  refine Nat.le_trans (count_le _ (dz (·.2) (gM g names order)) ?_ ?_) List.countP_le_length
  ·rw [List.nodup_iff_pairwise_ne]
   refine List.Pairwise.map _ (fun a b h=>h) ?_
   refine List.Pairwise.imp_of_mem ?_ tw
   intro a b ha hb hab e
   exact hab (h.inj (iO.1 ha).1 (iO.1 hb).1 e)
  ·intro v hv
   obtain ⟨y,hy,rfl⟩:=List.mem_map.1 hv
   obtain ⟨hy1,hy2⟩:=iO.1 hy
   refine iO.2 ⟨h.range hy1,fun i hi e=> ?_⟩
   rw [h.len] at hi
   obtain ⟨j,hj,_,h3⟩:=h.jf hi
   rw [(p9 h3).2] at e
   exact hy2 j hj (h.inj (fM h.may hj) hy1 e)
 have h2:((dz (·.2) (gM g names order)).map (fc names)).length≤(dz (·.2) g).length:=by
  have hsplit:∀v∈dz (·.2) (gM g names order),∃a,(0≤a∧a<g.n)∧nm names a=v:=fun v hv=>h.of (iO.1 hv).1
  refine Nat.le_trans (count_le _ (dz (·.2) g) ?_ ?_) List.countP_le_length
  ·rw [List.nodup_iff_pairwise_ne]
   refine List.Pairwise.map _ (fun a b h=>h) ?_
   refine List.Pairwise.imp_of_mem ?_ tw
   intro a b ha hb hab e
   obtain ⟨a',JN,rfl⟩:=hsplit a ha
   obtain ⟨b',hb',rfl⟩:=hsplit b hb
   rw [h.inv JN,h.inv hb'] at e
   exact hab (by rw [e])
  ·intro v hv
   obtain ⟨y,hy,rfl⟩:=List.mem_map.1 hv
   obtain ⟨a,ha,rfl⟩:=hsplit y hy
   rw [h.inv ha]
   refine iO.2 ⟨ha,fun j hj e=> ?_⟩
   obtain ⟨i,hi,_,h3⟩:=h.back hj
   refine (iO.1 hy).2 i (by rw [h.len];exact hi) ?_
   rw [(p9 h3).2,e]
 simp only [List.length_map] at h1 h2
 omega
theorem jd.kind:(cR (gM g names order)).1=(cR g).1:=by
 have hm:=h.may'
 have hc:(0<(jA (gM g names order)).length)↔0<(jA g).length:=by
  have key:∀g:Gr,aY g=true→((0<(jA g).length)↔Cu g=false):=by
   intro g hm
   cases ho:Cu g with
   |true=>rw [FY hm ho];simp
   |false=>simp [(Es hm ho).1]
  rw [key _ hm,key _ h.may,h.MP]
 have h1:=h.loop
 have h2:=h.J5
 have h3:=h.bare
 simp only [cR,gD,hm,h.may]
 simp only [Bool.true_eq_false,if_false,h1,h2,hc,h3]
 split
 ·rfl
 split
 ·rfl
 split
 ·rfl
 split<;>rfl
end
end Go.Ab
end
section
namespace Go.Ab
open Go.Proofs
set_option maxRecDepth 10000
def NF:Nat→List Edge→Int→Option (Int × Int)
 |_, [],_=>none
 |m,e::N,v=>if e.1=v then some ((m:Int),e.2) else NF (m+1) N v
def QO (m:Nat) (N:List Edge) (t:It):It:=if 0≤t.1 then t else match NF m N t.2.1 with
 |some (i,h)=>(i,t.2.1,h)
 |none=>t
structure NG (g:Gr) (p:Pl):Prop where
 run:gQ g p
 n:(Ek g p).n≤64
 es:(Ek g p).es.length≤128
variable {g:Gr} {p:Pl}
end Go.Ab
end
section
namespace Go.Ab
open Go.Proofs
set_option maxRecDepth 10000
variable {g:Gr} {p:Pl}
end Go.Ab
end
section
namespace Go.Ab
open Go.Proofs
set_option maxRecDepth 10000
variable {g:Gr} {p:Pl}
end Go.Ab
end
section
namespace Go.Ab
open Go.Proofs
set_option maxRecDepth 10000
def gn (l:List It):List It:=l.filter fun t=>decide (0≤t.1)
theorem mB {a b:List It} :gn (a++b)=gn a++gn b:=by simp [gn]
theorem e8 {l:List It} {t:It} :t∈gn l↔t∈l∧0≤t.1:=by simp [gn]
theorem qS {x:Int} {l:List It} (h:gh x l):gh x (gn l):=fun t ht=>h t (e8.1 ht).1
def tZ (x:Int) (l:List It):Prop:=∀t∈l,t.2.2=x
theorem uO {g:Gr} {x:Int} {o:List Int} (ho:∀i∈o,0≤i):gn (bg g x o)=o.map (mR g x):=by
 unfold bg
 split
 ·rename_i h;subst h;rfl
 ·refine List.filter_eq_self.2 fun t ht=> ?_
  obtain ⟨i,hi,rfl⟩:=List.mem_map.1 ht
  exact decide_eq_true (ho i hi)
theorem uP {x:Int} :∀ {X Y c d:List It},tZ x X→tZ x Y→gh x c→gh x d→X++c=Y++d→X=Y∧c=d
 | [], [],c,d,_,_,_,_,e=>⟨rfl,e⟩
 | [],u::Y,c,d,_,hY,hc,_,e=>by
   simp only [List.nil_append] at e
   exact absurd (hY u (by simp)) (hc u (by rw [e];simp))
 |t::X, [],c,d,hX,_,_,hd,e=>by
  simp only [List.nil_append] at e
  exact absurd (hX t (by simp)) (hd t (by rw [← e];simp))
 |t::X,u::Y,c,d,hX,hY,hc,hd,e=>by
  simp only [List.cons_append,List.cons.injEq] at e
  obtain ⟨e1,e2⟩:=uP (fun s hs=>hX s (by simp [hs])) (fun s hs=>hY s (by simp [hs])) hc hd e.2
  exact ⟨by rw [e.1,e1],e2⟩
theorem ye {x:Int} :∀ {a b X Y c d:List It},gh x a→gh x b→tZ x X→tZ x Y→gh x c→gh x d→X≠ []→Y≠ []→a++X++c=b++Y++d→a=b∧X=Y∧c=d
 |t::a, [],X,u::Y,c,d,ha,_,_,hY,_,_,_,_,e=>by
  simp only [List.cons_append,List.nil_append,List.cons.injEq] at e
  exact absurd (by rw [e.1];exact hY u (by simp)) (ha t (by simp))
 | [],t::b,u::X,Y,c,d,_,hb,hX,_,_,_,_,_,e=>by
   simp only [List.cons_append,List.nil_append,List.cons.injEq] at e
   exact absurd (by rw [← e.1];exact hX u (by simp)) (hb t (by simp))
 |t::a,u::b,X,Y,c,d,ha,hb,hX,hY,hc,hd,nX,nY,e=>by
  simp only [List.cons_append,List.cons.injEq] at e
  obtain ⟨e1,e2,e3⟩:=ye (fun s hs=>ha s (by simp [hs])) (fun s hs=>hb s (by simp [hs])) hX hY hc hd nX nY e.2
  exact ⟨by rw [e.1,e1],e2,e3⟩
 | [], [],X,Y,c,d,_,_,hX,hY,hc,hd,_,_,e=>by
   refine ⟨rfl, ?_⟩
   simp only [List.nil_append] at e
   exact uP hX hY hc hd e
 | [],_::_, [],_,_,_,_,_,_,_,_,_,h,_,_=>absurd rfl h
 |_::_, [],_, [],_,_,_,_,_,_,_,_,_,h,_=>absurd rfl h
theorem Et {g:Gr} (hm:aY g=true) {f:Fr} (hi:iL g f) {x:Int} (hR:aC g f x=true) (hn:bA g x≠0):
 ∃a X c,gn f.row=a++X++c∧gh x a∧gh x c∧tZ x X∧X.length=bA g x∧∀o,gn (aD g f x o).2.row=a++gn (bg g x o)++c:=by
 obtain ⟨A,X,C,hr,hA,hC,hX,cX⟩:=c8 hm hi hR hn
 have hx:=(aR hR).1
 have hmem:∀t∈X,t∈f.row:=fun t ht=>by rw [hr];simp [ht]
 have hiff:∀t∈X,(0≤t.1↔t.2.2=x):=fun t ht=>by
  have h1:=(hi.it t (hmem t ht)).head hm
  have h2:=hX.al t ht
  omega
 refine ⟨gn A,gn X,gn C,by rw [hr,mB,mB],qS hA,qS hC,fun t ht=> ?_, ?_,fun o=> ?_⟩
 ·obtain ⟨h1,h2⟩:=e8.1 ht
  exact (hiff t h1).1 h2
 ·rw [← cX,gn, ← List.countP_eq_length_filter]
  refine List.countP_congr fun t ht=> ?_
  simp only [kT,decide_eq_true_eq]
  exact hiff t ht
 ·rw [kB o hr hA hC hX]
  simp only [mB]
theorem AZ {g:Gr} (hm:aY g=true) {f:Fr} (hi:iL g f) {x:Int} (hR:aC g f x=true) (hn:bA g x≠0) {a X c:List It} (e:gn f.row=a++X++c) (ha:gh x a) (hc:gh x c) (hX:tZ x X) (nX:X≠ []) (o:List Int):
 gn (aD g f x o).2.row=a++gn (bg g x o)++c:=by
 obtain ⟨b,Y,d,e',hb,hd,hY,lY,hs⟩:=Et hm hi hR hn
 have nY:Y≠ []:=fun h=>hn (by rw [← lY,h];rfl)
 obtain ⟨e1,_,e3⟩:=ye hb ha hY hX hd hc nY nX (e'.symm.trans e)
 rw [hs o,e1,e3]
theorem yf {g:Gr} (hm:aY g=true) {f:Fr} (hi:iL g f) {x:Int} (h0:0≤x) (h1:x<g.n) (hp:x∉f.pl) {a X c:List It} (e:gn f.row=a++X++c) (ha:gh x a) (hc:gh x c) (hX:tZ x X) (nX:X≠ []) (hl:X.length=bA g x):aC g f x=true:=by
 have hmem:∀j,j<f.row.length→BQ g (f.row.getD j (0,0,0)):=fun j hj=>hi.it _ (aO hj)
 have Bp:f.row.countP (kT x)=X.length:=by
  have h2:f.row.countP (kT x)=(gn f.row).countP (kT x):=by
   rw [gn,List.countP_filter]
   refine List.countP_congr fun t ht=> ?_
   have:=(hi.it t ht).head hm
   simp only [kT,Bool.and_eq_true,decide_eq_true_eq]
   omega
  have c1:a.countP (kT x)=0:=List.countP_eq_zero.2 fun t ht=>by simp [kT,ha t ht]
  have c2:c.countP (kT x)=0:=List.countP_eq_zero.2 fun t ht=>by simp [kT,hc t ht]
  have c3:X.countP (kT x)=X.length:=List.countP_eq_length.2 fun t ht=>by simp [kT,hX t ht]
  rw [h2,e,List.countP_append,List.countP_append,c1,c2,c3]
  omega
 rw [← s9 hm hi,lN,if_neg (by rintro (h|h|h);omega;omega;exact hp h),mw h0 h1,Bool.and_eq_true,decide_eq_true_eq]
 have hN:(aX (fun e=>e.2) g.es g.es.length x).length=bA g x:=rfl
 rw [hN]
 refine ⟨?_, ?_⟩
 ·unfold b8
  rw [jK,kA (Nat.le_refl _),List.take_length,Bp,hl]
 ·rw [Bool.or_eq_true];right
  rcases dQ (row:=f.row) (x:=x) f.row.length with ⟨hs,hno⟩|⟨p,q,n,hs,hab,z7,hc0,gY,hpx,MQ,hlo,hhi⟩
  ·have hs':b8 f.row x=(-1,0,0):=hs
   rw [hs'];simp [uE]
  ·have hs':b8 f.row x=((p:Int),(q:Int),(n:Int)):=hs
   rw [hs']
   simp only [Int.toNat_natCast,uE,Bool.not_eq_true']
   rw [← Bool.not_eq_true,uF z7]
   rintro ⟨j,h2,h3,h4⟩
   simp only [pS,Bool.and_eq_true,decide_eq_true_eq] at h4
   have hja:p<j:=by
    refine Nat.lt_of_le_of_ne h2 fun e=> ?_
    subst e;exact h4.1 hpx
   have hjb:j<q - 1:=by
    refine Nat.lt_of_le_of_ne (by omega) fun e=> ?_
    subst e;exact h4.1 MQ
   have hsub:=((tg (i:=j+1) (j:=q - 1) (tg (i:=p+1) (j:=j) (tg (i:=0) (j:=p) (List.nil_sublist _) (by omega) (by omega)) (by omega) (by omega)) (by omega) (by omega)).trans (List.take_sublist _ f.row)).filter fun t=>decide (0≤t.1)
   have hp1:=(hmem p (by omega)).head hm
   have hj1:=(hmem j (by omega)).head hm
   have hq1:=(hmem (q - 1) (by omega)).head hm
   generalize f.row.getD p (0,0,0)=s1 at hsub hp1 hpx
   generalize f.row.getD j (0,0,0)=s2 at hsub hj1 h4
   generalize f.row.getD (q - 1) (0,0,0)=s3 at hsub hq1 MQ
   have hf:([]++ [s1]++ [s2]++ [s3]).filter (fun t=>decide (0≤t.1))= [s1,s2,s3]:=List.filter_eq_self.2 fun t ht=>by
    simp only [List.nil_append,List.cons_append,List.mem_cons,List.not_mem_nil,or_false] at ht
    rcases ht with rfl|rfl|rfl
    ·exact decide_eq_true (hp1.1.2 (by omega))
    ·exact decide_eq_true (hj1.1.2 h4.2)
    ·exact decide_eq_true (hq1.1.2 (by omega))
   rw [hf] at hsub
   have hsub: [s1,s2,s3].Sublist (a++(X++c)):=by rw [← List.append_assoc, ← e];exact hsub
   rw [List.sublist_append_iff] at hsub
   obtain ⟨l1,l',el,k1,k'⟩:=hsub
   rw [List.sublist_append_iff] at k'
   obtain ⟨l2,l3,rfl,k2,k3⟩:=k'
   match l1,el,k1 with
   |t::l1,el,k1=>
    simp only [List.cons_append,List.cons.injEq] at el
    exact ha t (k1.subset (by simp)) (by rw [← el.1];exact hpx)
   | [],el,_=>
     match l2,el,k2 with
     | [],el,_=>
       simp only [List.nil_append] at el
       exact hc s1 (k3.subset (by rw [← el];simp)) hpx
     | [t],el,_=>
       simp only [List.nil_append,List.cons_append,List.cons.injEq] at el
       exact hc s3 (k3.subset (by rw [← el.2];simp)) MQ
     |t::u::l2,el,k2=>
      simp only [List.nil_append,List.cons_append,List.cons.injEq] at el
      exact h4.1 (by rw [el.2.1];exact hX u (k2.subset (by simp)))
end Go.Ab
end
section
namespace Go.Ab
open Go.Proofs
set_option maxRecDepth 10000
def J6 (gone:List Int) (i:Nat):Bool:= !decide ((i:Int)∈gone)
def HZ (gone:List Int) (k:Nat):List Nat:=(List.range k).filter (J6 gone)
def Pm (gone:List Int) (k:Nat):Nat:=(HZ gone k).length
def MR (gone:List Int) (es:List Edge) (k:Nat):List Edge:=(HZ gone k).map fun i=>es.getD i (0,0)
def Pn (g:Gr) (gone:List Int):Gr:=⟨g.n,MR gone g.es g.es.length⟩
def NH (gone:List Int) (i:Int):Int:=if i∈gone then -1 else (Pm gone i.toNat:Int)
def MT (gone:List Int) (l:List Int):List Int:=(l.filter fun i=>decide (i∉gone)).map (NH gone)
def Po (p:Pl) (gone:List Int):Pl:=⟨p.ord,p.outs.map (MT gone)⟩
variable {g:Gr} {p:Pl} {gone:List Int}
def Pp (gone:List Int) (t:It):It:=(NH gone t.1,t.2.1,t.2.2)
def Pq (gone:List Int) (l:List It):List It:=(l.filter fun t=>decide (t.1∉gone)).map (Pp gone)
theorem B9 (hr:gQ g p):bA g (bL p 0)=0:=by
 have hm:=cm hr.1
 have hn:=bM hm
 refine Decidable.byContradiction fun hnz=> ?_
 obtain ⟨A,X,C,hrw,_,_,hX,_⟩:=c8 hm (AI g).toiL (hr.2.2 0 (by omega)) hnz
 obtain ⟨q,X0,e1,_⟩:=hX.fst
 rw [e1] at hrw
 simp at hrw
end Go.Ab
end
section
namespace Go.Ab
open Go.Proofs
set_option maxRecDepth 10000
theorem A0 {g:Gr} (hm:aY g=true) {f:Fr} (hi:iL g f) {x:Int} (hR:aC g f x=true) (hn:bA g x≠0) (o:List Int):
 ∃a c,gn f.row=a++gn (aD g f x o).1.1++c∧gh x a∧gh x c∧tZ x (gn (aD g f x o).1.1)∧(gn (aD g f x o).1.1).length=bA g x∧gn (aD g f x o).2.row=a++gn (bg g x o)++c:=by
 obtain ⟨A,X,C,hr,hA,hC,hX,hc⟩:=c8 hm hi hR hn
 have hx:=(aR hR).1
 have hmem:∀t∈X,t∈f.row:=fun t ht=>by rw [hr];simp [ht]
 have hiff:∀t∈X,(0≤t.1↔t.2.2=x):=fun t ht=>by
  have h1:=(hi.it t (hmem t ht)).head hm
  have h2:=hX.al t ht
  constructor
  ·intro h;rcases h2 with h2|h2
   ·exact h2
   ·exact absurd h2 (h1.1.1 h)
  ·intro h;exact h1.1.2 (by omega)
 rw [kB o hr hA hC hX]
 refine ⟨gn A,gn C,by rw [hr,mB,mB],qS hA,qS hC,fun t ht=> ?_, ?_,by simp only [mB]⟩
 ·obtain ⟨h1,h2⟩:=e8.1 ht
  exact (hiff t h1).1 h2
 ·rw [← hc,gn, ← List.countP_eq_length_filter]
  refine List.countP_congr fun t ht=> ?_
  simp only [kT,decide_eq_true_eq]
  exact hiff t ht
def mJ (g:Gr) (p:Pl) (x:Int):List Int:=(gn ((kQ g p g.n.toNat).getD x.toNat [])).map (·.1)
def o5 (g:Gr) (p:Pl) (f:Fr) (x:Int):List Int:=(gn (aD g f x (kC p x)).1.1).map (·.1)
def tA (g:Gr) (p:Pl):Nat→Fr→Prop
 |0,f=>(f.pl.length:Int)=g.n
 |m+1,f=>∃x,aC g f x=true∧o5 g p f x=mJ g p x∧tA g p m (uK g p f x)
theorem tC {g:Gr} {p:Pl} :∀ {m:Nat} {f f':Fr},f.row=f'.row→f.pl.Perm f'.pl→tA g p m f→tA g p m f'
 |0,f,f',_,hp,h=>by
  have h:(f.pl.length:Int)=g.n:=h
  show (f'.pl.length:Int)=g.n
  rw [← hp.length_eq];exact h
 |m+1,f,f',hr,hp,⟨x,h1,h3,h2⟩=>by
  refine ⟨x,by rw [← x6 hr hp];exact h1, ?_,tC ?_ ?_ h2⟩
  ·simp only [o5,aD,hr] at h3 ⊢;exact h3
  ·simp only [uK,aD,hr]
  ·exact hp.append_right _
theorem uQ {g:Gr} (hc:(cR g).1=0) {p:Pl} (hp:b7 g p):∀ {m:Nat} {f:Fr},yK g f→(f.pl.length:Int)+(m+1:Nat)=g.n→tA g p (m+1) f→∀ {x:Int},aC g f x=true→o5 g p f x=mJ g p x∧tA g p m (uK g p f x)
 |m,f,hi,hl,⟨y,uG,KI,hcan⟩,x,hR=>by
  have hm:=cm hc
  by_cases hxy:x=y
  ·subst hxy;exact ⟨KI,hcan⟩
  have py:=er hp (aR uG).1 (aR uG).2.1
  have px:=er hp (aR hR).1 (aR hR).2.1
  have i2:=jN hm hi uG py
  match m,hl,hcan with
  |0,hl,hcan=>
   exfalso
   have h1:=pZ i2.toiL (by show ((f.pl++ [y]).length:Int)=g.n;simp;omega) (x:=x) ⟨(aR hR).1,(aR hR).2.1⟩
   have h2:x∈f.pl++ [y]:=h1
   simp [(aR hR).2.2,hxy] at h2
  |m+1,hl,hcan=>
   obtain ⟨h4,h5,h6,h7,h8⟩:=BY hc hi hxy hR uG px py
   obtain ⟨h9,h3⟩:=uQ hc hp i2 (by show (((f.pl++ [y]).length:Nat):Int)+_=_;simp;omega) hcan h5
   refine ⟨?_,y,h4, ?_,tC h6.symm ?_ h3⟩
   ·unfold o5 at h9 ⊢;rw [h7];exact h9
   ·unfold o5 at KI ⊢;rw [h8] at KI;exact KI
   show (f.pl++ [y]++ [x]).Perm (f.pl++ [x]++ [y])
   rw [List.append_assoc,List.append_assoc]
   exact List.Perm.append_left _ (List.Perm.swap ..)
theorem A3 {g:Gr} (hc:(cR g).1=0) {p:Pl} (hp:b7 g p):∀ {m:Nat} {f:Fr},yK g f→tA g p m f→∀ {i:Nat},i<g.es.length→tl g i∈f.pl→hd g i∉f.pl→∃t∈f.row,t.1=(i:Int)
 |0,f,hi,h,i,hil,_,hh=>by
  have hr:=fM (cm hc) hil
  exact absurd (pZ hi.toiL h (x:=hd g i) hr) hh
 |m+1,f,hi,⟨x,hR,_,h⟩,i,hil,ht,hh=>by
  have hm:=cm hc
  have px:=er hp (aR hR).1 (aR hR).2.1
  by_cases hx:hd g i=x
  ·obtain ⟨t,h1,h2,_⟩:=zv hm hi hR hil hx
   exact ⟨t,h1,h2⟩
  ·obtain ⟨t,h1,h2⟩:=A3 hc hp (jN hm hi hR px) h hil (List.mem_append.2 (.inl ht)) (fun h1=>by
    rcases List.mem_append.1 h1 with h1|h1
    ·exact hh h1
    ·exact hx (by simpa using h1))
   obtain ⟨A,X,C,hr,_,_,_,hs⟩:=tf hm hi.toiL hR
   rw [hs] at h1
   simp only [List.mem_append] at h1
   rcases h1 with (h1|h1)|h1
   ·exact ⟨t,by rw [hr];simp [h1],h2⟩
   ·rcases jM (fun i hi=>px.mem_iff.1 hi) h1 with ⟨h3,_⟩|⟨k,h3,h4,h5,_,h6,_⟩
    ·omega
    ·have:k=i:=by omega
     subst this
     exact absurd (h6 ▸ ht) (aR hR).2.2
   ·exact ⟨t,by rw [hr];simp [h1],h2⟩
def jU (g:Gr) (e:Int):Int:=(g.es.getD e.toNat (0,0)).1
def kU (g:Gr) (e:Int):Int:=(g.es.getD e.toNat (0,0)).2
def yg (g:Gr) (x:Int):Prop:=0≤x∧x<g.n
instance {g:Gr} {x:Int} :Decidable (yg g x):=inferInstanceAs (Decidable (0≤x∧x<g.n))
def tD (g:Gr) (p:Pl) (k:Nat) (W D:List Int):Prop:=∃f,yK g f∧f.pl=D∧W=(gn f.row).map (·.1)∧tA g p k f∧(D.length:Int)+k=g.n∧bL p 0∈D
def MU (g:Gr) (p:Pl) (x:Int):Nat:=((yJ g.n.toNat p.ord p.ord.length).getD x.toNat 0).toNat
def yh (g:Gr) (p:Pl):PS:=
 {m:=g.es.length,src:=bL p 0,JL:=bL p (g.n.toNat - 1),tl:=jU g,hd:=kU g,ins:=fun x=>if yg g x then mJ g p x else [],outs:=fun x=>if yg g x then kC p x else [],MI:=MU g p,Row:=tD g p,k0:=g.n.toNat - 1}
theorem zF {g:Gr} {p:Pl} {x:Int} (h:yg g x):(yh g p).ins x=mJ g p x:=if_pos h
theorem FZ {g:Gr} {p:Pl} {x:Int} (h:¬yg g x):(yh g p).ins x= []:=if_neg h
theorem F0 {g:Gr} {p:Pl} {x:Int} (h:yg g x):(yh g p).outs x=kC p x:=if_pos h
theorem c9 {f:Edge→Int} {es:List Edge} {x e:Int} :e∈aX f es es.length x↔(0≤e∧e<es.length)∧f (es.getD e.toNat (0,0))=x:=by
 refine ⟨gy,fun ⟨h1,h2⟩=> ?_⟩
 simp only [aX,List.mem_map,List.mem_filter,List.mem_range,decide_eq_true_eq]
 exact ⟨e.toNat,⟨by omega,h2⟩,by simp;omega⟩
section
variable {g:Gr} {p:Pl}
theorem wm (hm:aY g=true) {f:Fr} (hi:iL g f) {t:It} (ht:t∈gn f.row):(0≤t.1∧t.1<g.es.length)∧t.2.1=jU g t.1∧t.2.2=kU g t.1:=by
 obtain ⟨h1,h2⟩:=e8.1 ht
 rcases hi.it t h1 with h3|h3
 ·omega
 ·exact ⟨⟨h3.1,h3.2.1⟩,h3.2.2.1,h3.2.2.2⟩
theorem Gw {f:Fr} (hi:yK g f):((gn f.row).map (·.1)).Nodup:=by
 refine List.pairwise_map.2 ?_
 have:=hi.once.filter (fun t:It=>decide (0≤t.1))
 refine List.Pairwise.imp_of_mem (fun {s t} hs ht h1=>h1 (e8.1 hs).2) this
theorem F1 (hm:aY g=true) {f:Fr} (hi:yK g f) {x:Int} (hR:aC g f x=true):(o5 g p f x).Nodup∧∀e,e∈o5 g p f x↔(0≤e∧e<g.es.length)∧kU g e=x:=by
 by_cases hn:bA g x=0
 ·have hno:=nw hm hi.toiL (aR hR).1 hn
  have e0:o5 g p f x= []:=by unfold o5;rw [pW _ hno];rfl
  rw [e0]
  refine ⟨List.nodup_nil,fun e=>⟨fun h=>by (cases h),fun ⟨h1,h2⟩=> ?_⟩⟩
  have:=c9.2 ⟨h1,h2⟩
  have h3:aX (·.2) g.es g.es.length x= []:=List.eq_nil_of_length_eq_zero hn
  rw [h3] at this;cases this
 ·obtain ⟨a,c,e1,ha,hc,hX,hl,_⟩:=A0 hm hi.toiL hR hn (kC p x)
  have dB:=Gw hi
  have hmem:∀t∈gn (aD g f x (kC p x)).1.1,t∈gn f.row:=fun t ht=>by rw [e1];simp [ht]
  rw [e1,List.map_append,List.map_append,List.nodup_append] at dB
  have NI:(o5 g p f x).Nodup:=(List.nodup_append.1 dB.1).2.1
  have hsub:∀e∈o5 g p f x,e∈aX (·.2) g.es g.es.length x:=fun e he=>by
   obtain ⟨t,ht,rfl⟩:=List.mem_map.1 he
   obtain ⟨h1,_,h3⟩:=wm hm hi.toiL (hmem t ht)
   exact c9.2 ⟨h1,by rw [← hX t ht,h3];rfl⟩
  have hlen:(aX (·.2) g.es g.es.length x).length=(o5 g p f x).length:=by
   unfold o5;rw [List.length_map,hl];rfl
  exact ⟨NI,fun e=>⟨fun he=>c9.1 (hsub e he),fun he=>we NI hsub hlen e (c9.2 he)⟩⟩
theorem F2 (h:gQ g p) {k:Nat} (hk:k<g.n.toNat):mJ g p (bL p k)=o5 g p (fK g p k) (bL p k):=by
 unfold mJ
 rw [AO h.2.1 (Nat.le_refl _) hk];rfl
theorem yj (h:gQ g p) {x:Int} (hx:yg g x):(mJ g p x).Nodup∧∀e,e∈mJ g p x↔(0≤e∧e<g.es.length)∧kU g e=x:=by
 obtain ⟨k,hk,rfl⟩:=AM h.2.1 hx.1 hx.2
 have hm:=cm h.1
 obtain ⟨hi,_,_⟩:=qP hm h.2.1 (k:=k) (by omega) fun j hj=>h.2.2 j (by omega)
 rw [F2 h hk]
 exact F1 hm hi (h.2.2 k hk)
theorem yl (h:gQ g p) {x:Int} (hx:yg g x):(mJ g p x).length=bA g x:=by
 obtain ⟨h1,h2⟩:=yj h hx
 refine Nat.le_antisymm ?_ ?_
 ·exact mz h1 fun e he=>c9.2 ((h2 e).1 he)
 ·exact mz dI fun e he=>(h2 e).2 (c9.1 he)
theorem tD.nd {k:Nat} {W D:List Int} (h:tD g p k W D):W.Nodup:=by
 obtain ⟨f,hi,_,rfl,_⟩:=h;exact Gw hi
theorem tD.mem (h:gQ g p) {k:Nat} {W D:List Int} (hr:tD g p k W D) (e:Int):e∈W↔(0≤e∧e<g.es.length)∧jU g e∈D∧kU g e∉D:=by
 have hm:=cm h.1
 obtain ⟨f,hi,rfl,rfl,hc,_⟩:=hr
 constructor
 ·intro he
  obtain ⟨t,ht,rfl⟩:=List.mem_map.1 he
  obtain ⟨h1,h2,h3⟩:=wm hm hi.toiL ht
  obtain ⟨h4,h5⟩:=e8.1 ht
  exact ⟨h1,h2 ▸ hi.tail t h4 h5,h3 ▸ hi.head t h4 h5⟩
 ·rintro ⟨h1,h2,h3⟩
  obtain ⟨t,h4,h5⟩:=A3 h.1 h.2.1 hi hc (i:=e.toNat) (by omega) h2 h3
  exact List.mem_map.2 ⟨t,e8.2 ⟨h4,by omega⟩,by omega⟩
theorem tD.next (h:gQ g p) {k:Nat} {W D:List Int} (hr:tD g p (k+1) W D):∃x A C,W=A++(yh g p).ins x++C∧(yh g p).ins x≠ []:=by
 have hm:=cm h.1
 obtain ⟨f,hi,rfl,rfl,⟨x,hR,hg,_⟩,_,hs⟩:=hr
 obtain ⟨x0,x1,x2⟩:=aR hR
 have hx:yg g x:=⟨x0,x1⟩
 have hn:bA g x≠0:=fun h0=>by
  have:=qO h.1 (x:=x) (y:=bL p 0) hx (hi.zm _ hs) h0 (B9 h)
  exact x2 (this ▸ hs)
 obtain ⟨a,c,e1,_,_,_,hl,_⟩:=A0 hm hi.toiL hR hn (kC p x)
 refine ⟨x,a.map (·.1),c.map (·.1), ?_, ?_⟩
 ·rw [zF hx, ← hg,e1,List.map_append,List.map_append];rfl
 ·rw [zF hx]
  intro h0
  have:=yl h hx
  rw [h0] at this
  exact hn this.symm
theorem tD.step (h:gQ g p) {k:Nat} {W D A C:List Int} {x:Int} (hr:tD g p k W D) (hW:W=A++(yh g p).ins x++C) (hI:(yh g p).ins x≠ []):∃k',k=k'+1∧tD g p k' (A++(yh g p).outs x++C) (D++ [x]):=by
 have hm:=cm h.1
 have hx:yg g x:=Decidable.byContradiction fun h0=>hI (FZ h0)
 have dB:=hr.nd
 have hmem:=tD.mem h hr
 rw [zF hx] at hW hI
 rw [F0 hx]
 obtain ⟨i1,i2⟩:=yj h hx
 obtain ⟨e0,u0,Dz⟩:=wk hI
 have NJ:x∉D:=by
  have h1:=(i2 e0).1 (by rw [Dz];simp)
  have h2:=(hmem e0).1 (by rw [hW,Dz];simp)
  rw [h1.2] at h2;exact h2.2.2
 obtain ⟨f,hi,rfl,Pr,hc,hD,hs⟩:=hr
 rw [Pr] at hW dB
 obtain ⟨l1,c,e1,e2,e3⟩:=List.map_eq_append_iff.1 hW
 obtain ⟨a,X,e4,e5,e6⟩:=List.map_eq_append_iff.1 e2
 have hrow:gn f.row=a++X++c:=by rw [e1,e4]
 rw [hrow,List.map_append,List.map_append,e5,e6,e3] at dB
 have hit:∀t∈a++X++c,(0≤t.1∧t.1<g.es.length)∧t.2.1=jU g t.1∧t.2.2=kU g t.1:=fun t ht=>wm hm hi.toiL (by rw [hrow];exact ht)
 have hX:tZ x X:=fun t ht=>by
  have h1:t.1∈mJ g p x:=by rw [← e6];exact List.mem_map_of_mem ht
  rw [(hit t (by simp [ht])).2.2,((i2 _).1 h1).2]
 have hin:∀t∈a++X++c,t.2.2=x→t.1∈mJ g p x:=fun t ht e=>by
  obtain ⟨h1,_,h3⟩:=hit t ht
  exact (i2 _).2 ⟨h1,by rw [← h3,e]⟩
 have ha:gh x a:=fun t ht e=>by
  have h1:=hin t (by simp [ht]) e
  have h2:t.1∈A:=by rw [← e5];exact List.mem_map_of_mem ht
  exact (List.nodup_append.1 (List.nodup_append.1 dB).1).2.2 _ h2 _ h1 rfl
 have NK:gh x c:=fun t ht e=>by
  have h1:=hin t (by simp [ht]) e
  have h2:t.1∈C:=by rw [← e3];exact List.mem_map_of_mem ht
  exact (List.nodup_append.1 dB).2.2 _ (List.mem_append.2 (.inr h1)) _ h2 rfl
 have JI:X.length=bA g x:=by rw [← yl h hx, ← e6,List.length_map]
 have nX:X≠ []:=fun h0=>hI (by rw [← e6,h0];rfl)
 have hR:=yf hm hi.toiL hx.1 hx.2 NJ hrow ha NK hX nX JI
 have hn:bA g x≠0:=fun h0=>nX (List.eq_nil_of_length_eq_zero (JI.trans h0))
 have px:=er h.2.1 hx.1 hx.2
 cases k with
 |zero=>exact absurd (pZ hi.toiL (by omega) hx) NJ
 |succ k=>
  refine ⟨k,rfl,uK g p f x,jN hm hi hR px,rfl, ?_,(uQ h.1 h.2.1 hi (by omega) hc hR).2, ?_,List.mem_append.2 (.inl hs)⟩
  ·have:=AZ hm hi.toiL hR hn hrow ha NK hX nX (kC p x)
   show _=(gn (aD g f x (kC p x)).2.row).map (·.1)
   rw [this,List.map_append,List.map_append,e5,e3,uO (fun i hi=>by
    have:=c9.1 (px.mem_iff.1 hi);exact this.1.1),List.map_map]
   have e7:((fun t:It=>t.1) ∘ mR g x)=id:=rfl
   rw [e7,List.map_id]
  ·show (((f.pl++ [x]).length:Nat):Int)+_=_
   rw [List.length_append,List.length_singleton];omega
end
end Go.Ab
end
section
namespace Go.Ab
open Go.Proofs
set_option maxRecDepth 10000
set_option linter.unusedSectionVars false
def de (d:Dr) (x:Int):Pt:=d.pts.getD x.toNat (0,0)
def dR (d:Dr) (e:Int):List Pt:=d.ls.getD e.toNat []
structure uc (g:Gr) (d:Dr):Prop where
 qx:(cR g).1=0
 np:(d.pts.length:Int)=g.n
 nl:d.ls.length=g.es.length
 KJ:∀q∈d.pts,bJ q
 len:∀l∈d.ls,2≤l.length∧l.length≤8
 kS:∀l∈d.ls,∀q∈l,bJ q
 fst:∀i,i<g.es.length→(d.ls.getD i []).getD 0 (0,0)=de d (tl g i)
 FO:∀i,i<g.es.length→(d.ls.getD i []).getD ((d.ls.getD i []).length - 1) (0,0)=de d (hd g i)
 HJ:∀i,i<g.es.length→∀k,k+1<(d.ls.getD i []).length→((d.ls.getD i []).getD k (0,0)).2<((d.ls.getD i []).getD (k+1) (0,0)).2
 alone:∀x z:Nat,x<z→z<d.pts.length→d.pts.getD x (0,0)≠d.pts.getD z (0,0)
 free:∀i x:Nat,i<g.es.length→x<d.pts.length→(x:Int)≠tl g i→(x:Int)≠hd g i→Ht (d.ls.getD i []) (d.pts.getD x (0,0))=false
 apart:∀i k:Nat,i<g.es.length→k<i→∀a∈eS (d.ls.getD i []),∀b∈eS (d.ls.getD k []),fS (gb g d i k) a b=false
theorem jR {n:Nat} {f:Nat→Bool} (h:¬0≤bE n f) {i:Nat} (hi:i<n):f i=true:=by
 refine Decidable.byContradiction fun hf=>h ?_
 have h1:=dx (fun i=> !f i) (List.range n)
 have h2:(List.range n).any (fun i=> !f i)=true:=List.any_eq_true.2 ⟨i,List.mem_range.2 hi,by simp [hf]⟩
 rw [h2] at h1
 exact of_decide_eq_true h1
theorem uR {p:Pt} (h:lH p=false):bJ p:=by
 rw [vJ] at h
 simpa using h
theorem mC {l:List Pt} {k:Nat} (h:k+1<l.length):(l.getD k (0,0),l.getD (k+1) (0,0))∈eS l:=by
 unfold eS EZ
 exact List.mem_map.2 ⟨k,List.mem_range.2 (by omega),rfl⟩
theorem J7 {g:Gr} {d:Dr} (h:(gL g d).1=0):gL g d=(0,0)∧uc g d:=by
 unfold gL at h ⊢
 split at h
 ·cases h
 rename_i h1
 split at h
 ·cases h
 rename_i h2
 split at h
 ·cases h
 rename_i h3
 split at h
 ·cases h
 rename_i h4
 split at h
 ·cases h
 rename_i h5
 split at h
 ·cases h
 rename_i h6
 split at h
 ·cases h
 rename_i h7
 rw [if_neg h1,if_neg h2,if_neg h3,if_neg h4,if_neg h5,if_neg h6,if_neg h7]
 refine ⟨rfl, ?_⟩
 simp only [Bool.not_eq_false] at h1 h2
 simp only [gK,Bool.and_eq_true,decide_eq_true_eq] at h1
 simp only [eC,Bool.and_eq_true,Bool.not_eq_true',List.any_eq_false] at h2
 obtain ⟨⟨c1,c2⟩,c3⟩:=h1
 have hb:∀l∈d.ls,2≤l.length∧l.length≤8∧∀q∈l,lH q=false:=fun l hl=>by
  have:=h2.2 l hl
  simp only [iH,Bool.or_eq_true,decide_eq_true_eq,not_or,List.any_eq_true,not_exists,not_and,Bool.not_eq_true] at this
  exact ⟨by omega,by omega,this.2⟩
 have he:∀i,i<g.es.length→(d.ls.getD i []).getD 0 (0,0)=de d (tl g i)∧(d.ls.getD i []).getD ((d.ls.getD i []).length - 1) (0,0)=de d (hd g i):=fun i hi=>by
  have:=jR h3 hi
  simp only [oO,Bool.and_eq_true,decide_eq_true_eq] at this
  exact this
 exact {
  qx:=c1,np:=c2,nl:=c3
  KJ:=fun q hq=>uR (by have:=h2.1 q hq;simpa using this)
  len:=fun l hl=>⟨(hb l hl).1,(hb l hl).2.1⟩
  kS:=fun l hl q hq=>uR ((hb l hl).2.2 q hq)
  fst:=fun i hi=>(he i hi).1
  FO:=fun i hi=>(he i hi).2
  HJ:=fun i hi k hk=>by
   have:=jR h4 hi
   simp only [gl,Bool.not_eq_true',List.any_eq_false,decide_eq_true_eq,Int.not_le] at this
   exact this _ (mC hk)
  alone:=fun x z hx hz e=>by
   have:=jR h5 hz
   simp only [eo,Bool.not_eq_true',decide_eq_false_iff_not] at this
   refine this ?_
   rw [← e,List.getD_eq_getElem?_getD,List.getElem?_eq_getElem (by omega)]
   exact List.mem_iff_getElem.2 ⟨x,by simp;omega,by simp⟩
  free:=fun i x hi hx h8 h9=>by
   have:=jR h6 hi
   simp only [jI,lJ,List.all_eq_true,List.mem_range,Bool.or_eq_true,decide_eq_true_eq,Bool.not_eq_true'] at this
   rcases this x hx with (h|h)|h
   ·exact absurd h h8
   ·exact absurd h h9
   ·exact h
  apart:=fun i k hi hk a ha b hb'=>by
   have:=jR h7 hi
   simp only [gv,iF,List.all_eq_true,List.mem_range,Bool.not_eq_true'] at this
   exact this k hk a ha b hb'}
def gA (d:Dr) (e:Int):Pt:=(dR d e).getD 1 (0,0)
def qu (d:Dr) (x i k:Int):Int:=tm (de d x) (gA d k) (de d x) (gA d i)
def jS (d:Dr) (x i k:Int):Prop:=0<qu d x i k
theorem F3 {a b c:Pt} :tm a b a c= -tm a c a b:=by unfold tm;grind
theorem tE {d:Dr} {x i k:Int} :qu d x i k= -qu d x k i:=F3
theorem zG {u1 u2 v1 v2 w1 w2:Int} (hu:0<u2) (hv:0<v2) (hw:0<w2) (h1:0<v1*u2 - v2*u1) (h2:0<w1*v2 - w2*v1):0<w1*u2 - w2*u1:=by
 have e:(v1*u2 - v2*u1)*w2+(w1*v2 - w2*v1)*u2=v2*(w1*u2 - w2*u1):=by grind
 have p1:=Int.mul_pos h1 hw
 have p2:=Int.mul_pos h2 hu
 have p3:0<v2*(w1*u2 - w2*u1):=by omega
 exact Int.pos_of_mul_pos_right p3 hv
section
variable {g:Gr} {d:Dr} (h:uc g d)
include h
theorem fm {e:Int} (h0:0≤e) (h1:e<g.es.length):dR d e∈d.ls:=by
 unfold dR
 exact aO (by have:=h.nl;omega)
theorem nI {e x:Int} (h0:0≤e) (h1:e<g.es.length) (hx:jU g e=x):(de d x).2<(gA d e).2:=by
 have hl:=(h.len _ (fm h h0 h1)).1
 have h2:=h.HJ e.toNat (by omega) 0 (by show 0+1<(dR d e).length;omega)
 have h3:=h.fst e.toNat (by omega)
 have h4:tl g e.toNat=x:=hx
 rw [h3,h4] at h2
 exact h2
theorem Ca {x i k j:Int} (hi:0≤i∧i<g.es.length) (hk:0≤k∧k<g.es.length) (hj:0≤j∧j<g.es.length) (xi:jU g i=x) (xk:jU g k=x) (xj:jU g j=x) (h1:jS d x i k) (h2:jS d x k j):jS d x i j:=by
 have u:=nI h hi.1 hi.2 xi
 have v:=nI h hk.1 hk.2 xk
 have w:=nI h hj.1 hj.2 xj
 unfold jS qu tm at*
 exact zG (u1:=(gA d i).1 - (de d x).1) (v1:=(gA d k).1 - (de d x).1) (w1:=(gA d j).1 - (de d x).1) (by omega) (by omega) (by omega) h1 h2
end
theorem tF {d:Dr} {x i k:Int} (h1:jS d x i k) (h2:jS d x k i):False:=by
 unfold jS at*
 rw [tE] at h2
 omega
theorem Eu {p a b:Pt} (hp:bJ p) (ha:bJ a) (hb:bJ b) (ua:p.2<a.2) (ub:p.2<b.2) (h0:tm p a p b=0):fP p a p b=2:=by
 rw [← AA]
 unfold fO
 have e1:p≠a:=fun e=>by rw [e] at ua;omega
 have e2:p≠b:=fun e=>by rw [e] at ub;omega
 have hA:aj p a p=0:=by unfold aj;grind
 have hB:aj p a b=0:=by unfold aj;unfold tm at h0;grind
 have c0:fN 0 0=0:=by decide
 rw [if_pos ⟨hp,ha,hp,hb⟩,if_neg e1,if_neg e2,hA,hB,c0,if_pos ⟨rfl,rfl⟩]
 have d1:ak p a p=0:=by unfold ak;grind
 have d2:0<ak p a a:=by
  unfold ak
  have h1:0<(a.2 - p.2)*(a.2 - p.2):=Int.mul_pos (by omega) (by omega)
  have h2:0≤(a.1 - p.1)*(a.1 - p.1):=by
   rcases Int.le_total 0 (a.1 - p.1) with h|h
   ·exact Int.mul_nonneg h h
   ·exact Int.mul_nonneg_of_nonpos_of_nonpos h h
  omega
 have d3:0<ak p a b:=by
  unfold ak
  unfold tm at h0
  have hab:0<(a.2 - p.2)*(b.2 - p.2):=Int.mul_pos (by omega) (by omega)
  have e:((b.1 - p.1)*(a.1 - p.1)+(b.2 - p.2)*(a.2 - p.2))*((a.2 - p.2)*(b.2 - p.2))=((a.1 - p.1)*(b.2 - p.2))*((a.1 - p.1)*(b.2 - p.2))+((a.2 - p.2)*(b.2 - p.2))*((a.2 - p.2)*(b.2 - p.2)):=by grind
  have h2:0≤((a.1 - p.1)*(b.2 - p.2))*((a.1 - p.1)*(b.2 - p.2)):=by
   rcases Int.le_total 0 ((a.1 - p.1)*(b.2 - p.2)) with h|h
   ·exact Int.mul_nonneg h h
   ·exact Int.mul_nonneg_of_nonpos_of_nonpos h h
  have h3:=Int.mul_pos hab hab
  have h4:0<((b.1 - p.1)*(a.1 - p.1)+(b.2 - p.2)*(a.2 - p.2))*((a.2 - p.2)*(b.2 - p.2)):=by omega
  exact Int.pos_of_mul_pos_left h4 hab
 rw [d1]
 rw [if_neg (by omega),if_neg (by omega)]
section
variable {g:Gr} {d:Dr} (h:uc g d)
include h
theorem Cb {x i k:Int} (hi:0≤i∧i<g.es.length) (hk:0≤k∧k<g.es.length) (xi:jU g i=x) (xk:jU g k=x) (hne:i≠k):jS d x i k∨jS d x k i:=by
 have key:∀ {i k:Int},(0≤i∧i<g.es.length)→(0≤k∧k<g.es.length)→jU g i=x→jU g k=x→k<i→qu d x i k≠0:=fun {i k} hi hk xi xk hlt e=>by
  have hx:bJ (de d x):=by
   have:=h.fst i.toNat (by omega)
   have e2:tl g i.toNat=x:=xi
   rw [e2] at this
   rw [← this]
   exact h.kS _ (fm h hi.1 hi.2) _ (aO (by have:=(h.len _ (fm h hi.1 hi.2)).1;show 0<(dR d i).length;omega))
  have li:=(h.len _ (fm h hi.1 hi.2)).1
  have lk:=(h.len _ (fm h hk.1 hk.2)).1
  have p1:=mC (l:=dR d i) (k:=0) (by omega)
  have p2:=mC (l:=dR d k) (k:=0) (by omega)
  have f1:(dR d i).getD 0 (0,0)=de d x:=by rw [← xi];exact h.fst i.toNat (by omega)
  have f2:(dR d k).getD 0 (0,0)=de d x:=by rw [← xk];exact h.fst k.toNat (by omega)
  have hb:=h.apart i.toNat k.toNat (by omega) (by omega) _ p1 _ p2
  rw [f1,f2] at hb
  have m2:=Eu (p:=de d x) (a:=gA d i) (b:=gA d k) hx (h.kS _ (fm h hi.1 hi.2) _ (aO (by omega))) (h.kS _ (fm h hk.1 hk.2) _ (aO (by omega))) (nI h hi.1 hi.2 xi) (nI h hk.1 hk.2 xk) (by
   have:qu d x i k=0:=e
   rw [tE] at this
   unfold qu at this
   omega)
  have m3:fP (de d x) ((dR d i).getD (0+1) (0,0)) (de d x) ((dR d k).getD (0+1) (0,0))=2:=m2
  unfold fS at hb
  simp only [m3] at hb
  simp at hb
 have e0:=tE (d:=d) (x:=x) (i:=i) (k:=k)
 rcases Int.lt_trichotomy i k with hlt|he|hlt
 ·have:=key hk hi xk xi hlt
  unfold jS
  omega
 ·exact absurd he hne
 ·have:=key hi hk xi xk hlt
  unfold jS
  omega
end
end Go.Ab
end
