/- A part of the proof. -/
import Derived.Test.YtchjjbfhlchpfaaGreatL10P10
set_option linter.unusedSimpArgs false
set_option linter.unusedVariables false
section
namespace Go.Ab
def Ord (g:Gr) (out:List Int):Prop:=∀p,p<out.length→∀i,i<g.es.length→hd g i=out.getD p 0→tl g i∈out.take p
theorem oy {l r:List Int} {p:Nat} (h:p<l.length):(l++r).getD p 0=l.getD p 0:=by
 rw [List.getD_eq_getElem?_getD,List.getD_eq_getElem?_getD,List.getElem?_append_left h]
theorem Ord.next {g:Gr} {out:List Int} (h:Ord g out) {x:Nat} (hb:∀i,i<g.es.length→hd g i=x→tl g i∈out):Ord g (out++ [(x:Int)]):=by
 intro p hp i hi hh
 rw [List.length_append,List.length_singleton] at hp
 by_cases fH:p<out.length
 ·rw [oy fH] at hh
  have:=h p fH i hi hh
  rw [List.take_append_of_le_length (by omega)]
  exact this
 ·have hpe:p=out.length:=by omega
  subst hpe
  rw [List.getD_eq_getElem?_getD,List.getElem?_append_right (by omega)] at hh
  simp at hh
  rw [List.take_append_of_le_length (by omega),List.take_of_length_le (by omega)]
  exact hb i hi hh
theorem sy {g:Gr} (hm:aY g=true):∀f out,eO g out→Ord g out→left g out≤f→eO g (tT g f out)∧Ord g (tT g f out)∧fc (cH g (tT g f out)) 0<0
 |f,out,hP,hO,hl=>by
  rcases JB (g:=g) out with hx|⟨x,hx,He,hw⟩
  ·rw [xL (by omega)];exact ⟨hP,hO,by omega⟩
  ·obtain ⟨Ns,_,hb⟩:=hP.next hm He hw
   have hn:=ur hP Ns
   cases f with
   |zero=>omega
   |succ f=>
    have:=sy hm f (out++ [(x:Int)]) Ns (hO.next hb) (by omega)
    simp only [tT,hx]
    rw [if_neg (by omega)]
    exact this
theorem gu {g:Gr} (hm:aY g=true):eO g (aL g)∧Ord g (aL g)∧fc (cH g (aL g)) 0<0:=
 sy hm _ _ (eO.nil g) (fun p hp=>by simp at hp) (by rw [ou];exact Nat.le_refl _)
theorem pN {g:Gr} (hm:aY g=true) {y:Nat} (hy:y<g.n.toNat):0<wt g (aL g) y↔(y:Int)∉aL g:=by
 obtain ⟨_,_,hi⟩:=gu hm
 constructor
 ·intro h hin;simp [wt,hin] at h
 ·intro h
  have h0:wt g (aL g) y≠0:=by
   intro e
   rcases fe (f:=fun y:Int=>decide (0=y)) (l:=cH g (aL g)) 0 with ⟨_,h2⟩|⟨k,h1,_⟩
   ·have:=h2 _ (List.mem_of_getElem? (j7 hy))
    rw [e] at this;simp at this
   ·have:fc (cH g (aL g)) 0=k:=h1
    omega
  have:0≤wt g (aL g) y:=by simp only [wt,h,if_false];omega
  omega
theorem sC {g:Gr} {l:List Bool} {j y:Nat} (h:y<g.n.toNat):(eR g l j).getD y false=(List.range j).any fun i=>decide (hd g i=(y:Int))&&(l.getD (tl g i).toNat false&&l.getD (hd g i).toNat false):=by
 simp [eR,List.getD_eq_getElem?_getD,List.getElem?_range h]
theorem sD {g:Gr} (hm:aY g=true):∀k y,y<g.n.toNat→(y:Int)∉aL g→(fE g k).getD y false=true
 |0,y,hy,_=>by simp [fE,lF,List.getD_eq_getElem?_getD,List.getElem?_range hy];omega
 |k+1,y,hy,h=>by
  have hw:=(pN hm hy).2 h
  simp only [wt,h,if_false] at hw
  obtain ⟨i,hi,hp⟩:=List.countP_pos_iff.1 (Int.natCast_pos.1 hw)
  simp only [Bool.and_eq_true,decide_eq_true_eq,Bool.not_eq_true',decide_eq_false_iff_not] at hp
  have hil:=List.mem_range.1 hi
  obtain ⟨⟨h1,h2⟩,_⟩:=dZ hm hil
  have ht:(g.es.getD i (0,0)).1=tl g i:=rfl
  rw [ht] at h1 h2
  have e:((tl g i).toNat:Int)=tl g i:=by omega
  have g1:=sD hm k (tl g i).toNat (by omega) (by rw [e];exact hp.2)
  have g2:=sD hm k y hy h
  show (eR g (fE g k) g.es.length).getD y false=true
  rw [sC hy,List.any_eq_true]
  refine ⟨i,hi, ?_⟩
  rw [hp.1,Int.toNat_natCast,g1,g2];simp
theorem Aq {g:Gr} (hm:aY g=true):∀k p,p<k→p<(aL g).length→(fE g k).getD ((aL g).getD p 0).toNat false=false
 |0,p,h,_=>by omega
 |k+1,p,h,hp=>by
  obtain ⟨hP,hO,_⟩:=gu hm
  have hr:=hP.lo _ (gE hp)
  obtain ⟨y,hy⟩:∃y:Nat,(aL g).getD p 0=y:=⟨((aL g).getD p 0).toNat,by omega⟩
  have OL:y<g.n.toNat:=by omega
  rw [hy,Int.toNat_natCast]
  show (eR g (fE g k) g.es.length).getD y false=false
  rw [sC OL,List.any_eq_false]
  intro i hi
  have hil:=List.mem_range.1 hi
  simp only [Bool.and_eq_true,decide_eq_true_eq]
  rintro ⟨h1,h2,_⟩
  have ht:=hO p hp i hil (by rw [h1,hy])
  rw [List.mem_iff_getElem?] at ht
  obtain ⟨q,hq⟩:=ht
  rw [List.getElem?_take] at hq
  split at hq
  ·rename_i OM
   have:=Aq hm k q (by omega) (by omega)
   rw [List.getD_eq_getElem?_getD (l:=aL g),hq] at this
   rw [Option.getD_some,h2] at this
   cases this
  ·cases hq
theorem DG {g:Gr} (hm:aY g=true) {y:Nat} (hy:y<g.n.toNat):(vE g).getD y false=true↔(y:Int)∉aL g:=by
 constructor
 ·intro h hin
  obtain ⟨hP,_,_⟩:=gu hm
  obtain ⟨p,hp,e⟩:=List.getElem_of_mem hin
  have hl:=hP.fuel
  have:=Aq hm g.n.toNat p (by omega) hp
  rw [List.getD_eq_getElem?_getD (l:=aL g),List.getElem?_eq_getElem hp,Option.getD_some,e,Int.toNat_natCast] at this
  have h2:(fE g g.n.toNat).getD y false=true:=h
  rw [this] at h2;cases h2
 ·intro h;exact sD hm _ y hy h
theorem DH {g:Gr} (hm:aY g=true) {y:Nat} (hy:y<g.n.toNat):(vE g).getD y false=decide (0<(cH g (aL g)).getD y 0):=by
 rw [lC hy,Bool.eq_iff_iff,DG hm hy,decide_eq_true_eq,pN hm hy]
theorem start_eq {g:Gr} (hm:aY g=true):(bR (fun n=>decide (0<n)) (cH g (aL g))= -1∧EY g=g.n)∨∃a:Nat,a<g.n.toNat∧bR (fun n=>decide (0<n)) (cH g (aL g))=a∧EY g=a∧(a:Int)∉aL g:=by
 have hlf:(vE g).length=g.n.toNat:=leftK_length
 rcases fe (f:=fun n:Int=>decide (0<n)) (l:=cH g (aL g)) 0 with ⟨h1,h2⟩|⟨k,h1,h2,h3,h4⟩
 ·refine .inl ⟨h1, ?_⟩
  have:bR (fun b:Bool=>b) (vE g)= -1:=bD false fun j hj=>by
   rw [hlf] at hj
   rw [DH hm hj]
   exact h2 _ (by rw [List.getD_eq_getElem?_getD,j7 hj];exact List.mem_of_getElem? (j7 hj))
  unfold EY;rw [this,if_pos (by omega)]
 ·rw [wts_length] at h2
  refine .inr ⟨k,h2,h1, ?_, ?_⟩
  ·have:bR (fun b:Bool=>b) (vE g)=k:=bW (d:=false) (by omega) (fun j hj=>by
    rw [DH hm (by omega)];exact h4 j hj) (by rw [DH hm h2];exact h3)
   unfold EY;rw [this,if_neg (by omega)]
  ·rw [← pN hm h2]
   rw [lC h2] at h3
   exact of_decide_eq_true h3
def Q (g:Gr) (a:Nat) (t:Int):Prop:=∃i,i<g.es.length∧hd g i=(a:Int)∧tl g i=t∧t∉aL g
theorem cD {g:Gr} (hm:aY g=true) {i:Nat} (hi:i<g.es.length):0≤tl g i∧tl g i<g.n:=(dZ hm hi).1
theorem fM {g:Gr} (hm:aY g=true) {i:Nat} (hi:i<g.es.length):0≤hd g i∧hd g i<g.n:=(dZ hm hi).2
theorem BF {g:Gr} (hm:aY g=true) {i:Nat} (hi:i<g.es.length):0<(cH g (aL g)).getD (tl g i).toNat 0↔tl g i∉aL g:=by
 have h:=cD hm hi
 have e:((tl g i).toNat:Int)=tl g i:=by omega
 rw [lC (by omega),pN hm (by omega),e]
theorem qk {g:Gr} (hm:aY g=true):∀(l:List Int) (b:Int),(∀e∈l,∃i:Nat,e=i∧i<g.es.length)→
 (b= -1∨0≤b)→(l.foldl (fD g (cH g (aL g))) b=b∨∃i:Nat,(i:Int)∈l∧tl g i∉aL g∧l.foldl (fD g (cH g (aL g))) b=tl g i)∧(0≤b→l.foldl (fD g (cH g (aL g))) b≤b)∧
   (∀i:Nat,(i:Int)∈l→tl g i∉aL g→0≤l.foldl (fD g (cH g (aL g))) b∧l.foldl (fD g (cH g (aL g))) b≤tl g i)
 | [],b,_,_=>⟨.inl rfl,fun _=>Int.le_refl _,by simp⟩
 |e::l,b,he,hb=>by
  obtain ⟨i,rfl,hi⟩:=he e List.mem_cons_self
  have htr:=cD hm hi
  have hw:=BF hm hi
  have hstep:fD g (cH g (aL g)) b (i:Int)=if tl g i∉aL g∧(b<0∨tl g i<b) then tl g i else b:=by
   simp only [fD,Int.toNat_natCast,hw]
  have hb':fD g (cH g (aL g)) b (i:Int)= -1∨0≤fD g (cH g (aL g)) b (i:Int):=by
   rw [hstep];split
   ·exact .inr htr.1
   ·exact hb
  obtain ⟨h1,h2,h3⟩:=qk hm l (fD g (cH g (aL g)) b (i:Int)) (fun e h=>he e (List.mem_cons_of_mem _ h)) hb'
  simp only [List.foldl_cons]
  generalize hr:l.foldl (fD g (cH g (aL g))) (fD g (cH g (aL g)) b (i:Int))=r at h1 h2 h3 ⊢
  refine ⟨?_, ?_, ?_⟩
  ·rcases h1 with h1|⟨j,hj,h4,h5⟩
   ·rw [hstep] at h1
    split at h1
    ·rename_i hc
     exact .inr ⟨i,by simp,hc.1,h1⟩
    ·exact .inl h1
   ·exact .inr ⟨j,by simp [hj],h4,h5⟩
  ·intro h0
   rw [hstep] at h2
   split at h2
   ·rename_i hc;have:=h2 htr.1;omega
   ·exact h2 h0
  ·intro j hj hjn
   rcases List.mem_cons.1 hj with hj|hj
   ·have:j=i:=Int.ofNat.inj hj
    subst this
    rw [hstep] at h1 h2
    split at h1
    ·rename_i hc
     rw [if_pos hc] at h2
     have:=h2 htr.1
     rcases h1 with h1|⟨q,hq,h4,h5⟩
     ·omega
     ·obtain ⟨i',e',hi'⟩:=he q (List.mem_cons_of_mem _ hq)
      have:q=i':=Int.ofNat.inj e'
      subst this
      have:=cD hm hi';omega
    ·rename_i hc
     rw [if_neg hc] at h2
     have Ia:¬(b<0∨tl g j<b):=fun h=>hc ⟨hjn,h⟩
     have:=h2 (by omega)
     rcases h1 with h1|⟨q,hq,h4,h5⟩
     ·omega
     ·obtain ⟨i',e',hi'⟩:=he q (List.mem_cons_of_mem _ hq)
      have:q=i':=Int.ofNat.inj e'
      subst this
      have:=cD hm hi';omega
   ·exact h3 j hj hjn
theorem sF {g:Gr} (hm:aY g=true) {a:Nat} (h:∃t,Q g a t):Q g a (iZ g (cH g (aL g)) a)∧∀t,Q g a t→iZ g (cH g (aL g)) a≤t:=by
 have hin:∀i,i<g.es.length→hd g i=(a:Int)→(i:Int)∈kS g a:=by
  intro i hi hh
  simp only [kS,fz,List.mem_map,List.mem_filter,List.mem_range,decide_eq_true_eq]
  exact ⟨i,⟨hi,hh⟩,rfl⟩
 obtain ⟨h1,_,h3⟩:=qk hm (kS g a) (-1) DC (.inl rfl)
 have hG:iZ g (cH g (aL g)) a=(kS g a).foldl (fD g (cH g (aL g))) (-1):=by simp [iZ,uw]
 rw [← hG] at h1 h3
 have hle:∀t,Q g a t→0≤iZ g (cH g (aL g)) a∧iZ g (cH g (aL g)) a≤t:=by
  rintro t ⟨i,h4,h5,rfl,h6⟩
  exact h3 i (hin i h4 h5) h6
 obtain ⟨t,ht⟩:=h
 have h0:=(hle t ht).1
 refine ⟨?_,fun t ht=>(hle t ht).2⟩
 rcases h1 with h1|⟨i,hi,h4,h5⟩
 ·omega
 ·obtain ⟨i',e',hi',hh⟩:=vD hi
  have:i=i':=Int.ofNat.inj e'
  subst this
  exact ⟨i,hi',hh,h5.symm,by rw [h5];exact h4⟩
theorem sG {g:Gr} (hm:aY g=true) {a:Nat} :∀k,k≤g.es.length→(ee g a k=g.n∨Q g a (ee g a k))∧ee g a k≤g.n∧∀i,i<k→hd g i=(a:Int)→tl g i∉aL g→ee g a k≤tl g i
 |0,_=>⟨.inl rfl,Int.le_refl _,by simp⟩
 |k+1,hk=>by
  obtain ⟨h1,h2,h3⟩:=sG hm (a:=a) k (by omega)
  have htr:=cD hm (i:=k) (by omega)
  have e:((tl g k).toNat:Int)=tl g k:=by omega
  have hlf:=DG hm (y:=(tl g k).toNat) (by omega)
  rw [e] at hlf
  rw [nu]
  unfold vF
  split
  ·rename_i hc0
   have hc:hd g k=(a:Int)∧tl g k∉aL g:=⟨hc0.1,hlf.1 hc0.2⟩
   refine ⟨?_,by omega, ?_⟩
   ·by_cases hle:ee g a k≤tl g k
    ·rw [Int.min_eq_left hle];exact h1
    ·rw [Int.min_eq_right (by omega)];exact .inr ⟨k,by omega,hc.1,rfl,hc.2⟩
   ·intro i hi hh hn
    by_cases hik:i=k
    ·subst hik;omega
    ·have:=h3 i (by omega) hh hn;omega
  ·rename_i hc
   refine ⟨h1,h2, ?_⟩
   intro i hi hh hn
   by_cases hik:i=k
   ·subst hik;exact absurd ⟨hh,hlf.2 hn⟩ hc
   ·exact h3 i (by omega) hh hn
theorem back_eq {g:Gr} (hm:aY g=true) {a:Nat} (h:∃t,Q g a t):iZ g (cH g (aL g)) a=ee g a g.es.length∧Q g a (ee g a g.es.length):=by
 obtain ⟨h1,h2⟩:=sF hm h
 obtain ⟨h3,h4,h5⟩:=sG hm (a:=a) g.es.length (Nat.le_refl _)
 have hb:ee g a g.es.length≤iZ g (cH g (aL g)) a:=by
  obtain ⟨i,h6,h7,h8,h9⟩:=h1
  rw [← h8] at h9 ⊢
  exact h5 i h6 h7 h9
 have hlt:iZ g (cH g (aL g)) a<g.n:=by
  obtain ⟨i,h6,h7,h8,h9⟩:=h1
  rw [← h8];exact (cD hm h6).2
 rcases h3 with h3|h3
 ·omega
 ·exact ⟨by have:=h2 _ h3;omega,h3⟩
theorem Ho {g:Gr} (hm:aY g=true) {a:Nat} (ha:a<g.n.toNat) (h:(a:Int)∉aL g):∃t,Q g a t:=by
 have hw:=(pN hm ha).2 h
 simp only [wt,h,if_false] at hw
 obtain ⟨i,hi,hp⟩:=List.countP_pos_iff.1 (Int.natCast_pos.1 hw)
 simp only [Bool.and_eq_true,decide_eq_true_eq,Bool.not_eq_true',decide_eq_false_iff_not] at hp
 exact ⟨tl g i,i,List.mem_range.1 hi,hp.1,rfl,hp.2⟩
theorem DI {g:Gr} (hm:aY g=true):∀(f f':Nat) (way:List Int) (a:Nat),way.Nodup→a<g.n.toNat→(a:Int)∉aL g→left g way≤f→left g way≤f'→
 j9 g (cH g (aL g)) f way a=nt g f' way a∧(0≤(nt g f' way a).2∧(nt g f' way a).2∈(nt g f' way a).1∧(nt g f' way a).1.Nodup)
 |f,f',way,a,hd,ha,hn,h1,h2=>by
  by_cases hmem:(a:Int)∈way
  ·rw [jB (.inr hmem),xN hmem]
   exact ⟨rfl,by simp only;omega,hmem,hd⟩
  ·have hla:=iB ha hmem
   cases f with
   |zero=>omega
   |succ f=>
    cases f' with
    |zero=>omega
    |succ f'=>
     obtain ⟨hb,hq⟩:=back_eq hm (Ho hm ha hn)
     obtain ⟨i,hi,_,ht,JD⟩:=hq
     have htr:=cD hm hi
     rw [ht] at htr
     obtain ⟨b,pq⟩:∃b:Nat,ee g a g.es.length=b:=⟨(ee g a g.es.length).toNat,by omega⟩
     rw [pq] at hb JD htr
     have hd':(way++ [(a:Int)]).Nodup:=by
      rw [List.nodup_append]
      refine ⟨hd,by simp, ?_⟩
      intro x hx y hy e
      simp at hy
      rw [← hy, ← e] at hmem;exact hmem hx
     have ih:=DI hm f f' (way++ [(a:Int)]) b hd' (by omega) JD (by omega) (by omega)
     have e1:j9 g (cH g (aL g)) (f+1) way a=j9 g (cH g (aL g)) f (way++ [(a:Int)]) b:=by
      simp only [j9];rw [if_neg (by intro h;rcases h with h|h;omega;exact hmem h),hb]
     have e2:nt g (f'+1) way a=nt g f' (way++ [(a:Int)]) b:=by
      simp only [nt];rw [if_neg hmem,pq]
     rw [e1,e2];exact ih
theorem vH {g:Gr} {way:List Int} :left g way≤g.n.toNat:=by
 unfold left
 have:=List.countP_le_length (p:=fun y:Nat=> !decide ((y:Int)∈way)) (l:=List.range g.n.toNat)
 simpa using this
theorem sH {l:List Int} (h:l.Nodup) {i j:Nat} (hi:i<l.length) (hj:j<l.length) (e:l.getD i 0=l.getD j 0):i=j:=by
 rw [List.getD_eq_getElem?_getD,List.getD_eq_getElem?_getD,List.getElem?_eq_getElem hi,List.getElem?_eq_getElem hj] at e
 exact (List.getElem_inj h).1 e
theorem DJ {l:List Int} {i:Nat} (hi:i<l.length):l.reverse.getD i 0=l.getD (l.length - 1 - i) 0:=by
 rw [List.getD_eq_getElem?_getD,List.getD_eq_getElem?_getD,List.getElem?_reverse hi]
theorem FE {l:List Int} (hd:l.Nodup) (h0:0<l.length):kJ l.reverse=uB l:=by
 obtain ⟨m,tP,hm2,ON⟩:=dN (iC h0)
 have KA:0<l.reverse.length:=by simpa using h0
 obtain ⟨k,Bc,hk2,KB⟩:=dN (iC KA)
 have hmin:gU l.reverse=gU l:=by
  have h1:=vG (List.mem_reverse.2 (iC h0))
  have h2:=vG (List.mem_reverse.1 (iC KA))
  omega
 rw [List.length_reverse] at hk2
 have hk:l.length - 1 - k=m:=sH hd (by omega) hm2 (by rw [← DJ hk2,KB,ON,hmin])
 have e1:kJ l.reverse=l.reverse.drop k++l.reverse.take k:=by
  simp only [kJ,Bc,Int.toNat_natCast]
 have e2:uB l=qy l m l.length:=by simp only [uB,tP,Int.toNat_natCast]
 rw [e1,e2]
 refine List.ext_getElem? fun i=> ?_
 by_cases hi:i<l.length
 ·have hr:(qy l m l.length)[i]? =some (l.getD ((m+l.length - i) % l.length) 0):=by
   simp [qy,List.getElem?_range hi]
  rw [hr]
  by_cases hik:i<l.length - k
  ·rw [List.getElem?_append_left (by simp;omega),List.getElem?_drop,List.getElem?_reverse (by omega)]
   have:(m+l.length - i) % l.length=m - i:=by
    rw [show m+l.length - i=(m - i)+l.length from by omega,Nat.add_mod_right,Nat.mod_eq_of_lt (by omega)]
   rw [this,show l.length - 1 - (k+i)=m - i from by omega,List.getD_eq_getElem?_getD,List.getElem?_eq_getElem (by omega)];rfl
  ·rw [List.getElem?_append_right (by simp;omega),List.length_drop,List.length_reverse,List.getElem?_take,if_pos (by omega),List.getElem?_reverse (by omega)]
   have:(m+l.length - i) % l.length=m+l.length - i:=Nat.mod_eq_of_lt (by omega)
   rw [this,show l.length - 1 - (i - (l.length - k))=m+l.length - i from by omega,List.getD_eq_getElem?_getD,List.getElem?_eq_getElem (by omega)];rfl
 ·rw [List.getElem?_eq_none (by simp;omega),List.getElem?_eq_none (by simp [qy];omega)]
theorem Hp {g:Gr} (hm:aY g=true):jA g=lG g:=by
 have hn:=bM hm
 rcases start_eq hm with ⟨h1,h2⟩|⟨a,ha,h1,h2,h3⟩
 ·have:jy g=([], -1):=by
   unfold jy;rw [h1];exact jB (.inl (by omega)) _
  simp only [jA,lG,this]
  rw [if_pos (by omega),if_pos h2]
 ·obtain ⟨he,h4,h5,h6⟩:=DI hm g.n.toNat (g.n.toNat+1) [] a (by simp) ha h3 vH (Nat.le_succ_of_le vH)
  have hw:jy g=ox g:=by
   unfold jy ox;rw [h1,h2];exact he
  have hr:nt g (g.n.toNat+1) [] a=ox g:=by unfold ox;rw [h2]
  rw [hr] at h4 h5 h6
  simp only [jA,lG,hw]
  rw [if_neg (by omega),if_neg (by omega)]
  obtain ⟨k,Bc,hk2,_⟩:=dN h5
  rw [Bc,Int.toNat_natCast]
  exact FE (List.Pairwise.drop h6) (by simp;omega)
theorem DK (g:Gr):cR g=gj g:=by
 unfold cR gj
 cases hm:aY g with
 |false=>simp [gD,hm]
 |true=>rw [Hp hm]
end Go.Ab
end
section
namespace Go.Ab
end Go.Ab
end
section
namespace Go.Ab
open Go.Proofs
attribute [local congr] ACall.congr gd.congr Nx.congr
set_option maxRecDepth 10000
abbrev Pt:=Int × Int
def eP (p:Pt):AV:= .agg [.d (.sc (.int .i64 p.1)), .d (.sc (.int .i64 p.2))]
def rP (p:Pt):List D:= [.sc (.int .i64 p.1), .sc (.int .i64 p.2)]
attribute [go_sem] eP
def bJ (p:Pt):Prop:=(-262144≤p.1∧p.1≤262144)∧(-262144≤p.2∧p.2≤262144)
theorem kP {x y m n:Int} (hx: -m≤x∧x≤m) (hy: -n≤y∧y≤n): -(m*n)≤x*y∧x*y≤m*n:=by
 have hm:0≤m:=by omega
 have hn:0≤n:=by omega
 have h1:x.natAbs≤m.natAbs:=by omega
 have h2:y.natAbs≤n.natAbs:=by omega
 have h3:(x*y).natAbs≤(m*n).natAbs:=by rw [Int.natAbs_mul,Int.natAbs_mul];exact Nat.mul_le_mul h1 h2
 have h4:0≤m*n:=Int.mul_nonneg hm hn
 omega
theorem cI (n:Int):Spec Tryz.prog 103 (Args [eN n]) [] (eB false) []:=by
 (refine Spec.hd (C:=T.cfg [] []) (rs:= [.t 2]) (T.ai _ _) Tryz.func103 rfl rfl Tryz.ntmps103 Tryz.results103 (by simp [AObj.isNest]) (by simp [AObj.isNest]) (by kernel_rfl) T.mixed fun X hX hP hC aF bY=> ?_)
 repeat' (first|refine Rn.p ?_|(with_reducible apply And.intro)|((first|(refine hK _ ?_;clear hK K)|with_reducible intro K hK|refine Rs.p ?_|((with_reducible first|apply oP|apply oQ);exact rfl)|refine aa hX hC hP (hf _) rfl rfl rfl (by simp only [go_sem,simprocAttr]) rfl ?_|refine aa hX hC hP (cI _) rfl rfl rfl (by simp only [go_sem,simprocAttr]) rfl ?_|refine aa hX hC hP (bK _ _) rfl rfl rfl (by simp only [go_sem,simprocAttr]) rfl ?_|refine aa hX hC hP (bS _ _ _) rfl rfl rfl (by simp only [go_sem,simprocAttr]) rfl ?_|refine aa hX hC hP (aM _ _ _ _ (by assumption) (by assumption) (by assumption) (by assumption)) rfl rfl rfl (by simp only [go_sem,simprocAttr]) rfl ?_|refine aa hX hC hP (aU _ _ _ (by assumption) (by assumption) (by assumption)) rfl rfl rfl (by simp only [go_sem,simprocAttr]) rfl ?_|refine aa hX hC hP (bQ _ _ _ (by assumption) (by assumption) (by assumption)) rfl rfl rfl (by simp only [go_sem,simprocAttr]) rfl ?_);try simp only [go_sem,simprocAttr])|((with_reducible refine oD ?_ ?_);kernel_rfl)|((with_reducible intro h);try simp only [go_sem,simprocAttr] at h)|omega|intro h)
def fN (a b:Int):Int:=if a<b then -1 else if b<a then 1 else 0
theorem bK (a b:Int):Spec Tryz.prog 51 (Args [eN a,eN b]) [] (eN (fN a b)) []:=by
 (refine Spec.hd (C:=T.cfg [] []) (rs:= [.t 4]) (T.ai _ _) Tryz.func51 rfl rfl Tryz.ntmps51 Tryz.results51 (by simp [AObj.isNest]) (by simp [AObj.isNest]) (by kernel_rfl) T.mixed fun X hX hP hC aF bY=> ?_)
 repeat' (first|refine Rn.p ?_|(with_reducible apply And.intro)|((first|(refine hK _ ?_;clear hK K)|with_reducible intro K hK|refine Rs.p ?_|((with_reducible first|apply oP|apply oQ);exact rfl)|refine aa hX hC hP (hf _) rfl rfl rfl (by simp only [go_sem,simprocAttr]) rfl ?_|refine aa hX hC hP (cI _) rfl rfl rfl (by simp only [go_sem,simprocAttr]) rfl ?_|refine aa hX hC hP (bK _ _) rfl rfl rfl (by simp only [go_sem,simprocAttr]) rfl ?_|refine aa hX hC hP (bS _ _ _) rfl rfl rfl (by simp only [go_sem,simprocAttr]) rfl ?_|refine aa hX hC hP (aM _ _ _ _ (by assumption) (by assumption) (by assumption) (by assumption)) rfl rfl rfl (by simp only [go_sem,simprocAttr]) rfl ?_|refine aa hX hC hP (aU _ _ _ (by assumption) (by assumption) (by assumption)) rfl rfl rfl (by simp only [go_sem,simprocAttr]) rfl ?_|refine aa hX hC hP (bQ _ _ _ (by assumption) (by assumption) (by assumption)) rfl rfl rfl (by simp only [go_sem,simprocAttr]) rfl ?_);try simp only [go_sem,simprocAttr])|((with_reducible refine oD ?_ ?_);kernel_rfl)|((with_reducible intro h);try simp only [go_sem,simprocAttr] at h)|omega|intro h)
 all_goals (unfold fN;repeat' split)<;>omega
def me (a b n:Int):Bool:=decide (min a b≤n)&&decide (n≤max a b)
theorem bS (a b n:Int):Spec Tryz.prog 200 (Args [eN a,eN b,eN n]) [] (eB (me a b n)) []:=by
 (refine Spec.hd (C:=T.cfg [] []) (rs:= [.t 6]) (T.ai _ _) Tryz.func200 rfl rfl Tryz.ntmps200 Tryz.results200 (by simp [AObj.isNest]) (by simp [AObj.isNest]) (by kernel_rfl) T.mixed fun X hX hP hC aF bY=> ?_)
 repeat' (first|refine Rn.p ?_|(with_reducible apply And.intro)|((first|(refine hK _ ?_;clear hK K)|with_reducible intro K hK|refine Rs.p ?_|((with_reducible first|apply oP|apply oQ);exact rfl)|refine aa hX hC hP (hf _) rfl rfl rfl (by simp only [go_sem,simprocAttr]) rfl ?_|refine aa hX hC hP (cI _) rfl rfl rfl (by simp only [go_sem,simprocAttr]) rfl ?_|refine aa hX hC hP (bK _ _) rfl rfl rfl (by simp only [go_sem,simprocAttr]) rfl ?_|refine aa hX hC hP (bS _ _ _) rfl rfl rfl (by simp only [go_sem,simprocAttr]) rfl ?_|refine aa hX hC hP (aM _ _ _ _ (by assumption) (by assumption) (by assumption) (by assumption)) rfl rfl rfl (by simp only [go_sem,simprocAttr]) rfl ?_|refine aa hX hC hP (aU _ _ _ (by assumption) (by assumption) (by assumption)) rfl rfl rfl (by simp only [go_sem,simprocAttr]) rfl ?_|refine aa hX hC hP (bQ _ _ _ (by assumption) (by assumption) (by assumption)) rfl rfl rfl (by simp only [go_sem,simprocAttr]) rfl ?_);try simp only [go_sem,simprocAttr])|((with_reducible refine oD ?_ ?_);kernel_rfl)|((with_reducible intro h);try simp only [go_sem,simprocAttr] at h)|omega|intro h)
 all_goals (unfold me;rw [Bool.eq_iff_iff];simp;omega)
def tm (a b c d:Pt):Int:=(b.1 - a.1)*(d.2 - c.2) - (b.2 - a.2)*(d.1 - c.1)
theorem aM (a b c d:Pt) (ha:bJ a) (hb:bJ b) (hc:bJ c) (hd:bJ d):Spec Tryz.prog 160 (Args [eP a,eP b,eP c,eP d]) [] (eN (tm a b c d)) []:=by
 (refine Spec.hd (C:=T.cfg [] []) (rs:= [.t 8]) (T.ai _ _) Tryz.func160 rfl rfl Tryz.ntmps160 Tryz.results160 (by simp [AObj.isNest]) (by simp [AObj.isNest]) (by kernel_rfl) T.mixed fun X hX hP hC aF bY=> ?_)
 obtain ⟨a1,a2⟩:=a
 obtain ⟨b1,b2⟩:=b
 obtain ⟨c1,c2⟩:=c
 obtain ⟨d1,d2⟩:=d
 simp only [bJ] at ha hb hc hd
 have m1:=kP (x:=b1 - a1) (y:=d2 - c2) (m:=524288) (n:=524288) (by omega) (by omega)
 have m2:=kP (x:=b2 - a2) (y:=d1 - c1) (m:=524288) (n:=524288) (by omega) (by omega)
 repeat' (first|refine Rn.p ?_|(with_reducible apply And.intro)|((first|(refine hK _ ?_;clear hK K)|with_reducible intro K hK|refine Rs.p ?_|((with_reducible first|apply oP|apply oQ);exact rfl)|refine aa hX hC hP (hf _) rfl rfl rfl (by simp only [go_sem,simprocAttr]) rfl ?_|refine aa hX hC hP (cI _) rfl rfl rfl (by simp only [go_sem,simprocAttr]) rfl ?_|refine aa hX hC hP (bK _ _) rfl rfl rfl (by simp only [go_sem,simprocAttr]) rfl ?_|refine aa hX hC hP (bS _ _ _) rfl rfl rfl (by simp only [go_sem,simprocAttr]) rfl ?_|refine aa hX hC hP (aM _ _ _ _ (by assumption) (by assumption) (by assumption) (by assumption)) rfl rfl rfl (by simp only [go_sem,simprocAttr]) rfl ?_|refine aa hX hC hP (aU _ _ _ (by assumption) (by assumption) (by assumption)) rfl rfl rfl (by simp only [go_sem,simprocAttr]) rfl ?_|refine aa hX hC hP (bQ _ _ _ (by assumption) (by assumption) (by assumption)) rfl rfl rfl (by simp only [go_sem,simprocAttr]) rfl ?_);try simp only [go_sem,simprocAttr])|((with_reducible refine oD ?_ ?_);kernel_rfl)|((with_reducible intro h);try simp only [go_sem,simprocAttr] at h)|omega|intro h)
 all_goals simp [tm]
def sd (a b c:Pt):Int:=fN (tm a b a c) 0
theorem aU (a b c:Pt) (ha:bJ a) (hb:bJ b) (hc:bJ c):Spec Tryz.prog 102 (Args [eP a,eP b,eP c]) [] (eN (sd a b c)) []:=by
 (refine Spec.hd (C:=T.cfg [] []) (rs:= [.t 6]) (T.ai _ _) Tryz.func102 rfl rfl Tryz.ntmps102 Tryz.results102 (by simp [AObj.isNest]) (by simp [AObj.isNest]) (by kernel_rfl) T.mixed fun X hX hP hC aF bY=> ?_)
 repeat' (first|refine Rn.p ?_|(with_reducible apply And.intro)|((first|(refine hK _ ?_;clear hK K)|with_reducible intro K hK|refine Rs.p ?_|((with_reducible first|apply oP|apply oQ);exact rfl)|refine aa hX hC hP (hf _) rfl rfl rfl (by simp only [go_sem,simprocAttr]) rfl ?_|refine aa hX hC hP (cI _) rfl rfl rfl (by simp only [go_sem,simprocAttr]) rfl ?_|refine aa hX hC hP (bK _ _) rfl rfl rfl (by simp only [go_sem,simprocAttr]) rfl ?_|refine aa hX hC hP (bS _ _ _) rfl rfl rfl (by simp only [go_sem,simprocAttr]) rfl ?_|refine aa hX hC hP (aM _ _ _ _ (by assumption) (by assumption) (by assumption) (by assumption)) rfl rfl rfl (by simp only [go_sem,simprocAttr]) rfl ?_|refine aa hX hC hP (aU _ _ _ (by assumption) (by assumption) (by assumption)) rfl rfl rfl (by simp only [go_sem,simprocAttr]) rfl ?_|refine aa hX hC hP (bQ _ _ _ (by assumption) (by assumption) (by assumption)) rfl rfl rfl (by simp only [go_sem,simprocAttr]) rfl ?_);try simp only [go_sem,simprocAttr])|((with_reducible refine oD ?_ ?_);kernel_rfl)|((with_reducible intro h);try simp only [go_sem,simprocAttr] at h)|omega|intro h)
 all_goals rfl
def gJ (a b c:Pt):Bool:=decide (sd a b c=0)&&me a.1 b.1 c.1&&me a.2 b.2 c.2
theorem bQ (a b c:Pt) (ha:bJ a) (hb:bJ b) (hc:bJ c):Spec Tryz.prog 184 (Args [eP a,eP b,eP c]) [] (eB (gJ a b c)) []:=by
 (refine Spec.hd (C:=T.cfg [] []) (rs:= [.t 6]) (T.ai _ _) Tryz.func184 rfl rfl Tryz.ntmps184 Tryz.results184 (by simp [AObj.isNest]) (by simp [AObj.isNest]) (by kernel_rfl) T.mixed fun X hX hP hC aF bY=> ?_)
 repeat' (first|refine Rn.p ?_|(with_reducible apply And.intro)|((first|(refine hK _ ?_;clear hK K)|with_reducible intro K hK|refine Rs.p ?_|((with_reducible first|apply oP|apply oQ);exact rfl)|refine aa hX hC hP (hf _) rfl rfl rfl (by simp only [go_sem,simprocAttr]) rfl ?_|refine aa hX hC hP (cI _) rfl rfl rfl (by simp only [go_sem,simprocAttr]) rfl ?_|refine aa hX hC hP (bK _ _) rfl rfl rfl (by simp only [go_sem,simprocAttr]) rfl ?_|refine aa hX hC hP (bS _ _ _) rfl rfl rfl (by simp only [go_sem,simprocAttr]) rfl ?_|refine aa hX hC hP (aM _ _ _ _ (by assumption) (by assumption) (by assumption) (by assumption)) rfl rfl rfl (by simp only [go_sem,simprocAttr]) rfl ?_|refine aa hX hC hP (aU _ _ _ (by assumption) (by assumption) (by assumption)) rfl rfl rfl (by simp only [go_sem,simprocAttr]) rfl ?_|refine aa hX hC hP (bQ _ _ _ (by assumption) (by assumption) (by assumption)) rfl rfl rfl (by simp only [go_sem,simprocAttr]) rfl ?_);try simp only [go_sem,simprocAttr])|((with_reducible refine oD ?_ ?_);kernel_rfl)|((with_reducible intro h);try simp only [go_sem,simprocAttr] at h)|omega|intro h)
 all_goals simp_all [gJ]
end Go.Ab
end
section
namespace Go.Ab
open Go.Proofs
attribute [local congr] ACall.congr gd.congr Nx.congr
set_option maxRecDepth 10000
def lH (p:Pt):Bool:=decide (262144<max p.1 p.2)||decide (min p.1 p.2< -262144)
theorem jF (p:Pt):Spec Tryz.prog 159 (Args [eP p]) [] (eB (lH p)) []:=by
 (refine Spec.hd (C:=T.cfg [] []) (rs:= [.t 2]) (T.ai _ _) Tryz.func159 rfl rfl Tryz.ntmps159 Tryz.results159 (by simp [AObj.isNest]) (by simp [AObj.isNest]) (by kernel_rfl) T.mixed fun X hX hP hC aF bY=> ?_)
 repeat' (first|refine Rn.p ?_|(with_reducible apply And.intro)|((first|(refine hK _ ?_;clear hK K)|with_reducible intro K hK|refine Rs.p ?_|((with_reducible first|apply oP|apply oQ);exact rfl)|refine aa hX hC hP (hf _) rfl rfl rfl (by simp only [go_sem,simprocAttr]) rfl ?_|refine aa hX hC hP (dO _ _ hf _ hl) rfl rfl rfl (by simp only [go_sem,simprocAttr]) rfl ?_|refine aa hX hC hP (cL _ _ jF _ hl) rfl rfl rfl (by simp only [go_sem,simprocAttr]) rfl ?_|refine aa hX hC hP (cI _) rfl rfl rfl (by simp only [go_sem,simprocAttr]) rfl ?_|refine aa hX hC hP (bK _ _) rfl rfl rfl (by simp only [go_sem,simprocAttr]) rfl ?_|refine aa hX hC hP (bS _ _ _) rfl rfl rfl (by simp only [go_sem,simprocAttr]) rfl ?_|refine aa hX hC hP (aM _ _ _ _ (by assumption) (by assumption) (by assumption) (by assumption)) rfl rfl rfl (by simp only [go_sem,simprocAttr]) rfl ?_|refine aa hX hC hP (aU _ _ _ (by assumption) (by assumption) (by assumption)) rfl rfl rfl (by simp only [go_sem,simprocAttr]) rfl ?_|refine aa hX hC hP (bQ _ _ _ (by assumption) (by assumption) (by assumption)) rfl rfl rfl (by simp only [go_sem,simprocAttr]) rfl ?_);try simp only [go_sem,simprocAttr])|((with_reducible refine oD ?_ ?_);kernel_rfl)|((with_reducible intro h);try simp only [go_sem,simprocAttr] at h)|omega|intro h)
 all_goals simp_all [lH]
 all_goals omega
theorem getD_rP (ps:List Pt) (i:Nat):(ps.map rP).getD i [.sc (.int .i64 0), .sc (.int .i64 0)]=rP (ps.getD i (0,0)):=by
 simp only [List.getD_eq_getElem?_getD,List.getElem?_map]
 cases ps[i]? <;>rfl
theorem rP_eq (p:Pt):rP p= [.sc (.int .i64 p.1), .sc (.int .i64 p.2)]:=rfl
attribute [go_sem] getD_rP rP_eq Int.toNat_natCast
theorem dO (f:Nat) (g:Pt→Bool) (hf:∀p,Spec Tryz.prog f (Args [eP p]) [] (eB (g p)) []) (ps:List Pt) (hl:ps.length≤9223372036854775806):
 Spec Tryz.prog 185 (Args [.d (.sl 2 (ps.map rP)), .fn f [] []]) [] (eN (bR g ps)) []:=by
 (refine Spec.hd (C:=T.cfg [] []) (rs:= [.t 4]) (T.ai _ _) Tryz.func185 rfl rfl Tryz.ntmps185 Tryz.results185 (by simp [AObj.isNest]) (by simp [AObj.isNest]) (by kernel_rfl) T.mixed fun X hX hP hC aF bY=> ?_)
 repeat' (first|refine Rn.p ?_|(with_reducible apply And.intro)|((first|(refine hK _ ?_;clear hK K)|with_reducible intro K hK|refine Rs.p ?_|((with_reducible first|apply oP|apply oQ);exact rfl)|refine aa hX hC hP (hf _) rfl rfl rfl (by simp only [go_sem,simprocAttr]) rfl ?_|refine aa hX hC hP (dO _ _ hf _ hl) rfl rfl rfl (by simp only [go_sem,simprocAttr]) rfl ?_|refine aa hX hC hP (cL _ _ jF _ hl) rfl rfl rfl (by simp only [go_sem,simprocAttr]) rfl ?_|refine aa hX hC hP (cI _) rfl rfl rfl (by simp only [go_sem,simprocAttr]) rfl ?_|refine aa hX hC hP (bK _ _) rfl rfl rfl (by simp only [go_sem,simprocAttr]) rfl ?_|refine aa hX hC hP (bS _ _ _) rfl rfl rfl (by simp only [go_sem,simprocAttr]) rfl ?_|refine aa hX hC hP (aM _ _ _ _ (by assumption) (by assumption) (by assumption) (by assumption)) rfl rfl rfl (by simp only [go_sem,simprocAttr]) rfl ?_|refine aa hX hC hP (aU _ _ _ (by assumption) (by assumption) (by assumption)) rfl rfl rfl (by simp only [go_sem,simprocAttr]) rfl ?_|refine aa hX hC hP (bQ _ _ _ (by assumption) (by assumption) (by assumption)) rfl rfl rfl (by simp only [go_sem,simprocAttr]) rfl ?_);try simp only [go_sem,simprocAttr])|((with_reducible refine oD ?_ ?_);kernel_rfl)|((with_reducible intro h);try simp only [go_sem,simprocAttr] at h)|omega|intro h)
 refine ag (fun k:Nat=>k≤ps.length∧∀j,j<k→g (ps.getD j (0,0))=false) (fun k=>⟨[(0, .d (.sl 2 (ps.map rP))),(1, .fn f [] []),(7, .d (.sc (.int .i64 (ps.length:Int)))),(8, .d (.sc (.int .i64 (k:Int))))], []⟩) (fun k=>ps.length - k) 0 (by simp) ?_ ?_
 ·refine Le.of ?_ ?_<;>simp [go_sem,simprocAttr]
 rintro k ⟨hk,hg⟩
 repeat' (first|refine Rn.p ?_|(with_reducible apply And.intro)|((first|(refine hK _ ?_;clear hK K)|with_reducible intro K hK|refine Rs.p ?_|((with_reducible first|apply oP|apply oQ);exact rfl)|refine aa hX hC hP (hf _) rfl rfl rfl (by simp only [go_sem,simprocAttr]) rfl ?_|refine aa hX hC hP (dO _ _ hf _ hl) rfl rfl rfl (by simp only [go_sem,simprocAttr]) rfl ?_|refine aa hX hC hP (cL _ _ jF _ hl) rfl rfl rfl (by simp only [go_sem,simprocAttr]) rfl ?_|refine aa hX hC hP (cI _) rfl rfl rfl (by simp only [go_sem,simprocAttr]) rfl ?_|refine aa hX hC hP (bK _ _) rfl rfl rfl (by simp only [go_sem,simprocAttr]) rfl ?_|refine aa hX hC hP (bS _ _ _) rfl rfl rfl (by simp only [go_sem,simprocAttr]) rfl ?_|refine aa hX hC hP (aM _ _ _ _ (by assumption) (by assumption) (by assumption) (by assumption)) rfl rfl rfl (by simp only [go_sem,simprocAttr]) rfl ?_|refine aa hX hC hP (aU _ _ _ (by assumption) (by assumption) (by assumption)) rfl rfl rfl (by simp only [go_sem,simprocAttr]) rfl ?_|refine aa hX hC hP (bQ _ _ _ (by assumption) (by assumption) (by assumption)) rfl rfl rfl (by simp only [go_sem,simprocAttr]) rfl ?_);try simp only [go_sem,simprocAttr])|((with_reducible refine oD ?_ ?_);kernel_rfl)|((with_reducible intro h);try simp only [go_sem,simprocAttr] at h)|omega|intro h)
 ·exact (bW (d:=(0,0)) (by omega) hg h).symm
 ·refine ⟨k+1,⟨by omega,fun j hj=> ?_⟩,Le.of ?_ ?_,by omega⟩
  ·by_cases hjk:j=k
   ·subst hjk;exact h
   ·exact hg j (by omega)
  ·simp [go_sem,simprocAttr]
  ·simp [go_sem,simprocAttr]
 ·exact (bD (0,0) fun j hj=>hg j (by omega)).symm
theorem cL (f:Nat) (g:Pt→Bool) (hf:∀p,Spec Tryz.prog f (Args [eP p]) [] (eB (g p)) []) (ps:List Pt) (hl:ps.length≤9223372036854775806):
 Spec Tryz.prog 145 (Args [.d (.sl 2 (ps.map rP)), .fn f [] []]) [] (eB (ps.any g)) []:=by
 (refine Spec.hd (C:=T.cfg [] []) (rs:= [.t 4]) (T.ai _ _) Tryz.func145 rfl rfl Tryz.ntmps145 Tryz.results145 (by simp [AObj.isNest]) (by simp [AObj.isNest]) (by kernel_rfl) T.mixed fun X hX hP hC aF bY=> ?_)
 repeat' (first|refine Rn.p ?_|(with_reducible apply And.intro)|((first|(refine hK _ ?_;clear hK K)|with_reducible intro K hK|refine Rs.p ?_|((with_reducible first|apply oP|apply oQ);exact rfl)|refine aa hX hC hP (hf _) rfl rfl rfl (by simp only [go_sem,simprocAttr]) rfl ?_|refine aa hX hC hP (dO _ _ hf _ hl) rfl rfl rfl (by simp only [go_sem,simprocAttr]) rfl ?_|refine aa hX hC hP (cL _ _ jF _ hl) rfl rfl rfl (by simp only [go_sem,simprocAttr]) rfl ?_|refine aa hX hC hP (cI _) rfl rfl rfl (by simp only [go_sem,simprocAttr]) rfl ?_|refine aa hX hC hP (bK _ _) rfl rfl rfl (by simp only [go_sem,simprocAttr]) rfl ?_|refine aa hX hC hP (bS _ _ _) rfl rfl rfl (by simp only [go_sem,simprocAttr]) rfl ?_|refine aa hX hC hP (aM _ _ _ _ (by assumption) (by assumption) (by assumption) (by assumption)) rfl rfl rfl (by simp only [go_sem,simprocAttr]) rfl ?_|refine aa hX hC hP (aU _ _ _ (by assumption) (by assumption) (by assumption)) rfl rfl rfl (by simp only [go_sem,simprocAttr]) rfl ?_|refine aa hX hC hP (bQ _ _ _ (by assumption) (by assumption) (by assumption)) rfl rfl rfl (by simp only [go_sem,simprocAttr]) rfl ?_);try simp only [go_sem,simprocAttr])|((with_reducible refine oD ?_ ?_);kernel_rfl)|((with_reducible intro h);try simp only [go_sem,simprocAttr] at h)|omega|intro h)
 rw [← dx]
theorem mg (ps:List Pt) (hl:ps.length≤9223372036854775806):Spec Tryz.prog 101 (Args [.d (.sl 2 (ps.map rP))]) [] (eB (!ps.any lH)) []:=by
 (refine Spec.hd (C:=T.cfg [] []) (rs:= [.t 2]) (T.ai _ _) Tryz.func101 rfl rfl Tryz.ntmps101 Tryz.results101 (by simp [AObj.isNest]) (by simp [AObj.isNest]) (by kernel_rfl) T.mixed fun X hX hP hC aF bY=> ?_)
 repeat' (first|refine Rn.p ?_|(with_reducible apply And.intro)|((first|(refine hK _ ?_;clear hK K)|with_reducible intro K hK|refine Rs.p ?_|((with_reducible first|apply oP|apply oQ);exact rfl)|refine aa hX hC hP (hf _) rfl rfl rfl (by simp only [go_sem,simprocAttr]) rfl ?_|refine aa hX hC hP (dO _ _ hf _ hl) rfl rfl rfl (by simp only [go_sem,simprocAttr]) rfl ?_|refine aa hX hC hP (cL _ _ jF _ hl) rfl rfl rfl (by simp only [go_sem,simprocAttr]) rfl ?_|refine aa hX hC hP (cI _) rfl rfl rfl (by simp only [go_sem,simprocAttr]) rfl ?_|refine aa hX hC hP (bK _ _) rfl rfl rfl (by simp only [go_sem,simprocAttr]) rfl ?_|refine aa hX hC hP (bS _ _ _) rfl rfl rfl (by simp only [go_sem,simprocAttr]) rfl ?_|refine aa hX hC hP (aM _ _ _ _ (by assumption) (by assumption) (by assumption) (by assumption)) rfl rfl rfl (by simp only [go_sem,simprocAttr]) rfl ?_|refine aa hX hC hP (aU _ _ _ (by assumption) (by assumption) (by assumption)) rfl rfl rfl (by simp only [go_sem,simprocAttr]) rfl ?_|refine aa hX hC hP (bQ _ _ _ (by assumption) (by assumption) (by assumption)) rfl rfl rfl (by simp only [go_sem,simprocAttr]) rfl ?_);try simp only [go_sem,simprocAttr])|((with_reducible refine oD ?_ ?_);kernel_rfl)|((with_reducible intro h);try simp only [go_sem,simprocAttr] at h)|omega|intro h)
end Go.Ab
end
section
namespace Go.Ab
open Go.Proofs
attribute [local congr] ACall.congr gd.congr Nx.congr
set_option maxRecDepth 10000
instance (p:Pt):Decidable (bJ p):=by unfold bJ;infer_instance
theorem vJ (p:Pt):lH p= !decide (bJ p):=by
 by_cases h:bJ p
 ·rw [decide_eq_true h]
  simp only [bJ] at h
  simp only [lH,Int.max_def,Int.min_def,Bool.not_true,Bool.or_eq_false_iff,decide_eq_false_iff_not]
  split<;>omega
 ·rw [decide_eq_false h]
  simp only [bJ] at h
  simp only [lH,Int.max_def,Int.min_def,Bool.not_false,Bool.or_eq_true,decide_eq_true_eq]
  split<;>omega
theorem Ar (ps:List Pt):(!ps.any lH)=decide (∀p∈ps,bJ p):=by
 rw [Bool.eq_iff_iff];simp [vJ]
theorem DL (ps:List Pt) (hl:ps.length≤9223372036854775806) (h:∀p∈ps,bJ p):Spec Tryz.prog 101 (Args [.d (.sl 2 (ps.map rP))]) [] (eB true) []:=by
 have:=mg ps hl
 rw [Ar,decide_eq_true h] at this
 exact this
theorem As (ps:List Pt) (hl:ps.length≤9223372036854775806) (h:¬∀p∈ps,bJ p):Spec Tryz.prog 101 (Args [.d (.sl 2 (ps.map rP))]) [] (eB false) []:=by
 have:=mg ps hl
 rw [Ar,decide_eq_false h] at this
 exact this
theorem Au (a b c:Pt) (ha:bJ a) (hb:bJ b) (hc:bJ c):Spec Tryz.prog 101 (Args [.d (.sl 2 ([a,b,c].map rP))]) [] (eB true) []:=DL _ (by simp) (by simp [ha,hb,hc])
theorem dS (a b c d:Pt) (ha:bJ a) (hb:bJ b) (hc:bJ c) (hd:bJ d):Spec Tryz.prog 101 (Args [.d (.sl 2 ([a,b,c,d].map rP))]) [] (eB true) []:=DL _ (by simp) (by simp [ha,hb,hc,hd])
theorem xP (a b c:Pt) (h:¬(bJ a∧bJ b∧bJ c)):Spec Tryz.prog 101 (Args [.d (.sl 2 ([a,b,c].map rP))]) [] (eB false) []:=As _ (by simp) (by simpa using h)
theorem cM (a b c d:Pt) (h:¬(bJ a∧bJ b∧bJ c∧bJ d)):Spec Tryz.prog 101 (Args [.d (.sl 2 ([a,b,c,d].map rP))]) [] (eB false) []:=As _ (by simp) (by simpa using h)
def Nt (a b c:Pt):Int:=if bJ a∧bJ b∧bJ c then sd a b c else 0
def oz (a b c:Pt):Bool:=decide (bJ a∧bJ b∧bJ c)&&gJ a b c
theorem vK (a b c:Pt):Spec Tryz.prog 144 (Args [eP a,eP b,eP c]) [] (eB (oz a b c)) []:=by
 by_cases hin:bJ a∧bJ b∧bJ c
 ·obtain ⟨ha,hb,hc⟩:=hin
  (refine Spec.hd (C:=T.cfg [] []) (rs:= [.t 6]) (T.ai _ _) Tryz.func144 rfl rfl Tryz.ntmps144 Tryz.results144 (by simp [AObj.isNest]) (by simp [AObj.isNest]) (by kernel_rfl) T.mixed fun X hX hP hC aF bY=> ?_)
  repeat' (first|refine Rn.p ?_|(with_reducible apply And.intro)|((first|(refine hK _ ?_;clear hK K)|with_reducible intro K hK|refine Rs.p ?_|((with_reducible first|apply oP|apply oQ);exact rfl)|refine aa hX hC hP (bK _ _) rfl rfl rfl (by simp only [go_sem,simprocAttr]) rfl ?_|refine aa hX hC hP (bS _ _ _) rfl rfl rfl (by simp only [go_sem,simprocAttr]) rfl ?_|refine aa hX hC hP (aM _ _ _ _ (by assumption) (by assumption) (by assumption) (by assumption)) rfl rfl rfl (by simp only [go_sem,simprocAttr]) rfl ?_|refine aa hX hC hP (aU _ _ _ (by assumption) (by assumption) (by assumption)) rfl rfl rfl (by simp only [go_sem,simprocAttr]) rfl ?_|refine aa hX hC hP (bQ _ _ _ (by assumption) (by assumption) (by assumption)) rfl rfl rfl (by simp only [go_sem,simprocAttr]) rfl ?_|(refine an hX hC hP (Au a b c (by assumption) (by assumption) (by assumption)) rfl rfl rfl ?_ ?_ rfl ?_;iterate 2 (focus (simp only [go_sem,simprocAttr];done)))|(refine an hX hC hP (dS a b c d (by assumption) (by assumption) (by assumption) (by assumption)) rfl rfl rfl ?_ ?_ rfl ?_;iterate 2 (focus (simp only [go_sem,simprocAttr];done)))|(refine an hX hC hP (xP a b c (by assumption)) rfl rfl rfl ?_ ?_ rfl ?_;iterate 2 (focus (simp only [go_sem,simprocAttr];done)))|(refine an hX hC hP (cM a b c d (by assumption)) rfl rfl rfl ?_ ?_ rfl ?_;iterate 2 (focus (simp only [go_sem,simprocAttr];done))));try simp only [go_sem,simprocAttr])|((with_reducible refine oD ?_ ?_);kernel_rfl)|((with_reducible intro h);try simp only [go_sem,simprocAttr] at h)|omega|intro h)
  all_goals simp [oz,ha,hb,hc]
 ·(refine Spec.hd (C:=T.cfg [] []) (rs:= [.t 6]) (T.ai _ _) Tryz.func144 rfl rfl Tryz.ntmps144 Tryz.results144 (by simp [AObj.isNest]) (by simp [AObj.isNest]) (by kernel_rfl) T.mixed fun X hX hP hC aF bY=> ?_)
  repeat' (first|refine Rn.p ?_|(with_reducible apply And.intro)|((first|(refine hK _ ?_;clear hK K)|with_reducible intro K hK|refine Rs.p ?_|((with_reducible first|apply oP|apply oQ);exact rfl)|refine aa hX hC hP (bK _ _) rfl rfl rfl (by simp only [go_sem,simprocAttr]) rfl ?_|refine aa hX hC hP (bS _ _ _) rfl rfl rfl (by simp only [go_sem,simprocAttr]) rfl ?_|refine aa hX hC hP (aM _ _ _ _ (by assumption) (by assumption) (by assumption) (by assumption)) rfl rfl rfl (by simp only [go_sem,simprocAttr]) rfl ?_|refine aa hX hC hP (aU _ _ _ (by assumption) (by assumption) (by assumption)) rfl rfl rfl (by simp only [go_sem,simprocAttr]) rfl ?_|refine aa hX hC hP (bQ _ _ _ (by assumption) (by assumption) (by assumption)) rfl rfl rfl (by simp only [go_sem,simprocAttr]) rfl ?_|(refine an hX hC hP (Au a b c (by assumption) (by assumption) (by assumption)) rfl rfl rfl ?_ ?_ rfl ?_;iterate 2 (focus (simp only [go_sem,simprocAttr];done)))|(refine an hX hC hP (dS a b c d (by assumption) (by assumption) (by assumption) (by assumption)) rfl rfl rfl ?_ ?_ rfl ?_;iterate 2 (focus (simp only [go_sem,simprocAttr];done)))|(refine an hX hC hP (xP a b c (by assumption)) rfl rfl rfl ?_ ?_ rfl ?_;iterate 2 (focus (simp only [go_sem,simprocAttr];done)))|(refine an hX hC hP (cM a b c d (by assumption)) rfl rfl rfl ?_ ?_ rfl ?_;iterate 2 (focus (simp only [go_sem,simprocAttr];done))));try simp only [go_sem,simprocAttr])|((with_reducible refine oD ?_ ?_);kernel_rfl)|((with_reducible intro h);try simp only [go_sem,simprocAttr] at h)|omega|intro h)
  all_goals rw [oz,decide_eq_false hin];rfl
end Go.Ab
end
section
namespace Go.Ab
open Go.Proofs
attribute [local congr] ACall.congr gd.congr Nx.congr
set_option maxRecDepth 10000
theorem Hq {p:Prop} [Decidable p] {b:Bool} (h:b=true↔p):b=decide p:=by
 by_cases hp:p
 ·rw [decide_eq_true hp];exact h.2 hp
 ·rw [decide_eq_false hp]
  cases b with
  |true=>exact absurd (h.1 rfl) hp
  |false=>rfl
theorem kg (p:Pt):Spec Tryz.prog 105 (Args [eP p]) [] (eB (decide (bJ p))) []:=by
 (refine Spec.hd (C:=T.cfg [] []) (rs:= [.t 2]) (T.ai _ _) Tryz.func105 rfl rfl Tryz.ntmps105 Tryz.results105 (by simp [AObj.isNest]) (by simp [AObj.isNest]) (by kernel_rfl) T.mixed fun X hX hP hC aF bY=> ?_)
 repeat' (first|refine Rn.p ?_|(with_reducible apply And.intro)|((first|(refine hK _ ?_;clear hK K)|with_reducible intro K hK|refine Rs.p ?_|((with_reducible first|apply oP|apply oQ);exact rfl)|refine aa hX hC hP (aZ _ (by assumption)) rfl rfl rfl (by simp only [go_sem,simprocAttr]) rfl ?_|refine aa hX hC hP (aQ _ (by assumption)) rfl rfl rfl (by simp only [go_sem,simprocAttr]) rfl ?_|refine aa hX hC hP (bB _) rfl rfl rfl (by simp only [go_sem,simprocAttr]) rfl ?_|refine aa hX hC hP (bC _ _ _ (by assumption) (by assumption) (by assumption)) rfl rfl rfl (by simp only [go_sem,simprocAttr]) rfl ?_|refine aa hX hC hP (bf _ _ _ (by assumption) (by assumption) (by assumption)) rfl rfl rfl (by simp only [go_sem,simprocAttr]) rfl ?_|refine aa hX hC hP (aV _ _ _) rfl rfl rfl (by simp only [go_sem,simprocAttr]) rfl ?_);try simp only [go_sem,simprocAttr])|((with_reducible refine oD ?_ ?_);kernel_rfl)|((with_reducible intro h);try simp only [go_sem,simprocAttr] at h)|omega|intro h)
 all_goals (refine Hq ?_;simp only [bJ,decide_eq_true_eq,Bool.false_eq_true,false_iff];omega)
theorem aZ (p:Pt) (h:bJ p):Spec Tryz.prog 105 (Args [eP p]) [] (eB true) []:=by
 have:=kg p;rwa [decide_eq_true h] at this
theorem aQ (p:Pt) (h:¬bJ p):Spec Tryz.prog 105 (Args [eP p]) [] (eB false) []:=by
 have:=kg p;rwa [decide_eq_false h] at this
theorem bB (n:Int):Spec Tryz.prog 108 (Args [eN n]) [] (eN (fN n 0)) []:=by
 (refine Spec.hd (C:=T.cfg [] []) (rs:= [.t 2]) (T.ai _ _) Tryz.func108 rfl rfl Tryz.ntmps108 Tryz.results108 (by simp [AObj.isNest]) (by simp [AObj.isNest]) (by kernel_rfl) T.mixed fun X hX hP hC aF bY=> ?_)
 repeat' (first|refine Rn.p ?_|(with_reducible apply And.intro)|((first|(refine hK _ ?_;clear hK K)|with_reducible intro K hK|refine Rs.p ?_|((with_reducible first|apply oP|apply oQ);exact rfl)|refine aa hX hC hP (aZ _ (by assumption)) rfl rfl rfl (by simp only [go_sem,simprocAttr]) rfl ?_|refine aa hX hC hP (aQ _ (by assumption)) rfl rfl rfl (by simp only [go_sem,simprocAttr]) rfl ?_|refine aa hX hC hP (bB _) rfl rfl rfl (by simp only [go_sem,simprocAttr]) rfl ?_|refine aa hX hC hP (bC _ _ _ (by assumption) (by assumption) (by assumption)) rfl rfl rfl (by simp only [go_sem,simprocAttr]) rfl ?_|refine aa hX hC hP (bf _ _ _ (by assumption) (by assumption) (by assumption)) rfl rfl rfl (by simp only [go_sem,simprocAttr]) rfl ?_|refine aa hX hC hP (aV _ _ _) rfl rfl rfl (by simp only [go_sem,simprocAttr]) rfl ?_);try simp only [go_sem,simprocAttr])|((with_reducible refine oD ?_ ?_);kernel_rfl)|((with_reducible intro h);try simp only [go_sem,simprocAttr] at h)|omega|intro h)
 all_goals (unfold fN;repeat' split)<;>omega
def aj (a b c:Pt):Int:=a.1*b.2 - a.2*b.1+b.1*c.2 - b.2*c.1+c.1*a.2 - c.2*a.1
theorem bC (a b c:Pt) (ha:bJ a) (hb:bJ b) (hc:bJ c):Spec Tryz.prog 109 (Args [eP a,eP b,eP c]) [] (eN (aj a b c)) []:=by
 (refine Spec.hd (C:=T.cfg [] []) (rs:= [.t 6]) (T.ai _ _) Tryz.func109 rfl rfl Tryz.ntmps109 Tryz.results109 (by simp [AObj.isNest]) (by simp [AObj.isNest]) (by kernel_rfl) T.mixed fun X hX hP hC aF bY=> ?_)
 have m1:=kP ha.1 hb.2
 have m2:=kP ha.2 hb.1
 have m3:=kP hb.1 hc.2
 have m4:=kP hb.2 hc.1
 have m5:=kP hc.1 ha.2
 have m6:=kP hc.2 ha.1
 repeat' (first|refine Rn.p ?_|(with_reducible apply And.intro)|((first|(refine hK _ ?_;clear hK K)|with_reducible intro K hK|refine Rs.p ?_|((with_reducible first|apply oP|apply oQ);exact rfl)|refine aa hX hC hP (aZ _ (by assumption)) rfl rfl rfl (by simp only [go_sem,simprocAttr]) rfl ?_|refine aa hX hC hP (aQ _ (by assumption)) rfl rfl rfl (by simp only [go_sem,simprocAttr]) rfl ?_|refine aa hX hC hP (bB _) rfl rfl rfl (by simp only [go_sem,simprocAttr]) rfl ?_|refine aa hX hC hP (bC _ _ _ (by assumption) (by assumption) (by assumption)) rfl rfl rfl (by simp only [go_sem,simprocAttr]) rfl ?_|refine aa hX hC hP (bf _ _ _ (by assumption) (by assumption) (by assumption)) rfl rfl rfl (by simp only [go_sem,simprocAttr]) rfl ?_|refine aa hX hC hP (aV _ _ _) rfl rfl rfl (by simp only [go_sem,simprocAttr]) rfl ?_);try simp only [go_sem,simprocAttr])|((with_reducible refine oD ?_ ?_);kernel_rfl)|((with_reducible intro h);try simp only [go_sem,simprocAttr] at h)|omega|intro h)
 all_goals rfl
def ak (a b p:Pt):Int:=(p.1 - a.1)*(b.1 - a.1)+(p.2 - a.2)*(b.2 - a.2)
theorem bf (a b c:Pt) (ha:bJ a) (hb:bJ b) (hc:bJ c):Spec Tryz.prog 162 (Args [eP a,eP b,eP c]) [] (eN (ak a b c)) []:=by
 (refine Spec.hd (C:=T.cfg [] []) (rs:= [.t 6]) (T.ai _ _) Tryz.func162 rfl rfl Tryz.ntmps162 Tryz.results162 (by simp [AObj.isNest]) (by simp [AObj.isNest]) (by kernel_rfl) T.mixed fun X hX hP hC aF bY=> ?_)
 simp only [bJ] at ha hb hc
 have m1:=kP (x:=c.1 - a.1) (y:=b.1 - a.1) (m:=524288) (n:=524288) (by omega) (by omega)
 have m2:=kP (x:=c.2 - a.2) (y:=b.2 - a.2) (m:=524288) (n:=524288) (by omega) (by omega)
 repeat' (first|refine Rn.p ?_|(with_reducible apply And.intro)|((first|(refine hK _ ?_;clear hK K)|with_reducible intro K hK|refine Rs.p ?_|((with_reducible first|apply oP|apply oQ);exact rfl)|refine aa hX hC hP (aZ _ (by assumption)) rfl rfl rfl (by simp only [go_sem,simprocAttr]) rfl ?_|refine aa hX hC hP (aQ _ (by assumption)) rfl rfl rfl (by simp only [go_sem,simprocAttr]) rfl ?_|refine aa hX hC hP (bB _) rfl rfl rfl (by simp only [go_sem,simprocAttr]) rfl ?_|refine aa hX hC hP (bC _ _ _ (by assumption) (by assumption) (by assumption)) rfl rfl rfl (by simp only [go_sem,simprocAttr]) rfl ?_|refine aa hX hC hP (bf _ _ _ (by assumption) (by assumption) (by assumption)) rfl rfl rfl (by simp only [go_sem,simprocAttr]) rfl ?_|refine aa hX hC hP (aV _ _ _) rfl rfl rfl (by simp only [go_sem,simprocAttr]) rfl ?_);try simp only [go_sem,simprocAttr])|((with_reducible refine oD ?_ ?_);kernel_rfl)|((with_reducible intro h);try simp only [go_sem,simprocAttr] at h)|omega|intro h)
 all_goals rfl
def xQ (a b c:Pt):Int:=if bJ a∧bJ b∧bJ c then fN (aj a b c) 0 else 0
def jg (a b c:Pt):Bool:=decide (bJ a∧bJ b∧bJ c)&&(decide (aj a b c=0)&&decide ((a.1 - c.1)*(b.1 - c.1)+(a.2 - c.2)*(b.2 - c.2)≤0))
theorem aV (a b c:Pt):Spec Tryz.prog 106 (Args [eP a,eP b,eP c]) [] (eB (jg a b c)) []:=by
 by_cases ha:bJ a
 ·by_cases hb:bJ b
  ·by_cases hc:bJ c
   ·(refine Spec.hd (C:=T.cfg [] []) (rs:= [.t 6]) (T.ai _ _) Tryz.func106 rfl rfl Tryz.ntmps106 Tryz.results106 (by simp [AObj.isNest]) (by simp [AObj.isNest]) (by kernel_rfl) T.mixed fun X hX hP hC aF bY=> ?_)
    have i1:=ha
    have i2:=hb
    have i3:=hc
    simp only [bJ] at i1 i2 i3
    have m1:=kP (x:=a.1 - c.1) (y:=b.1 - c.1) (m:=524288) (n:=524288) (by omega) (by omega)
    have m2:=kP (x:=a.2 - c.2) (y:=b.2 - c.2) (m:=524288) (n:=524288) (by omega) (by omega)
    repeat' (first|refine Rn.p ?_|(with_reducible apply And.intro)|((first|(refine hK _ ?_;clear hK K)|with_reducible intro K hK|refine Rs.p ?_|((with_reducible first|apply oP|apply oQ);exact rfl)|refine aa hX hC hP (aZ _ (by assumption)) rfl rfl rfl (by simp only [go_sem,simprocAttr]) rfl ?_|refine aa hX hC hP (aQ _ (by assumption)) rfl rfl rfl (by simp only [go_sem,simprocAttr]) rfl ?_|refine aa hX hC hP (bB _) rfl rfl rfl (by simp only [go_sem,simprocAttr]) rfl ?_|refine aa hX hC hP (bC _ _ _ (by assumption) (by assumption) (by assumption)) rfl rfl rfl (by simp only [go_sem,simprocAttr]) rfl ?_|refine aa hX hC hP (bf _ _ _ (by assumption) (by assumption) (by assumption)) rfl rfl rfl (by simp only [go_sem,simprocAttr]) rfl ?_|refine aa hX hC hP (aV _ _ _) rfl rfl rfl (by simp only [go_sem,simprocAttr]) rfl ?_);try simp only [go_sem,simprocAttr])|((with_reducible refine oD ?_ ?_);kernel_rfl)|((with_reducible intro h);try simp only [go_sem,simprocAttr] at h)|omega|intro h)
    all_goals simp_all [jg]
   ·(refine Spec.hd (C:=T.cfg [] []) (rs:= [.t 6]) (T.ai _ _) Tryz.func106 rfl rfl Tryz.ntmps106 Tryz.results106 (by simp [AObj.isNest]) (by simp [AObj.isNest]) (by kernel_rfl) T.mixed fun X hX hP hC aF bY=> ?_)
    repeat' (first|refine Rn.p ?_|(with_reducible apply And.intro)|((first|(refine hK _ ?_;clear hK K)|with_reducible intro K hK|refine Rs.p ?_|((with_reducible first|apply oP|apply oQ);exact rfl)|refine aa hX hC hP (aZ _ (by assumption)) rfl rfl rfl (by simp only [go_sem,simprocAttr]) rfl ?_|refine aa hX hC hP (aQ _ (by assumption)) rfl rfl rfl (by simp only [go_sem,simprocAttr]) rfl ?_|refine aa hX hC hP (bB _) rfl rfl rfl (by simp only [go_sem,simprocAttr]) rfl ?_|refine aa hX hC hP (bC _ _ _ (by assumption) (by assumption) (by assumption)) rfl rfl rfl (by simp only [go_sem,simprocAttr]) rfl ?_|refine aa hX hC hP (bf _ _ _ (by assumption) (by assumption) (by assumption)) rfl rfl rfl (by simp only [go_sem,simprocAttr]) rfl ?_|refine aa hX hC hP (aV _ _ _) rfl rfl rfl (by simp only [go_sem,simprocAttr]) rfl ?_);try simp only [go_sem,simprocAttr])|((with_reducible refine oD ?_ ?_);kernel_rfl)|((with_reducible intro h);try simp only [go_sem,simprocAttr] at h)|omega|intro h)
    all_goals simp [jg,ha,hb,hc]
  ·(refine Spec.hd (C:=T.cfg [] []) (rs:= [.t 6]) (T.ai _ _) Tryz.func106 rfl rfl Tryz.ntmps106 Tryz.results106 (by simp [AObj.isNest]) (by simp [AObj.isNest]) (by kernel_rfl) T.mixed fun X hX hP hC aF bY=> ?_)
   repeat' (first|refine Rn.p ?_|(with_reducible apply And.intro)|((first|(refine hK _ ?_;clear hK K)|with_reducible intro K hK|refine Rs.p ?_|((with_reducible first|apply oP|apply oQ);exact rfl)|refine aa hX hC hP (aZ _ (by assumption)) rfl rfl rfl (by simp only [go_sem,simprocAttr]) rfl ?_|refine aa hX hC hP (aQ _ (by assumption)) rfl rfl rfl (by simp only [go_sem,simprocAttr]) rfl ?_|refine aa hX hC hP (bB _) rfl rfl rfl (by simp only [go_sem,simprocAttr]) rfl ?_|refine aa hX hC hP (bC _ _ _ (by assumption) (by assumption) (by assumption)) rfl rfl rfl (by simp only [go_sem,simprocAttr]) rfl ?_|refine aa hX hC hP (bf _ _ _ (by assumption) (by assumption) (by assumption)) rfl rfl rfl (by simp only [go_sem,simprocAttr]) rfl ?_|refine aa hX hC hP (aV _ _ _) rfl rfl rfl (by simp only [go_sem,simprocAttr]) rfl ?_);try simp only [go_sem,simprocAttr])|((with_reducible refine oD ?_ ?_);kernel_rfl)|((with_reducible intro h);try simp only [go_sem,simprocAttr] at h)|omega|intro h)
   all_goals simp [jg,ha,hb]
 ·(refine Spec.hd (C:=T.cfg [] []) (rs:= [.t 6]) (T.ai _ _) Tryz.func106 rfl rfl Tryz.ntmps106 Tryz.results106 (by simp [AObj.isNest]) (by simp [AObj.isNest]) (by kernel_rfl) T.mixed fun X hX hP hC aF bY=> ?_)
  repeat' (first|refine Rn.p ?_|(with_reducible apply And.intro)|((first|(refine hK _ ?_;clear hK K)|with_reducible intro K hK|refine Rs.p ?_|((with_reducible first|apply oP|apply oQ);exact rfl)|refine aa hX hC hP (aZ _ (by assumption)) rfl rfl rfl (by simp only [go_sem,simprocAttr]) rfl ?_|refine aa hX hC hP (aQ _ (by assumption)) rfl rfl rfl (by simp only [go_sem,simprocAttr]) rfl ?_|refine aa hX hC hP (bB _) rfl rfl rfl (by simp only [go_sem,simprocAttr]) rfl ?_|refine aa hX hC hP (bC _ _ _ (by assumption) (by assumption) (by assumption)) rfl rfl rfl (by simp only [go_sem,simprocAttr]) rfl ?_|refine aa hX hC hP (bf _ _ _ (by assumption) (by assumption) (by assumption)) rfl rfl rfl (by simp only [go_sem,simprocAttr]) rfl ?_|refine aa hX hC hP (aV _ _ _) rfl rfl rfl (by simp only [go_sem,simprocAttr]) rfl ?_);try simp only [go_sem,simprocAttr])|((with_reducible refine oD ?_ ?_);kernel_rfl)|((with_reducible intro h);try simp only [go_sem,simprocAttr] at h)|omega|intro h)
  all_goals simp [jg,ha]
end Go.Ab
end
section
namespace Go.Ab
open Go.Proofs
attribute [local congr] ACall.congr gd.congr Nx.congr
set_option maxRecDepth 10000
set_option maxHeartbeats 2000000
def qK:OT:=(.br 0 (.br 1 (.br 2 (.br 3 (.br 4 (.br 5 (.br 6 .nil .nil) .nil) .nil) (.br 4 (.br 3 (.br 5 (.br 6 .nil .nil) .nil) (.br 5 (.br 3 (.br 6 .nil .nil) .nil) .nil)) .nil)) (.br 4 (.br 2 (.br 3 (.br 5 (.br 6 .nil .nil) .nil) (.br 5 (.br 3 (.br 6 .nil .nil) .nil) .nil)) (.br 5 (.br 2 (.br 3 (.br 6 .nil .nil) .nil) .nil) .nil)) .nil)) .nil) (.br 1 (.br 0 (.br 2 (.br 3 (.br 4 (.br 5 (.br 6 .nil .nil) .nil) .nil) (.br 4 (.br 3 (.br 5 (.br 6 .nil .nil) .nil) (.br 5 (.br 3 (.br 6 .nil .nil) .nil) .nil)) .nil)) (.br 4 (.br 2 (.br 3 (.br 5 (.br 6 .nil .nil) .nil) (.br 5 (.br 3 (.br 6 .nil .nil) .nil) .nil)) (.br 5 (.br 2 (.br 3 (.br 6 .nil .nil) .nil) .nil) .nil)) .nil)) .nil) .nil))
theorem lI (n:Int): -1≤fN n 0∧fN n 0≤1:=by unfold fN;repeat' split<;>omega
def fO (a b c d:Pt):Int:=
 if bJ a∧bJ b∧bJ c∧bJ d then
  if a=b then (if jg c d a=true then 1 else 0)
  else if c=d then (if jg a b c=true then 1 else 0)
  else if fN (aj a b c) 0=0∧fN (aj a b d) 0=0 then
   let lo:=max (ak a b a) (min (ak a b c) (ak a b d))
   let hi:=min (ak a b b) (max (ak a b c) (ak a b d))
   if hi<lo then 0 else if lo=hi then 1 else 2
  else if fN (aj a b c) 0*fN (aj a b d) 0≤0∧fN (aj c d a) 0*fN (aj c d b) 0≤0 then 1 else 0
 else 0
theorem vM (a b c d:Pt):Spec Tryz.prog 107 (Args [eP a,eP b,eP c,eP d]) [] (eN (fO a b c d)) []:=by
 by_cases ha:bJ a
 ·by_cases hb:bJ b
  ·by_cases hc:bJ c
   ·by_cases hd:bJ d
    ·(refine Spec.hd (C:=T.cfg [] []) (rs:= [.t 8]) (T.ai _ _) Tryz.func107 rfl rfl Tryz.ntmps107 Tryz.results107 (by simp [AObj.isNest]) (by simp [AObj.isNest]) (by kernel_rfl) T.mixed fun X hX hP hC aF bY=> ?_)
     have m1:=kP (lI (aj a b c)) (lI (aj a b d))
     have m2:=kP (lI (aj c d a)) (lI (aj c d b))
     repeat' (first|((with_reducible refine dL hX hC aF qK (by kernel_rfl) ?_);simp only [qK])|((with_reducible apply oI);(iterate 2 exact rfl);intro K hK;try simp only [go_sem,simprocAttr])|(with_reducible (first|apply oJ|exact oK))|refine Rn.p ?_|(with_reducible apply And.intro)|((first|(refine hK _ ?_;clear hK K)|with_reducible intro K hK|refine Rs.p ?_|((with_reducible first|apply oP|apply oQ);exact rfl)|refine aa hX hC hP (aZ _ (by assumption)) rfl rfl rfl (by simp only [go_sem,simprocAttr]) rfl ?_|refine aa hX hC hP (aQ _ (by assumption)) rfl rfl rfl (by simp only [go_sem,simprocAttr]) rfl ?_|refine aa hX hC hP (bB _) rfl rfl rfl (by simp only [go_sem,simprocAttr]) rfl ?_|refine aa hX hC hP (bC _ _ _ (by assumption) (by assumption) (by assumption)) rfl rfl rfl (by simp only [go_sem,simprocAttr]) rfl ?_|refine aa hX hC hP (bf _ _ _ (by assumption) (by assumption) (by assumption)) rfl rfl rfl (by simp only [go_sem,simprocAttr]) rfl ?_|refine aa hX hC hP (aV _ _ _) rfl rfl rfl (by simp only [go_sem,simprocAttr]) rfl ?_|refine aa hX hC hP (aM _ _ _ _ (by assumption) (by assumption) (by assumption) (by assumption)) rfl rfl rfl (by simp only [go_sem,simprocAttr]) rfl ?_|refine aa hX hC hP (aU _ _ _ (by assumption) (by assumption) (by assumption)) rfl rfl rfl (by simp only [go_sem,simprocAttr]) rfl ?_|refine aa hX hC hP (bQ _ _ _ (by assumption) (by assumption) (by assumption)) rfl rfl rfl (by simp only [go_sem,simprocAttr]) rfl ?_|(refine an hX hC hP (dS a b c d (by assumption) (by assumption) (by assumption) (by assumption)) rfl rfl rfl ?_ ?_ rfl ?_;iterate 2 (focus (simp only [go_sem,simprocAttr];done)))|(refine an hX hC hP (cM a b c d (by assumption)) rfl rfl rfl ?_ ?_ rfl ?_;iterate 2 (focus (simp only [go_sem,simprocAttr];done))));try simp only [go_sem,simprocAttr])|((with_reducible refine oD ?_ ?_);kernel_rfl)|((with_reducible intro h);try simp only [go_sem,simprocAttr] at h)|omega|intro h)
     all_goals simp only [fO,ha,hb,hc,hd,and_self,if_true,Prod.ext_iff]
     all_goals clear hX aF hP hC bY X
     all_goals grind
    ·(refine Spec.hd (C:=T.cfg [] []) (rs:= [.t 8]) (T.ai _ _) Tryz.func107 rfl rfl Tryz.ntmps107 Tryz.results107 (by simp [AObj.isNest]) (by simp [AObj.isNest]) (by kernel_rfl) T.mixed fun X hX hP hC aF bY=> ?_)
     repeat' (first|((with_reducible refine dL hX hC aF qK (by kernel_rfl) ?_);simp only [qK])|((with_reducible apply oI);(iterate 2 exact rfl);intro K hK;try simp only [go_sem,simprocAttr])|(with_reducible (first|apply oJ|exact oK))|refine Rn.p ?_|(with_reducible apply And.intro)|((first|(refine hK _ ?_;clear hK K)|with_reducible intro K hK|refine Rs.p ?_|((with_reducible first|apply oP|apply oQ);exact rfl)|refine aa hX hC hP (aZ _ (by assumption)) rfl rfl rfl (by simp only [go_sem,simprocAttr]) rfl ?_|refine aa hX hC hP (aQ _ (by assumption)) rfl rfl rfl (by simp only [go_sem,simprocAttr]) rfl ?_|refine aa hX hC hP (bB _) rfl rfl rfl (by simp only [go_sem,simprocAttr]) rfl ?_|refine aa hX hC hP (bC _ _ _ (by assumption) (by assumption) (by assumption)) rfl rfl rfl (by simp only [go_sem,simprocAttr]) rfl ?_|refine aa hX hC hP (bf _ _ _ (by assumption) (by assumption) (by assumption)) rfl rfl rfl (by simp only [go_sem,simprocAttr]) rfl ?_|refine aa hX hC hP (aV _ _ _) rfl rfl rfl (by simp only [go_sem,simprocAttr]) rfl ?_|refine aa hX hC hP (aM _ _ _ _ (by assumption) (by assumption) (by assumption) (by assumption)) rfl rfl rfl (by simp only [go_sem,simprocAttr]) rfl ?_|refine aa hX hC hP (aU _ _ _ (by assumption) (by assumption) (by assumption)) rfl rfl rfl (by simp only [go_sem,simprocAttr]) rfl ?_|refine aa hX hC hP (bQ _ _ _ (by assumption) (by assumption) (by assumption)) rfl rfl rfl (by simp only [go_sem,simprocAttr]) rfl ?_|(refine an hX hC hP (dS a b c d (by assumption) (by assumption) (by assumption) (by assumption)) rfl rfl rfl ?_ ?_ rfl ?_;iterate 2 (focus (simp only [go_sem,simprocAttr];done)))|(refine an hX hC hP (cM a b c d (by assumption)) rfl rfl rfl ?_ ?_ rfl ?_;iterate 2 (focus (simp only [go_sem,simprocAttr];done))));try simp only [go_sem,simprocAttr])|((with_reducible refine oD ?_ ?_);kernel_rfl)|((with_reducible intro h);try simp only [go_sem,simprocAttr] at h)|omega|intro h)
     all_goals simp [fO,hd]
   ·(refine Spec.hd (C:=T.cfg [] []) (rs:= [.t 8]) (T.ai _ _) Tryz.func107 rfl rfl Tryz.ntmps107 Tryz.results107 (by simp [AObj.isNest]) (by simp [AObj.isNest]) (by kernel_rfl) T.mixed fun X hX hP hC aF bY=> ?_)
    repeat' (first|((with_reducible refine dL hX hC aF qK (by kernel_rfl) ?_);simp only [qK])|((with_reducible apply oI);(iterate 2 exact rfl);intro K hK;try simp only [go_sem,simprocAttr])|(with_reducible (first|apply oJ|exact oK))|refine Rn.p ?_|(with_reducible apply And.intro)|((first|(refine hK _ ?_;clear hK K)|with_reducible intro K hK|refine Rs.p ?_|((with_reducible first|apply oP|apply oQ);exact rfl)|refine aa hX hC hP (aZ _ (by assumption)) rfl rfl rfl (by simp only [go_sem,simprocAttr]) rfl ?_|refine aa hX hC hP (aQ _ (by assumption)) rfl rfl rfl (by simp only [go_sem,simprocAttr]) rfl ?_|refine aa hX hC hP (bB _) rfl rfl rfl (by simp only [go_sem,simprocAttr]) rfl ?_|refine aa hX hC hP (bC _ _ _ (by assumption) (by assumption) (by assumption)) rfl rfl rfl (by simp only [go_sem,simprocAttr]) rfl ?_|refine aa hX hC hP (bf _ _ _ (by assumption) (by assumption) (by assumption)) rfl rfl rfl (by simp only [go_sem,simprocAttr]) rfl ?_|refine aa hX hC hP (aV _ _ _) rfl rfl rfl (by simp only [go_sem,simprocAttr]) rfl ?_|refine aa hX hC hP (aM _ _ _ _ (by assumption) (by assumption) (by assumption) (by assumption)) rfl rfl rfl (by simp only [go_sem,simprocAttr]) rfl ?_|refine aa hX hC hP (aU _ _ _ (by assumption) (by assumption) (by assumption)) rfl rfl rfl (by simp only [go_sem,simprocAttr]) rfl ?_|refine aa hX hC hP (bQ _ _ _ (by assumption) (by assumption) (by assumption)) rfl rfl rfl (by simp only [go_sem,simprocAttr]) rfl ?_|(refine an hX hC hP (dS a b c d (by assumption) (by assumption) (by assumption) (by assumption)) rfl rfl rfl ?_ ?_ rfl ?_;iterate 2 (focus (simp only [go_sem,simprocAttr];done)))|(refine an hX hC hP (cM a b c d (by assumption)) rfl rfl rfl ?_ ?_ rfl ?_;iterate 2 (focus (simp only [go_sem,simprocAttr];done))));try simp only [go_sem,simprocAttr])|((with_reducible refine oD ?_ ?_);kernel_rfl)|((with_reducible intro h);try simp only [go_sem,simprocAttr] at h)|omega|intro h)
    all_goals simp [fO,hc]
  ·(refine Spec.hd (C:=T.cfg [] []) (rs:= [.t 8]) (T.ai _ _) Tryz.func107 rfl rfl Tryz.ntmps107 Tryz.results107 (by simp [AObj.isNest]) (by simp [AObj.isNest]) (by kernel_rfl) T.mixed fun X hX hP hC aF bY=> ?_)
   repeat' (first|((with_reducible refine dL hX hC aF qK (by kernel_rfl) ?_);simp only [qK])|((with_reducible apply oI);(iterate 2 exact rfl);intro K hK;try simp only [go_sem,simprocAttr])|(with_reducible (first|apply oJ|exact oK))|refine Rn.p ?_|(with_reducible apply And.intro)|((first|(refine hK _ ?_;clear hK K)|with_reducible intro K hK|refine Rs.p ?_|((with_reducible first|apply oP|apply oQ);exact rfl)|refine aa hX hC hP (aZ _ (by assumption)) rfl rfl rfl (by simp only [go_sem,simprocAttr]) rfl ?_|refine aa hX hC hP (aQ _ (by assumption)) rfl rfl rfl (by simp only [go_sem,simprocAttr]) rfl ?_|refine aa hX hC hP (bB _) rfl rfl rfl (by simp only [go_sem,simprocAttr]) rfl ?_|refine aa hX hC hP (bC _ _ _ (by assumption) (by assumption) (by assumption)) rfl rfl rfl (by simp only [go_sem,simprocAttr]) rfl ?_|refine aa hX hC hP (bf _ _ _ (by assumption) (by assumption) (by assumption)) rfl rfl rfl (by simp only [go_sem,simprocAttr]) rfl ?_|refine aa hX hC hP (aV _ _ _) rfl rfl rfl (by simp only [go_sem,simprocAttr]) rfl ?_|refine aa hX hC hP (aM _ _ _ _ (by assumption) (by assumption) (by assumption) (by assumption)) rfl rfl rfl (by simp only [go_sem,simprocAttr]) rfl ?_|refine aa hX hC hP (aU _ _ _ (by assumption) (by assumption) (by assumption)) rfl rfl rfl (by simp only [go_sem,simprocAttr]) rfl ?_|refine aa hX hC hP (bQ _ _ _ (by assumption) (by assumption) (by assumption)) rfl rfl rfl (by simp only [go_sem,simprocAttr]) rfl ?_|(refine an hX hC hP (dS a b c d (by assumption) (by assumption) (by assumption) (by assumption)) rfl rfl rfl ?_ ?_ rfl ?_;iterate 2 (focus (simp only [go_sem,simprocAttr];done)))|(refine an hX hC hP (cM a b c d (by assumption)) rfl rfl rfl ?_ ?_ rfl ?_;iterate 2 (focus (simp only [go_sem,simprocAttr];done))));try simp only [go_sem,simprocAttr])|((with_reducible refine oD ?_ ?_);kernel_rfl)|((with_reducible intro h);try simp only [go_sem,simprocAttr] at h)|omega|intro h)
   all_goals simp [fO,hb]
 ·(refine Spec.hd (C:=T.cfg [] []) (rs:= [.t 8]) (T.ai _ _) Tryz.func107 rfl rfl Tryz.ntmps107 Tryz.results107 (by simp [AObj.isNest]) (by simp [AObj.isNest]) (by kernel_rfl) T.mixed fun X hX hP hC aF bY=> ?_)
  repeat' (first|((with_reducible refine dL hX hC aF qK (by kernel_rfl) ?_);simp only [qK])|((with_reducible apply oI);(iterate 2 exact rfl);intro K hK;try simp only [go_sem,simprocAttr])|(with_reducible (first|apply oJ|exact oK))|refine Rn.p ?_|(with_reducible apply And.intro)|((first|(refine hK _ ?_;clear hK K)|with_reducible intro K hK|refine Rs.p ?_|((with_reducible first|apply oP|apply oQ);exact rfl)|refine aa hX hC hP (aZ _ (by assumption)) rfl rfl rfl (by simp only [go_sem,simprocAttr]) rfl ?_|refine aa hX hC hP (aQ _ (by assumption)) rfl rfl rfl (by simp only [go_sem,simprocAttr]) rfl ?_|refine aa hX hC hP (bB _) rfl rfl rfl (by simp only [go_sem,simprocAttr]) rfl ?_|refine aa hX hC hP (bC _ _ _ (by assumption) (by assumption) (by assumption)) rfl rfl rfl (by simp only [go_sem,simprocAttr]) rfl ?_|refine aa hX hC hP (bf _ _ _ (by assumption) (by assumption) (by assumption)) rfl rfl rfl (by simp only [go_sem,simprocAttr]) rfl ?_|refine aa hX hC hP (aV _ _ _) rfl rfl rfl (by simp only [go_sem,simprocAttr]) rfl ?_|refine aa hX hC hP (aM _ _ _ _ (by assumption) (by assumption) (by assumption) (by assumption)) rfl rfl rfl (by simp only [go_sem,simprocAttr]) rfl ?_|refine aa hX hC hP (aU _ _ _ (by assumption) (by assumption) (by assumption)) rfl rfl rfl (by simp only [go_sem,simprocAttr]) rfl ?_|refine aa hX hC hP (bQ _ _ _ (by assumption) (by assumption) (by assumption)) rfl rfl rfl (by simp only [go_sem,simprocAttr]) rfl ?_|(refine an hX hC hP (dS a b c d (by assumption) (by assumption) (by assumption) (by assumption)) rfl rfl rfl ?_ ?_ rfl ?_;iterate 2 (focus (simp only [go_sem,simprocAttr];done)))|(refine an hX hC hP (cM a b c d (by assumption)) rfl rfl rfl ?_ ?_ rfl ?_;iterate 2 (focus (simp only [go_sem,simprocAttr];done))));try simp only [go_sem,simprocAttr])|((with_reducible refine oD ?_ ?_);kernel_rfl)|((with_reducible intro h);try simp only [go_sem,simprocAttr] at h)|omega|intro h)
  all_goals simp [fO,ha]
end Go.Ab
end
section
namespace Go.Ab
open Go.Proofs
attribute [local congr] ACall.congr gd.congr Nx.congr
set_option maxRecDepth 10000
set_option maxHeartbeats 2000000
theorem mval_touch (es:List (List Int × Int)) (k:List Int):jV (dJ es k) k=jV es k:=by
 unfold dJ
 cases h:cE es k with
 |some i=>rfl
 |none=>
  have hn:=mX h
  have:cE (es++ [(k,0)]) k=some es.length:=by
   unfold cE
   rw [List.findIdx?_eq_some_iff_getElem]
   refine ⟨by simp,by simp,fun j hj=> ?_⟩
   rw [List.getElem_append_left hj]
   have:=hn es[j] (List.getElem_mem hj)
   simpa using fun e=>this e.symm
  simp [jV,h,this]
theorem mh (es:List (List Int × Int)) (k:List Int):ij es k<(dJ es k).length:=by
 unfold ij dJ
 cases h:cE es k with
 |some i=>
  obtain ⟨p,hp,_⟩:=ir h
  exact (List.getElem?_eq_some_iff.1 hp).1
 |none=>simp
def bump (es:List (List Int × Int)) (k:List Int):List (List Int × Int):=nL (dJ es k) (ij es k) (jV es k+1)
theorem BG (es:List (List Int × Int)) (i:Nat) (v:Int):(nL es i v).map (·.1)=es.map (·.1):=by
 apply List.ext_getElem?
 intro j
 rw [List.getElem?_map,List.getElem?_map]
 unfold nL
 rw [List.getElem?_modify]
 split<;>cases es[j]? <;>rfl
def tV (p:Pt) (ks:List (List Int)):List (List Int):=if [p.1,p.2]∈ks then ks else ks++ [[p.1,p.2]]
theorem mj (es:List (List Int × Int)) (p:Pt):(bump es [p.1,p.2]).map (·.1)=tV p (es.map (·.1)):=by
 unfold bump tV
 rw [BG]
 unfold dJ
 cases h:cE es [p.1,p.2] with
 |some i=>
  obtain ⟨q,hq,hk⟩:=ir h
  have: [p.1,p.2]∈es.map (·.1):=List.mem_map.2 ⟨q,List.mem_of_getElem? hq,hk⟩
  rw [if_pos this]
 |none=>
  have: [p.1,p.2]∉es.map (·.1):=fun hm=>by
   obtain ⟨q,hq,hk⟩:=List.mem_map.1 hm
   exact mX h q hq hk
  rw [if_neg this];simp
def BE (n:Int) (es:List (List Int × Int)):Prop:=∀p∈es,0≤p.2∧p.2≤n
theorem sJ {n:Int} (hn:0≤n) {es:List (List Int × Int)} (h:BE n es) (k:List Int):0≤jV es k∧jV es k≤n:=by
 unfold jV
 cases hf:cE es k with
 |none=>simp [hn]
 |some i=>
  obtain ⟨p,hp,_⟩:=ir hf
  simp only [hp,Option.map_some,Option.getD_some]
  exact h p (List.mem_of_getElem? hp)
theorem vN {n:Int} (hn:0≤n) {es:List (List Int × Int)} (h:BE n es) (k:List Int):BE (n+1) (bump es k):=by
 intro p hp
 have hv:=sJ hn h k
 have ht:BE n (dJ es k):=by
  unfold dJ
  split
  ·exact h
  ·intro q hq
   rcases List.mem_append.1 hq with hq|hq
   ·exact h q hq
   ·simp at hq;subst hq;simp [hn]
 obtain ⟨j,hj⟩:=List.mem_iff_getElem?.1 hp
 unfold bump nL at hj
 rw [List.getElem?_modify] at hj
 split at hj
 ·simp only [Option.map_eq_map,Option.map_eq_some_iff] at hj
  obtain ⟨q,hq,rfl⟩:=hj
  constructor<;>simp only<;>omega
 ·have:=ht p (List.mem_of_getElem? (by simpa using hj))
  omega
end Go.Ab
end
section
namespace Go.Ab
open Go.Proofs
attribute [local congr] ACall.congr gd.congr Nx.congr
set_option maxRecDepth 10000
set_option maxHeartbeats 4000000
attribute [go_sem] mval_touch
def K1 (a _b c d:Pt):List (List Int):=if gJ c d a=true then tV a [] else []
def K2 (a b c d:Pt):List (List Int):=if gJ c d b=true then tV b (K1 a b c d) else K1 a b c d
def K3 (a b c d:Pt):List (List Int):=if gJ a b c=true then tV c (K2 a b c d) else K2 a b c d
def K4 (a b c d:Pt):List (List Int):=if gJ a b d=true then tV d (K3 a b c d) else K3 a b c d
def fP (a b c d:Pt):Int:=
 if bJ a∧bJ b∧bJ c∧bJ d then
  if 0<(K4 a b c d).length then min ((K4 a b c d).length:Int) 2
  else if sd a b c*sd a b d<0∧sd c d a*sd c d b<0 then 1 else 0
 else 0
def RS (A B C:List (List Int)) (p:Nat × List (List Int × Int)) (n:Int):Prop:=
 (p.1=0∧p.2.map (·.1)=A∧BE n p.2)∨(p.1=1∧p.2.map (·.1)=B∧BE (n+1) p.2)∨(p.1=2∧p.2.map (·.1)=C∧BE (n+2) p.2)
def bx (p:Pt):AObj:= .box [.d (.sc (.int .i64 p.1)), .d (.sc (.int .i64 p.2))]
attribute [go_sem] bx
def st1 (a b c d:Pt) (i:Nat × List (List Int × Int)):ASt:=
 ⟨[(9, .mref 21),(4, .ptr 4 0),(5, .ptr 5 0),(6, .ptr 6 0),(7, .ptr 7 0),(24, .agg [eN a.1,eN a.2,eN b.1,eN b.2]),(25,eN i.1)],
   [(4,bx a),(5,bx b),(6,bx c),(7,bx d),(21, .mp 2 i.2)]⟩
def st2 (a b c d:Pt) (i:Nat × List (List Int × Int)):ASt:=
 ⟨[(9, .mref 21),(4, .ptr 4 0),(5, .ptr 5 0),(6, .ptr 6 0),(7, .ptr 7 0),(41, .agg [eN c.1,eN c.2,eN d.1,eN d.2]),(42,eN i.1)],
   [(4,bx a),(5,bx b),(6,bx c),(7,bx d),(21, .mp 2 i.2)]⟩
theorem FF (a b c d:Pt) (ha:bJ a) (hb:bJ b) (hc:bJ c) (hd:bJ d):Spec Tryz.prog 142 (Args [eP a,eP b,eP c,eP d]) [] (eN (fP a b c d)) []:=by
 (refine Spec.hd (C:=T.cfg [] []) (rs:= [.t 8]) (T.ai _ _) Tryz.func142 rfl rfl Tryz.ntmps142 Tryz.results142 (by simp [AObj.isNest]) (by simp [AObj.isNest]) (by kernel_rfl) T.mixed fun X hX hP hC aF bY=> ?_)
 repeat' (first|((with_reducible refine dL hX hC aF qK (by kernel_rfl) ?_);simp only [qK])|((with_reducible apply oI);(iterate 2 exact rfl);intro K hK;try simp only [go_sem,simprocAttr])|(with_reducible (first|apply oJ|exact oK))|refine Rn.p ?_|(with_reducible apply And.intro)|((first|(refine hK _ ?_;clear hK K)|with_reducible intro K hK|refine Rs.p ?_|((with_reducible first|apply oP|apply oQ);exact rfl)|refine aa hX hC hP (aZ _ (by assumption)) rfl rfl rfl (by simp only [go_sem,simprocAttr]) rfl ?_|refine aa hX hC hP (aQ _ (by assumption)) rfl rfl rfl (by simp only [go_sem,simprocAttr]) rfl ?_|refine aa hX hC hP (bB _) rfl rfl rfl (by simp only [go_sem,simprocAttr]) rfl ?_|refine aa hX hC hP (bC _ _ _ (by assumption) (by assumption) (by assumption)) rfl rfl rfl (by simp only [go_sem,simprocAttr]) rfl ?_|refine aa hX hC hP (bf _ _ _ (by assumption) (by assumption) (by assumption)) rfl rfl rfl (by simp only [go_sem,simprocAttr]) rfl ?_|refine aa hX hC hP (aV _ _ _) rfl rfl rfl (by simp only [go_sem,simprocAttr]) rfl ?_|refine aa hX hC hP (aM _ _ _ _ (by assumption) (by assumption) (by assumption) (by assumption)) rfl rfl rfl (by simp only [go_sem,simprocAttr]) rfl ?_|refine aa hX hC hP (aU _ _ _ (by assumption) (by assumption) (by assumption)) rfl rfl rfl (by simp only [go_sem,simprocAttr]) rfl ?_|refine aa hX hC hP (bQ _ _ _ (by assumption) (by assumption) (by assumption)) rfl rfl rfl (by simp only [go_sem,simprocAttr]) rfl ?_|(refine an hX hC hP (dS a b c d (by assumption) (by assumption) (by assumption) (by assumption)) rfl rfl rfl ?_ ?_ rfl ?_;iterate 2 (focus (simp only [go_sem,simprocAttr];done)))|(refine an hX hC hP (cM a b c d (by assumption)) rfl rfl rfl ?_ ?_ rfl ?_;iterate 2 (focus (simp only [go_sem,simprocAttr];done))));try simp only [go_sem,simprocAttr])|((with_reducible refine oD ?_ ?_);kernel_rfl)|((with_reducible intro h);try simp only [go_sem,simprocAttr] at h)|omega|intro h)
 refine ag (fun i:Nat × List (List Int × Int)=>RS [] (K1 a b c d) (K2 a b c d) i 0) (st1 a b c d) (fun i=>2 - i.1) (0, []) (.inl ⟨rfl,rfl,by simp [BE]⟩) ?_ ?_
 ·refine Le.of ?_ ?_<;>simp [go_sem,simprocAttr,st1]
 rintro ⟨k,es⟩ (⟨hk,hks,pq⟩|⟨hk,hks,pq⟩|⟨hk,hks,pq⟩)<;>simp only at hk hks pq<;>subst hk<;>simp only [st1]
 ·have hv:=sJ (by omega) pq [a.1,a.2]
  have hs:=mh es [a.1,a.2]
  have aK:=vN (by omega) pq [a.1,a.2]
  have hk2:=mj es a
  repeat' (first|((with_reducible refine dL hX hC aF qK (by kernel_rfl) ?_);simp only [qK])|((with_reducible apply oI);(iterate 2 exact rfl);intro K hK;try simp only [go_sem,simprocAttr])|(with_reducible (first|apply oJ|exact oK))|refine Rn.p ?_|(with_reducible apply And.intro)|((first|(refine hK _ ?_;clear hK K)|with_reducible intro K hK|refine Rs.p ?_|((with_reducible first|apply oP|apply oQ);exact rfl)|refine aa hX hC hP (aZ _ (by assumption)) rfl rfl rfl (by simp only [go_sem,simprocAttr]) rfl ?_|refine aa hX hC hP (aQ _ (by assumption)) rfl rfl rfl (by simp only [go_sem,simprocAttr]) rfl ?_|refine aa hX hC hP (bB _) rfl rfl rfl (by simp only [go_sem,simprocAttr]) rfl ?_|refine aa hX hC hP (bC _ _ _ (by assumption) (by assumption) (by assumption)) rfl rfl rfl (by simp only [go_sem,simprocAttr]) rfl ?_|refine aa hX hC hP (bf _ _ _ (by assumption) (by assumption) (by assumption)) rfl rfl rfl (by simp only [go_sem,simprocAttr]) rfl ?_|refine aa hX hC hP (aV _ _ _) rfl rfl rfl (by simp only [go_sem,simprocAttr]) rfl ?_|refine aa hX hC hP (aM _ _ _ _ (by assumption) (by assumption) (by assumption) (by assumption)) rfl rfl rfl (by simp only [go_sem,simprocAttr]) rfl ?_|refine aa hX hC hP (aU _ _ _ (by assumption) (by assumption) (by assumption)) rfl rfl rfl (by simp only [go_sem,simprocAttr]) rfl ?_|refine aa hX hC hP (bQ _ _ _ (by assumption) (by assumption) (by assumption)) rfl rfl rfl (by simp only [go_sem,simprocAttr]) rfl ?_|(refine an hX hC hP (dS a b c d (by assumption) (by assumption) (by assumption) (by assumption)) rfl rfl rfl ?_ ?_ rfl ?_;iterate 2 (focus (simp only [go_sem,simprocAttr];done)))|(refine an hX hC hP (cM a b c d (by assumption)) rfl rfl rfl ?_ ?_ rfl ?_;iterate 2 (focus (simp only [go_sem,simprocAttr];done))));try simp only [go_sem,simprocAttr])|((with_reducible refine oD ?_ ?_);kernel_rfl)|((with_reducible intro h);try simp only [go_sem,simprocAttr] at h)|omega|intro h)
  all_goals first
   |(refine ⟨(1,bump es [a.1,a.2]), .inr (.inl ⟨rfl,by rw [hk2,hks];simp only [K1,if_pos h],by simpa using aK⟩),Le.of ?_ ?_,by simp⟩<;>simp [go_sem,simprocAttr,bump];done)
   |(refine ⟨(1,es), .inr (.inl ⟨rfl,by rw [hks];simp [K1,h],fun p hp=>by have:=pq p hp;omega⟩),Le.of ?_ ?_,by simp⟩<;>simp [go_sem,simprocAttr];done)
 ·have hv:=sJ (by omega) pq [b.1,b.2]
  have hs:=mh es [b.1,b.2]
  have aK:=vN (by omega) pq [b.1,b.2]
  have hk2:=mj es b
  repeat' (first|((with_reducible refine dL hX hC aF qK (by kernel_rfl) ?_);simp only [qK])|((with_reducible apply oI);(iterate 2 exact rfl);intro K hK;try simp only [go_sem,simprocAttr])|(with_reducible (first|apply oJ|exact oK))|refine Rn.p ?_|(with_reducible apply And.intro)|((first|(refine hK _ ?_;clear hK K)|with_reducible intro K hK|refine Rs.p ?_|((with_reducible first|apply oP|apply oQ);exact rfl)|refine aa hX hC hP (aZ _ (by assumption)) rfl rfl rfl (by simp only [go_sem,simprocAttr]) rfl ?_|refine aa hX hC hP (aQ _ (by assumption)) rfl rfl rfl (by simp only [go_sem,simprocAttr]) rfl ?_|refine aa hX hC hP (bB _) rfl rfl rfl (by simp only [go_sem,simprocAttr]) rfl ?_|refine aa hX hC hP (bC _ _ _ (by assumption) (by assumption) (by assumption)) rfl rfl rfl (by simp only [go_sem,simprocAttr]) rfl ?_|refine aa hX hC hP (bf _ _ _ (by assumption) (by assumption) (by assumption)) rfl rfl rfl (by simp only [go_sem,simprocAttr]) rfl ?_|refine aa hX hC hP (aV _ _ _) rfl rfl rfl (by simp only [go_sem,simprocAttr]) rfl ?_|refine aa hX hC hP (aM _ _ _ _ (by assumption) (by assumption) (by assumption) (by assumption)) rfl rfl rfl (by simp only [go_sem,simprocAttr]) rfl ?_|refine aa hX hC hP (aU _ _ _ (by assumption) (by assumption) (by assumption)) rfl rfl rfl (by simp only [go_sem,simprocAttr]) rfl ?_|refine aa hX hC hP (bQ _ _ _ (by assumption) (by assumption) (by assumption)) rfl rfl rfl (by simp only [go_sem,simprocAttr]) rfl ?_|(refine an hX hC hP (dS a b c d (by assumption) (by assumption) (by assumption) (by assumption)) rfl rfl rfl ?_ ?_ rfl ?_;iterate 2 (focus (simp only [go_sem,simprocAttr];done)))|(refine an hX hC hP (cM a b c d (by assumption)) rfl rfl rfl ?_ ?_ rfl ?_;iterate 2 (focus (simp only [go_sem,simprocAttr];done))));try simp only [go_sem,simprocAttr])|((with_reducible refine oD ?_ ?_);kernel_rfl)|((with_reducible intro h);try simp only [go_sem,simprocAttr] at h)|omega|intro h)
  all_goals first
   |(refine ⟨(2,bump es [b.1,b.2]), .inr (.inr ⟨rfl,by rw [hk2,hks];simp only [K2,if_pos h],by simpa using aK⟩),Le.of ?_ ?_,by simp⟩<;>simp [go_sem,simprocAttr,bump];done)
   |(refine ⟨(2,es), .inr (.inr ⟨rfl,by rw [hks];simp [K2,h],fun p hp=>by have:=pq p hp;omega⟩),Le.of ?_ ?_,by simp⟩<;>simp [go_sem,simprocAttr];done)
 ·repeat' (first|((with_reducible refine dL hX hC aF qK (by kernel_rfl) ?_);simp only [qK])|((with_reducible apply oI);(iterate 2 exact rfl);intro K hK;try simp only [go_sem,simprocAttr])|(with_reducible (first|apply oJ|exact oK))|refine Rn.p ?_|(with_reducible apply And.intro)|((first|(refine hK _ ?_;clear hK K)|with_reducible intro K hK|refine Rs.p ?_|((with_reducible first|apply oP|apply oQ);exact rfl)|refine aa hX hC hP (aZ _ (by assumption)) rfl rfl rfl (by simp only [go_sem,simprocAttr]) rfl ?_|refine aa hX hC hP (aQ _ (by assumption)) rfl rfl rfl (by simp only [go_sem,simprocAttr]) rfl ?_|refine aa hX hC hP (bB _) rfl rfl rfl (by simp only [go_sem,simprocAttr]) rfl ?_|refine aa hX hC hP (bC _ _ _ (by assumption) (by assumption) (by assumption)) rfl rfl rfl (by simp only [go_sem,simprocAttr]) rfl ?_|refine aa hX hC hP (bf _ _ _ (by assumption) (by assumption) (by assumption)) rfl rfl rfl (by simp only [go_sem,simprocAttr]) rfl ?_|refine aa hX hC hP (aV _ _ _) rfl rfl rfl (by simp only [go_sem,simprocAttr]) rfl ?_|refine aa hX hC hP (aM _ _ _ _ (by assumption) (by assumption) (by assumption) (by assumption)) rfl rfl rfl (by simp only [go_sem,simprocAttr]) rfl ?_|refine aa hX hC hP (aU _ _ _ (by assumption) (by assumption) (by assumption)) rfl rfl rfl (by simp only [go_sem,simprocAttr]) rfl ?_|refine aa hX hC hP (bQ _ _ _ (by assumption) (by assumption) (by assumption)) rfl rfl rfl (by simp only [go_sem,simprocAttr]) rfl ?_|(refine an hX hC hP (dS a b c d (by assumption) (by assumption) (by assumption) (by assumption)) rfl rfl rfl ?_ ?_ rfl ?_;iterate 2 (focus (simp only [go_sem,simprocAttr];done)))|(refine an hX hC hP (cM a b c d (by assumption)) rfl rfl rfl ?_ ?_ rfl ?_;iterate 2 (focus (simp only [go_sem,simprocAttr];done))));try simp only [go_sem,simprocAttr])|((with_reducible refine oD ?_ ?_);kernel_rfl)|((with_reducible intro h);try simp only [go_sem,simprocAttr] at h)|omega|intro h)
  refine ag (fun i:Nat × List (List Int × Int)=>RS (K2 a b c d) (K3 a b c d) (K4 a b c d) i 2) (st2 a b c d) (fun i=>2 - i.1) (0,es) (.inl ⟨rfl,hks,by simpa using pq⟩) ?_ ?_
  ·refine Le.of ?_ ?_<;>simp [go_sem,simprocAttr,st2]
  clear hks pq es
  rintro ⟨k,es⟩ (⟨hk,hks,pq⟩|⟨hk,hks,pq⟩|⟨hk,hks,pq⟩)<;>simp only at hk hks pq<;>subst hk<;>simp only [st2]
  ·have hv:=sJ (by omega) pq [c.1,c.2]
   have hs:=mh es [c.1,c.2]
   have aK:=vN (by omega) pq [c.1,c.2]
   have hk2:=mj es c
   repeat' (first|((with_reducible refine dL hX hC aF qK (by kernel_rfl) ?_);simp only [qK])|((with_reducible apply oI);(iterate 2 exact rfl);intro K hK;try simp only [go_sem,simprocAttr])|(with_reducible (first|apply oJ|exact oK))|refine Rn.p ?_|(with_reducible apply And.intro)|((first|(refine hK _ ?_;clear hK K)|with_reducible intro K hK|refine Rs.p ?_|((with_reducible first|apply oP|apply oQ);exact rfl)|refine aa hX hC hP (aZ _ (by assumption)) rfl rfl rfl (by simp only [go_sem,simprocAttr]) rfl ?_|refine aa hX hC hP (aQ _ (by assumption)) rfl rfl rfl (by simp only [go_sem,simprocAttr]) rfl ?_|refine aa hX hC hP (bB _) rfl rfl rfl (by simp only [go_sem,simprocAttr]) rfl ?_|refine aa hX hC hP (bC _ _ _ (by assumption) (by assumption) (by assumption)) rfl rfl rfl (by simp only [go_sem,simprocAttr]) rfl ?_|refine aa hX hC hP (bf _ _ _ (by assumption) (by assumption) (by assumption)) rfl rfl rfl (by simp only [go_sem,simprocAttr]) rfl ?_|refine aa hX hC hP (aV _ _ _) rfl rfl rfl (by simp only [go_sem,simprocAttr]) rfl ?_|refine aa hX hC hP (aM _ _ _ _ (by assumption) (by assumption) (by assumption) (by assumption)) rfl rfl rfl (by simp only [go_sem,simprocAttr]) rfl ?_|refine aa hX hC hP (aU _ _ _ (by assumption) (by assumption) (by assumption)) rfl rfl rfl (by simp only [go_sem,simprocAttr]) rfl ?_|refine aa hX hC hP (bQ _ _ _ (by assumption) (by assumption) (by assumption)) rfl rfl rfl (by simp only [go_sem,simprocAttr]) rfl ?_|(refine an hX hC hP (dS a b c d (by assumption) (by assumption) (by assumption) (by assumption)) rfl rfl rfl ?_ ?_ rfl ?_;iterate 2 (focus (simp only [go_sem,simprocAttr];done)))|(refine an hX hC hP (cM a b c d (by assumption)) rfl rfl rfl ?_ ?_ rfl ?_;iterate 2 (focus (simp only [go_sem,simprocAttr];done))));try simp only [go_sem,simprocAttr])|((with_reducible refine oD ?_ ?_);kernel_rfl)|((with_reducible intro h);try simp only [go_sem,simprocAttr] at h)|omega|intro h)
   all_goals first
    |(refine ⟨(1,bump es [c.1,c.2]), .inr (.inl ⟨rfl,by rw [hk2,hks];simp only [K3,if_pos h],by simpa using aK⟩),Le.of ?_ ?_,by simp⟩<;>simp [go_sem,simprocAttr,bump];done)
    |(refine ⟨(1,es), .inr (.inl ⟨rfl,by rw [hks];simp [K3,h],fun p hp=>by have:=pq p hp;omega⟩),Le.of ?_ ?_,by simp⟩<;>simp [go_sem,simprocAttr];done)
  ·have hv:=sJ (by omega) pq [d.1,d.2]
   have hs:=mh es [d.1,d.2]
   have aK:=vN (by omega) pq [d.1,d.2]
   have hk2:=mj es d
   repeat' (first|((with_reducible refine dL hX hC aF qK (by kernel_rfl) ?_);simp only [qK])|((with_reducible apply oI);(iterate 2 exact rfl);intro K hK;try simp only [go_sem,simprocAttr])|(with_reducible (first|apply oJ|exact oK))|refine Rn.p ?_|(with_reducible apply And.intro)|((first|(refine hK _ ?_;clear hK K)|with_reducible intro K hK|refine Rs.p ?_|((with_reducible first|apply oP|apply oQ);exact rfl)|refine aa hX hC hP (aZ _ (by assumption)) rfl rfl rfl (by simp only [go_sem,simprocAttr]) rfl ?_|refine aa hX hC hP (aQ _ (by assumption)) rfl rfl rfl (by simp only [go_sem,simprocAttr]) rfl ?_|refine aa hX hC hP (bB _) rfl rfl rfl (by simp only [go_sem,simprocAttr]) rfl ?_|refine aa hX hC hP (bC _ _ _ (by assumption) (by assumption) (by assumption)) rfl rfl rfl (by simp only [go_sem,simprocAttr]) rfl ?_|refine aa hX hC hP (bf _ _ _ (by assumption) (by assumption) (by assumption)) rfl rfl rfl (by simp only [go_sem,simprocAttr]) rfl ?_|refine aa hX hC hP (aV _ _ _) rfl rfl rfl (by simp only [go_sem,simprocAttr]) rfl ?_|refine aa hX hC hP (aM _ _ _ _ (by assumption) (by assumption) (by assumption) (by assumption)) rfl rfl rfl (by simp only [go_sem,simprocAttr]) rfl ?_|refine aa hX hC hP (aU _ _ _ (by assumption) (by assumption) (by assumption)) rfl rfl rfl (by simp only [go_sem,simprocAttr]) rfl ?_|refine aa hX hC hP (bQ _ _ _ (by assumption) (by assumption) (by assumption)) rfl rfl rfl (by simp only [go_sem,simprocAttr]) rfl ?_|(refine an hX hC hP (dS a b c d (by assumption) (by assumption) (by assumption) (by assumption)) rfl rfl rfl ?_ ?_ rfl ?_;iterate 2 (focus (simp only [go_sem,simprocAttr];done)))|(refine an hX hC hP (cM a b c d (by assumption)) rfl rfl rfl ?_ ?_ rfl ?_;iterate 2 (focus (simp only [go_sem,simprocAttr];done))));try simp only [go_sem,simprocAttr])|((with_reducible refine oD ?_ ?_);kernel_rfl)|((with_reducible intro h);try simp only [go_sem,simprocAttr] at h)|omega|intro h)
   all_goals first
    |(refine ⟨(2,bump es [d.1,d.2]), .inr (.inr ⟨rfl,by rw [hk2,hks];simp only [K4,if_pos h],by simpa using aK⟩),Le.of ?_ ?_,by simp⟩<;>simp [go_sem,simprocAttr,bump];done)
    |(refine ⟨(2,es), .inr (.inr ⟨rfl,by rw [hks];simp [K4,h],fun p hp=>by have:=pq p hp;omega⟩),Le.of ?_ ?_,by simp⟩<;>simp [go_sem,simprocAttr];done)
  ·have hlen:(es.length:Int)=((K4 a b c d).length:Int):=by rw [← hks,List.length_map]
   have m1: -(1*1)≤sd a b c*sd a b d∧sd a b c*sd a b d≤1*1:=kP (lI _) (lI _)
   have m2: -(1*1)≤sd c d a*sd c d b∧sd c d a*sd c d b≤1*1:=kP (lI _) (lI _)
   repeat' (first|((with_reducible refine dL hX hC aF qK (by kernel_rfl) ?_);simp only [qK])|((with_reducible apply oI);(iterate 2 exact rfl);intro K hK;try simp only [go_sem,simprocAttr])|(with_reducible (first|apply oJ|exact oK))|refine Rn.p ?_|(with_reducible apply And.intro)|((first|(refine hK _ ?_;clear hK K)|with_reducible intro K hK|refine Rs.p ?_|((with_reducible first|apply oP|apply oQ);exact rfl)|refine aa hX hC hP (aZ _ (by assumption)) rfl rfl rfl (by simp only [go_sem,simprocAttr]) rfl ?_|refine aa hX hC hP (aQ _ (by assumption)) rfl rfl rfl (by simp only [go_sem,simprocAttr]) rfl ?_|refine aa hX hC hP (bB _) rfl rfl rfl (by simp only [go_sem,simprocAttr]) rfl ?_|refine aa hX hC hP (bC _ _ _ (by assumption) (by assumption) (by assumption)) rfl rfl rfl (by simp only [go_sem,simprocAttr]) rfl ?_|refine aa hX hC hP (bf _ _ _ (by assumption) (by assumption) (by assumption)) rfl rfl rfl (by simp only [go_sem,simprocAttr]) rfl ?_|refine aa hX hC hP (aV _ _ _) rfl rfl rfl (by simp only [go_sem,simprocAttr]) rfl ?_|refine aa hX hC hP (aM _ _ _ _ (by assumption) (by assumption) (by assumption) (by assumption)) rfl rfl rfl (by simp only [go_sem,simprocAttr]) rfl ?_|refine aa hX hC hP (aU _ _ _ (by assumption) (by assumption) (by assumption)) rfl rfl rfl (by simp only [go_sem,simprocAttr]) rfl ?_|refine aa hX hC hP (bQ _ _ _ (by assumption) (by assumption) (by assumption)) rfl rfl rfl (by simp only [go_sem,simprocAttr]) rfl ?_|(refine an hX hC hP (dS a b c d (by assumption) (by assumption) (by assumption) (by assumption)) rfl rfl rfl ?_ ?_ rfl ?_;iterate 2 (focus (simp only [go_sem,simprocAttr];done)))|(refine an hX hC hP (cM a b c d (by assumption)) rfl rfl rfl ?_ ?_ rfl ?_;iterate 2 (focus (simp only [go_sem,simprocAttr];done))));try simp only [go_sem,simprocAttr])|((with_reducible refine oD ?_ ?_);kernel_rfl)|((with_reducible intro h);try simp only [go_sem,simprocAttr] at h)|omega|intro h)
   all_goals clear hX aF hP hC bY X hks pq m1 m2
   all_goals simp only [fP,ha,hb,hc,hd,and_self,if_true, ← hlen]
   all_goals grind
end Go.Ab
end
section
namespace Go.Ab
open Go.Proofs
attribute [local congr] ACall.congr gd.congr Nx.congr
set_option maxRecDepth 10000
theorem vO (a b c:Pt):aj a b c=tm a b a c:=by unfold aj tm;grind
theorem mo (n:Int):fN n 0=0↔n=0:=by unfold fN;split<;>(try split)<;>omega
theorem ql {u v:Int} :(min u v≤0∧0≤max u v)↔u*v≤0:=by
 rcases Int.lt_trichotomy u 0 with hu|hu|hu<;>rcases Int.lt_trichotomy v 0 with hv|hv|hv
 ·have:=Int.mul_pos_of_neg_of_neg hu hv;omega
 ·subst hv;simp;omega
 ·have:=Int.mul_neg_of_neg_of_pos hu hv;omega
 ·subst hu;simp;omega
 ·subst hu;simp;omega
 ·subst hu;simp;omega
 ·have:=Int.mul_neg_of_pos_of_neg hu hv;omega
 ·subst hv;simp;omega
 ·have:=Int.mul_pos hu hv;omega
theorem sq_nonneg (s:Int):0≤s*s:=by
 rcases Int.le_total 0 s with h|h
 ·exact Int.mul_nonneg h h
 ·exact Int.mul_nonneg_of_nonpos_of_nonpos h h
theorem FG {u1 u2 v1 v2:Int} (h:u1*v2=u2*v1):(u1*v1≤0∧u2*v2≤0)↔u1*v1+u2*v2≤0:=by
 constructor
 ·omega
 ·intro hs
  have key:(u1*v1)*(u2*v2)=(u1*v2)*(u1*v2):=by grind
  have h0:=sq_nonneg (u1*v2)
  rw [← key] at h0
  constructor
  ·refine Int.not_lt.1 fun hp=> ?_
   have:=Int.mul_neg_of_pos_of_neg hp (show u2*v2<0 by omega)
   omega
  ·refine Int.not_lt.1 fun hp=> ?_
   have:=Int.mul_neg_of_neg_of_pos (show u1*v1<0 by omega) hp
   omega
theorem within_iff (a b n:Int):me a b n=decide ((a - n)*(b - n)≤0):=by
 rw [Bool.eq_iff_iff]
 simp only [me,Bool.and_eq_true,decide_eq_true_eq]
 rw [← ql]
 omega
theorem Hr (a b c:Pt):gJ a b c=(decide (aj a b c=0)&&decide ((a.1 - c.1)*(b.1 - c.1)+(a.2 - c.2)*(b.2 - c.2)≤0)):=by
 unfold gJ sd
 rw [← vO,within_iff,within_iff]
 by_cases h:aj a b c=0
 ·have h':(a.1 - c.1)*(b.2 - c.2)=(a.2 - c.2)*(b.1 - c.1):=by unfold aj at h;grind
  rw [Bool.eq_iff_iff]
  simp only [mo,h,decide_true,Bool.true_and,Bool.and_eq_true,decide_eq_true_eq]
  exact FG h'
 ·simp [mo,h]
theorem Gp (a b c:Pt):jg a b c=oz a b c:=by unfold jg oz;rw [Hr]
theorem DM (a b c d:Pt) (h:¬(bJ a∧bJ b∧bJ c∧bJ d)):Spec Tryz.prog 142 (Args [eP a,eP b,eP c,eP d]) [] (eN 0) []:=by
 (refine Spec.hd (C:=T.cfg [] []) (rs:= [.t 8]) (T.ai _ _) Tryz.func142 rfl rfl Tryz.ntmps142 Tryz.results142 (by simp [AObj.isNest]) (by simp [AObj.isNest]) (by kernel_rfl) T.mixed fun X hX hP hC aF bY=> ?_)
 repeat' (first|refine Rn.p ?_|(with_reducible apply And.intro)|((first|(refine hK _ ?_;clear hK K)|with_reducible intro K hK|refine Rs.p ?_|((with_reducible first|apply oP|apply oQ);exact rfl)|(refine an hX hC hP (cM a b c d (by assumption)) rfl rfl rfl ?_ ?_ rfl ?_;iterate 2 (focus (simp only [go_sem,simprocAttr];done))));try simp only [go_sem,simprocAttr])|((with_reducible refine oD ?_ ?_);kernel_rfl)|((with_reducible intro h);try simp only [go_sem,simprocAttr] at h)|omega|intro h)
theorem BH {a b c d:Pt} (h:¬(bJ a∧bJ b∧bJ c∧bJ d)):fP a b c d=0:=by rw [fP,if_neg h]
theorem BI (a b c d:Pt):Spec Tryz.prog 142 (Args [eP a,eP b,eP c,eP d]) [] (eN (fP a b c d)) []:=by
 by_cases h:bJ a∧bJ b∧bJ c∧bJ d
 ·exact FF a b c d h.1 h.2.1 h.2.2.1 h.2.2.2
 ·rw [BH h];exact DM a b c d h
def key (p:Pt):List Int:= [p.1,p.2]
theorem key_inj {p q:Pt} :key p=key q↔p=q:=by simp [key,Prod.ext_iff]
theorem oL {x:List Int} {p:Pt} {ks:List (List Int)} :x∈tV p ks↔x=key p∨x∈ks:=by
 unfold tV
 split
 ·rename_i h
  constructor
  ·exact .inr
  ·rintro (rfl|h')
   ·exact h
   ·exact h'
 ·simp [key,or_comm]
theorem ki {p:Pt} {ks:List (List Int)} (h:ks.Nodup):(tV p ks).Nodup:=by
 unfold tV
 split
 ·exact h
 ·rename_i hn
  rw [List.nodup_append]
  exact ⟨h,by simp,fun a ha b hb=>by simp at hb;subst hb;exact fun e=>hn (e ▸ ha)⟩
theorem sK (a b c d:Pt):(K4 a b c d).Nodup:=by
 have h1:(K1 a b c d).Nodup:=by unfold K1;split;exact ki List.nodup_nil;exact List.nodup_nil
 have h2:(K2 a b c d).Nodup:=by unfold K2;split;exact ki h1;exact h1
 have h3:(K3 a b c d).Nodup:=by unfold K3;split;exact ki h2;exact h2
 unfold K4;split;exact ki h3;exact h3
def vQ (a b c d p:Pt):Prop:=(gJ c d a=true∧p=a)∨(gJ c d b=true∧p=b)∨(gJ a b c=true∧p=c)∨(gJ a b d=true∧p=d)
theorem kj {a b c d:Pt} {x:List Int} :x∈K4 a b c d↔∃p,vQ a b c d p∧x=key p:=by
 have h1:x∈K1 a b c d↔gJ c d a=true∧x=key a:=by unfold K1;split<;>simp_all [oL]
 have h2:x∈K2 a b c d↔(gJ c d b=true∧x=key b)∨x∈K1 a b c d:=by unfold K2;split<;>simp_all [oL]
 have h3:x∈K3 a b c d↔(gJ a b c=true∧x=key c)∨x∈K2 a b c d:=by unfold K3;split<;>simp_all [oL]
 have h4:x∈K4 a b c d↔(gJ a b d=true∧x=key d)∨x∈K3 a b c d:=by unfold K4;split<;>simp_all [oL]
 rw [h4,h3,h2,h1]
 unfold vQ
 constructor
 ·rintro (⟨h,rfl⟩|⟨h,rfl⟩|⟨h,rfl⟩|⟨h,rfl⟩)
  ·exact ⟨d, .inr (.inr (.inr ⟨h,rfl⟩)),rfl⟩
  ·exact ⟨c, .inr (.inr (.inl ⟨h,rfl⟩)),rfl⟩
  ·exact ⟨b, .inr (.inl ⟨h,rfl⟩),rfl⟩
  ·exact ⟨a, .inl ⟨h,rfl⟩,rfl⟩
 ·rintro ⟨p,(⟨h,rfl⟩|⟨h,rfl⟩|⟨h,rfl⟩|⟨h,rfl⟩),rfl⟩
  ·exact .inr (.inr (.inr ⟨h,rfl⟩))
  ·exact .inr (.inr (.inl ⟨h,rfl⟩))
  ·exact .inr (.inl ⟨h,rfl⟩)
  ·exact .inl ⟨h,rfl⟩
theorem qL {a b c d:Pt} (h:∀p,¬vQ a b c d p):(K4 a b c d).length=0:=by
 rw [List.length_eq_zero_iff,List.eq_nil_iff_forall_not_mem]
 intro x hx
 obtain ⟨p,hp,_⟩:=kj.1 hx
 exact h p hp
theorem y9 {a b c d p:Pt} (h:vQ a b c d p) (h1:∀q,vQ a b c d q→q=p):(K4 a b c d).length=1:=by
 have e:(K4 a b c d).Perm [key p]:=(List.perm_ext_iff_of_nodup (sK a b c d) (by simp)).2 fun x=>by
  rw [kj]
  constructor
  ·rintro ⟨q,hq,rfl⟩;rw [h1 q hq];simp
  ·intro hx;simp at hx;exact ⟨p,h,hx⟩
 exact e.length_eq
theorem Hs {a b c d p q:Pt} (h:vQ a b c d p) (h1:vQ a b c d q) (hn:p≠q):2≤(K4 a b c d).length:=by
 have:=List.Nodup.length_le_of_subset (l₁:= [key p,key q]) (l₂:=K4 a b c d) (by simp [key_inj,hn]) (by
  intro x hx
  simp at hx
  rcases hx with rfl|rfl
  ·exact kj.2 ⟨p,h,rfl⟩
  ·exact kj.2 ⟨q,h1,rfl⟩)
 simpa using this
theorem vR {a b c:Pt} :sd a b c=0↔aj a b c=0:=by unfold sd;rw [mo,vO]
theorem fQ {a b c:Pt} :gJ a b c=true↔aj a b c=0∧(a.1 - c.1)*(b.1 - c.1)≤0∧(a.2 - c.2)*(b.2 - c.2)≤0:=by
 unfold gJ
 rw [within_iff,within_iff]
 simp only [Bool.and_eq_true,decide_eq_true_eq,vR,and_assoc]
theorem cg {x s:Int} (hs:s≠0) (h:x*(s*s)≤0):x≤0:=by
 have h1:=sq_nonneg s
 have h2:s*s≠0:=Int.mul_ne_zero hs hs
 refine Int.not_lt.1 fun hp=> ?_
 have:=Int.mul_pos hp (show 0<s*s by omega)
 omega
theorem cF {x s:Int} (h:x≤0):x*(s*s)≤0:=Int.mul_nonpos_of_nonpos_of_nonneg h (sq_nonneg s)
theorem Av {a b c d:Pt} (h0:aj c d a=0):tm a b c d*(c.1 - a.1)=aj a b c*(d.1 - c.1):=by unfold aj at*;unfold tm;grind
theorem DN {a b c d:Pt} (h0:aj c d a=0):tm a b c d*(d.1 - a.1)=aj a b d*(d.1 - c.1):=by unfold aj at*;unfold tm;grind
theorem Aw {a b c d:Pt} (h0:aj c d a=0):tm a b c d*(c.2 - a.2)=aj a b c*(d.2 - c.2):=by unfold aj at*;unfold tm;grind
theorem DO {a b c d:Pt} (h0:aj c d a=0):tm a b c d*(d.2 - a.2)=aj a b d*(d.2 - c.2):=by unfold aj at*;unfold tm;grind
theorem Gq {t p q u v w:Int} (h1:t*p=u*w) (h2:t*q=v*w):(p*q)*(t*t)=(u*v)*(w*w):=by grind
theorem oM {a b c d:Pt} (hT:tm a b c d≠0):gJ c d a=true↔aj c d a=0∧aj a b c*aj a b d≤0:=by
 rw [fQ]
 refine and_congr_right fun h0=> ?_
 have e1:=Gq (Av (b:=b) h0) (DN (b:=b) h0)
 have e2:=Gq (Aw (b:=b) h0) (DO (b:=b) h0)
 constructor
 ·rintro ⟨h1,h2⟩
  by_cases hx:d.1 - c.1=0
  ·have hy:d.2 - c.2≠0:=fun hy=>hT (by unfold tm;simp [hx,hy])
   exact cg hy (e2 ▸ cF h2)
  ·exact cg hx (e1 ▸ cF h1)
 ·intro h
  exact ⟨cg hT (e1 ▸ cF h),cg hT (e2 ▸ cF h)⟩
theorem vS (a b c d:Pt):tm b a c d= - tm a b c d:=by unfold tm;grind
theorem qM (a b c d:Pt):tm c d a b= - tm a b c d:=by unfold tm;grind
theorem sM (a b c d:Pt):tm a b d c= - tm a b c d:=by unfold tm;grind
theorem eA (a b c:Pt):aj b a c= - aj a b c:=by unfold aj;grind
theorem pO (a b c d:Pt):aj a b d - aj a b c=tm a b c d:=by unfold aj tm;grind
theorem sN (a b c d:Pt):aj c d a - aj c d b=tm a b c d:=by unfold aj tm;grind
theorem oN (a b c:Pt):gJ b a c=gJ a b c:=by
 rw [Bool.eq_iff_iff,fQ,fQ,eA,Int.mul_comm (b.1 - c.1),Int.mul_comm (b.2 - c.2)]
 simp
theorem za {a b c d:Pt} (hT:tm a b c d≠0):gJ c d b=true↔aj c d b=0∧aj a b c*aj a b d≤0:=by
 rw [oM (a:=b) (b:=a) (by rw [vS];omega),eA a b c,eA a b d,Int.neg_mul_neg]
theorem zf {a b c d:Pt} (hT:tm a b c d≠0):gJ a b c=true↔aj a b c=0∧aj c d a*aj c d b≤0:=by
 rw [oM (a:=c) (b:=d) (c:=a) (d:=b) (by rw [qM];omega)]
theorem zg {a b c d:Pt} (hT:tm a b c d≠0):gJ a b d=true↔aj a b d=0∧aj c d a*aj c d b≤0:=by
 rw [oM (a:=d) (b:=c) (c:=a) (d:=b) (by rw [qM,sM];omega),eA c d a,eA c d b,Int.neg_mul_neg]
theorem mq {a b c d:Pt} (hT:tm a b c d≠0) (h1:aj c d a=0) (h2:aj a b c=0):a=c:=by
 have k1:=Av (b:=b) h1
 have k2:=Aw (b:=b) h1
 rw [h2,Int.zero_mul] at k1 k2
 have e1:=(Int.mul_eq_zero.1 k1).resolve_left hT
 have e2:=(Int.mul_eq_zero.1 k2).resolve_left hT
 exact Prod.ext (by omega) (by omega)
theorem xR (u v:Int):fN u 0*fN v 0<0↔u*v<0:=by
 unfold fN
 rcases Int.lt_trichotomy u 0 with hu|hu|hu<;>rcases Int.lt_trichotomy v 0 with hv|hv|hv
 ·have:=Int.mul_pos_of_neg_of_neg hu hv;simp [hu,hv];omega
 ·subst hv;simp
 ·have:=Int.mul_neg_of_neg_of_pos hu hv;simp [hu,hv,show ¬v<0 by omega,this]
 ·subst hu;simp
 ·subst hu;simp
 ·subst hu;simp
 ·have:=Int.mul_neg_of_pos_of_neg hu hv;simp [hu,hv,show ¬u<0 by omega,this]
 ·subst hv;simp
 ·have:=Int.mul_pos hu hv;simp [hu,hv,show ¬u<0 by omega,show ¬v<0 by omega];omega
theorem BJ (u v:Int):fN u 0*fN v 0≤0↔u*v≤0:=by
 unfold fN
 rcases Int.lt_trichotomy u 0 with hu|hu|hu<;>rcases Int.lt_trichotomy v 0 with hv|hv|hv
 ·have:=Int.mul_pos_of_neg_of_neg hu hv;simp [hu,hv];omega
 ·subst hv;simp
 ·have:=Int.mul_neg_of_neg_of_pos hu hv;simp [hu,hv,show ¬v<0 by omega];omega
 ·subst hu;simp
 ·subst hu;simp
 ·subst hu;simp
 ·have:=Int.mul_neg_of_pos_of_neg hu hv;simp [hu,hv,show ¬u<0 by omega];omega
 ·subst hv;simp
 ·have:=Int.mul_pos hu hv;simp [hu,hv,show ¬u<0 by omega,show ¬v<0 by omega];omega
theorem Ax (a b c:Pt):sd a b c=fN (aj a b c) 0:=by rw [vO];rfl
def fR (a b c d:Pt):Int:=if 0<(K4 a b c d).length then min ((K4 a b c d).length:Int) 2 else if sd a b c*sd a b d<0∧sd c d a*sd c d b<0 then 1 else 0
theorem qm {a b c d:Pt} (hT:tm a b c d≠0):fR a b c d=if aj a b c*aj a b d≤0∧aj c d a*aj c d b≤0 then 1 else 0:=by
 have oa:=oM hT
 have ob:=za hT
 have oc:=zf hT
 have od:=zg hT
 have d1:=pO a b c d
 have d2:=sN a b c d
 have one:∀p q,vQ a b c d p→vQ a b c d q→q=p:=by
  have ab:gJ c d a=true→gJ c d b=true→False:=fun h1 h2=>by have:=oa.1 h1;have:=ob.1 h2;omega
  have cd:gJ a b c=true→gJ a b d=true→False:=fun h1 h2=>by have:=oc.1 h1;have:=od.1 h2;omega
  have ac:gJ c d a=true→gJ a b c=true→a=c:=fun h1 h2=>mq hT (oa.1 h1).1 (oc.1 h2).1
  have ad:gJ c d a=true→gJ a b d=true→a=d:=fun h1 h2=>mq (c:=d) (d:=c) (by rw [sM];omega) (by rw [eA,(oa.1 h1).1];rfl) (od.1 h2).1
  have bc:gJ c d b=true→gJ a b c=true→b=c:=fun h1 h2=>mq (a:=b) (b:=a) (d:=d) (by rw [vS];omega) (ob.1 h1).1 (by rw [eA,(oc.1 h2).1];rfl)
  have bd:gJ c d b=true→gJ a b d=true→b=d:=fun h1 h2=>mq (a:=b) (b:=a) (c:=d) (d:=c) (by rw [vS,sM];omega) (by rw [eA,(ob.1 h1).1];rfl) (by rw [eA,(od.1 h2).1];rfl)
  rintro p q (⟨h1,rfl⟩|⟨h1,rfl⟩|⟨h1,rfl⟩|⟨h1,rfl⟩) (⟨h2,rfl⟩|⟨h2,rfl⟩|⟨h2,rfl⟩|⟨h2,rfl⟩)
  ·rfl
  ·exact (ab h1 h2).elim
  ·exact (ac h1 h2).symm
  ·exact (ad h1 h2).symm
  ·exact (ab h2 h1).elim
  ·rfl
  ·exact (bc h1 h2).symm
  ·exact (bd h1 h2).symm
  ·exact ac h2 h1
  ·exact bc h2 h1
  ·rfl
  ·exact (cd h1 h2).elim
  ·exact ad h2 h1
  ·exact bd h2 h1
  ·exact (cd h2 h1).elim
  ·rfl
 unfold fR
 simp only [Ax,xR]
 by_cases hc:∃p,vQ a b c d p
 ·obtain ⟨p,hp⟩:=hc
  rw [y9 hp fun q hq=>one p q hp hq]
  have:aj a b c*aj a b d≤0∧aj c d a*aj c d b≤0:=by
   rcases hp with ⟨h,_⟩|⟨h,_⟩|⟨h,_⟩|⟨h,_⟩
   ·have:=oa.1 h;exact ⟨this.2,by rw [this.1];simp⟩
   ·have:=ob.1 h;exact ⟨this.2,by rw [this.1];simp⟩
   ·have:=oc.1 h;exact ⟨by rw [this.1];simp,this.2⟩
   ·have:=od.1 h;exact ⟨by rw [this.1];simp,this.2⟩
  rw [if_pos this];rfl
 ·have hn:∀p,¬vQ a b c d p:=fun p hp=>hc ⟨p,hp⟩
  rw [qL hn]
  simp only [Nat.lt_irrefl,if_false]
  by_cases h:aj a b c*aj a b d≤0∧aj c d a*aj c d b≤0
  ·rw [if_pos h,if_pos]
   have n1:aj a b c*aj a b d≠0:=fun h0=>by
    rcases Int.mul_eq_zero.1 h0 with h0|h0
    ·exact hn c (.inr (.inr (.inl ⟨oc.2 ⟨h0,h.2⟩,rfl⟩)))
    ·exact hn d (.inr (.inr (.inr ⟨od.2 ⟨h0,h.2⟩,rfl⟩)))
   have n2:aj c d a*aj c d b≠0:=fun h0=>by
    rcases Int.mul_eq_zero.1 h0 with h0|h0
    ·exact hn a (.inl ⟨oa.2 ⟨h0,h.1⟩,rfl⟩)
    ·exact hn b (.inr (.inl ⟨ob.2 ⟨h0,h.1⟩,rfl⟩))
   omega
  ·rw [if_neg h,if_neg (by omega)]
section
variable {a b:Pt}
theorem zh {p r:Pt} (hp:aj a b p=0) (hr:aj a b r=0):ak a b b*(p.1 - r.1)=(ak a b p - ak a b r)*(b.1 - a.1):=by unfold aj at*;unfold ak;grind
theorem zi {p r:Pt} (hp:aj a b p=0) (hr:aj a b r=0):ak a b b*(p.2 - r.2)=(ak a b p - ak a b r)*(b.2 - a.2):=by unfold aj at*;unfold ak;grind
theorem pP (hab:a≠b):0<ak a b b:=by
 unfold ak
 have h1:=sq_nonneg (b.1 - a.1)
 have h2:=sq_nonneg (b.2 - a.2)
 by_cases hx:b.1 - a.1=0
 ·have hy:b.2 - a.2≠0:=fun hy=>hab (Prod.ext (by omega) (by omega))
  have:=Int.mul_ne_zero hy hy
  omega
 ·have:=Int.mul_ne_zero hx hx
  omega
theorem FH:ak a b a=0:=by unfold ak;simp
theorem pQ:aj a b a=0:=by unfold aj;grind
theorem vU:aj a b b=0:=by unfold aj;grind
theorem xS (hab:a≠b) {p r:Pt} (hp:aj a b p=0) (hr:aj a b r=0) (h:ak a b p=ak a b r):p=r:=by
 have hN:=pP hab
 have h1:=zh hp hr
 have h2:=zi hp hr
 rw [h,Int.sub_self,Int.zero_mul] at h1 h2
 have e1:=(Int.mul_eq_zero.1 h1).resolve_left (by omega)
 have e2:=(Int.mul_eq_zero.1 h2).resolve_left (by omega)
 exact Prod.ext (by omega) (by omega)
theorem uC (hab:a≠b) {p q r:Pt} (hp:aj a b p=0) (hq:aj a b q=0) (hr:aj a b r=0):aj p q r=0:=by
 have h1:(b.1 - a.1)*aj p q r=0:=by unfold aj at*;grind
 have h2:(b.2 - a.2)*aj p q r=0:=by unfold aj at*;grind
 by_cases h:aj p q r=0
 ·exact h
 ·have e1:=(Int.mul_eq_zero.1 h1).resolve_right h
  have e2:=(Int.mul_eq_zero.1 h2).resolve_right h
  exact absurd (Prod.ext (by omega) (by omega)) hab
theorem DP {N x y u v w:Int} (h1:N*x=u*w) (h2:N*y=v*w):(x*y)*(N*N)=(u*v)*(w*w):=by grind
theorem qN (hab:a≠b) {p q r:Pt} (hp:aj a b p=0) (hq:aj a b q=0) (hr:aj a b r=0):gJ p q r=true↔min (ak a b p) (ak a b q)≤ak a b r∧ak a b r≤max (ak a b p) (ak a b q):=by
 have hN:=pP hab
 have e1:=DP (zh hp hr) (zh hq hr)
 have e2:=DP (zi hp hr) (zi hq hr)
 have e3:(min (ak a b p) (ak a b q)≤ak a b r∧ak a b r≤max (ak a b p) (ak a b q))↔(ak a b p - ak a b r)*(ak a b q - ak a b r)≤0:=by
  rw [← ql];omega
 rw [fQ,e3]
 constructor
 ·rintro ⟨_,h1,h2⟩
  by_cases hx:b.1 - a.1=0
  ·have hy:b.2 - a.2≠0:=fun hy=>hab (Prod.ext (by omega) (by omega))
   exact cg hy (e2 ▸ cF h2)
  ·exact cg hx (e1 ▸ cF h1)
 ·intro h
  exact ⟨uC hab hp hq hr,cg (by omega) (e1 ▸ cF h),cg (by omega) (e2 ▸ cF h)⟩
end
theorem zj {a b c d:Pt} (hab:a≠b) (hcd:c≠d) (hc:aj a b c=0) (hd:aj a b d=0):
 fR a b c d=if min (ak a b b) (max (ak a b c) (ak a b d))<max (ak a b a) (min (ak a b c) (ak a b d)) then 0
  else if max (ak a b a) (min (ak a b c) (ak a b d))=min (ak a b b) (max (ak a b c) (ak a b d)) then 1 else 2:=by
 have hN:=pP hab
 have h0:=FH (a:=a) (b:=b)
 have oa:=qN hab hc hd pQ
 have ob:=qN hab hc hd vU
 have oc:=qN hab pQ vU hc
 have od:=qN hab pQ vU hd
 have hne:ak a b c≠ak a b d:=fun h=>hcd (xS hab hc hd h)
 have on:∀p,vQ a b c d p→aj a b p=0∧max (ak a b a) (min (ak a b c) (ak a b d))≤ak a b p∧ak a b p≤min (ak a b b) (max (ak a b c) (ak a b d)):=by
  rintro p (⟨h,rfl⟩|⟨h,rfl⟩|⟨h,rfl⟩|⟨h,rfl⟩)
  ·have:=oa.1 h;exact ⟨pQ,by omega⟩
  ·have:=ob.1 h;exact ⟨vU,by omega⟩
  ·have:=oc.1 h;exact ⟨hc,by omega⟩
  ·have:=od.1 h;exact ⟨hd,by omega⟩
 have hz:¬(sd a b c*sd a b d<0∧sd c d a*sd c d b<0):=by
  have:sd a b c=0:=vR.2 hc
  rw [this];simp
 by_cases hlt:min (ak a b b) (max (ak a b c) (ak a b d))<max (ak a b a) (min (ak a b c) (ak a b d))
 ·unfold fR
  rw [qL fun p hp=>by have:=on p hp;omega,if_neg (by simp),if_neg hz,if_pos hlt]
 ·rw [if_neg hlt]
  have lo:∃p,vQ a b c d p∧ak a b p=max (ak a b a) (min (ak a b c) (ak a b d)):=by
   by_cases h1:min (ak a b c) (ak a b d)≤ak a b a
   ·exact ⟨a, .inl ⟨oa.2 (by omega),rfl⟩,by omega⟩
   ·by_cases h2:ak a b c≤ak a b d
    ·exact ⟨c, .inr (.inr (.inl ⟨oc.2 (by omega),rfl⟩)),by omega⟩
    ·exact ⟨d, .inr (.inr (.inr ⟨od.2 (by omega),rfl⟩)),by omega⟩
  have hi:∃p,vQ a b c d p∧ak a b p=min (ak a b b) (max (ak a b c) (ak a b d)):=by
   by_cases h1:ak a b b≤max (ak a b c) (ak a b d)
   ·exact ⟨b, .inr (.inl ⟨ob.2 (by omega),rfl⟩),by omega⟩
   ·by_cases h2:ak a b c≤ak a b d
    ·exact ⟨d, .inr (.inr (.inr ⟨od.2 (by omega),rfl⟩)),by omega⟩
    ·exact ⟨c, .inr (.inr (.inl ⟨oc.2 (by omega),rfl⟩)),by omega⟩
  obtain ⟨p,hp,hp1⟩:=lo
  obtain ⟨q,hq,hq1⟩:=hi
  by_cases heq:max (ak a b a) (min (ak a b c) (ak a b d))=min (ak a b b) (max (ak a b c) (ak a b d))
  ·unfold fR
   rw [if_pos heq,y9 hp fun r hr=>by
    have h1:=on r hr
    exact xS hab h1.1 (on p hp).1 (by omega)]
   rfl
  ·have h2:=Hs hp hq (fun e=>by subst e;omega)
   unfold fR
   rw [if_neg heq,if_pos (by omega)]
   omega
theorem Ay {a c:Pt} :gJ a a c=true↔c=a:=by
 rw [fQ]
 constructor
 ·rintro ⟨_,h1,h2⟩
  have e1:a.1 - c.1=0:=by
   by_cases h:a.1 - c.1=0
   ·exact h
   ·have:=Int.mul_ne_zero h h;have:=sq_nonneg (a.1 - c.1);omega
  have e2:a.2 - c.2=0:=by
   by_cases h:a.2 - c.2=0
   ·exact h
   ·have:=Int.mul_ne_zero h h;have:=sq_nonneg (a.2 - c.2);omega
  exact Prod.ext (by omega) (by omega)
 ·rintro rfl
  exact ⟨by unfold aj;grind,by simp,by simp⟩
theorem ko {a d:Pt} :gJ a d a=true:=by rw [fQ];exact ⟨pQ,by simp,by simp⟩
theorem sO {a c d:Pt} :fR a a c d=if gJ c d a=true then 1 else 0:=by
 have hz:sd a a c=0:=vR.2 (by unfold aj;grind)
 have on:∀p,vQ a a c d p→gJ c d a=true∧p=a:=by
  rintro p (⟨h,rfl⟩|⟨h,rfl⟩|⟨h,rfl⟩|⟨h,rfl⟩)
  ·exact ⟨h,rfl⟩
  ·exact ⟨h,rfl⟩
  ·have:=Ay.1 h;subst this;exact ⟨ko,rfl⟩
  ·have:=Ay.1 h;subst this;exact ⟨by rw [oN];exact ko,rfl⟩
 unfold fR
 by_cases h:gJ c d a=true
 ·rw [y9 (p:=a) (.inl ⟨h,rfl⟩) fun q hq=>(on q hq).2,if_pos h];rfl
 ·rw [qL fun p hp=>h (on p hp).1,if_neg h]
  simp [hz]
theorem zk (a b c d:Pt):fR c d a b=fR a b c d:=by
 have e:(K4 c d a b).Perm (K4 a b c d):=(List.perm_ext_iff_of_nodup (sK _ _ _ _) (sK _ _ _ _)).2 fun x=>by
  rw [kj,kj]
  refine exists_congr fun p=>and_congr_left fun _=> ?_
  unfold vQ
  grind
 unfold fR
 rw [e.length_eq]
 congr 1
 simp only [and_comm]
theorem xT {a b c:Pt} :fR a b c c=if gJ a b c=true then 1 else 0:=by rw [← zk,sO]
theorem Az (a b c d:Pt):fP a b c d=if bJ a∧bJ b∧bJ c∧bJ d then fR a b c d else 0:=rfl
theorem AA (a b c d:Pt):fO a b c d=fP a b c d:=by
 rw [Az]
 unfold fO
 split
 ·rename_i hin
  have tL:∀x y z:Pt,bJ x→bJ y→bJ z→jg x y z=gJ x y z:=fun x y z h1 h2 h3=>by rw [Gp,oz,decide_eq_true ⟨h1,h2,h3⟩,Bool.true_and]
  rw [tL c d a hin.2.2.1 hin.2.2.2 hin.1,tL a b c hin.1 hin.2.1 hin.2.2.1]
  split
  ·rename_i hab;subst hab;rw [sO]
  ·rename_i hab
   split
   ·rename_i hcd;subst hcd;rw [xT]
   ·rename_i hcd
    simp only [mo,BJ]
    by_cases hT:tm a b c d=0
    ·have d1:=pO a b c d
     split
     ·rename_i hz;rw [zj hab hcd hz.1 hz.2]
     ·rename_i hz
      have hne:aj a b c≠0:=by omega
      have JE:∀p,gJ c d p=true→p=a∨p=b→False:=fun p hp h=>by
       have h1:=(fQ.1 hp).1
       have d2:=sN a b c d
       have h2:aj c d a=0∧aj c d b=0:=by rcases h with rfl|rfl<;>omega
       exact hne (uC hcd h2.1 h2.2 pQ)
      have hn:∀p,¬vQ a b c d p:=by
       rintro p (⟨h,rfl⟩|⟨h,rfl⟩|⟨h,rfl⟩|⟨h,rfl⟩)
       ·exact JE _ h (.inl rfl)
       ·exact JE _ h (.inr rfl)
       ·exact hne (fQ.1 h).1
       ·have:=(fQ.1 h).1;omega
      have hq:aj a b d=aj a b c:=by omega
      have hp:=sq_nonneg (aj a b c)
      have IZ:=Int.mul_ne_zero hne hne
      unfold fR
      rw [qL hn]
      simp only [Ax,xR,Nat.lt_irrefl,if_false]
      rw [if_neg (fun h=>by have h:=h.1;rw [hq] at h;omega),if_neg (fun h=>by have h:=h.1;rw [hq] at h;omega)]
    ·rw [qm hT,if_neg]
     have d1:=pO a b c d
     omega
 ·rfl
end Go.Ab
end
section
namespace Go.Ab
open Go.Proofs
attribute [local congr] ACall.congr gd.congr Nx.congr
set_option maxRecDepth 10000
abbrev Pc:=Pt × Pt
def rQ (q:Pc):List D:= [.sc (.int .i64 q.1.1), .sc (.int .i64 q.1.2), .sc (.int .i64 q.2.1), .sc (.int .i64 q.2.2)]
def eQ (q:Pc):AV:= .agg [.d (.sc (.int .i64 q.1.1)), .d (.sc (.int .i64 q.1.2)), .d (.sc (.int .i64 q.2.1)), .d (.sc (.int .i64 q.2.2))]
def sQ (qs:List Pc):D:= .sl 4 (qs.map rQ)
def sP (ps:List Pt):D:= .sl 2 (ps.map rP)
def vP (ls:List (List Pt)):List (List D):=ls.map fun l=> [sP l]
def sLn (ls:List (List Pt)):D:= .sl 1 (vP ls)
def eLn (l:List Pt):AV:= .d (sP l)
theorem getD_rQ (ps:List Pc) (i:Nat):(ps.map rQ).getD i [.sc (.int .i64 0), .sc (.int .i64 0), .sc (.int .i64 0), .sc (.int .i64 0)]=rQ (ps.getD i ((0,0),(0,0))):=by
 simp only [List.getD_eq_getElem?_getD,List.getElem?_map]
 cases ps[i]? <;>rfl
theorem rQ_eq (q:Pc):rQ q= [.sc (.int .i64 q.1.1), .sc (.int .i64 q.1.2), .sc (.int .i64 q.2.1), .sc (.int .i64 q.2.2)]:=rfl
theorem vP_length (ls:List (List Pt)):(vP ls).length=ls.length:=by simp [vP]
theorem vP_getD (ls:List (List Pt)) (i:Nat):(vP ls).getD i [.sl 2 []]= [sP (ls.getD i [])]:=by
 simp only [vP,List.getD_eq_getElem?_getD,List.getElem?_map]
 cases ls[i]? <;>rfl
attribute [go_sem] getD_rQ rQ_eq eQ sQ sP sLn eLn vP_length vP_getD
theorem aO {α:Type} {l:List α} {m:Nat} {d:α} (h:m<l.length):l.getD m d∈l:=by
 rw [List.getD_eq_getElem?_getD,List.getElem?_eq_getElem h];exact List.getElem_mem h
theorem kK {m:List (Nat × AObj)} (hR:aI m) (f:Nat) (caps:List AV) (g:Pc→Bool) (ps:List Pc) (hf:∀p∈ps,Spec Tryz.prog f (Args (eQ p::caps)) m (eB (g p)) m) (hl:ps.length≤9223372036854775807):
 Spec Tryz.prog 181 (Args [.d (sQ ps), .fn f [] caps]) m (eN (bR g ps)) m:=by
 (refine Spec.hd (C:=T.cfg [] []) (rs:= [.t 4]) (T.ai _ _) Tryz.func181 rfl rfl Tryz.ntmps181 Tryz.results181 (fun p hp=>⟨(aI.low hR p hp).1,aI.nest hR p hp⟩) (fun p hp=>⟨(aI.low hR p hp).2,aI.nest hR p hp⟩) (by kernel_rfl) T.mixed fun X hX hP hC aF bY=> ?_)
 repeat' (first|refine Rn.p ?_|(with_reducible apply And.intro)|((first|(refine hK _ ?_;clear hK K)|with_reducible intro K hK|refine Rs.p ?_|((with_reducible first|apply oP|apply oQ);exact rfl));try simp only [go_sem,simprocAttr])|((with_reducible refine oD ?_ ?_);kernel_rfl)|((with_reducible intro h);try simp only [go_sem,simprocAttr] at h)|omega|intro h)
 refine ag (fun k:Nat=>k≤ps.length∧∀j,j<k→g (ps.getD j ((0,0),(0,0)))=false) (fun k=>⟨[(0, .d (sQ ps)),(1, .fn f [] caps),(7,eN ps.length),(8,eN k)],m⟩) (fun k=>ps.length - k) 0 (by simp) ?_ ?_
 ·(refine ⟨bz ?_,fun _ _ h=>h⟩;simp [go_sem,simprocAttr])
 rintro k ⟨hk,hg⟩
 rcases Nat.lt_or_ge k ps.length with hlt|hge
 ·have hb:decide ((k:Int)<(ps.length:Int))=true:=decide_eq_true (by omega)
  have hf':=hf (ps.getD k ((0,0),(0,0))) (aO hlt)
  repeat' (first|refine Rn.p ?_|(with_reducible apply And.intro)|((first|(refine hK _ ?_;clear hK K)|with_reducible intro K hK|refine Rs.p ?_|((with_reducible first|apply oP|apply oQ);exact rfl)|(first|(refine az hX hC hP hR (hf') rfl rfl rfl ?_ ?_ rfl rfl ?_;(focus (simp only [go_sem,simprocAttr,hb];done));(focus (first|(intro p hp;exact au (aI.nd hR) hp)|(simp [go_sem,simprocAttr,hb];done))))|(refine az hX hC hP hR (hf') rfl rfl rfl ?_ ?_ ?_ rfl ?_;(focus (simp only [go_sem,simprocAttr,hb];done));(focus (first|(intro p hp;exact au (aI.nd hR) hp)|(simp [go_sem,simprocAttr,hb];done)));(focus (simp [go_sem,simprocAttr,hb];done)))));try simp only [go_sem,simprocAttr,hb])|((with_reducible refine oD ?_ ?_);kernel_rfl)|((with_reducible intro h);try simp only [go_sem,simprocAttr,hb] at h)|omega|intro h)
  ·exact (bW (by omega) hg h).symm
  ·exact cC hR
  ·refine ⟨k+1,⟨by omega,fun j hj=> ?_⟩, ?_,by omega⟩
   ·by_cases hjk:j=k
    ·subst hjk;exact h
    ·exact hg j (by omega)
   ·(refine ⟨bz ?_,fun _ _ h=>h⟩;simp [go_sem,simprocAttr,hb])
 ·have hb:decide ((k:Int)<(ps.length:Int))=false:=decide_eq_false (by omega)
  repeat' (first|refine Rn.p ?_|(with_reducible apply And.intro)|((first|(refine hK _ ?_;clear hK K)|with_reducible intro K hK|refine Rs.p ?_|((with_reducible first|apply oP|apply oQ);exact rfl)|(first|(refine az hX hC hP hR (hf') rfl rfl rfl ?_ ?_ rfl rfl ?_;(focus (simp only [go_sem,simprocAttr,hb];done));(focus (first|(intro p hp;exact au (aI.nd hR) hp)|(simp [go_sem,simprocAttr,hb];done))))|(refine az hX hC hP hR (hf') rfl rfl rfl ?_ ?_ ?_ rfl ?_;(focus (simp only [go_sem,simprocAttr,hb];done));(focus (first|(intro p hp;exact au (aI.nd hR) hp)|(simp [go_sem,simprocAttr,hb];done)));(focus (simp [go_sem,simprocAttr,hb];done)))));try simp only [go_sem,simprocAttr,hb])|((with_reducible refine oD ?_ ?_);kernel_rfl)|((with_reducible intro h);try simp only [go_sem,simprocAttr,hb] at h)|omega|intro h)
  ·exact (bD ((0,0),(0,0)) fun j hj=>hg j (by omega)).symm
  ·exact cC hR
theorem iE {m:List (Nat × AObj)} (hR:aI m) (f:Nat) (caps:List AV) (g:Pc→Bool) (ps:List Pc) (hf:∀p∈ps,Spec Tryz.prog f (Args (eQ p::caps)) m (eB (g p)) m) (hl:ps.length≤9223372036854775807):
 Spec Tryz.prog 136 (Args [.d (sQ ps), .fn f [] caps]) m (eB (ps.any g)) m:=by
 (refine Spec.hd (C:=T.cfg [] []) (rs:= [.t 4]) (T.ai _ _) Tryz.func136 rfl rfl Tryz.ntmps136 Tryz.results136 (fun p hp=>⟨(aI.low hR p hp).1,aI.nest hR p hp⟩) (fun p hp=>⟨(aI.low hR p hp).2,aI.nest hR p hp⟩) (by kernel_rfl) T.mixed fun X hX hP hC aF bY=> ?_)
 repeat' (first|refine Rn.p ?_|(with_reducible apply And.intro)|((first|(refine hK _ ?_;clear hK K)|with_reducible intro K hK|refine Rs.p ?_|((with_reducible first|apply oP|apply oQ);exact rfl)|(first|(refine az hX hC hP hR (kK hR f caps g ps hf hl) rfl rfl rfl ?_ ?_ rfl rfl ?_;(focus (simp only [go_sem,simprocAttr];done));(focus (first|(intro p hp;exact au (aI.nd hR) hp)|(simp [go_sem,simprocAttr];done))))|(refine az hX hC hP hR (kK hR f caps g ps hf hl) rfl rfl rfl ?_ ?_ ?_ rfl ?_;(focus (simp only [go_sem,simprocAttr];done));(focus (first|(intro p hp;exact au (aI.nd hR) hp)|(simp [go_sem,simprocAttr];done)));(focus (simp [go_sem,simprocAttr];done)))));try simp only [go_sem,simprocAttr])|((with_reducible refine oD ?_ ?_);kernel_rfl)|((with_reducible intro h);try simp only [go_sem,simprocAttr] at h)|omega|intro h)
 ·exact dx g ps
 ·exact cC hR
theorem jG {m:List (Nat × AObj)} (hR:aI m) (f:Nat) (caps:List AV) (g:Pt→Bool) (ps:List Pt) (hf:∀p∈ps,Spec Tryz.prog f (Args (eP p::caps)) m (eB (g p)) m) (hl:ps.length≤9223372036854775807):
 Spec Tryz.prog 185 (Args [.d (sP ps), .fn f [] caps]) m (eN (bR g ps)) m:=by
 (refine Spec.hd (C:=T.cfg [] []) (rs:= [.t 4]) (T.ai _ _) Tryz.func185 rfl rfl Tryz.ntmps185 Tryz.results185 (fun p hp=>⟨(aI.low hR p hp).1,aI.nest hR p hp⟩) (fun p hp=>⟨(aI.low hR p hp).2,aI.nest hR p hp⟩) (by kernel_rfl) T.mixed fun X hX hP hC aF bY=> ?_)
 repeat' (first|refine Rn.p ?_|(with_reducible apply And.intro)|((first|(refine hK _ ?_;clear hK K)|with_reducible intro K hK|refine Rs.p ?_|((with_reducible first|apply oP|apply oQ);exact rfl));try simp only [go_sem,simprocAttr])|((with_reducible refine oD ?_ ?_);kernel_rfl)|((with_reducible intro h);try simp only [go_sem,simprocAttr] at h)|omega|intro h)
 refine ag (fun k:Nat=>k≤ps.length∧∀j,j<k→g (ps.getD j (0,0))=false) (fun k=>⟨[(0, .d (sP ps)),(1, .fn f [] caps),(7,eN ps.length),(8,eN k)],m⟩) (fun k=>ps.length - k) 0 (by simp) ?_ ?_
 ·(refine ⟨bz ?_,fun _ _ h=>h⟩;simp [go_sem,simprocAttr])
 rintro k ⟨hk,hg⟩
 rcases Nat.lt_or_ge k ps.length with hlt|hge
 ·have hb:decide ((k:Int)<(ps.length:Int))=true:=decide_eq_true (by omega)
  have hf':=hf (ps.getD k (0,0)) (aO hlt)
  repeat' (first|refine Rn.p ?_|(with_reducible apply And.intro)|((first|(refine hK _ ?_;clear hK K)|with_reducible intro K hK|refine Rs.p ?_|((with_reducible first|apply oP|apply oQ);exact rfl)|(first|(refine az hX hC hP hR (hf') rfl rfl rfl ?_ ?_ rfl rfl ?_;(focus (simp only [go_sem,simprocAttr,hb];done));(focus (first|(intro p hp;exact au (aI.nd hR) hp)|(simp [go_sem,simprocAttr,hb];done))))|(refine az hX hC hP hR (hf') rfl rfl rfl ?_ ?_ ?_ rfl ?_;(focus (simp only [go_sem,simprocAttr,hb];done));(focus (first|(intro p hp;exact au (aI.nd hR) hp)|(simp [go_sem,simprocAttr,hb];done)));(focus (simp [go_sem,simprocAttr,hb];done)))));try simp only [go_sem,simprocAttr,hb])|((with_reducible refine oD ?_ ?_);kernel_rfl)|((with_reducible intro h);try simp only [go_sem,simprocAttr,hb] at h)|omega|intro h)
  ·exact (bW (by omega) hg h).symm
  ·exact cC hR
  ·refine ⟨k+1,⟨by omega,fun j hj=> ?_⟩, ?_,by omega⟩
   ·by_cases hjk:j=k
    ·subst hjk;exact h
    ·exact hg j (by omega)
   ·(refine ⟨bz ?_,fun _ _ h=>h⟩;simp [go_sem,simprocAttr,hb])
 ·have hb:decide ((k:Int)<(ps.length:Int))=false:=decide_eq_false (by omega)
  repeat' (first|refine Rn.p ?_|(with_reducible apply And.intro)|((first|(refine hK _ ?_;clear hK K)|with_reducible intro K hK|refine Rs.p ?_|((with_reducible first|apply oP|apply oQ);exact rfl)|(first|(refine az hX hC hP hR (hf') rfl rfl rfl ?_ ?_ rfl rfl ?_;(focus (simp only [go_sem,simprocAttr,hb];done));(focus (first|(intro p hp;exact au (aI.nd hR) hp)|(simp [go_sem,simprocAttr,hb];done))))|(refine az hX hC hP hR (hf') rfl rfl rfl ?_ ?_ ?_ rfl ?_;(focus (simp only [go_sem,simprocAttr,hb];done));(focus (first|(intro p hp;exact au (aI.nd hR) hp)|(simp [go_sem,simprocAttr,hb];done)));(focus (simp [go_sem,simprocAttr,hb];done)))));try simp only [go_sem,simprocAttr,hb])|((with_reducible refine oD ?_ ?_);kernel_rfl)|((with_reducible intro h);try simp only [go_sem,simprocAttr,hb] at h)|omega|intro h)
  ·exact (bD (0,0) fun j hj=>hg j (by omega)).symm
  ·exact cC hR
theorem mH {m:List (Nat × AObj)} (hR:aI m) (f:Nat) (caps:List AV) (g:Pt→Bool) (ps:List Pt) (hf:∀p∈ps,Spec Tryz.prog f (Args (eP p::caps)) m (eB (g p)) m) (hl:ps.length≤9223372036854775807):
 Spec Tryz.prog 145 (Args [.d (sP ps), .fn f [] caps]) m (eB (ps.any g)) m:=by
 (refine Spec.hd (C:=T.cfg [] []) (rs:= [.t 4]) (T.ai _ _) Tryz.func145 rfl rfl Tryz.ntmps145 Tryz.results145 (fun p hp=>⟨(aI.low hR p hp).1,aI.nest hR p hp⟩) (fun p hp=>⟨(aI.low hR p hp).2,aI.nest hR p hp⟩) (by kernel_rfl) T.mixed fun X hX hP hC aF bY=> ?_)
 repeat' (first|refine Rn.p ?_|(with_reducible apply And.intro)|((first|(refine hK _ ?_;clear hK K)|with_reducible intro K hK|refine Rs.p ?_|((with_reducible first|apply oP|apply oQ);exact rfl)|(first|(refine az hX hC hP hR (jG hR f caps g ps hf hl) rfl rfl rfl ?_ ?_ rfl rfl ?_;(focus (simp only [go_sem,simprocAttr];done));(focus (first|(intro p hp;exact au (aI.nd hR) hp)|(simp [go_sem,simprocAttr];done))))|(refine az hX hC hP hR (jG hR f caps g ps hf hl) rfl rfl rfl ?_ ?_ ?_ rfl ?_;(focus (simp only [go_sem,simprocAttr];done));(focus (first|(intro p hp;exact au (aI.nd hR) hp)|(simp [go_sem,simprocAttr];done)));(focus (simp [go_sem,simprocAttr];done)))));try simp only [go_sem,simprocAttr])|((with_reducible refine oD ?_ ?_);kernel_rfl)|((with_reducible intro h);try simp only [go_sem,simprocAttr] at h)|omega|intro h)
 ·exact dx g ps
 ·exact cC hR
theorem jH {m:List (Nat × AObj)} (hR:aI m) (f:Nat) (caps:List AV) (g:List Pt→Bool) (ps:List (List Pt)) (hf:∀p∈ps,Spec Tryz.prog f (Args (eLn p::caps)) m (eB (g p)) m) (hl:ps.length≤9223372036854775807):
 Spec Tryz.prog 180 (Args [.d (sLn ps), .fn f [] caps]) m (eN (bR g ps)) m:=by
 (refine Spec.hd (C:=T.cfg [] []) (rs:= [.t 4]) (T.ai _ _) Tryz.func180 rfl rfl Tryz.ntmps180 Tryz.results180 (fun p hp=>⟨(aI.low hR p hp).1,aI.nest hR p hp⟩) (fun p hp=>⟨(aI.low hR p hp).2,aI.nest hR p hp⟩) (by kernel_rfl) T.mixed fun X hX hP hC aF bY=> ?_)
 repeat' (first|refine Rn.p ?_|(with_reducible apply And.intro)|((first|(refine hK _ ?_;clear hK K)|with_reducible intro K hK|refine Rs.p ?_|((with_reducible first|apply oP|apply oQ);exact rfl));try simp only [go_sem,simprocAttr])|((with_reducible refine oD ?_ ?_);kernel_rfl)|((with_reducible intro h);try simp only [go_sem,simprocAttr] at h)|omega|intro h)
 refine ag (fun k:Nat=>k≤ps.length∧∀j,j<k→g (ps.getD j [])=false) (fun k=>⟨[(0, .d (sLn ps)),(1, .fn f [] caps),(7,eN ps.length),(8,eN k)],m⟩) (fun k=>ps.length - k) 0 (by simp) ?_ ?_
 ·(refine ⟨bz ?_,fun _ _ h=>h⟩;simp [go_sem,simprocAttr])
 rintro k ⟨hk,hg⟩
 rcases Nat.lt_or_ge k ps.length with hlt|hge
 ·have hb:decide ((k:Int)<(ps.length:Int))=true:=decide_eq_true (by omega)
  have hf':=hf (ps.getD k []) (aO hlt)
  repeat' (first|refine Rn.p ?_|(with_reducible apply And.intro)|((first|(refine hK _ ?_;clear hK K)|with_reducible intro K hK|refine Rs.p ?_|((with_reducible first|apply oP|apply oQ);exact rfl)|(first|(refine az hX hC hP hR (hf') rfl rfl rfl ?_ ?_ rfl rfl ?_;(focus (simp only [go_sem,simprocAttr,hb];done));(focus (first|(intro p hp;exact au (aI.nd hR) hp)|(simp [go_sem,simprocAttr,hb];done))))|(refine az hX hC hP hR (hf') rfl rfl rfl ?_ ?_ ?_ rfl ?_;(focus (simp only [go_sem,simprocAttr,hb];done));(focus (first|(intro p hp;exact au (aI.nd hR) hp)|(simp [go_sem,simprocAttr,hb];done)));(focus (simp [go_sem,simprocAttr,hb];done)))));try simp only [go_sem,simprocAttr,hb])|((with_reducible refine oD ?_ ?_);kernel_rfl)|((with_reducible intro h);try simp only [go_sem,simprocAttr,hb] at h)|omega|intro h)
  ·exact (bW (by omega) hg h).symm
  ·exact cC hR
  ·refine ⟨k+1,⟨by omega,fun j hj=> ?_⟩, ?_,by omega⟩
   ·by_cases hjk:j=k
    ·subst hjk;exact h
    ·exact hg j (by omega)
   ·(refine ⟨bz ?_,fun _ _ h=>h⟩;simp [go_sem,simprocAttr,hb])
 ·have hb:decide ((k:Int)<(ps.length:Int))=false:=decide_eq_false (by omega)
  repeat' (first|refine Rn.p ?_|(with_reducible apply And.intro)|((first|(refine hK _ ?_;clear hK K)|with_reducible intro K hK|refine Rs.p ?_|((with_reducible first|apply oP|apply oQ);exact rfl)|(first|(refine az hX hC hP hR (hf') rfl rfl rfl ?_ ?_ rfl rfl ?_;(focus (simp only [go_sem,simprocAttr,hb];done));(focus (first|(intro p hp;exact au (aI.nd hR) hp)|(simp [go_sem,simprocAttr,hb];done))))|(refine az hX hC hP hR (hf') rfl rfl rfl ?_ ?_ ?_ rfl ?_;(focus (simp only [go_sem,simprocAttr,hb];done));(focus (first|(intro p hp;exact au (aI.nd hR) hp)|(simp [go_sem,simprocAttr,hb];done)));(focus (simp [go_sem,simprocAttr,hb];done)))));try simp only [go_sem,simprocAttr,hb])|((with_reducible refine oD ?_ ?_);kernel_rfl)|((with_reducible intro h);try simp only [go_sem,simprocAttr,hb] at h)|omega|intro h)
  ·exact (bD [] fun j hj=>hg j (by omega)).symm
  ·exact cC hR
theorem mI {m:List (Nat × AObj)} (hR:aI m) (f:Nat) (caps:List AV) (g:List Pt→Bool) (ps:List (List Pt)) (hf:∀p∈ps,Spec Tryz.prog f (Args (eLn p::caps)) m (eB (g p)) m) (hl:ps.length≤9223372036854775807):
 Spec Tryz.prog 134 (Args [.d (sLn ps), .fn f [] caps]) m (eB (ps.any g)) m:=by
 (refine Spec.hd (C:=T.cfg [] []) (rs:= [.t 4]) (T.ai _ _) Tryz.func134 rfl rfl Tryz.ntmps134 Tryz.results134 (fun p hp=>⟨(aI.low hR p hp).1,aI.nest hR p hp⟩) (fun p hp=>⟨(aI.low hR p hp).2,aI.nest hR p hp⟩) (by kernel_rfl) T.mixed fun X hX hP hC aF bY=> ?_)
 repeat' (first|refine Rn.p ?_|(with_reducible apply And.intro)|((first|(refine hK _ ?_;clear hK K)|with_reducible intro K hK|refine Rs.p ?_|((with_reducible first|apply oP|apply oQ);exact rfl)|(first|(refine az hX hC hP hR (jH hR f caps g ps hf hl) rfl rfl rfl ?_ ?_ rfl rfl ?_;(focus (simp only [go_sem,simprocAttr];done));(focus (first|(intro p hp;exact au (aI.nd hR) hp)|(simp [go_sem,simprocAttr];done))))|(refine az hX hC hP hR (jH hR f caps g ps hf hl) rfl rfl rfl ?_ ?_ ?_ rfl ?_;(focus (simp only [go_sem,simprocAttr];done));(focus (first|(intro p hp;exact au (aI.nd hR) hp)|(simp [go_sem,simprocAttr];done)));(focus (simp [go_sem,simprocAttr];done)))));try simp only [go_sem,simprocAttr])|((with_reducible refine oD ?_ ?_);kernel_rfl)|((with_reducible intro h);try simp only [go_sem,simprocAttr] at h)|omega|intro h)
 ·exact dx g ps
 ·exact cC hR
end Go.Ab
end
section
namespace Go.Ab
open Go.Proofs
attribute [local congr] ACall.congr gd.congr Nx.congr
set_option maxRecDepth 10000
structure Dr where
 pts:List Pt
 ls:List (List Pt)
def eDr (d:Dr):AV:= .agg [.d (sP d.pts), .d (sLn d.ls)]
def lkO (g:Gr) (d:Dr):AObj:= .rob [eN g.n, .d (sE g.es), .d (sP d.pts), .d (sLn d.ls)]
theorem vV (g:Gr) (d:Dr):aI [(10000,lkO g d)]:=⟨by simp [lkO,AObj.ro],by simp [nodupM,look],by simp,by simp [lkO,AObj.ids,AV.ids,AV.idss,eN]⟩
attribute [go_sem] eDr lkO
def EZ (l:List Pt) (k:Nat):List Pc:=(List.range k).map fun i=>(l.getD i (0,0),l.getD (i+1) (0,0))
def eS (l:List Pt):List Pc:=EZ l (l.length - 1)
theorem DQ {l:List Pt} {k:Nat} :EZ l (k+1)=EZ l k++ [(l.getD k (0,0),l.getD (k+1) (0,0))]:=by simp [EZ,List.range_succ]
theorem kq {l:List Pt} {k:Nat} :(EZ l k).length=k:=by simp [EZ]
theorem ef {l:List Pt} :(eS l).length=l.length - 1:=kq
theorem jb (l:List Pt) (h1:1≤l.length) (hl:l.length≤1000000):Spec Tryz.prog 137 (Args [.d (sP l)]) [] (.d (sQ (eS l))) []:=by
 (refine Spec.hd (C:=T.cfg [] []) (rs:= [.t 2]) (T.ai _ _) Tryz.func137 rfl rfl Tryz.ntmps137 Tryz.results137 (by simp [AObj.isNest]) (by simp [AObj.isNest]) (by kernel_rfl) T.mixed fun X hX hP hC aF bY=> ?_)
 repeat' (first|refine Rn.p ?_|(with_reducible apply And.intro)|((first|(refine hK _ ?_;clear hK K)|with_reducible intro K hK|refine Rs.p ?_|((with_reducible first|apply oP|apply oQ);exact rfl));try simp only [go_sem,simprocAttr])|((with_reducible refine oD ?_ ?_);kernel_rfl)|((with_reducible intro h);try simp only [go_sem,simprocAttr] at h)|omega|intro h)
 (refine j5 hX 2 22 (.tip 185 4 []) (by simp only [go_sem,simprocAttr]) (by simp only [go_sem,simprocAttr]) (by decide) ⟨185,4,by decide, .inr rfl⟩ ?_;simp only [go_sem,simprocAttr])
 refine ag (fun k:Nat=>k≤l.length - 1) (fun k=>⟨[(0, .d (sP l)),(6,eN (l.length - 1:Nat)),(7,eN k),(2, .ref 22)], [(22, .tip 185 4 ((EZ l k).map rQ))]⟩) (fun k=>l.length - 1 - k) 0 (by omega) ?_ ?_
 ·refine Le.of ?_ ?_<;>simp [go_sem,simprocAttr,EZ]
 rintro k hk
 rcases Nat.lt_or_ge k (l.length - 1) with hlt|hge
 ·have hb:decide ((k:Int)<((l.length - 1:Nat):Int))=true:=decide_eq_true (by omega)
  repeat' (first|refine Rn.p ?_|(with_reducible apply And.intro)|((first|(refine hK _ ?_;clear hK K)|with_reducible intro K hK|refine Rs.p ?_|((with_reducible first|apply oP|apply oQ);exact rfl));try simp only [go_sem,simprocAttr,hb,kq])|((with_reducible refine oD ?_ ?_);kernel_rfl)|((with_reducible intro h);try simp only [go_sem,simprocAttr,hb,kq] at h)|omega|intro h)
  refine ⟨k+1,by omega, ?_,by omega⟩
  refine Le.of ?_ ?_<;>simp [go_sem,simprocAttr,hb,kq,DQ,rQ]
 ·have hb:decide ((k:Int)<((l.length - 1:Nat):Int))=false:=decide_eq_false (by omega)
  obtain rfl:k=l.length - 1:=by omega
  repeat' (first|refine Rn.p ?_|(with_reducible apply And.intro)|((first|(refine hK _ ?_;clear hK K)|with_reducible intro K hK|refine Rs.p ?_|((with_reducible first|apply oP|apply oQ);exact rfl));try simp only [go_sem,simprocAttr,hb])|((with_reducible refine oD ?_ ?_);kernel_rfl)|((with_reducible intro h);try simp only [go_sem,simprocAttr,hb] at h)|omega|intro h)
  rfl
def robPt (p:Pt):List (Nat × AObj):= [(10000, .rob [eN p.1,eN p.2])]
theorem DR (p:Pt):aI (robPt p):=⟨by simp [robPt,AObj.ro],by simp [robPt,nodupM,look],by simp [robPt],by simp [robPt,AObj.ids,AV.ids,AV.idss,eN]⟩
attribute [go_sem] robPt
theorem BK (q:Pc) (p:Pt):Spec Tryz.prog 183 (Args [eQ q, .ptr 10000 0]) (robPt p) (eB (oz q.1 q.2 p)) (robPt p):=by
 unfold robPt
 (refine Spec.hd (C:=T.cfg [] []) (rs:= [.t 3]) (T.ai _ _) Tryz.func183 rfl rfl Tryz.ntmps183 Tryz.results183 (by simp [AObj.isNest]) (by simp [AObj.isNest]) (by kernel_rfl) T.mixed fun X hX hP hC aF bY=> ?_)
 repeat' (first|refine Rn.p ?_|(with_reducible apply And.intro)|((first|(refine hK _ ?_;clear hK K)|with_reducible intro K hK|refine Rs.p ?_|((with_reducible first|apply oP|apply oQ);exact rfl)|refine aa hX hC hP (vK q.1 q.2 p) rfl rfl rfl (by simp only [go_sem,simprocAttr]) rfl ?_);try simp only [go_sem,simprocAttr])|((with_reducible refine oD ?_ ?_);kernel_rfl)|((with_reducible intro h);try simp only [go_sem,simprocAttr] at h)|omega|intro h)
def Ht (l:List Pt) (p:Pt):Bool:=(eS l).any fun q=>oz q.1 q.2 p
theorem uD (l:List Pt) (p:Pt) (h1:1≤l.length) (hl:l.length≤1000000):Spec Tryz.prog 140 (Args [.d (sP l),eP p]) [] (eB (Ht l p)) []:=by
 have hl':(eS l).length≤9223372036854775807:=by rw [ef];omega
 (refine Spec.hd (C:=T.cfg [] []) (rs:= [.t 4]) (T.ai _ _) Tryz.func140 rfl rfl Tryz.ntmps140 Tryz.results140 (by simp [AObj.isNest]) (by simp [AObj.isNest]) (by kernel_rfl) T.mixed fun X hX hP hC aF bY=> ?_)
 repeat' (first|refine Rn.p ?_|(with_reducible apply And.intro)|((first|(refine hK _ ?_;clear hK K)|with_reducible intro K hK|refine Rs.p ?_|((with_reducible first|apply oP|apply oQ);exact rfl)|refine aa hX hC hP (jb l h1 hl) rfl rfl rfl (by simp only [go_sem,simprocAttr]) rfl ?_|(refine aS hX hC hP [(10000,3)] (iE (DR p) _ _ (fun q=>oz q.1 q.2 p) (eS l) (fun q _=>BK q p) hl') rfl rfl rfl ?_ ?_ ?_ ?_ ?_ ?_ rfl rfl ?_ ?_;(focus (simp only [go_sem,simprocAttr];done));(iterate 6 (focus (simp [go_sem,simprocAttr];done)));try simp only [List.map_cons,List.map_nil]));try simp only [go_sem,simprocAttr])|((with_reducible refine oD ?_ ?_);kernel_rfl)|((with_reducible intro h);try simp only [go_sem,simprocAttr] at h)|omega|intro h)
 rfl
theorem xU (q:Pc):Spec Tryz.prog 138 (Args [eQ q]) [] (eB (decide (q.2.2≤q.1.2))) []:=by
 (refine Spec.hd (C:=T.cfg [] []) (rs:= [.t 2]) (T.ai _ _) Tryz.func138 rfl rfl Tryz.ntmps138 Tryz.results138 (by simp [AObj.isNest]) (by simp [AObj.isNest]) (by kernel_rfl) T.mixed fun X hX hP hC aF bY=> ?_)
 repeat' (first|refine Rn.p ?_|(with_reducible apply And.intro)|((first|(refine hK _ ?_;clear hK K)|with_reducible intro K hK|refine Rs.p ?_|((with_reducible first|apply oP|apply oQ);exact rfl));try simp only [go_sem,simprocAttr])|((with_reducible refine oD ?_ ?_);kernel_rfl)|((with_reducible intro h);try simp only [go_sem,simprocAttr] at h)|omega|intro h)
def gl (l:List Pt):Bool:= !(eS l).any fun q=>decide (q.2.2≤q.1.2)
structure qz (g:Gr) (d:Dr):Prop where
 may:aY g=true
 np:(d.pts.length:Int)=g.n
 nl:d.ls.length=g.es.length
 zm:∀l∈d.ls,2≤l.length∧l.length≤8
theorem qz.line {g:Gr} {d:Dr} (h:qz g d) {i:Nat} (hi:i<g.es.length):2≤(d.ls.getD i []).length∧(d.ls.getD i []).length≤8:=h.zm _ (aO (by rw [h.nl];exact hi))
theorem zn (g:Gr) (d:Dr) (h:qz g d) (i:Nat) (hi:i<g.es.length):Spec Tryz.prog 92 (Args [.ptr 10000 0,eN i]) [(10000,lkO g d)] (eB (gl (d.ls.getD i []))) [(10000,lkO g d)]:=by
 have hn:=bM h.may
 have hnl:=h.nl
 obtain ⟨h2,h8⟩:=h.line hi
 have h1:1≤(d.ls.getD i []).length:=by omega
 have hl:(d.ls.getD i []).length≤1000000:=by omega
 have hl':(eS (d.ls.getD i [])).length≤9223372036854775807:=by rw [ef];omega
 unfold lkO
 (refine Spec.hd (C:=T.cfg [] []) (rs:= [.t 4]) (T.ai _ _) Tryz.func92 rfl rfl Tryz.ntmps92 Tryz.results92 (by simp [AObj.isNest]) (by simp [AObj.isNest]) (by kernel_rfl) T.mixed fun X hX hP hC aF bY=> ?_)
 repeat' (first|refine Rn.p ?_|(with_reducible apply And.intro)|((first|(refine hK _ ?_;clear hK K)|with_reducible intro K hK|refine Rs.p ?_|((with_reducible first|apply oP|apply oQ);exact rfl)|refine aa hX hC hP (jb (d.ls.getD i []) h1 hl) rfl rfl rfl (by simp only [go_sem,simprocAttr]) rfl ?_|refine aa hX hC hP (iE aI.nil _ [] (fun q=>decide (q.2.2≤q.1.2)) (eS (d.ls.getD i [])) (fun q _=>xU q) hl') rfl rfl rfl (by simp only [go_sem,simprocAttr]) rfl ?_);try simp only [go_sem,simprocAttr])|((with_reducible refine oD ?_ ?_);kernel_rfl)|((with_reducible intro h);try simp only [go_sem,simprocAttr] at h)|omega|intro h)
 rfl
def oO (g:Gr) (d:Dr) (i:Nat):Bool:=decide ((d.ls.getD i []).getD 0 (0,0)=d.pts.getD (g.es.getD i (0,0)).1.toNat (0,0))&&decide ((d.ls.getD i []).getD ((d.ls.getD i []).length - 1) (0,0)=d.pts.getD (g.es.getD i (0,0)).2.toNat (0,0))
theorem zo (g:Gr) (d:Dr) (h:qz g d) (i:Nat) (hi:i<g.es.length):Spec Tryz.prog 91 (Args [.ptr 10000 0,eN i]) [(10000,lkO g d)] (eB (oO g d i)) [(10000,lkO g d)]:=by
 have hn:=bM h.may
 have hnp:=h.np
 have hnl:=h.nl
 obtain ⟨h2,h8⟩:=h.line hi
 obtain ⟨⟨Dz,pg⟩,vm,rz⟩:=dZ h.may hi
 have htn:(((d.ls.getD i []).length:Int) - 1).toNat=(d.ls.getD i []).length - 1:=by omega
 unfold lkO
 (refine Spec.hd (C:=T.cfg [] []) (rs:= [.t 4]) (T.ai _ _) Tryz.func91 rfl rfl Tryz.ntmps91 Tryz.results91 (by simp [AObj.isNest]) (by simp [AObj.isNest]) (by kernel_rfl) T.mixed fun X hX hP hC aF bY=> ?_)
 repeat' (first|refine Rn.p ?_|(with_reducible apply And.intro)|((first|(refine hK _ ?_;clear hK K)|with_reducible intro K hK|refine Rs.p ?_|((with_reducible first|apply oP|apply oQ);exact rfl));try simp only [go_sem,simprocAttr,iU,htn])|((with_reducible refine oD ?_ ?_);kernel_rfl)|((with_reducible intro h);try simp only [go_sem,simprocAttr,iU,htn] at h)|omega|intro h)
 ·have h0:(d.ls.getD i []).getD 0 (0,0)=d.pts.getD (g.es.getD i (0,0)).1.toNat (0,0):=by assumption
  simp only [oO,h0,decide_true,Bool.true_and]
 ·have h0:¬(d.ls.getD i []).getD 0 (0,0)=d.pts.getD (g.es.getD i (0,0)).1.toNat (0,0):=by assumption
  simp only [oO,h0,decide_false,Bool.false_and]
def Hu (l:List Pt) (x:Pt):Int:=bR (fun y=>decide (x=y)) l
theorem DS (l:List Pt) (x:Pt):decide (0≤Hu l x)=decide (x∈l):=by
 unfold Hu;rw [dx,Bool.eq_iff_iff];simp [-Prod.exists, -Prod.forall]
theorem xV (ps:List Pt) (x:Pt) (hl:ps.length≤9223372036854775807):
 Spec Tryz.prog 182 (Args [.d (sP ps),eP x]) [] (eN (Hu ps x)) []:=by
 (refine Spec.hd (C:=T.cfg [] []) (rs:= [.t 4]) (T.ai _ _) Tryz.func182 rfl rfl Tryz.ntmps182 Tryz.results182 (by simp [AObj.isNest]) (by simp [AObj.isNest]) (by kernel_rfl) T.mixed fun X hX hP hC aF bY=> ?_)
 repeat' (first|refine Rn.p ?_|(with_reducible apply And.intro)|((first|(refine hK _ ?_;clear hK K)|with_reducible intro K hK|refine Rs.p ?_|((with_reducible first|apply oP|apply oQ);exact rfl));try simp only [go_sem,simprocAttr])|((with_reducible refine oD ?_ ?_);kernel_rfl)|((with_reducible intro h);try simp only [go_sem,simprocAttr] at h)|omega|intro h)
 refine ag (fun k:Nat=>k≤ps.length∧∀j,j<k→decide (x=ps.getD j (0,0))=false) (fun k=>⟨[(0, .d (sP ps)),(3, .ptr 3 0),(7,eN ps.length),(8,eN k)], [(3, .box [eN x.1,eN x.2])]⟩) (fun k=>ps.length - k) 0 (by simp) ?_ ?_
 ·(refine Le.of ?_ ?_<;>simp [go_sem,simprocAttr])
 rintro k ⟨hk,hg⟩
 repeat' (first|refine Rn.p ?_|(with_reducible apply And.intro)|((first|(refine hK _ ?_;clear hK K)|with_reducible intro K hK|refine Rs.p ?_|((with_reducible first|apply oP|apply oQ);exact rfl));try simp only [go_sem,simprocAttr,iU])|((with_reducible refine oD ?_ ?_);kernel_rfl)|((with_reducible intro h);try simp only [go_sem,simprocAttr,iU] at h)|omega|intro h)
 ·exact (bW (d:=(0,0)) (by omega) hg (by simpa using h)).symm
 ·refine ⟨k+1,⟨by omega,fun j hj=> ?_⟩, ?_,by omega⟩
  ·by_cases hjk:j=k
   ·subst hjk;exact h
   ·simpa using hg j (by omega)
  ·(refine Le.of ?_ ?_<;>simp [go_sem,simprocAttr,iU])
 ·exact (bD (0,0) fun j hj=>hg j (by omega)).symm
theorem sR (ps:List Pt) (x:Pt) (hl:ps.length≤9223372036854775807):
 Spec Tryz.prog 139 (Args [.d (sP ps),eP x]) [] (eB (decide (x∈ps))) []:=by
 rw [← DS]
 (refine Spec.hd (C:=T.cfg [] []) (rs:= [.t 4]) (T.ai _ _) Tryz.func139 rfl rfl Tryz.ntmps139 Tryz.results139 (by simp [AObj.isNest]) (by simp [AObj.isNest]) (by kernel_rfl) T.mixed fun X hX hP hC aF bY=> ?_)
 repeat' (first|refine Rn.p ?_|(with_reducible apply And.intro)|((first|(refine hK _ ?_;clear hK K)|with_reducible intro K hK|refine Rs.p ?_|((with_reducible first|apply oP|apply oQ);exact rfl)|refine aa hX hC hP (xV ps x hl) rfl rfl rfl (by simp only [go_sem,simprocAttr]) rfl ?_);try simp only [go_sem,simprocAttr])|((with_reducible refine oD ?_ ?_);kernel_rfl)|((with_reducible intro h);try simp only [go_sem,simprocAttr] at h)|omega|intro h)
def eo (d:Dr) (x:Nat):Bool:= !decide (d.pts.getD x (0,0)∈d.pts.take x)
theorem zq (g:Gr) (d:Dr) (h:qz g d) (x:Nat) (hx:x<d.pts.length):Spec Tryz.prog 93 (Args [.ptr 10000 0,eN x]) [(10000,lkO g d)] (eB (eo d x)) [(10000,lkO g d)]:=by
 have hn:=bM h.may
 have hnp:=h.np
 have hl:(d.pts.take x).length≤9223372036854775807:=by rw [List.length_take];omega
 unfold lkO
 (refine Spec.hd (C:=T.cfg [] []) (rs:= [.t 4]) (T.ai _ _) Tryz.func93 rfl rfl Tryz.ntmps93 Tryz.results93 (by simp [AObj.isNest]) (by simp [AObj.isNest]) (by kernel_rfl) T.mixed fun X hX hP hC aF bY=> ?_)
 repeat' (first|refine Rn.p ?_|(with_reducible apply And.intro)|((first|(refine hK _ ?_;clear hK K)|with_reducible intro K hK|refine Rs.p ?_|((with_reducible first|apply oP|apply oQ);exact rfl)|refine aa hX hC hP (sR (d.pts.take x) (d.pts.getD x (0,0)) hl) rfl rfl rfl (by simp only [go_sem,simprocAttr, ← List.map_take]) rfl ?_);try simp only [go_sem,simprocAttr, ← List.map_take])|((with_reducible refine oD ?_ ?_);kernel_rfl)|((with_reducible intro h);try simp only [go_sem,simprocAttr, ← List.map_take] at h)|omega|intro h)
 rfl
def lJ (g:Gr) (d:Dr) (i k:Nat):Bool:=(List.range k).all fun x=>decide ((x:Int)=(g.es.getD i (0,0)).1)||decide ((x:Int)=(g.es.getD i (0,0)).2)|| !Ht (d.ls.getD i []) (d.pts.getD x (0,0))
def jI (g:Gr) (d:Dr) (i:Nat):Bool:=lJ g d i d.pts.length
theorem sS {g:Gr} {d:Dr} {i k:Nat} :lJ g d i (k+1)=(lJ g d i k&&(decide ((k:Int)=(g.es.getD i (0,0)).1)||decide ((k:Int)=(g.es.getD i (0,0)).2)|| !Ht (d.ls.getD i []) (d.pts.getD k (0,0)))):=by
 simp [lJ,List.range_succ]
theorem oR {n k:Nat} {f:Nat→Bool} (hk:k<n) (h:f k=false):(List.range n).all f=false:=by
 rw [List.all_eq_false];exact ⟨k,List.mem_range.2 hk,by simp [h]⟩
theorem free_spec (g:Gr) (d:Dr) (h:qz g d) (i:Nat) (hi:i<g.es.length):Spec Tryz.prog 94 (Args [.ptr 10000 0,eN i]) [(10000,lkO g d)] (eB (jI g d i)) [(10000,lkO g d)]:=by
 have hn:=bM h.may
 have hnp:=h.np
 have hnl:=h.nl
 obtain ⟨h2,h8⟩:=h.line hi
 have h1:1≤(d.ls.getD i []).length:=by omega
 have hl:(d.ls.getD i []).length≤1000000:=by omega
 unfold lkO
 (refine Spec.hd (C:=T.cfg [] []) (rs:= [.t 4]) (T.ai _ _) Tryz.func94 rfl rfl Tryz.ntmps94 Tryz.results94 (by simp [AObj.isNest]) (by simp [AObj.isNest]) (by kernel_rfl) T.mixed fun X hX hP hC aF bY=> ?_)
 repeat' (first|refine Rn.p ?_|(with_reducible apply And.intro)|((first|(refine hK _ ?_;clear hK K)|with_reducible intro K hK|refine Rs.p ?_|((with_reducible first|apply oP|apply oQ);exact rfl));try simp only [go_sem,simprocAttr])|((with_reducible refine oD ?_ ?_);kernel_rfl)|((with_reducible intro h);try simp only [go_sem,simprocAttr] at h)|omega|intro h)
 refine ag (fun k:Nat=>k≤d.pts.length∧lJ g d i k=true) (fun k=>⟨[(0, .ptr 10000 0),(1,eN i),(5, .ptr 5 0),(20, .d (sP d.pts)),(21,eN d.pts.length),(22,eN k)], [(5, .box [eN (g.es.getD i (0,0)).1,eN (g.es.getD i (0,0)).2]),(10000,lkO g d)]⟩) (fun k=>d.pts.length - k) 0 (by simp [lJ]) ?_ ?_
 ·(refine Le.of ?_ ?_<;>simp [go_sem,simprocAttr])
 rintro k ⟨hk,hf⟩
 rcases Nat.lt_or_ge k d.pts.length with hlt|hge
 ·have hb:decide ((k:Int)<(d.pts.length:Int))=true:=decide_eq_true (by omega)
  have ga:=sS (g:=g) (d:=d) (i:=i) (k:=k)
  rw [hf,Bool.true_and] at ga
  repeat' (first|refine Rn.p ?_|(with_reducible apply And.intro)|((first|(refine hK _ ?_;clear hK K)|with_reducible intro K hK|refine Rs.p ?_|((with_reducible first|apply oP|apply oQ);exact rfl)|refine aa hX hC hP (uD (d.ls.getD i []) (d.pts.getD k (0,0)) h1 hl) rfl rfl rfl (by simp only [go_sem,simprocAttr,hb]) rfl ?_);try simp only [go_sem,simprocAttr,hb])|((with_reducible refine oD ?_ ?_);kernel_rfl)|((with_reducible intro h);try simp only [go_sem,simprocAttr,hb] at h)|omega|intro h)
  ·rw [jI,lJ]
   refine (oR hlt ?_).symm
   simp only [*,decide_false,Bool.or_false,Bool.false_or,Bool.not_true]
  all_goals (
   refine ⟨k+1,⟨by omega, ?_⟩, ?_,by omega⟩
   ·rw [ga];simp only [*,decide_true,Bool.true_or,Bool.or_true,Bool.not_false]
   ·(refine Le.of ?_ ?_<;>simp [go_sem,simprocAttr,hb]))
 ·have hb:decide ((k:Int)<(d.pts.length:Int))=false:=decide_eq_false (by omega)
  obtain rfl:k=d.pts.length:=by omega
  repeat' (first|refine Rn.p ?_|(with_reducible apply And.intro)|((first|(refine hK _ ?_;clear hK K)|with_reducible intro K hK|refine Rs.p ?_|((with_reducible first|apply oP|apply oQ);exact rfl)|refine aa hX hC hP (uD (d.ls.getD i []) (d.pts.getD k (0,0)) h1 hl) rfl rfl rfl (by simp only [go_sem,simprocAttr,hb]) rfl ?_);try simp only [go_sem,simprocAttr,hb])|((with_reducible refine oD ?_ ?_);kernel_rfl)|((with_reducible intro h);try simp only [go_sem,simprocAttr,hb] at h)|omega|intro h)
  ·exact hf.symm
end Go.Ab
end
section
namespace Go.Ab
open Go.Proofs
attribute [local congr] ACall.congr gd.congr Nx.congr
set_option maxRecDepth 10000
def DT (e:Edge) (x:Int):Bool:=decide (x=e.1)||decide (x=e.2)
def oS (g:Gr) (d:Dr) (i k:Nat) (m:Nat):List Pt:=(([(g.es.getD i (0,0)).1,(g.es.getD i (0,0)).2].take m).filter (DT (g.es.getD k (0,0)))).map fun x=>d.pts.getD x.toNat (0,0)
def gb (g:Gr) (d:Dr) (i k:Nat):List Pt:=oS g d i k 2
theorem DU {g:Gr} {d:Dr} {i k:Nat} :(gb g d i k).length≤2:=by
 unfold gb oS
 rw [List.length_map]
 exact Nat.le_trans (List.length_filter_le _ _) (by simp)
theorem DV {g:Gr} {d:Dr} {i k m:Nat} :(oS g d i k m).length≤2:=by
 unfold oS
 rw [List.length_map]
 refine Nat.le_trans (List.length_filter_le _ _) ?_
 rw [List.length_take];simp;omega
theorem Hv {g:Gr} {d:Dr} {i k:Nat} :oS g d i k 1=oS g d i k 0++if (g.es.getD i (0,0)).1=(g.es.getD k (0,0)).1∨(g.es.getD i (0,0)).1=(g.es.getD k (0,0)).2 then [d.pts.getD (g.es.getD i (0,0)).1.toNat (0,0)] else []:=by
 simp only [oS,List.take_succ_cons,List.take_zero,List.filter_nil,List.map_nil,List.nil_append,List.filter_cons,DT,Bool.or_eq_true,decide_eq_true_eq]
 split<;>rfl
theorem Hw {g:Gr} {d:Dr} {i k:Nat} :oS g d i k 2=oS g d i k 1++if (g.es.getD i (0,0)).2=(g.es.getD k (0,0)).1∨(g.es.getD i (0,0)).2=(g.es.getD k (0,0)).2 then [d.pts.getD (g.es.getD i (0,0)).2.toNat (0,0)] else []:=by
 simp only [oS,List.take_succ_cons,List.take_zero,List.filter_nil,List.map_nil,List.nil_append,List.filter_cons,DT,Bool.or_eq_true,decide_eq_true_eq]
 split<;>split<;>rfl
theorem qn (g:Gr) (d:Dr) (h:qz g d) (i k:Nat) (hi:i<g.es.length) (hk:k<g.es.length):Spec Tryz.prog 141 (Args [.ptr 10000 0,eN i,eN k]) [(10000,lkO g d)] (.d (sP (gb g d i k))) [(10000,lkO g d)]:=by
 have hn:=bM h.may
 have hnp:=h.np
 obtain ⟨⟨Dz,pg⟩,vm,rz⟩:=dZ h.may hi
 obtain ⟨⟨EW,Bc⟩,hk2,KB⟩:=dZ h.may hk
 unfold lkO
 (refine Spec.hd (C:=T.cfg [] []) (rs:= [.t 6]) (T.ai _ _) Tryz.func141 rfl rfl Tryz.ntmps141 Tryz.results141 (by simp [AObj.isNest]) (by simp [AObj.isNest]) (by kernel_rfl) T.mixed fun X hX hP hC aF bY=> ?_)
 repeat' (first|refine Rn.p ?_|(with_reducible apply And.intro)|((first|(refine hK _ ?_;clear hK K)|with_reducible intro K hK|refine Rs.p ?_|((with_reducible first|apply oP|apply oQ);exact rfl));try simp only [go_sem,simprocAttr])|((with_reducible refine oD ?_ ?_);kernel_rfl)|((with_reducible intro h);try simp only [go_sem,simprocAttr] at h)|omega|intro h)
 (refine j5 hX 6 55 (.tip 71 2 []) (by simp only [go_sem,simprocAttr]) (by simp only [go_sem,simprocAttr]) (by decide) ⟨71,2,by decide, .inr rfl⟩ ?_;simp only [go_sem,simprocAttr])
 refine ag (fun m:Nat=>m≤2) (fun m=>⟨[(0, .ptr 10000 0),(8, .ptr 8 0),(31, .agg [eN (g.es.getD i (0,0)).1,eN (g.es.getD i (0,0)).2]),(32,eN m),(6, .ref 55)], [(55, .tip 71 2 ((oS g d i k m).map rP)),(8, .box [eN (g.es.getD k (0,0)).1,eN (g.es.getD k (0,0)).2]),(10000,lkO g d)]⟩) (fun m=>2 - m) 0 (by omega) ?_ ?_
 ·refine Le.of ?_ ?_<;>simp [go_sem,simprocAttr,oS]
 rintro m hm
 have hlen:=DV (g:=g) (d:=d) (i:=i) (k:=k) (m:=m)
 match m,hm with
 |0,_=>
  have hx:=Hv (g:=g) (d:=d) (i:=i) (k:=k)
  repeat' (first|refine Rn.p ?_|(with_reducible apply And.intro)|((first|(refine hK _ ?_;clear hK K)|with_reducible intro K hK|refine Rs.p ?_|((with_reducible first|apply oP|apply oQ);exact rfl));try simp only [go_sem,simprocAttr])|((with_reducible refine oD ?_ ?_);kernel_rfl)|((with_reducible intro h);try simp only [go_sem,simprocAttr] at h)|omega|intro h)
  all_goals (refine ⟨1,by omega, ?_,by omega⟩;first|rw [if_pos (by omega)] at hx|rw [if_neg (by omega)] at hx)
  all_goals (refine Le.of ?_ ?_<;>simp [go_sem,simprocAttr,hx,rP])
 |1,_=>
  have hx:=Hw (g:=g) (d:=d) (i:=i) (k:=k)
  repeat' (first|refine Rn.p ?_|(with_reducible apply And.intro)|((first|(refine hK _ ?_;clear hK K)|with_reducible intro K hK|refine Rs.p ?_|((with_reducible first|apply oP|apply oQ);exact rfl));try simp only [go_sem,simprocAttr])|((with_reducible refine oD ?_ ?_);kernel_rfl)|((with_reducible intro h);try simp only [go_sem,simprocAttr] at h)|omega|intro h)
  all_goals (refine ⟨2,by omega, ?_,by omega⟩;first|rw [if_pos (by omega)] at hx|rw [if_neg (by omega)] at hx)
  all_goals (refine Le.of ?_ ?_<;>simp [go_sem,simprocAttr,hx,rP])
 |2,_=>
  repeat' (first|refine Rn.p ?_|(with_reducible apply And.intro)|((first|(refine hK _ ?_;clear hK K)|with_reducible intro K hK|refine Rs.p ?_|((with_reducible first|apply oP|apply oQ);exact rfl));try simp only [go_sem,simprocAttr])|((with_reducible refine oD ?_ ?_);kernel_rfl)|((with_reducible intro h);try simp only [go_sem,simprocAttr] at h)|omega|intro h)
  rfl
 |m+3,hm=>omega
theorem oT {α:Type} {f:α→Bool} {xs:List α} (d:α) {k:Nat} (h1:k<xs.length) (h:(xs.take k).all f=true) (he:f (xs.getD k d)=true):(xs.take (k+1)).all f=true:=by
 rw [List.take_add_one,List.all_append,h,List.getElem?_eq_getElem h1]
 simp only [List.getD_eq_getElem?_getD,List.getElem?_eq_getElem h1,Option.getD_some] at he
 simp [he]
theorem jc {α:Type} {f:α→Bool} {xs:List α} {d:α} {k:Nat} (h1:k<xs.length) (he:f (xs.getD k d)=false):xs.all f=false:=by
 rw [List.all_eq_false]
 exact ⟨_,aO h1,by rw [he];simp⟩
def robQ2 (a b:Pc):List (Nat × AObj):= [(10000, .rob [eN a.1.1,eN a.1.2,eN a.2.1,eN a.2.2]),(10001, .rob [eN b.1.1,eN b.1.2,eN b.2.1,eN b.2.2])]
theorem DW (a b:Pc):aI (robQ2 a b):=⟨by simp [robQ2,AObj.ro],by simp [robQ2,nodupM,look],by simp [robQ2],by simp [robQ2,AObj.ids,AV.ids,AV.idss,eN]⟩
attribute [go_sem] robQ2
theorem xW (a b:Pc) (p:Pt):Spec Tryz.prog 143 (Args [eP p, .ptr 10000 0, .ptr 10001 0]) (robQ2 a b) (eB (oz a.1 a.2 p&&oz b.1 b.2 p)) (robQ2 a b):=by
 unfold robQ2
 (refine Spec.hd (C:=T.cfg [] []) (rs:= [.t 4]) (T.ai _ _) Tryz.func143 rfl rfl Tryz.ntmps143 Tryz.results143 (by simp [AObj.isNest]) (by simp [AObj.isNest]) (by kernel_rfl) T.mixed fun X hX hP hC aF bY=> ?_)
 repeat' (first|refine Rn.p ?_|(with_reducible apply And.intro)|((first|(refine hK _ ?_;clear hK K)|with_reducible intro K hK|refine Rs.p ?_|((with_reducible first|apply oP|apply oQ);exact rfl)|refine aa hX hC hP (vK a.1 a.2 p) rfl rfl rfl (by simp only [go_sem,simprocAttr]) rfl ?_|refine aa hX hC hP (vK b.1 b.2 p) rfl rfl rfl (by simp only [go_sem,simprocAttr]) rfl ?_);try simp only [go_sem,simprocAttr])|((with_reducible refine oD ?_ ?_);kernel_rfl)|((with_reducible intro h);try simp only [go_sem,simprocAttr] at h)|omega|intro h)
 all_goals simp [*]
def fS (es:List Pt) (a b:Pc):Bool:=decide (1<fP a.1 a.2 b.1 b.2)||(decide (fP a.1 a.2 b.1 b.2=1)&& !es.any fun p=>oz a.1 a.2 p&&oz b.1 b.2 p)
def iF (g:Gr) (d:Dr) (i m:Nat):Bool:=(List.range m).all fun k=>(eS (d.ls.getD i [])).all fun a=>(eS (d.ls.getD k [])).all fun b=> !fS (gb g d i k) a b
def gv (g:Gr) (d:Dr) (i:Nat):Bool:=iF g d i i
theorem qo {g:Gr} {d:Dr} {i m:Nat} :iF g d i (m+1)=(iF g d i m&&(eS (d.ls.getD i [])).all fun a=>(eS (d.ls.getD m [])).all fun b=> !fS (gb g d i m) a b):=by
 simp [iF,List.range_succ]
theorem apart_spec (g:Gr) (d:Dr) (hD:qz g d) (i:Nat) (hi:i<g.es.length):Spec Tryz.prog 95 (Args [.ptr 10000 0,eN i]) [(10000,lkO g d)] (eB (gv g d i)) [(10000,lkO g d)]:=by
 have hn:=bM hD.may
 have hnp:=hD.np
 have hnl:=hD.nl
 obtain ⟨h2,h8⟩:=hD.line hi
 have h1:1≤(d.ls.getD i []).length:=by omega
 have hl:(d.ls.getD i []).length≤1000000:=by omega
 have fH:(eS (d.ls.getD i [])).length=(d.ls.getD i []).length - 1:=ef
 unfold lkO
 (refine Spec.hd (C:=T.cfg [] []) (rs:= [.t 4]) (T.ai _ _) Tryz.func95 rfl rfl Tryz.ntmps95 Tryz.results95 (by simp [AObj.isNest]) (by simp [AObj.isNest]) (by kernel_rfl) T.mixed fun X hX hP hC aF bY=> ?_)
 repeat' (first|refine Rn.p ?_|(with_reducible apply And.intro)|((first|(refine hK _ ?_;clear hK K)|with_reducible intro K hK|refine Rs.p ?_|((with_reducible first|apply oP|apply oQ);exact rfl));try simp only [go_sem,simprocAttr])|((with_reducible refine oD ?_ ?_);kernel_rfl)|((with_reducible intro h);try simp only [go_sem,simprocAttr] at h)|omega|intro h)
 refine ag (fun k:Nat=>k≤i∧iF g d i k=true) (fun k=>⟨[(0, .ptr 10000 0),(1,eN i),(13,eN i),(14,eN k)], [(10000,lkO g d)]⟩) (fun k=>i - k) 0 (by simp [iF]) ?_ ?_
 ·(refine Le.of ?_ ?_<;>simp [go_sem,simprocAttr])
 rintro k ⟨hk,hf⟩
 rcases Nat.lt_or_ge k i with hlt|hge
 ·have hb:decide ((k:Int)<(i:Int))=true:=decide_eq_true (by omega)
  have cq:k<g.es.length:=by omega
  obtain ⟨Fk,Qq⟩:=hD.line cq
  have yO:1≤(d.ls.getD k []).length:=by omega
  have hl':(d.ls.getD k []).length≤1000000:=by omega
  have tR:(eS (d.ls.getD k [])).length=(d.ls.getD k []).length - 1:=ef
  have gY:(gb g d i k).length≤9223372036854775807:=by have:=DU (g:=g) (d:=d) (i:=i) (k:=k);omega
  have ga:=qo (g:=g) (d:=d) (i:=i) (m:=k)
  rw [hf,Bool.true_and] at ga
  repeat' (first|refine Rn.p ?_|(with_reducible apply And.intro)|((first|(refine hK _ ?_;clear hK K)|with_reducible intro K hK|refine Rs.p ?_|((with_reducible first|apply oP|apply oQ);exact rfl)|(first|(refine az hX hC hP (vV g d) (qn g d hD i k hi cq) rfl rfl rfl ?_ ?_ rfl rfl ?_;(focus (simp only [go_sem,simprocAttr,hb];done));(focus (first|(intro p hp;exact au (aI.nd (vV g d)) hp)|(simp [go_sem,simprocAttr,hb];done))))|(refine az hX hC hP (vV g d) (qn g d hD i k hi cq) rfl rfl rfl ?_ ?_ ?_ rfl ?_;(focus (simp only [go_sem,simprocAttr,hb];done));(focus (first|(intro p hp;exact au (aI.nd (vV g d)) hp)|(simp [go_sem,simprocAttr,hb];done)));(focus (simp [go_sem,simprocAttr,hb];done))))|refine aa hX hC hP (jb (d.ls.getD i []) h1 hl) rfl rfl rfl (by simp only [go_sem,simprocAttr,hb]) rfl ?_);try simp only [go_sem,simprocAttr,hb])|((with_reducible refine oD ?_ ?_);kernel_rfl)|((with_reducible intro h);try simp only [go_sem,simprocAttr,hb] at h)|omega|intro h)
  refine ag (fun s:Nat=>s≤(eS (d.ls.getD i [])).length∧((eS (d.ls.getD i [])).take s).all (fun a=>(eS (d.ls.getD k [])).all fun b=> !fS (gb g d i k) a b)=true) (fun s=>⟨[(0, .ptr 10000 0),(1,eN i),(13,eN i),(14,eN k),(5,eN k),(6, .d (sP (gb g d i k))),(29, .d (sQ (eS (d.ls.getD i [])))),(30,eN (eS (d.ls.getD i [])).length),(31,eN s)], [(10000,lkO g d)]⟩) (fun s=>(eS (d.ls.getD i [])).length - s) 0 (by simp) ?_ ?_
  ·(refine ⟨bz ?_,fun _ _ h=>h⟩;simp [go_sem,simprocAttr,hb])
  rintro s ⟨hs,Gs⟩
  rcases Nat.lt_or_ge s (eS (d.ls.getD i [])).length with Bd|H7
  ·have aJ:decide ((s:Int)<((eS (d.ls.getD i [])).length:Int))=true:=decide_eq_true (by omega)
   obtain ⟨a,ha⟩:∃a,a=(eS (d.ls.getD i [])).getD s ((0,0),(0,0)):=⟨_,rfl⟩
   repeat' (first|refine Rn.p ?_|(with_reducible apply And.intro)|((first|(refine hK _ ?_;clear hK K)|with_reducible intro K hK|refine Rs.p ?_|((with_reducible first|apply oP|apply oQ);exact rfl)|refine aa hX hC hP (jb (d.ls.getD k []) yO hl') rfl rfl rfl (by simp only [go_sem,simprocAttr,aJ, ← ha]) rfl ?_);try simp only [go_sem,simprocAttr,aJ, ← ha])|((with_reducible refine oD ?_ ?_);kernel_rfl)|((with_reducible intro h);try simp only [go_sem,simprocAttr,aJ, ← ha] at h)|omega|intro h)
   refine ag (fun t:Nat=>t≤(eS (d.ls.getD k [])).length∧((eS (d.ls.getD k [])).take t).all (fun b=> !fS (gb g d i k) a b)=true) (fun t=>⟨[(0, .ptr 10000 0),(1,eN i),(13,eN i),(14,eN k),(5,eN k),(6, .d (sP (gb g d i k))),(29, .d (sQ (eS (d.ls.getD i [])))),(30,eN (eS (d.ls.getD i [])).length),(31,eN s),(8, .ptr 8 0),(43, .d (sQ (eS (d.ls.getD k [])))),(44,eN (eS (d.ls.getD k [])).length),(45,eN t)], [(8, .box [eN a.1.1,eN a.1.2,eN a.2.1,eN a.2.2]),(10000,lkO g d)]⟩) (fun t=>(eS (d.ls.getD k [])).length - t) 0 (by simp) ?_ ?_
   ·(refine Le.of ?_ ?_<;>simp [go_sem,simprocAttr,aJ, ← ha])
   rintro t ⟨ht,Gt⟩
   rcases Nat.lt_or_ge t (eS (d.ls.getD k [])).length with pF|Nu
   ·have aK:decide ((t:Int)<((eS (d.ls.getD k [])).length:Int))=true:=decide_eq_true (by omega)
    obtain ⟨b,mQ⟩:∃b,b=(eS (d.ls.getD k [])).getD t ((0,0),(0,0)):=⟨_,rfl⟩
    have mY:fS (gb g d i k) a b=(decide (1<fP a.1 a.2 b.1 b.2)||(decide (fP a.1 a.2 b.1 b.2=1)&& !(gb g d i k).any fun p=>oz a.1 a.2 p&&oz b.1 b.2 p)):=rfl
    have hno:fS (gb g d i k) a b=true→gv g d i=false:=fun hb=>oR hlt (jc (d:=((0,0),(0,0))) Bd (by rw [← ha];exact jc (d:=((0,0),(0,0))) pF (by rw [← mQ,hb];rfl)))
    repeat' (first|refine Rn.p ?_|(with_reducible apply And.intro)|((first|(refine hK _ ?_;clear hK K)|with_reducible intro K hK|refine Rs.p ?_|((with_reducible first|apply oP|apply oQ);exact rfl)|refine aa hX hC hP (BI a.1 a.2 b.1 b.2) rfl rfl rfl (by simp only [go_sem,simprocAttr,aK, ← mQ]) rfl ?_|(refine aS hX hC hP [(10000,8),(10001,10)] (mH (DW a b) _ _ (fun p=>oz a.1 a.2 p&&oz b.1 b.2 p) (gb g d i k) (fun p _=>xW a b p) gY) rfl rfl rfl ?_ ?_ ?_ ?_ ?_ ?_ rfl rfl ?_ ?_;(focus (simp only [go_sem,simprocAttr,aK, ← mQ];done));(iterate 6 (focus (simp [go_sem,simprocAttr,aK, ← mQ];done)));try simp only [List.map_cons,List.map_nil]));try simp only [go_sem,simprocAttr,aK, ← mQ])|((with_reducible refine oD ?_ ?_);kernel_rfl)|((with_reducible intro h);try simp only [go_sem,simprocAttr,aK, ← mQ] at h)|omega|intro h)
    all_goals first
     |(refine (hno ?_).symm;rw [mY];simp only [decide_eq_true_eq,Bool.or_eq_true,Bool.and_eq_true,Bool.not_eq_true'];first|exact .inl (by assumption)|exact .inr ⟨by assumption,by assumption⟩)
     |(have FI:fS (gb g d i k) a b=false:=(by rw [mY];simp only [Bool.or_eq_false_iff,decide_eq_false_iff_not,Bool.and_eq_false_iff,Bool.not_eq_false'];first|exact ⟨by omega, .inl (by assumption)⟩|exact ⟨by omega, .inr (by assumption)⟩)
       refine ⟨t+1,⟨by omega,oT ((0,0),(0,0)) pF Gt (by rw [← mQ,FI];rfl)⟩, ?_,by omega⟩
       (refine Le.of ?_ ?_<;>simp [go_sem,simprocAttr,aK, ← mQ]))
   ·have aK:decide ((t:Int)<((eS (d.ls.getD k [])).length:Int))=false:=decide_eq_false (by omega)
    rw [List.take_of_length_le Nu] at Gt
    repeat' (first|refine Rn.p ?_|(with_reducible apply And.intro)|((first|(refine hK _ ?_;clear hK K)|with_reducible intro K hK|refine Rs.p ?_|((with_reducible first|apply oP|apply oQ);exact rfl));try simp only [go_sem,simprocAttr,aK])|((with_reducible refine oD ?_ ?_);kernel_rfl)|((with_reducible intro h);try simp only [go_sem,simprocAttr,aK] at h)|omega|intro h)
    refine ⟨s+1,⟨by omega,oT ((0,0),(0,0)) Bd Gs (by rw [← ha];exact Gt)⟩, ?_,by omega⟩
    (refine Le.of ?_ ?_<;>simp [go_sem,simprocAttr,aK])
  ·have aJ:decide ((s:Int)<((eS (d.ls.getD i [])).length:Int))=false:=decide_eq_false (by omega)
   rw [List.take_of_length_le H7] at Gs
   repeat' (first|refine Rn.p ?_|(with_reducible apply And.intro)|((first|(refine hK _ ?_;clear hK K)|with_reducible intro K hK|refine Rs.p ?_|((with_reducible first|apply oP|apply oQ);exact rfl));try simp only [go_sem,simprocAttr,aJ])|((with_reducible refine oD ?_ ?_);kernel_rfl)|((with_reducible intro h);try simp only [go_sem,simprocAttr,aJ] at h)|omega|intro h)
   refine ⟨k+1,⟨by omega,by rw [ga];exact Gs⟩, ?_,by omega⟩
   (refine Le.of ?_ ?_<;>simp [go_sem,simprocAttr,aJ])
 ·have hb:decide ((k:Int)<(i:Int))=false:=decide_eq_false (by omega)
  obtain rfl:k=i:=by omega
  repeat' (first|refine Rn.p ?_|(with_reducible apply And.intro)|((first|(refine hK _ ?_;clear hK K)|with_reducible intro K hK|refine Rs.p ?_|((with_reducible first|apply oP|apply oQ);exact rfl));try simp only [go_sem,simprocAttr,hb])|((with_reducible refine oD ?_ ?_);kernel_rfl)|((with_reducible intro h);try simp only [go_sem,simprocAttr,hb] at h)|omega|intro h)
  exact hf.symm
end Go.Ab
end
section
namespace Go.Ab
open Go.Proofs
attribute [local congr] ACall.congr gd.congr Nx.congr
set_option maxRecDepth 10000
def bE (n:Nat) (holds:Nat→Bool):Int:=bR (fun i=> !holds i) (List.range n)
theorem iG {m:List (Nat × AObj)} (hR:aI m) (f:Nat) (fs caps:List AV) (holds:Nat→Bool) (n:Nat) (hl:n≤9223372036854775807) (hf:∀i:Nat,i<n→Spec Tryz.prog f (Args (fs++eN i::caps)) m (eB (holds i)) m):
 Spec Tryz.prog 90 (Args [eN n, .fn f fs caps]) m (eN (bE n holds)) m:=by
 (refine Spec.hd (C:=T.cfg [] []) (rs:= [.t 4]) (T.ai _ _) Tryz.func90 rfl rfl Tryz.ntmps90 Tryz.results90 (fun p hp=>⟨(aI.low hR p hp).1,aI.nest hR p hp⟩) (fun p hp=>⟨(aI.low hR p hp).2,aI.nest hR p hp⟩) (by kernel_rfl) T.mixed fun X hX hP hC aF bY=> ?_)
 repeat' (first|refine Rn.p ?_|(with_reducible apply And.intro)|((first|(refine hK _ ?_;clear hK K)|with_reducible intro K hK|refine Rs.p ?_|((with_reducible first|apply oP|apply oQ);exact rfl));try simp only [go_sem,simprocAttr])|((with_reducible refine oD ?_ ?_);kernel_rfl)|((with_reducible intro h);try simp only [go_sem,simprocAttr] at h)|omega|intro h)
 refine ag (fun k:Nat=>k≤n∧∀j,j<k→holds j=true) (fun k=>⟨[(1, .fn f fs caps),(6,eN n),(7,eN k)],m⟩) (fun k=>n - k) 0 (by simp) ?_ ?_
 ·(refine ⟨bz ?_,fun _ _ h=>h⟩;simp [go_sem,simprocAttr])
 rintro k ⟨hk,hg⟩
 rcases Nat.lt_or_ge k n with hlt|hge
 ·have hb:decide ((k:Int)<(n:Int))=true:=decide_eq_true (by omega)
  have hf':=hf k hlt
  repeat' (first|refine Rn.p ?_|(with_reducible apply And.intro)|((first|(refine hK _ ?_;clear hK K)|with_reducible intro K hK|refine Rs.p ?_|((with_reducible first|apply oP|apply oQ);exact rfl)|(first|(refine az hX hC hP hR (hf') rfl rfl rfl ?_ ?_ rfl rfl ?_;(focus (simp only [go_sem,simprocAttr,hb];done));(focus (first|(intro p hp;exact au (aI.nd hR) hp)|(simp [go_sem,simprocAttr,hb];done))))|(refine az hX hC hP hR (hf') rfl rfl rfl ?_ ?_ ?_ rfl ?_;(focus (simp only [go_sem,simprocAttr,hb];done));(focus (first|(intro p hp;exact au (aI.nd hR) hp)|(simp [go_sem,simprocAttr,hb];done)));(focus (simp [go_sem,simprocAttr,hb];done)))));try simp only [go_sem,simprocAttr,hb])|((with_reducible refine oD ?_ ?_);kernel_rfl)|((with_reducible intro h);try simp only [go_sem,simprocAttr,hb] at h)|omega|intro h)
  ·refine (bW (d:=0) (by simpa using hlt) (fun j hj=> ?_) ?_).symm
   ·rw [cA (by omega),hg j hj];rfl
   ·rw [cA hlt,h];rfl
  ·exact cC hR
  ·refine ⟨k+1,⟨by omega,fun j hj=> ?_⟩, ?_,by omega⟩
   ·by_cases hjk:j=k
    ·subst hjk;exact h
    ·exact hg j (by omega)
   ·(refine ⟨bz ?_,fun _ _ h=>h⟩;simp [go_sem,simprocAttr,hb])
 ·have hb:decide ((k:Int)<(n:Int))=false:=decide_eq_false (by omega)
  repeat' (first|refine Rn.p ?_|(with_reducible apply And.intro)|((first|(refine hK _ ?_;clear hK K)|with_reducible intro K hK|refine Rs.p ?_|((with_reducible first|apply oP|apply oQ);exact rfl)|(first|(refine az hX hC hP hR (hf') rfl rfl rfl ?_ ?_ rfl rfl ?_;(focus (simp only [go_sem,simprocAttr,hb];done));(focus (first|(intro p hp;exact au (aI.nd hR) hp)|(simp [go_sem,simprocAttr,hb];done))))|(refine az hX hC hP hR (hf') rfl rfl rfl ?_ ?_ ?_ rfl ?_;(focus (simp only [go_sem,simprocAttr,hb];done));(focus (first|(intro p hp;exact au (aI.nd hR) hp)|(simp [go_sem,simprocAttr,hb];done)));(focus (simp [go_sem,simprocAttr,hb];done)))));try simp only [go_sem,simprocAttr,hb])|((with_reducible refine oD ?_ ?_);kernel_rfl)|((with_reducible intro h);try simp only [go_sem,simprocAttr,hb] at h)|omega|intro h)
  ·refine (bD 0 fun j hj=> ?_).symm
   rw [List.length_range] at hj
   rw [cA hj,hg j (by omega)];rfl
  ·exact cC hR
def iH (l:List Pt):Bool:=decide (l.length<2)||decide (8<l.length)||l.any lH
theorem vW (l:List Pt) (hl:l.length≤9223372036854775806):Spec Tryz.prog 135 (Args [.d (sP l)]) [] (eB (iH l)) []:=by
 (refine Spec.hd (C:=T.cfg [] []) (rs:= [.t 2]) (T.ai _ _) Tryz.func135 rfl rfl Tryz.ntmps135 Tryz.results135 (by simp [AObj.isNest]) (by simp [AObj.isNest]) (by kernel_rfl) T.mixed fun X hX hP hC aF bY=> ?_)
 repeat' (first|refine Rn.p ?_|(with_reducible apply And.intro)|((first|(refine hK _ ?_;clear hK K)|with_reducible intro K hK|refine Rs.p ?_|((with_reducible first|apply oP|apply oQ);exact rfl)|refine aa hX hC hP (mg l hl) rfl rfl rfl (by simp only [go_sem,simprocAttr]) rfl ?_);try simp only [go_sem,simprocAttr])|((with_reducible refine oD ?_ ?_);kernel_rfl)|((with_reducible intro h);try simp only [go_sem,simprocAttr] at h)|omega|intro h)
 ·have e1:decide (l.length<2)=false:=decide_eq_false (by omega)
  have e2:decide (8<l.length)=false:=decide_eq_false (by omega)
  simp only [iH,e1,e2,Bool.false_or,Bool.not_not]
 ·have e2:decide (8<l.length)=true:=decide_eq_true (by omega)
  simp only [iH,e2,Bool.or_true,Bool.true_or]
 ·have e1:decide (l.length<2)=true:=decide_eq_true (by omega)
  simp only [iH,e1,Bool.true_or]
def eC (d:Dr):Bool:= !d.pts.any lH&& !d.ls.any iH
theorem qp (g:Gr) (d:Dr) (hp:d.pts.length≤9223372036854775806) (hls:d.ls.length≤9223372036854775807) (pM:∀l∈d.ls,l.length≤9223372036854775806):
 Spec Tryz.prog 89 (Args [.ptr 10000 0]) [(10000,lkO g d)] (eB (eC d)) [(10000,lkO g d)]:=by
 unfold lkO
 (refine Spec.hd (C:=T.cfg [] []) (rs:= [.t 2]) (T.ai _ _) Tryz.func89 rfl rfl Tryz.ntmps89 Tryz.results89 (by simp [AObj.isNest]) (by simp [AObj.isNest]) (by kernel_rfl) T.mixed fun X hX hP hC aF bY=> ?_)
 repeat' (first|refine Rn.p ?_|(with_reducible apply And.intro)|((first|(refine hK _ ?_;clear hK K)|with_reducible intro K hK|refine Rs.p ?_|((with_reducible first|apply oP|apply oQ);exact rfl)|refine aa hX hC hP (mg d.pts hp) rfl rfl rfl (by simp only [go_sem,simprocAttr]) rfl ?_|refine aa hX hC hP (mI aI.nil _ [] iH d.ls (fun l hl=>vW l (pM l hl)) hls) rfl rfl rfl (by simp only [go_sem,simprocAttr]) rfl ?_);try simp only [go_sem,simprocAttr])|((with_reducible refine oD ?_ ?_);kernel_rfl)|((with_reducible intro h);try simp only [go_sem,simprocAttr] at h)|omega|intro h)
 all_goals simp only [eC]
 ·have h0:d.pts.any lH=false:=by assumption
  simp only [h0,Bool.not_false,Bool.true_and]
 ·have h0:d.pts.any lH=true:=by assumption
  simp only [h0,Bool.not_true,Bool.false_and]
theorem xX {g:Gr} (h:(cR g).1=0):aY g=true:=by
 cases hm:aY g with
 |true=>rfl
 |false=>simp [cR,gD,hm] at h
theorem sV {d:Dr} (h:eC d=true):∀l∈d.ls,2≤l.length∧l.length≤8:=by
 intro l hl
 simp only [eC,Bool.and_eq_true,Bool.not_eq_true'] at h
 have:=(List.any_eq_false.1 h.2) l hl
 simp only [iH,Bool.or_eq_true,decide_eq_true_eq,not_or] at this
 omega
def gK (g:Gr) (d:Dr):Bool:=decide ((cR g).1=0)&&decide ((d.pts.length:Int)=g.n)&&decide (d.ls.length=g.es.length)
def gL (g:Gr) (d:Dr):Int × Int:=
 if gK g d=false then (1,0) else
 if eC d=false then (2,0) else
 if 0≤bE g.es.length (oO g d) then (6,bE g.es.length (oO g d)) else
 if 0≤bE g.es.length (fun i=>gl (d.ls.getD i [])) then (7,bE g.es.length (fun i=>gl (d.ls.getD i []))) else
 if 0≤bE d.pts.length (eo d) then (8,bE d.pts.length (eo d)) else
 if 0≤bE g.es.length (jI g d) then (9,bE g.es.length (jI g d)) else
 if 0≤bE g.es.length (gv g d) then (17,bE g.es.length (gv g d)) else (0,0)
def eFt (c:Int × Int):AV:= .agg [eN c.1,eN c.2, .d (.sl 1 [])]
attribute [go_sem] eFt
set_option maxHeartbeats 8000000 in
theorem fT (g:Gr) (d:Dr) (wW:g.es.length≤1000) (hp:d.pts.length≤1000) (hls:d.ls.length≤1000) (pM:∀l∈d.ls,l.length≤1000):
 Spec Tryz.prog 43 (Args [eG g,eDr d]) [] (eFt (gL g d)) []:=by
 have IZ:d.pts.length≤9223372036854775806:=by omega
 have DX:d.ls.length≤9223372036854775807:=by omega
 have JF:∀l∈d.ls,l.length≤9223372036854775806:=fun l hl=>by have:=pM l hl;omega
 (refine Spec.hd (C:=T.cfg [] []) (rs:= [.c 4 66]) (T.ai _ _) Tryz.func43 rfl rfl Tryz.ntmps43 Tryz.results43 (by simp [AObj.isNest]) (by simp [AObj.isNest]) (by kernel_rfl) T.mixed fun X hX hP hC aF bY=> ?_)
 cases hfit:gK g d with
 |false=>
  have hc:gL g d=(1,0):=by rw [gL,if_pos hfit]
  have hneg:¬((cR g).1=0∧(d.pts.length:Int)=g.n∧d.ls.length=g.es.length):=fun ⟨a,b,c⟩=>by simp [gK,a,b,c] at hfit
  repeat' (first|refine Rn.p ?_|(with_reducible apply And.intro)|((first|(refine hK _ ?_;clear hK K)|with_reducible intro K hK|refine Rs.p ?_|((with_reducible first|apply oP|apply oQ);exact rfl)|refine aa hX hC hP (nr g wW) rfl rfl rfl (by simp only [go_sem,simprocAttr,hc]) rfl ?_);try simp only [go_sem,simprocAttr,hc])|((with_reducible refine oD ?_ ?_);kernel_rfl)|((with_reducible intro h);try simp only [go_sem,simprocAttr,hc] at h)|omega|intro h)
  all_goals trace_state
 |true=>
  simp only [gK,Bool.and_eq_true,decide_eq_true_eq] at hfit
  obtain ⟨⟨h0,hnp⟩,hnl⟩:=hfit
  have hfit:gK g d=true:=by simp only [gK,h0,hnp,hnl,decide_true,Bool.and_self]
  have hm:=xX h0
  have hn:=bM hm
  have e0:(cR g).1=0:=h0
  cases hr:eC d with
  |false=>
   have hc:gL g d=(2,0):=by rw [gL,if_neg (by rw [hfit];simp),if_pos hr]
   repeat' (first|refine Rn.p ?_|(with_reducible apply And.intro)|((first|(refine hK _ ?_;clear hK K)|with_reducible intro K hK|refine Rs.p ?_|((with_reducible first|apply oP|apply oQ);exact rfl)|refine aa hX hC hP (nr g wW) rfl rfl rfl (by simp only [go_sem,simprocAttr,hc,h0,hnl,hr]) rfl ?_|(refine aS hX hC hP [(10000,14)] (qp g d IZ DX JF) rfl rfl rfl ?_ ?_ ?_ ?_ ?_ ?_ rfl rfl ?_ ?_;(focus (simp only [go_sem,simprocAttr,hc,h0,hnl,hr];done));(iterate 6 (focus (simp [go_sem,simprocAttr,hc,h0,hnl,hr];done)));try simp only [List.map_cons,List.map_nil]));try simp only [go_sem,simprocAttr,hc,h0,hnl,hr])|((with_reducible refine oD ?_ ?_);kernel_rfl)|((with_reducible intro h);try simp only [go_sem,simprocAttr,hc,h0,hnl,hr] at h)|omega|intro h)
  |true=>
  have JG:qz g d:=⟨hm,hnp,hnl,sV hr⟩
  have hle:g.es.length≤9223372036854775807:=by omega
  have hle2:d.pts.length≤9223372036854775807:=by omega
  have fa:Spec Tryz.prog 90 (Args [eN g.n, .fn 93 [.ptr 10000 0] []]) [(10000,lkO g d)] (eN (bE d.pts.length (eo d))) [(10000,lkO g d)]:=by
   rw [← hnp];exact iG (vV g d) _ [.ptr 10000 0] [] (eo d) d.pts.length hle2 (fun i hi=>zq g d JG i hi)
  have hc1:gL g d=if 0≤bE g.es.length (oO g d) then (6,bE g.es.length (oO g d)) else
   if 0≤bE g.es.length (fun i=>gl (d.ls.getD i [])) then (7,bE g.es.length (fun i=>gl (d.ls.getD i []))) else
   if 0≤bE d.pts.length (eo d) then (8,bE d.pts.length (eo d)) else
   if 0≤bE g.es.length (jI g d) then (9,bE g.es.length (jI g d)) else
   if 0≤bE g.es.length (gv g d) then (17,bE g.es.length (gv g d)) else (0,0):=by
   rw [gL,if_neg (by rw [hfit];simp),if_neg (by rw [hr];simp)]
  generalize OO:gL g d=c at hc1 ⊢
  repeat' (first|refine Rn.p ?_|(with_reducible apply And.intro)|((first|(refine hK _ ?_;clear hK K)|with_reducible intro K hK|refine Rs.p ?_|((with_reducible first|apply oP|apply oQ);exact rfl)|refine aa hX hC hP (nr g wW) rfl rfl rfl (by simp only [go_sem,simprocAttr,h0,hnl,hr]) rfl ?_|(refine aS hX hC hP [(10000,14)] (qp g d IZ DX JF) rfl rfl rfl ?_ ?_ ?_ ?_ ?_ ?_ rfl rfl ?_ ?_;(focus (simp only [go_sem,simprocAttr,h0,hnl,hr];done));(iterate 6 (focus (simp [go_sem,simprocAttr,h0,hnl,hr];done)));try simp only [List.map_cons,List.map_nil])|(refine aS hX hC hP [(10000,14)] (iG (vV g d) _ [.ptr 10000 0] [] (oO g d) g.es.length hle (fun i hi=>zo g d JG i hi)) rfl rfl rfl ?_ ?_ ?_ ?_ ?_ ?_ rfl rfl ?_ ?_;(focus (simp only [go_sem,simprocAttr,h0,hnl,hr];done));(iterate 6 (focus (simp [go_sem,simprocAttr,h0,hnl,hr];done)));try simp only [List.map_cons,List.map_nil])|(refine aS hX hC hP [(10000,14)] (iG (vV g d) _ [.ptr 10000 0] [] (fun i=>gl (d.ls.getD i [])) g.es.length hle (fun i hi=>zn g d JG i hi)) rfl rfl rfl ?_ ?_ ?_ ?_ ?_ ?_ rfl rfl ?_ ?_;(focus (simp only [go_sem,simprocAttr,h0,hnl,hr];done));(iterate 6 (focus (simp [go_sem,simprocAttr,h0,hnl,hr];done)));try simp only [List.map_cons,List.map_nil])|(refine aS hX hC hP [(10000,14)] (fa) rfl rfl rfl ?_ ?_ ?_ ?_ ?_ ?_ rfl rfl ?_ ?_;(focus (simp only [go_sem,simprocAttr,h0,hnl,hr];done));(iterate 6 (focus (simp [go_sem,simprocAttr,h0,hnl,hr];done)));try simp only [List.map_cons,List.map_nil])|(refine aS hX hC hP [(10000,14)] (iG (vV g d) _ [.ptr 10000 0] [] (jI g d) g.es.length hle (fun i hi=>free_spec g d JG i hi)) rfl rfl rfl ?_ ?_ ?_ ?_ ?_ ?_ rfl rfl ?_ ?_;(focus (simp only [go_sem,simprocAttr,h0,hnl,hr];done));(iterate 6 (focus (simp [go_sem,simprocAttr,h0,hnl,hr];done)));try simp only [List.map_cons,List.map_nil])|(refine aS hX hC hP [(10000,14)] (iG (vV g d) _ [.ptr 10000 0] [] (gv g d) g.es.length hle (fun i hi=>apart_spec g d JG i hi)) rfl rfl rfl ?_ ?_ ?_ ?_ ?_ ?_ rfl rfl ?_ ?_;(focus (simp only [go_sem,simprocAttr,h0,hnl,hr];done));(iterate 6 (focus (simp [go_sem,simprocAttr,h0,hnl,hr];done)));try simp only [List.map_cons,List.map_nil]));try simp only [go_sem,simprocAttr,h0,hnl,hr])|((with_reducible refine oD ?_ ?_);kernel_rfl)|((with_reducible intro h);try simp only [go_sem,simprocAttr,h0,hnl,hr] at h)|omega|intro h)
  all_goals (rw [hc1];repeat (first|rw [if_pos (by assumption)]|rw [if_neg (by assumption)]))
end Go.Ab
end
