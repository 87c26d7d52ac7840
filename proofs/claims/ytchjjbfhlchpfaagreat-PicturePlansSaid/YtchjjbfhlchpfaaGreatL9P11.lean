/- A part of the proof. -/
import Derived.Test.YtchjjbfhlchpfaaGreatL9P10
set_option linter.unusedSimpArgs false
set_option linter.unusedVariables false
section
namespace Go.Ab
def Ord (g:Gr) (out:List Int):Prop:=∀p,p<out.length→∀i,i<g.es.length→hd g i=out.getD p 0→tl g i∈out.take p
theorem nE {l r:List Int} {p:Nat} (h:p<l.length):(l++r).getD p 0=l.getD p 0:=by
 rw [List.getD_eq_getElem?_getD,List.getD_eq_getElem?_getD,List.getElem?_append_left h]
theorem Ord.next {g:Gr} {out:List Int} (h:Ord g out) {x:Nat} (hb:∀i,i<g.es.length→hd g i=x→tl g i∈out):Ord g (out++ [(x:Int)]):=by
 intro p hp i hi hh
 rw [List.length_append,List.length_singleton] at hp
 by_cases ij:p<out.length
 ·rw [nE ij] at hh
  have:=h p ij i hi hh
  rw [List.take_append_of_le_length (by omega)]
  exact this
 ·have hpe:p=out.length:=by omega
  subst hpe
  rw [List.getD_eq_getElem?_getD,List.getElem?_append_right (by omega)] at hh
  simp at hh
  rw [List.take_append_of_le_length (by omega),List.take_of_length_le (by omega)]
  exact hb i hi hh
theorem qK {g:Gr} (hm:aV g=true):∀f out,dY g out→Ord g out→left g out≤f→dY g (sq g f out)∧Ord g (sq g f out)∧eY (cw g (sq g f out)) 0<0
 |f,out,hP,hO,hl=>by
  rcases Ir (g:=g) out with hx|⟨x,hx,FX,hw⟩
  ·rw [vO (by omega)];exact ⟨hP,hO,by omega⟩
  ·obtain ⟨Mb,_,hb⟩:=hP.next hm FX hw
   have hn:=sS hP Mb
   cases f with
   |zero=>omega
   |succ f=>
    have:=qK hm f (out++ [(x:Int)]) Mb (hO.next hb) (by omega)
    simp only [sq,hx]
    rw [if_neg (by omega)]
    exact this
theorem fC {g:Gr} (hm:aV g=true):dY g (aI g)∧Ord g (aI g)∧eY (cw g (aI g)) 0<0:=
 qK hm _ _ (dY.nil g) (fun p hp=>by simp at hp) (by rw [nu];exact Nat.le_refl _)
theorem oh {g:Gr} (hm:aV g=true) {y:Nat} (hy:y<g.n.toNat):0<wt g (aI g) y↔(y:Int)∉aI g:=by
 obtain ⟨_,_,hi⟩:=fC hm
 constructor
 ·intro h hin;simp [wt,hin] at h
 ·intro h
  have h0:wt g (aI g) y≠0:=by
   intro e
   rcases fA (f:=fun y:Int=>decide (0=y)) (l:=cw g (aI g)) 0 with ⟨_,h2⟩|⟨k,h1,_⟩
   ·have:=h2 _ (List.mem_of_getElem? (jP hy))
    rw [e] at this;simp at this
   ·have:eY (cw g (aI g)) 0=k:=h1
    omega
  have:0≤wt g (aI g) y:=by simp only [wt,h,if_false];omega
  omega
theorem qL {g:Gr} {l:List Bool} {j y:Nat} (h:y<g.n.toNat):(dZ g l j).getD y false=(List.range j).any fun i=>decide (hd g i=(y:Int))&&(l.getD (tl g i).toNat false&&l.getD (hd g i).toNat false):=by
 simp [dZ,List.getD_eq_getElem?_getD,List.getElem?_range h]
theorem qM {g:Gr} (hm:aV g=true):∀k y,y<g.n.toNat→(y:Int)∉aI g→(eS g k).getD y false=true
 |0,y,hy,_=>by simp [eS,kK,List.getD_eq_getElem?_getD,List.getElem?_range hy];omega
 |k+1,y,hy,h=>by
  have hw:=(oh hm hy).2 h
  simp only [wt,h,if_false] at hw
  obtain ⟨i,hi,hp⟩:=List.countP_pos_iff.1 (Int.natCast_pos.1 hw)
  simp only [Bool.and_eq_true,decide_eq_true_eq,Bool.not_eq_true',decide_eq_false_iff_not] at hp
  have hil:=List.mem_range.1 hi
  obtain ⟨⟨h1,h2⟩,_⟩:=dX hm hil
  have ht:(g.es.getD i (0,0)).1=tl g i:=rfl
  rw [ht] at h1 h2
  have e:((tl g i).toNat:Int)=tl g i:=by omega
  have g1:=qM hm k (tl g i).toNat (by omega) (by rw [e];exact hp.2)
  have g2:=qM hm k y hy h
  show (dZ g (eS g k) g.es.length).getD y false=true
  rw [qL hy,List.any_eq_true]
  refine ⟨i,hi, ?_⟩
  rw [hp.1,Int.toNat_natCast,g1,g2];simp
theorem yZ {g:Gr} (hm:aV g=true):∀k p,p<k→p<(aI g).length→(eS g k).getD ((aI g).getD p 0).toNat false=false
 |0,p,h,_=>by omega
 |k+1,p,h,hp=>by
  obtain ⟨hP,hO,_⟩:=fC hm
  have hr:=hP.lo _ (gQ hp)
  obtain ⟨y,hy⟩:∃y:Nat,(aI g).getD p 0=y:=⟨((aI g).getD p 0).toNat,by omega⟩
  have Nv:y<g.n.toNat:=by omega
  rw [hy,Int.toNat_natCast]
  show (dZ g (eS g k) g.es.length).getD y false=false
  rw [qL Nv,List.any_eq_false]
  intro i hi
  have hil:=List.mem_range.1 hi
  simp only [Bool.and_eq_true,decide_eq_true_eq]
  rintro ⟨h1,h2,_⟩
  have ht:=hO p hp i hil (by rw [h1,hy])
  rw [List.mem_iff_getElem?] at ht
  obtain ⟨q,hq⟩:=ht
  rw [List.getElem?_take] at hq
  split at hq
  ·rename_i Nw
   have:=yZ hm k q (by omega) (by omega)
   rw [List.getD_eq_getElem?_getD (l:=aI g),hq] at this
   rw [Option.getD_some,h2] at this
   cases this
  ·cases hq
theorem CA {g:Gr} (hm:aV g=true) {y:Nat} (hy:y<g.n.toNat):(uc g).getD y false=true↔(y:Int)∉aI g:=by
 constructor
 ·intro h hin
  obtain ⟨hP,_,_⟩:=fC hm
  obtain ⟨p,hp,e⟩:=List.getElem_of_mem hin
  have hl:=hP.fuel
  have:=yZ hm g.n.toNat p (by omega) hp
  rw [List.getD_eq_getElem?_getD (l:=aI g),List.getElem?_eq_getElem hp,Option.getD_some,e,Int.toNat_natCast] at this
  have h2:(eS g g.n.toNat).getD y false=true:=h
  rw [this] at h2;cases h2
 ·intro h;exact qM hm _ y hy h
theorem CB {g:Gr} (hm:aV g=true) {y:Nat} (hy:y<g.n.toNat):(uc g).getD y false=decide (0<(cw g (aI g)).getD y 0):=by
 rw [kH hy,Bool.eq_iff_iff,CA hm hy,decide_eq_true_eq,oh hm hy]
theorem start_eq {g:Gr} (hm:aV g=true):(bG (fun n=>decide (0<n)) (cw g (aI g))= -1∧DH g=g.n)∨∃a:Nat,a<g.n.toNat∧bG (fun n=>decide (0<n)) (cw g (aI g))=a∧DH g=a∧(a:Int)∉aI g:=by
 have hlf:(uc g).length=g.n.toNat:=leftK_length
 rcases fA (f:=fun n:Int=>decide (0<n)) (l:=cw g (aI g)) 0 with ⟨h1,h2⟩|⟨k,h1,h2,h3,h4⟩
 ·refine .inl ⟨h1, ?_⟩
  have:bG (fun b:Bool=>b) (uc g)= -1:=bq false fun j hj=>by
   rw [hlf] at hj
   rw [CB hm hj]
   exact h2 _ (by rw [List.getD_eq_getElem?_getD,jP hj];exact List.mem_of_getElem? (jP hj))
  unfold DH;rw [this,if_pos (by omega)]
 ·rw [wts_length] at h2
  refine .inr ⟨k,h2,h1, ?_, ?_⟩
  ·have:bG (fun b:Bool=>b) (uc g)=k:=bQ (d:=false) (by omega) (fun j hj=>by
    rw [CB hm (by omega)];exact h4 j hj) (by rw [CB hm h2];exact h3)
   unfold DH;rw [this,if_neg (by omega)]
  ·rw [← oh hm h2]
   rw [kH h2] at h3
   exact of_decide_eq_true h3
def Q (g:Gr) (a:Nat) (t:Int):Prop:=∃i,i<g.es.length∧hd g i=(a:Int)∧tl g i=t∧t∉aI g
theorem cM {g:Gr} (hm:aV g=true) {i:Nat} (hi:i<g.es.length):0≤tl g i∧tl g i<g.n:=(dX hm hi).1
theorem fO {g:Gr} (hm:aV g=true) {i:Nat} (hi:i<g.es.length):0≤hd g i∧hd g i<g.n:=(dX hm hi).2
theorem As {g:Gr} (hm:aV g=true) {i:Nat} (hi:i<g.es.length):0<(cw g (aI g)).getD (tl g i).toNat 0↔tl g i∉aI g:=by
 have h:=cM hm hi
 have e:((tl g i).toNat:Int)=tl g i:=by omega
 rw [kH (by omega),oh hm (by omega),e]
theorem pe {g:Gr} (hm:aV g=true):∀(l:List Int) (b:Int),(∀e∈l,∃i:Nat,e=i∧i<g.es.length)→
 (b= -1∨0≤b)→(l.foldl (eR g (cw g (aI g))) b=b∨∃i:Nat,(i:Int)∈l∧tl g i∉aI g∧l.foldl (eR g (cw g (aI g))) b=tl g i)∧(0≤b→l.foldl (eR g (cw g (aI g))) b≤b)∧
   (∀i:Nat,(i:Int)∈l→tl g i∉aI g→0≤l.foldl (eR g (cw g (aI g))) b∧l.foldl (eR g (cw g (aI g))) b≤tl g i)
 | [],b,_,_=>⟨.inl rfl,fun _=>Int.le_refl _,by simp⟩
 |e::l,b,he,hb=>by
  obtain ⟨i,rfl,hi⟩:=he e List.mem_cons_self
  have htr:=cM hm hi
  have hw:=As hm hi
  have hstep:eR g (cw g (aI g)) b (i:Int)=if tl g i∉aI g∧(b<0∨tl g i<b) then tl g i else b:=by
   simp only [eR,Int.toNat_natCast,hw]
  have hb':eR g (cw g (aI g)) b (i:Int)= -1∨0≤eR g (cw g (aI g)) b (i:Int):=by
   rw [hstep];split
   ·exact .inr htr.1
   ·exact hb
  obtain ⟨h1,h2,h3⟩:=pe hm l (eR g (cw g (aI g)) b (i:Int)) (fun e h=>he e (List.mem_cons_of_mem _ h)) hb'
  simp only [List.foldl_cons]
  generalize hr:l.foldl (eR g (cw g (aI g))) (eR g (cw g (aI g)) b (i:Int))=r at h1 h2 h3 ⊢
  refine ⟨?_, ?_, ?_⟩
  ·rcases h1 with h1|⟨j,hj,h4,h5⟩
   ·rw [hstep] at h1
    split at h1
    ·rename_i hc
     exact .inr ⟨i,by simp,hc.1,h1⟩
    ·exact .inl h1
   ·exact .inr ⟨j,by simp [hj],h4,h5⟩
  ·intro h0
   rw [hstep] at h2
   split at h2
   ·rename_i hc;have:=h2 htr.1;omega
   ·exact h2 h0
  ·intro j hj hjn
   rcases List.mem_cons.1 hj with hj|hj
   ·have:j=i:=Int.ofNat.inj hj
    subst this
    rw [hstep] at h1 h2
    split at h1
    ·rename_i hc
     rw [if_pos hc] at h2
     have:=h2 htr.1
     rcases h1 with h1|⟨q,hq,h4,h5⟩
     ·omega
     ·obtain ⟨i',e',hi'⟩:=he q (List.mem_cons_of_mem _ hq)
      have:q=i':=Int.ofNat.inj e'
      subst this
      have:=cM hm hi';omega
    ·rename_i hc
     rw [if_neg hc] at h2
     have GL:¬(b<0∨tl g j<b):=fun h=>hc ⟨hjn,h⟩
     have:=h2 (by omega)
     rcases h1 with h1|⟨q,hq,h4,h5⟩
     ·omega
     ·obtain ⟨i',e',hi'⟩:=he q (List.mem_cons_of_mem _ hq)
      have:q=i':=Int.ofNat.inj e'
      subst this
      have:=cM hm hi';omega
   ·exact h3 j hj hjn
theorem qN {g:Gr} (hm:aV g=true) {a:Nat} (h:∃t,Q g a t):Q g a (iC g (cw g (aI g)) a)∧∀t,Q g a t→iC g (cw g (aI g)) a≤t:=by
 have hin:∀i,i<g.es.length→hd g i=(a:Int)→(i:Int)∈kJ g a:=by
  intro i hi hh
  simp only [kJ,eL,List.mem_map,List.mem_filter,List.mem_range,decide_eq_true_eq]
  exact ⟨i,⟨hi,hh⟩,rfl⟩
 obtain ⟨h1,_,h3⟩:=pe hm (kJ g a) (-1) Cw (.inl rfl)
 have hG:iC g (cw g (aI g)) a=(kJ g a).foldl (eR g (cw g (aI g))) (-1):=by simp [iC,sX]
 rw [← hG] at h1 h3
 have hle:∀t,Q g a t→0≤iC g (cw g (aI g)) a∧iC g (cw g (aI g)) a≤t:=by
  rintro t ⟨i,h4,h5,rfl,h6⟩
  exact h3 i (hin i h4 h5) h6
 obtain ⟨t,ht⟩:=h
 have h0:=(hle t ht).1
 refine ⟨?_,fun t ht=>(hle t ht).2⟩
 rcases h1 with h1|⟨i,hi,h4,h5⟩
 ·omega
 ·obtain ⟨i',e',hi',hh⟩:=tZ hi
  have:i=i':=Int.ofNat.inj e'
  subst this
  exact ⟨i,hi',hh,h5.symm,by rw [h5];exact h4⟩
theorem qO {g:Gr} (hm:aV g=true) {a:Nat} :∀k,k≤g.es.length→(dJ g a k=g.n∨Q g a (dJ g a k))∧dJ g a k≤g.n∧∀i,i<k→hd g i=(a:Int)→tl g i∉aI g→dJ g a k≤tl g i
 |0,_=>⟨.inl rfl,Int.le_refl _,by simp⟩
 |k+1,hk=>by
  obtain ⟨h1,h2,h3⟩:=qO hm (a:=a) k (by omega)
  have htr:=cM hm (i:=k) (by omega)
  have e:((tl g k).toNat:Int)=tl g k:=by omega
  have hlf:=CA hm (y:=(tl g k).toNat) (by omega)
  rw [e] at hlf
  rw [mG]
  unfold ue
  split
  ·rename_i hc0
   have hc:hd g k=(a:Int)∧tl g k∉aI g:=⟨hc0.1,hlf.1 hc0.2⟩
   refine ⟨?_,by omega, ?_⟩
   ·by_cases hle:dJ g a k≤tl g k
    ·rw [Int.min_eq_left hle];exact h1
    ·rw [Int.min_eq_right (by omega)];exact .inr ⟨k,by omega,hc.1,rfl,hc.2⟩
   ·intro i hi hh hn
    by_cases hik:i=k
    ·subst hik;omega
    ·have:=h3 i (by omega) hh hn;omega
  ·rename_i hc
   refine ⟨h1,h2, ?_⟩
   intro i hi hh hn
   by_cases hik:i=k
   ·subst hik;exact absurd ⟨hh,hlf.2 hn⟩ hc
   ·exact h3 i (by omega) hh hn
theorem back_eq {g:Gr} (hm:aV g=true) {a:Nat} (h:∃t,Q g a t):iC g (cw g (aI g)) a=dJ g a g.es.length∧Q g a (dJ g a g.es.length):=by
 obtain ⟨h1,h2⟩:=qN hm h
 obtain ⟨h3,h4,h5⟩:=qO hm (a:=a) g.es.length (Nat.le_refl _)
 have hb:dJ g a g.es.length≤iC g (cw g (aI g)) a:=by
  obtain ⟨i,h6,h7,h8,h9⟩:=h1
  rw [← h8] at h9 ⊢
  exact h5 i h6 h7 h9
 have hlt:iC g (cw g (aI g)) a<g.n:=by
  obtain ⟨i,h6,h7,h8,h9⟩:=h1
  rw [← h8];exact (cM hm h6).2
 rcases h3 with h3|h3
 ·omega
 ·exact ⟨by have:=h2 _ h3;omega,h3⟩
theorem F3 {g:Gr} (hm:aV g=true) {a:Nat} (ha:a<g.n.toNat) (h:(a:Int)∉aI g):∃t,Q g a t:=by
 have hw:=(oh hm ha).2 h
 simp only [wt,h,if_false] at hw
 obtain ⟨i,hi,hp⟩:=List.countP_pos_iff.1 (Int.natCast_pos.1 hw)
 simp only [Bool.and_eq_true,decide_eq_true_eq,Bool.not_eq_true',decide_eq_false_iff_not] at hp
 exact ⟨tl g i,i,List.mem_range.1 hi,hp.1,rfl,hp.2⟩
theorem CC {g:Gr} (hm:aV g=true):∀(f f':Nat) (way:List Int) (a:Nat),way.Nodup→a<g.n.toNat→(a:Int)∉aI g→left g way≤f→left g way≤f'→
 jR g (cw g (aI g)) f way a=mF g f' way a∧(0≤(mF g f' way a).2∧(mF g f' way a).2∈(mF g f' way a).1∧(mF g f' way a).1.Nodup)
 |f,f',way,a,hd,ha,hn,h1,h2=>by
  by_cases hmem:(a:Int)∈way
  ·rw [jh (.inr hmem),vR hmem]
   exact ⟨rfl,by simp only;omega,hmem,hd⟩
  ·have hla:=gN ha hmem
   cases f with
   |zero=>omega
   |succ f=>
    cases f' with
    |zero=>omega
    |succ f'=>
     obtain ⟨hb,hq⟩:=back_eq hm (F3 hm ha hn)
     obtain ⟨i,hi,_,ht,Iu⟩:=hq
     have htr:=cM hm hi
     rw [ht] at htr
     obtain ⟨b,mM⟩:∃b:Nat,dJ g a g.es.length=b:=⟨(dJ g a g.es.length).toNat,by omega⟩
     rw [mM] at hb Iu htr
     have hd':(way++ [(a:Int)]).Nodup:=by
      rw [List.nodup_append]
      refine ⟨hd,by simp, ?_⟩
      intro x hx y hy e
      simp at hy
      rw [← hy, ← e] at hmem;exact hmem hx
     have ih:=CC hm f f' (way++ [(a:Int)]) b hd' (by omega) Iu (by omega) (by omega)
     have e1:jR g (cw g (aI g)) (f+1) way a=jR g (cw g (aI g)) f (way++ [(a:Int)]) b:=by
      simp only [jR];rw [if_neg (by intro h;rcases h with h|h;omega;exact hmem h),hb]
     have e2:mF g (f'+1) way a=mF g f' (way++ [(a:Int)]) b:=by
      simp only [mF];rw [if_neg hmem,mM]
     rw [e1,e2];exact ih
theorem ug {g:Gr} {way:List Int} :left g way≤g.n.toNat:=by
 unfold left
 have:=List.countP_le_length (p:=fun y:Nat=> !decide ((y:Int)∈way)) (l:=List.range g.n.toNat)
 simpa using this
theorem mH {l:List Int} (h:l.Nodup) {i j:Nat} (hi:i<l.length) (hj:j<l.length) (e:l.getD i 0=l.getD j 0):i=j:=by
 rw [List.getD_eq_getElem?_getD,List.getD_eq_getElem?_getD,List.getElem?_eq_getElem hi,List.getElem?_eq_getElem hj] at e
 exact (List.getElem_inj h).1 e
theorem CD {l:List Int} {i:Nat} (hi:i<l.length):l.reverse.getD i 0=l.getD (l.length - 1 - i) 0:=by
 rw [List.getD_eq_getElem?_getD,List.getD_eq_getElem?_getD,List.getElem?_reverse hi]
theorem Ek {l:List Int} (hd:l.Nodup) (h0:0<l.length):j9 l.reverse=s4 l:=by
 obtain ⟨m,vj,hm2,Ny⟩:=dI (gO h0)
 have Jn:0<l.reverse.length:=by simpa using h0
 obtain ⟨k,zU,hk2,Jo⟩:=dI (gO Jn)
 have hmin:gn l.reverse=gn l:=by
  have h1:=uf (List.mem_reverse.2 (gO h0))
  have h2:=uf (List.mem_reverse.1 (gO Jn))
  omega
 rw [List.length_reverse] at hk2
 have hk:l.length - 1 - k=m:=mH hd (by omega) hm2 (by rw [← CD hk2,Jo,Ny,hmin])
 have e1:j9 l.reverse=l.reverse.drop k++l.reverse.take k:=by
  simp only [j9,zU,Int.toNat_natCast]
 have e2:s4 l=pI l m l.length:=by simp only [s4,vj,Int.toNat_natCast]
 rw [e1,e2]
 refine List.ext_getElem? fun i=> ?_
 by_cases hi:i<l.length
 ·have hr:(pI l m l.length)[i]? =some (l.getD ((m+l.length - i) % l.length) 0):=by
   simp [pI,List.getElem?_range hi]
  rw [hr]
  by_cases hik:i<l.length - k
  ·rw [List.getElem?_append_left (by simp;omega),List.getElem?_drop,List.getElem?_reverse (by omega)]
   have:(m+l.length - i) % l.length=m - i:=by
    rw [show m+l.length - i=(m - i)+l.length from by omega,Nat.add_mod_right,Nat.mod_eq_of_lt (by omega)]
   rw [this,show l.length - 1 - (k+i)=m - i from by omega,List.getD_eq_getElem?_getD,List.getElem?_eq_getElem (by omega)];rfl
  ·rw [List.getElem?_append_right (by simp;omega),List.length_drop,List.length_reverse,List.getElem?_take,if_pos (by omega),List.getElem?_reverse (by omega)]
   have:(m+l.length - i) % l.length=m+l.length - i:=Nat.mod_eq_of_lt (by omega)
   rw [this,show l.length - 1 - (i - (l.length - k))=m+l.length - i from by omega,List.getD_eq_getElem?_getD,List.getElem?_eq_getElem (by omega)];rfl
 ·rw [List.getElem?_eq_none (by simp;omega),List.getElem?_eq_none (by simp [pI];omega)]
theorem F4 {g:Gr} (hm:aV g=true):jg g=kL g:=by
 have hn:=bL hm
 rcases start_eq hm with ⟨h1,h2⟩|⟨a,ha,h1,h2,h3⟩
 ·have:jf g=([], -1):=by
   unfold jf;rw [h1];exact jh (.inl (by omega)) _
  simp only [jg,kL,this]
  rw [if_pos (by omega),if_pos h2]
 ·obtain ⟨he,h4,h5,h6⟩:=CC hm g.n.toNat (g.n.toNat+1) [] a (by simp) ha h3 ug (Nat.le_succ_of_le ug)
  have hw:jf g=nw g:=by
   unfold jf nw;rw [h1,h2];exact he
  have hr:mF g (g.n.toNat+1) [] a=nw g:=by unfold nw;rw [h2]
  rw [hr] at h4 h5 h6
  simp only [jg,kL,hw]
  rw [if_neg (by omega),if_neg (by omega)]
  obtain ⟨k,zU,hk2,_⟩:=dI h5
  rw [zU,Int.toNat_natCast]
  exact Ek (List.Pairwise.drop h6) (by simp;omega)
theorem F5 (g:Gr):dR g=kM g:=by
 unfold dR kM
 cases hm:aV g with
 |false=>simp [gh,hm]
 |true=>rw [F4 hm]
end Go.Ab
end
section
namespace Go.Ab
end Go.Ab
end
section
namespace Go.Ab
open Go.Proofs
attribute [local congr] ACall.congr gd.congr Nx.congr
set_option maxRecDepth 10000
abbrev Pt:=Int × Int
def eP (p:Pt):AV:= .agg [.d (.sc (.int .i64 p.1)), .d (.sc (.int .i64 p.2))]
def rP (p:Pt):List D:= [.sc (.int .i64 p.1), .sc (.int .i64 p.2)]
attribute [go_sem] eP
def bw (p:Pt):Prop:=(-262144≤p.1∧p.1≤262144)∧(-262144≤p.2∧p.2≤262144)
theorem ko {x y m n:Int} (hx: -m≤x∧x≤m) (hy: -n≤y∧y≤n): -(m*n)≤x*y∧x*y≤m*n:=by
 have hm:0≤m:=by omega
 have hn:0≤n:=by omega
 have h1:x.natAbs≤m.natAbs:=by omega
 have h2:y.natAbs≤n.natAbs:=by omega
 have h3:(x*y).natAbs≤(m*n).natAbs:=by rw [Int.natAbs_mul,Int.natAbs_mul];exact Nat.mul_le_mul h1 h2
 have h4:0≤m*n:=Int.mul_nonneg hm hn
 omega
theorem cz (n:Int):Spec Tryz.prog 103 (Args [eN n]) [] (eB false) []:=by
 (refine Spec.hd (C:=T.cfg [] []) (rs:= [.t 2]) (T.ai _ _) Tryz.func103 rfl rfl Tryz.ntmps103 Tryz.results103 (by simp [AObj.isNest]) (by simp [AObj.isNest]) (by kernel_rfl) T.mixed fun X hX hP hC aG b9=> ?_)
 repeat' (first|refine Rn.p ?_|(with_reducible apply And.intro)|((first|(refine hK _ ?_;clear hK K)|with_reducible intro K hK|refine Rs.p ?_|((with_reducible first|apply oP|apply oQ);exact rfl)|refine aa hX hC hP (hf _) rfl rfl rfl (by simp only [go_sem,simprocAttr]) rfl ?_|refine aa hX hC hP (cz _) rfl rfl rfl (by simp only [go_sem,simprocAttr]) rfl ?_|refine aa hX hC hP (bB _ _) rfl rfl rfl (by simp only [go_sem,simprocAttr]) rfl ?_|refine aa hX hC hP (bJ _ _ _) rfl rfl rfl (by simp only [go_sem,simprocAttr]) rfl ?_|refine aa hX hC hP (aK _ _ _ _ (by assumption) (by assumption) (by assumption) (by assumption)) rfl rfl rfl (by simp only [go_sem,simprocAttr]) rfl ?_|refine aa hX hC hP (aR _ _ _ (by assumption) (by assumption) (by assumption)) rfl rfl rfl (by simp only [go_sem,simprocAttr]) rfl ?_|refine aa hX hC hP (bF _ _ _ (by assumption) (by assumption) (by assumption)) rfl rfl rfl (by simp only [go_sem,simprocAttr]) rfl ?_);try simp only [go_sem,simprocAttr])|((with_reducible refine oD ?_ ?_);kernel_rfl)|((with_reducible intro h);try simp only [go_sem,simprocAttr] at h)|omega|intro h)
def e9 (a b:Int):Int:=if a<b then -1 else if b<a then 1 else 0
theorem bB (a b:Int):Spec Tryz.prog 51 (Args [eN a,eN b]) [] (eN (e9 a b)) []:=by
 (refine Spec.hd (C:=T.cfg [] []) (rs:= [.t 4]) (T.ai _ _) Tryz.func51 rfl rfl Tryz.ntmps51 Tryz.results51 (by simp [AObj.isNest]) (by simp [AObj.isNest]) (by kernel_rfl) T.mixed fun X hX hP hC aG b9=> ?_)
 repeat' (first|refine Rn.p ?_|(with_reducible apply And.intro)|((first|(refine hK _ ?_;clear hK K)|with_reducible intro K hK|refine Rs.p ?_|((with_reducible first|apply oP|apply oQ);exact rfl)|refine aa hX hC hP (hf _) rfl rfl rfl (by simp only [go_sem,simprocAttr]) rfl ?_|refine aa hX hC hP (cz _) rfl rfl rfl (by simp only [go_sem,simprocAttr]) rfl ?_|refine aa hX hC hP (bB _ _) rfl rfl rfl (by simp only [go_sem,simprocAttr]) rfl ?_|refine aa hX hC hP (bJ _ _ _) rfl rfl rfl (by simp only [go_sem,simprocAttr]) rfl ?_|refine aa hX hC hP (aK _ _ _ _ (by assumption) (by assumption) (by assumption) (by assumption)) rfl rfl rfl (by simp only [go_sem,simprocAttr]) rfl ?_|refine aa hX hC hP (aR _ _ _ (by assumption) (by assumption) (by assumption)) rfl rfl rfl (by simp only [go_sem,simprocAttr]) rfl ?_|refine aa hX hC hP (bF _ _ _ (by assumption) (by assumption) (by assumption)) rfl rfl rfl (by simp only [go_sem,simprocAttr]) rfl ?_);try simp only [go_sem,simprocAttr])|((with_reducible refine oD ?_ ?_);kernel_rfl)|((with_reducible intro h);try simp only [go_sem,simprocAttr] at h)|omega|intro h)
 all_goals (unfold e9;repeat' split)<;>omega
def lF (a b n:Int):Bool:=decide (min a b≤n)&&decide (n≤max a b)
theorem bJ (a b n:Int):Spec Tryz.prog 200 (Args [eN a,eN b,eN n]) [] (eB (lF a b n)) []:=by
 (refine Spec.hd (C:=T.cfg [] []) (rs:= [.t 6]) (T.ai _ _) Tryz.func200 rfl rfl Tryz.ntmps200 Tryz.results200 (by simp [AObj.isNest]) (by simp [AObj.isNest]) (by kernel_rfl) T.mixed fun X hX hP hC aG b9=> ?_)
 repeat' (first|refine Rn.p ?_|(with_reducible apply And.intro)|((first|(refine hK _ ?_;clear hK K)|with_reducible intro K hK|refine Rs.p ?_|((with_reducible first|apply oP|apply oQ);exact rfl)|refine aa hX hC hP (hf _) rfl rfl rfl (by simp only [go_sem,simprocAttr]) rfl ?_|refine aa hX hC hP (cz _) rfl rfl rfl (by simp only [go_sem,simprocAttr]) rfl ?_|refine aa hX hC hP (bB _ _) rfl rfl rfl (by simp only [go_sem,simprocAttr]) rfl ?_|refine aa hX hC hP (bJ _ _ _) rfl rfl rfl (by simp only [go_sem,simprocAttr]) rfl ?_|refine aa hX hC hP (aK _ _ _ _ (by assumption) (by assumption) (by assumption) (by assumption)) rfl rfl rfl (by simp only [go_sem,simprocAttr]) rfl ?_|refine aa hX hC hP (aR _ _ _ (by assumption) (by assumption) (by assumption)) rfl rfl rfl (by simp only [go_sem,simprocAttr]) rfl ?_|refine aa hX hC hP (bF _ _ _ (by assumption) (by assumption) (by assumption)) rfl rfl rfl (by simp only [go_sem,simprocAttr]) rfl ?_);try simp only [go_sem,simprocAttr])|((with_reducible refine oD ?_ ?_);kernel_rfl)|((with_reducible intro h);try simp only [go_sem,simprocAttr] at h)|omega|intro h)
 all_goals (unfold lF;rw [Bool.eq_iff_iff];simp;omega)
def tm (a b c d:Pt):Int:=(b.1 - a.1)*(d.2 - c.2) - (b.2 - a.2)*(d.1 - c.1)
theorem aK (a b c d:Pt) (ha:bw a) (hb:bw b) (hc:bw c) (hd:bw d):Spec Tryz.prog 160 (Args [eP a,eP b,eP c,eP d]) [] (eN (tm a b c d)) []:=by
 (refine Spec.hd (C:=T.cfg [] []) (rs:= [.t 8]) (T.ai _ _) Tryz.func160 rfl rfl Tryz.ntmps160 Tryz.results160 (by simp [AObj.isNest]) (by simp [AObj.isNest]) (by kernel_rfl) T.mixed fun X hX hP hC aG b9=> ?_)
 obtain ⟨a1,a2⟩:=a
 obtain ⟨b1,b2⟩:=b
 obtain ⟨c1,c2⟩:=c
 obtain ⟨d1,d2⟩:=d
 simp only [bw] at ha hb hc hd
 have m1:=ko (x:=b1 - a1) (y:=d2 - c2) (m:=524288) (n:=524288) (by omega) (by omega)
 have m2:=ko (x:=b2 - a2) (y:=d1 - c1) (m:=524288) (n:=524288) (by omega) (by omega)
 repeat' (first|refine Rn.p ?_|(with_reducible apply And.intro)|((first|(refine hK _ ?_;clear hK K)|with_reducible intro K hK|refine Rs.p ?_|((with_reducible first|apply oP|apply oQ);exact rfl)|refine aa hX hC hP (hf _) rfl rfl rfl (by simp only [go_sem,simprocAttr]) rfl ?_|refine aa hX hC hP (cz _) rfl rfl rfl (by simp only [go_sem,simprocAttr]) rfl ?_|refine aa hX hC hP (bB _ _) rfl rfl rfl (by simp only [go_sem,simprocAttr]) rfl ?_|refine aa hX hC hP (bJ _ _ _) rfl rfl rfl (by simp only [go_sem,simprocAttr]) rfl ?_|refine aa hX hC hP (aK _ _ _ _ (by assumption) (by assumption) (by assumption) (by assumption)) rfl rfl rfl (by simp only [go_sem,simprocAttr]) rfl ?_|refine aa hX hC hP (aR _ _ _ (by assumption) (by assumption) (by assumption)) rfl rfl rfl (by simp only [go_sem,simprocAttr]) rfl ?_|refine aa hX hC hP (bF _ _ _ (by assumption) (by assumption) (by assumption)) rfl rfl rfl (by simp only [go_sem,simprocAttr]) rfl ?_);try simp only [go_sem,simprocAttr])|((with_reducible refine oD ?_ ?_);kernel_rfl)|((with_reducible intro h);try simp only [go_sem,simprocAttr] at h)|omega|intro h)
 all_goals simp [tm]
def sd (a b c:Pt):Int:=e9 (tm a b a c) 0
theorem aR (a b c:Pt) (ha:bw a) (hb:bw b) (hc:bw c):Spec Tryz.prog 102 (Args [eP a,eP b,eP c]) [] (eN (sd a b c)) []:=by
 (refine Spec.hd (C:=T.cfg [] []) (rs:= [.t 6]) (T.ai _ _) Tryz.func102 rfl rfl Tryz.ntmps102 Tryz.results102 (by simp [AObj.isNest]) (by simp [AObj.isNest]) (by kernel_rfl) T.mixed fun X hX hP hC aG b9=> ?_)
 repeat' (first|refine Rn.p ?_|(with_reducible apply And.intro)|((first|(refine hK _ ?_;clear hK K)|with_reducible intro K hK|refine Rs.p ?_|((with_reducible first|apply oP|apply oQ);exact rfl)|refine aa hX hC hP (hf _) rfl rfl rfl (by simp only [go_sem,simprocAttr]) rfl ?_|refine aa hX hC hP (cz _) rfl rfl rfl (by simp only [go_sem,simprocAttr]) rfl ?_|refine aa hX hC hP (bB _ _) rfl rfl rfl (by simp only [go_sem,simprocAttr]) rfl ?_|refine aa hX hC hP (bJ _ _ _) rfl rfl rfl (by simp only [go_sem,simprocAttr]) rfl ?_|refine aa hX hC hP (aK _ _ _ _ (by assumption) (by assumption) (by assumption) (by assumption)) rfl rfl rfl (by simp only [go_sem,simprocAttr]) rfl ?_|refine aa hX hC hP (aR _ _ _ (by assumption) (by assumption) (by assumption)) rfl rfl rfl (by simp only [go_sem,simprocAttr]) rfl ?_|refine aa hX hC hP (bF _ _ _ (by assumption) (by assumption) (by assumption)) rfl rfl rfl (by simp only [go_sem,simprocAttr]) rfl ?_);try simp only [go_sem,simprocAttr])|((with_reducible refine oD ?_ ?_);kernel_rfl)|((with_reducible intro h);try simp only [go_sem,simprocAttr] at h)|omega|intro h)
 all_goals rfl
def iq (a b c:Pt):Bool:=decide (sd a b c=0)&&lF a.1 b.1 c.1&&lF a.2 b.2 c.2
theorem bF (a b c:Pt) (ha:bw a) (hb:bw b) (hc:bw c):Spec Tryz.prog 184 (Args [eP a,eP b,eP c]) [] (eB (iq a b c)) []:=by
 (refine Spec.hd (C:=T.cfg [] []) (rs:= [.t 6]) (T.ai _ _) Tryz.func184 rfl rfl Tryz.ntmps184 Tryz.results184 (by simp [AObj.isNest]) (by simp [AObj.isNest]) (by kernel_rfl) T.mixed fun X hX hP hC aG b9=> ?_)
 repeat' (first|refine Rn.p ?_|(with_reducible apply And.intro)|((first|(refine hK _ ?_;clear hK K)|with_reducible intro K hK|refine Rs.p ?_|((with_reducible first|apply oP|apply oQ);exact rfl)|refine aa hX hC hP (hf _) rfl rfl rfl (by simp only [go_sem,simprocAttr]) rfl ?_|refine aa hX hC hP (cz _) rfl rfl rfl (by simp only [go_sem,simprocAttr]) rfl ?_|refine aa hX hC hP (bB _ _) rfl rfl rfl (by simp only [go_sem,simprocAttr]) rfl ?_|refine aa hX hC hP (bJ _ _ _) rfl rfl rfl (by simp only [go_sem,simprocAttr]) rfl ?_|refine aa hX hC hP (aK _ _ _ _ (by assumption) (by assumption) (by assumption) (by assumption)) rfl rfl rfl (by simp only [go_sem,simprocAttr]) rfl ?_|refine aa hX hC hP (aR _ _ _ (by assumption) (by assumption) (by assumption)) rfl rfl rfl (by simp only [go_sem,simprocAttr]) rfl ?_|refine aa hX hC hP (bF _ _ _ (by assumption) (by assumption) (by assumption)) rfl rfl rfl (by simp only [go_sem,simprocAttr]) rfl ?_);try simp only [go_sem,simprocAttr])|((with_reducible refine oD ?_ ?_);kernel_rfl)|((with_reducible intro h);try simp only [go_sem,simprocAttr] at h)|omega|intro h)
 all_goals simp_all [iq]
end Go.Ab
end
section
namespace Go.Ab
open Go.Proofs
attribute [local congr] ACall.congr gd.congr Nx.congr
set_option maxRecDepth 10000
def kN (p:Pt):Bool:=decide (262144<max p.1 p.2)||decide (min p.1 p.2< -262144)
theorem jk (p:Pt):Spec Tryz.prog 159 (Args [eP p]) [] (eB (kN p)) []:=by
 (refine Spec.hd (C:=T.cfg [] []) (rs:= [.t 2]) (T.ai _ _) Tryz.func159 rfl rfl Tryz.ntmps159 Tryz.results159 (by simp [AObj.isNest]) (by simp [AObj.isNest]) (by kernel_rfl) T.mixed fun X hX hP hC aG b9=> ?_)
 repeat' (first|refine Rn.p ?_|(with_reducible apply And.intro)|((first|(refine hK _ ?_;clear hK K)|with_reducible intro K hK|refine Rs.p ?_|((with_reducible first|apply oP|apply oQ);exact rfl)|refine aa hX hC hP (hf _) rfl rfl rfl (by simp only [go_sem,simprocAttr]) rfl ?_|refine aa hX hC hP (dy _ _ hf _ hl) rfl rfl rfl (by simp only [go_sem,simprocAttr]) rfl ?_|refine aa hX hC hP (cA _ _ jk _ hl) rfl rfl rfl (by simp only [go_sem,simprocAttr]) rfl ?_|refine aa hX hC hP (cz _) rfl rfl rfl (by simp only [go_sem,simprocAttr]) rfl ?_|refine aa hX hC hP (bB _ _) rfl rfl rfl (by simp only [go_sem,simprocAttr]) rfl ?_|refine aa hX hC hP (bJ _ _ _) rfl rfl rfl (by simp only [go_sem,simprocAttr]) rfl ?_|refine aa hX hC hP (aK _ _ _ _ (by assumption) (by assumption) (by assumption) (by assumption)) rfl rfl rfl (by simp only [go_sem,simprocAttr]) rfl ?_|refine aa hX hC hP (aR _ _ _ (by assumption) (by assumption) (by assumption)) rfl rfl rfl (by simp only [go_sem,simprocAttr]) rfl ?_|refine aa hX hC hP (bF _ _ _ (by assumption) (by assumption) (by assumption)) rfl rfl rfl (by simp only [go_sem,simprocAttr]) rfl ?_);try simp only [go_sem,simprocAttr])|((with_reducible refine oD ?_ ?_);kernel_rfl)|((with_reducible intro h);try simp only [go_sem,simprocAttr] at h)|omega|intro h)
 all_goals simp_all [kN]
 all_goals omega
theorem getD_rP (ps:List Pt) (i:Nat):(ps.map rP).getD i [.sc (.int .i64 0), .sc (.int .i64 0)]=rP (ps.getD i (0,0)):=by
 simp only [List.getD_eq_getElem?_getD,List.getElem?_map]
 cases ps[i]? <;>rfl
theorem rP_eq (p:Pt):rP p= [.sc (.int .i64 p.1), .sc (.int .i64 p.2)]:=rfl
attribute [go_sem] getD_rP rP_eq Int.toNat_natCast
theorem dy (f:Nat) (g:Pt→Bool) (hf:∀p,Spec Tryz.prog f (Args [eP p]) [] (eB (g p)) []) (ps:List Pt) (hl:ps.length≤9223372036854775806):
 Spec Tryz.prog 185 (Args [.d (.sl 2 (ps.map rP)), .fn f [] []]) [] (eN (bG g ps)) []:=by
 (refine Spec.hd (C:=T.cfg [] []) (rs:= [.t 4]) (T.ai _ _) Tryz.func185 rfl rfl Tryz.ntmps185 Tryz.results185 (by simp [AObj.isNest]) (by simp [AObj.isNest]) (by kernel_rfl) T.mixed fun X hX hP hC aG b9=> ?_)
 repeat' (first|refine Rn.p ?_|(with_reducible apply And.intro)|((first|(refine hK _ ?_;clear hK K)|with_reducible intro K hK|refine Rs.p ?_|((with_reducible first|apply oP|apply oQ);exact rfl)|refine aa hX hC hP (hf _) rfl rfl rfl (by simp only [go_sem,simprocAttr]) rfl ?_|refine aa hX hC hP (dy _ _ hf _ hl) rfl rfl rfl (by simp only [go_sem,simprocAttr]) rfl ?_|refine aa hX hC hP (cA _ _ jk _ hl) rfl rfl rfl (by simp only [go_sem,simprocAttr]) rfl ?_|refine aa hX hC hP (cz _) rfl rfl rfl (by simp only [go_sem,simprocAttr]) rfl ?_|refine aa hX hC hP (bB _ _) rfl rfl rfl (by simp only [go_sem,simprocAttr]) rfl ?_|refine aa hX hC hP (bJ _ _ _) rfl rfl rfl (by simp only [go_sem,simprocAttr]) rfl ?_|refine aa hX hC hP (aK _ _ _ _ (by assumption) (by assumption) (by assumption) (by assumption)) rfl rfl rfl (by simp only [go_sem,simprocAttr]) rfl ?_|refine aa hX hC hP (aR _ _ _ (by assumption) (by assumption) (by assumption)) rfl rfl rfl (by simp only [go_sem,simprocAttr]) rfl ?_|refine aa hX hC hP (bF _ _ _ (by assumption) (by assumption) (by assumption)) rfl rfl rfl (by simp only [go_sem,simprocAttr]) rfl ?_);try simp only [go_sem,simprocAttr])|((with_reducible refine oD ?_ ?_);kernel_rfl)|((with_reducible intro h);try simp only [go_sem,simprocAttr] at h)|omega|intro h)
 refine ag (fun k:Nat=>k≤ps.length∧∀j,j<k→g (ps.getD j (0,0))=false) (fun k=>⟨[(0, .d (.sl 2 (ps.map rP))),(1, .fn f [] []),(7, .d (.sc (.int .i64 (ps.length:Int)))),(8, .d (.sc (.int .i64 (k:Int))))], []⟩) (fun k=>ps.length - k) 0 (by simp) ?_ ?_
 ·refine Le.of ?_ ?_<;>simp [go_sem,simprocAttr]
 rintro k ⟨hk,hg⟩
 repeat' (first|refine Rn.p ?_|(with_reducible apply And.intro)|((first|(refine hK _ ?_;clear hK K)|with_reducible intro K hK|refine Rs.p ?_|((with_reducible first|apply oP|apply oQ);exact rfl)|refine aa hX hC hP (hf _) rfl rfl rfl (by simp only [go_sem,simprocAttr]) rfl ?_|refine aa hX hC hP (dy _ _ hf _ hl) rfl rfl rfl (by simp only [go_sem,simprocAttr]) rfl ?_|refine aa hX hC hP (cA _ _ jk _ hl) rfl rfl rfl (by simp only [go_sem,simprocAttr]) rfl ?_|refine aa hX hC hP (cz _) rfl rfl rfl (by simp only [go_sem,simprocAttr]) rfl ?_|refine aa hX hC hP (bB _ _) rfl rfl rfl (by simp only [go_sem,simprocAttr]) rfl ?_|refine aa hX hC hP (bJ _ _ _) rfl rfl rfl (by simp only [go_sem,simprocAttr]) rfl ?_|refine aa hX hC hP (aK _ _ _ _ (by assumption) (by assumption) (by assumption) (by assumption)) rfl rfl rfl (by simp only [go_sem,simprocAttr]) rfl ?_|refine aa hX hC hP (aR _ _ _ (by assumption) (by assumption) (by assumption)) rfl rfl rfl (by simp only [go_sem,simprocAttr]) rfl ?_|refine aa hX hC hP (bF _ _ _ (by assumption) (by assumption) (by assumption)) rfl rfl rfl (by simp only [go_sem,simprocAttr]) rfl ?_);try simp only [go_sem,simprocAttr])|((with_reducible refine oD ?_ ?_);kernel_rfl)|((with_reducible intro h);try simp only [go_sem,simprocAttr] at h)|omega|intro h)
 ·exact (bQ (d:=(0,0)) (by omega) hg h).symm
 ·refine ⟨k+1,⟨by omega,fun j hj=> ?_⟩,Le.of ?_ ?_,by omega⟩
  ·by_cases hjk:j=k
   ·subst hjk;exact h
   ·exact hg j (by omega)
  ·simp [go_sem,simprocAttr]
  ·simp [go_sem,simprocAttr]
 ·exact (bq (0,0) fun j hj=>hg j (by omega)).symm
theorem cA (f:Nat) (g:Pt→Bool) (hf:∀p,Spec Tryz.prog f (Args [eP p]) [] (eB (g p)) []) (ps:List Pt) (hl:ps.length≤9223372036854775806):
 Spec Tryz.prog 145 (Args [.d (.sl 2 (ps.map rP)), .fn f [] []]) [] (eB (ps.any g)) []:=by
 (refine Spec.hd (C:=T.cfg [] []) (rs:= [.t 4]) (T.ai _ _) Tryz.func145 rfl rfl Tryz.ntmps145 Tryz.results145 (by simp [AObj.isNest]) (by simp [AObj.isNest]) (by kernel_rfl) T.mixed fun X hX hP hC aG b9=> ?_)
 repeat' (first|refine Rn.p ?_|(with_reducible apply And.intro)|((first|(refine hK _ ?_;clear hK K)|with_reducible intro K hK|refine Rs.p ?_|((with_reducible first|apply oP|apply oQ);exact rfl)|refine aa hX hC hP (hf _) rfl rfl rfl (by simp only [go_sem,simprocAttr]) rfl ?_|refine aa hX hC hP (dy _ _ hf _ hl) rfl rfl rfl (by simp only [go_sem,simprocAttr]) rfl ?_|refine aa hX hC hP (cA _ _ jk _ hl) rfl rfl rfl (by simp only [go_sem,simprocAttr]) rfl ?_|refine aa hX hC hP (cz _) rfl rfl rfl (by simp only [go_sem,simprocAttr]) rfl ?_|refine aa hX hC hP (bB _ _) rfl rfl rfl (by simp only [go_sem,simprocAttr]) rfl ?_|refine aa hX hC hP (bJ _ _ _) rfl rfl rfl (by simp only [go_sem,simprocAttr]) rfl ?_|refine aa hX hC hP (aK _ _ _ _ (by assumption) (by assumption) (by assumption) (by assumption)) rfl rfl rfl (by simp only [go_sem,simprocAttr]) rfl ?_|refine aa hX hC hP (aR _ _ _ (by assumption) (by assumption) (by assumption)) rfl rfl rfl (by simp only [go_sem,simprocAttr]) rfl ?_|refine aa hX hC hP (bF _ _ _ (by assumption) (by assumption) (by assumption)) rfl rfl rfl (by simp only [go_sem,simprocAttr]) rfl ?_);try simp only [go_sem,simprocAttr])|((with_reducible refine oD ?_ ?_);kernel_rfl)|((with_reducible intro h);try simp only [go_sem,simprocAttr] at h)|omega|intro h)
 rw [← c7]
theorem lG (ps:List Pt) (hl:ps.length≤9223372036854775806):Spec Tryz.prog 101 (Args [.d (.sl 2 (ps.map rP))]) [] (eB (!ps.any kN)) []:=by
 (refine Spec.hd (C:=T.cfg [] []) (rs:= [.t 2]) (T.ai _ _) Tryz.func101 rfl rfl Tryz.ntmps101 Tryz.results101 (by simp [AObj.isNest]) (by simp [AObj.isNest]) (by kernel_rfl) T.mixed fun X hX hP hC aG b9=> ?_)
 repeat' (first|refine Rn.p ?_|(with_reducible apply And.intro)|((first|(refine hK _ ?_;clear hK K)|with_reducible intro K hK|refine Rs.p ?_|((with_reducible first|apply oP|apply oQ);exact rfl)|refine aa hX hC hP (hf _) rfl rfl rfl (by simp only [go_sem,simprocAttr]) rfl ?_|refine aa hX hC hP (dy _ _ hf _ hl) rfl rfl rfl (by simp only [go_sem,simprocAttr]) rfl ?_|refine aa hX hC hP (cA _ _ jk _ hl) rfl rfl rfl (by simp only [go_sem,simprocAttr]) rfl ?_|refine aa hX hC hP (cz _) rfl rfl rfl (by simp only [go_sem,simprocAttr]) rfl ?_|refine aa hX hC hP (bB _ _) rfl rfl rfl (by simp only [go_sem,simprocAttr]) rfl ?_|refine aa hX hC hP (bJ _ _ _) rfl rfl rfl (by simp only [go_sem,simprocAttr]) rfl ?_|refine aa hX hC hP (aK _ _ _ _ (by assumption) (by assumption) (by assumption) (by assumption)) rfl rfl rfl (by simp only [go_sem,simprocAttr]) rfl ?_|refine aa hX hC hP (aR _ _ _ (by assumption) (by assumption) (by assumption)) rfl rfl rfl (by simp only [go_sem,simprocAttr]) rfl ?_|refine aa hX hC hP (bF _ _ _ (by assumption) (by assumption) (by assumption)) rfl rfl rfl (by simp only [go_sem,simprocAttr]) rfl ?_);try simp only [go_sem,simprocAttr])|((with_reducible refine oD ?_ ?_);kernel_rfl)|((with_reducible intro h);try simp only [go_sem,simprocAttr] at h)|omega|intro h)
end Go.Ab
end
section
namespace Go.Ab
open Go.Proofs
attribute [local congr] ACall.congr gd.congr Nx.congr
set_option maxRecDepth 10000
instance (p:Pt):Decidable (bw p):=by unfold bw;infer_instance
theorem uh (p:Pt):kN p= !decide (bw p):=by
 by_cases h:bw p
 ·rw [decide_eq_true h]
  simp only [bw] at h
  simp only [kN,Int.max_def,Int.min_def,Bool.not_true,Bool.or_eq_false_iff,decide_eq_false_iff_not]
  split<;>omega
 ·rw [decide_eq_false h]
  simp only [bw] at h
  simp only [kN,Int.max_def,Int.min_def,Bool.not_false,Bool.or_eq_true,decide_eq_true_eq]
  split<;>omega
theorem y3 (ps:List Pt):(!ps.any kN)=decide (∀p∈ps,bw p):=by
 rw [Bool.eq_iff_iff];simp [uh]
theorem CE (ps:List Pt) (hl:ps.length≤9223372036854775806) (h:∀p∈ps,bw p):Spec Tryz.prog 101 (Args [.d (.sl 2 (ps.map rP))]) [] (eB true) []:=by
 have:=lG ps hl
 rw [y3,decide_eq_true h] at this
 exact this
theorem y4 (ps:List Pt) (hl:ps.length≤9223372036854775806) (h:¬∀p∈ps,bw p):Spec Tryz.prog 101 (Args [.d (.sl 2 (ps.map rP))]) [] (eB false) []:=by
 have:=lG ps hl
 rw [y3,decide_eq_false h] at this
 exact this
theorem y5 (a b c:Pt) (ha:bw a) (hb:bw b) (hc:bw c):Spec Tryz.prog 101 (Args [.d (.sl 2 ([a,b,c].map rP))]) [] (eB true) []:=CE _ (by simp) (by simp [ha,hb,hc])
theorem dA (a b c d:Pt) (ha:bw a) (hb:bw b) (hc:bw c) (hd:bw d):Spec Tryz.prog 101 (Args [.d (.sl 2 ([a,b,c,d].map rP))]) [] (eB true) []:=CE _ (by simp) (by simp [ha,hb,hc,hd])
theorem vU (a b c:Pt) (h:¬(bw a∧bw b∧bw c)):Spec Tryz.prog 101 (Args [.d (.sl 2 ([a,b,c].map rP))]) [] (eB false) []:=y4 _ (by simp) (by simpa using h)
theorem cB (a b c d:Pt) (h:¬(bw a∧bw b∧bw c∧bw d)):Spec Tryz.prog 101 (Args [.d (.sl 2 ([a,b,c,d].map rP))]) [] (eB false) []:=y4 _ (by simp) (by simpa using h)
def Mc (a b c:Pt):Int:=if bw a∧bw b∧bw c then sd a b c else 0
def pJ (a b c:Pt):Bool:=decide (bw a∧bw b∧bw c)&&iq a b c
theorem uj (a b c:Pt):Spec Tryz.prog 144 (Args [eP a,eP b,eP c]) [] (eB (pJ a b c)) []:=by
 by_cases hin:bw a∧bw b∧bw c
 ·obtain ⟨ha,hb,hc⟩:=hin
  (refine Spec.hd (C:=T.cfg [] []) (rs:= [.t 6]) (T.ai _ _) Tryz.func144 rfl rfl Tryz.ntmps144 Tryz.results144 (by simp [AObj.isNest]) (by simp [AObj.isNest]) (by kernel_rfl) T.mixed fun X hX hP hC aG b9=> ?_)
  repeat' (first|refine Rn.p ?_|(with_reducible apply And.intro)|((first|(refine hK _ ?_;clear hK K)|with_reducible intro K hK|refine Rs.p ?_|((with_reducible first|apply oP|apply oQ);exact rfl)|refine aa hX hC hP (bB _ _) rfl rfl rfl (by simp only [go_sem,simprocAttr]) rfl ?_|refine aa hX hC hP (bJ _ _ _) rfl rfl rfl (by simp only [go_sem,simprocAttr]) rfl ?_|refine aa hX hC hP (aK _ _ _ _ (by assumption) (by assumption) (by assumption) (by assumption)) rfl rfl rfl (by simp only [go_sem,simprocAttr]) rfl ?_|refine aa hX hC hP (aR _ _ _ (by assumption) (by assumption) (by assumption)) rfl rfl rfl (by simp only [go_sem,simprocAttr]) rfl ?_|refine aa hX hC hP (bF _ _ _ (by assumption) (by assumption) (by assumption)) rfl rfl rfl (by simp only [go_sem,simprocAttr]) rfl ?_|(refine ak hX hC hP (y5 a b c (by assumption) (by assumption) (by assumption)) rfl rfl rfl ?_ ?_ rfl ?_;iterate 2 (focus (simp only [go_sem,simprocAttr];done)))|(refine ak hX hC hP (dA a b c d (by assumption) (by assumption) (by assumption) (by assumption)) rfl rfl rfl ?_ ?_ rfl ?_;iterate 2 (focus (simp only [go_sem,simprocAttr];done)))|(refine ak hX hC hP (vU a b c (by assumption)) rfl rfl rfl ?_ ?_ rfl ?_;iterate 2 (focus (simp only [go_sem,simprocAttr];done)))|(refine ak hX hC hP (cB a b c d (by assumption)) rfl rfl rfl ?_ ?_ rfl ?_;iterate 2 (focus (simp only [go_sem,simprocAttr];done))));try simp only [go_sem,simprocAttr])|((with_reducible refine oD ?_ ?_);kernel_rfl)|((with_reducible intro h);try simp only [go_sem,simprocAttr] at h)|omega|intro h)
  all_goals simp [pJ,ha,hb,hc]
 ·(refine Spec.hd (C:=T.cfg [] []) (rs:= [.t 6]) (T.ai _ _) Tryz.func144 rfl rfl Tryz.ntmps144 Tryz.results144 (by simp [AObj.isNest]) (by simp [AObj.isNest]) (by kernel_rfl) T.mixed fun X hX hP hC aG b9=> ?_)
  repeat' (first|refine Rn.p ?_|(with_reducible apply And.intro)|((first|(refine hK _ ?_;clear hK K)|with_reducible intro K hK|refine Rs.p ?_|((with_reducible first|apply oP|apply oQ);exact rfl)|refine aa hX hC hP (bB _ _) rfl rfl rfl (by simp only [go_sem,simprocAttr]) rfl ?_|refine aa hX hC hP (bJ _ _ _) rfl rfl rfl (by simp only [go_sem,simprocAttr]) rfl ?_|refine aa hX hC hP (aK _ _ _ _ (by assumption) (by assumption) (by assumption) (by assumption)) rfl rfl rfl (by simp only [go_sem,simprocAttr]) rfl ?_|refine aa hX hC hP (aR _ _ _ (by assumption) (by assumption) (by assumption)) rfl rfl rfl (by simp only [go_sem,simprocAttr]) rfl ?_|refine aa hX hC hP (bF _ _ _ (by assumption) (by assumption) (by assumption)) rfl rfl rfl (by simp only [go_sem,simprocAttr]) rfl ?_|(refine ak hX hC hP (y5 a b c (by assumption) (by assumption) (by assumption)) rfl rfl rfl ?_ ?_ rfl ?_;iterate 2 (focus (simp only [go_sem,simprocAttr];done)))|(refine ak hX hC hP (dA a b c d (by assumption) (by assumption) (by assumption) (by assumption)) rfl rfl rfl ?_ ?_ rfl ?_;iterate 2 (focus (simp only [go_sem,simprocAttr];done)))|(refine ak hX hC hP (vU a b c (by assumption)) rfl rfl rfl ?_ ?_ rfl ?_;iterate 2 (focus (simp only [go_sem,simprocAttr];done)))|(refine ak hX hC hP (cB a b c d (by assumption)) rfl rfl rfl ?_ ?_ rfl ?_;iterate 2 (focus (simp only [go_sem,simprocAttr];done))));try simp only [go_sem,simprocAttr])|((with_reducible refine oD ?_ ?_);kernel_rfl)|((with_reducible intro h);try simp only [go_sem,simprocAttr] at h)|omega|intro h)
  all_goals rw [pJ,decide_eq_false hin];rfl
end Go.Ab
end
section
namespace Go.Ab
open Go.Proofs
attribute [local congr] ACall.congr gd.congr Nx.congr
set_option maxRecDepth 10000
theorem F6 {p:Prop} [Decidable p] {b:Bool} (h:b=true↔p):b=decide p:=by
 by_cases hp:p
 ·rw [decide_eq_true hp];exact h.2 hp
 ·rw [decide_eq_false hp]
  cases b with
  |true=>exact absurd (h.1 rfl) hp
  |false=>rfl
theorem jT (p:Pt):Spec Tryz.prog 105 (Args [eP p]) [] (eB (decide (bw p))) []:=by
 (refine Spec.hd (C:=T.cfg [] []) (rs:= [.t 2]) (T.ai _ _) Tryz.func105 rfl rfl Tryz.ntmps105 Tryz.results105 (by simp [AObj.isNest]) (by simp [AObj.isNest]) (by kernel_rfl) T.mixed fun X hX hP hC aG b9=> ?_)
 repeat' (first|refine Rn.p ?_|(with_reducible apply And.intro)|((first|(refine hK _ ?_;clear hK K)|with_reducible intro K hK|refine Rs.p ?_|((with_reducible first|apply oP|apply oQ);exact rfl)|refine aa hX hC hP (aS _ (by assumption)) rfl rfl rfl (by simp only [go_sem,simprocAttr]) rfl ?_|refine aa hX hC hP (aN _ (by assumption)) rfl rfl rfl (by simp only [go_sem,simprocAttr]) rfl ?_|refine aa hX hC hP (aY _) rfl rfl rfl (by simp only [go_sem,simprocAttr]) rfl ?_|refine aa hX hC hP (aZ _ _ _ (by assumption) (by assumption) (by assumption)) rfl rfl rfl (by simp only [go_sem,simprocAttr]) rfl ?_|refine aa hX hC hP (aT _ _ _ (by assumption) (by assumption) (by assumption)) rfl rfl rfl (by simp only [go_sem,simprocAttr]) rfl ?_|refine aa hX hC hP (aQ _ _ _) rfl rfl rfl (by simp only [go_sem,simprocAttr]) rfl ?_);try simp only [go_sem,simprocAttr])|((with_reducible refine oD ?_ ?_);kernel_rfl)|((with_reducible intro h);try simp only [go_sem,simprocAttr] at h)|omega|intro h)
 all_goals (refine F6 ?_;simp only [bw,decide_eq_true_eq,Bool.false_eq_true,false_iff];omega)
theorem aS (p:Pt) (h:bw p):Spec Tryz.prog 105 (Args [eP p]) [] (eB true) []:=by
 have:=jT p;rwa [decide_eq_true h] at this
theorem aN (p:Pt) (h:¬bw p):Spec Tryz.prog 105 (Args [eP p]) [] (eB false) []:=by
 have:=jT p;rwa [decide_eq_false h] at this
theorem aY (n:Int):Spec Tryz.prog 108 (Args [eN n]) [] (eN (e9 n 0)) []:=by
 (refine Spec.hd (C:=T.cfg [] []) (rs:= [.t 2]) (T.ai _ _) Tryz.func108 rfl rfl Tryz.ntmps108 Tryz.results108 (by simp [AObj.isNest]) (by simp [AObj.isNest]) (by kernel_rfl) T.mixed fun X hX hP hC aG b9=> ?_)
 repeat' (first|refine Rn.p ?_|(with_reducible apply And.intro)|((first|(refine hK _ ?_;clear hK K)|with_reducible intro K hK|refine Rs.p ?_|((with_reducible first|apply oP|apply oQ);exact rfl)|refine aa hX hC hP (aS _ (by assumption)) rfl rfl rfl (by simp only [go_sem,simprocAttr]) rfl ?_|refine aa hX hC hP (aN _ (by assumption)) rfl rfl rfl (by simp only [go_sem,simprocAttr]) rfl ?_|refine aa hX hC hP (aY _) rfl rfl rfl (by simp only [go_sem,simprocAttr]) rfl ?_|refine aa hX hC hP (aZ _ _ _ (by assumption) (by assumption) (by assumption)) rfl rfl rfl (by simp only [go_sem,simprocAttr]) rfl ?_|refine aa hX hC hP (aT _ _ _ (by assumption) (by assumption) (by assumption)) rfl rfl rfl (by simp only [go_sem,simprocAttr]) rfl ?_|refine aa hX hC hP (aQ _ _ _) rfl rfl rfl (by simp only [go_sem,simprocAttr]) rfl ?_);try simp only [go_sem,simprocAttr])|((with_reducible refine oD ?_ ?_);kernel_rfl)|((with_reducible intro h);try simp only [go_sem,simprocAttr] at h)|omega|intro h)
 all_goals (unfold e9;repeat' split)<;>omega
def aq (a b c:Pt):Int:=a.1*b.2 - a.2*b.1+b.1*c.2 - b.2*c.1+c.1*a.2 - c.2*a.1
theorem aZ (a b c:Pt) (ha:bw a) (hb:bw b) (hc:bw c):Spec Tryz.prog 109 (Args [eP a,eP b,eP c]) [] (eN (aq a b c)) []:=by
 (refine Spec.hd (C:=T.cfg [] []) (rs:= [.t 6]) (T.ai _ _) Tryz.func109 rfl rfl Tryz.ntmps109 Tryz.results109 (by simp [AObj.isNest]) (by simp [AObj.isNest]) (by kernel_rfl) T.mixed fun X hX hP hC aG b9=> ?_)
 have m1:=ko ha.1 hb.2
 have m2:=ko ha.2 hb.1
 have m3:=ko hb.1 hc.2
 have m4:=ko hb.2 hc.1
 have m5:=ko hc.1 ha.2
 have m6:=ko hc.2 ha.1
 repeat' (first|refine Rn.p ?_|(with_reducible apply And.intro)|((first|(refine hK _ ?_;clear hK K)|with_reducible intro K hK|refine Rs.p ?_|((with_reducible first|apply oP|apply oQ);exact rfl)|refine aa hX hC hP (aS _ (by assumption)) rfl rfl rfl (by simp only [go_sem,simprocAttr]) rfl ?_|refine aa hX hC hP (aN _ (by assumption)) rfl rfl rfl (by simp only [go_sem,simprocAttr]) rfl ?_|refine aa hX hC hP (aY _) rfl rfl rfl (by simp only [go_sem,simprocAttr]) rfl ?_|refine aa hX hC hP (aZ _ _ _ (by assumption) (by assumption) (by assumption)) rfl rfl rfl (by simp only [go_sem,simprocAttr]) rfl ?_|refine aa hX hC hP (aT _ _ _ (by assumption) (by assumption) (by assumption)) rfl rfl rfl (by simp only [go_sem,simprocAttr]) rfl ?_|refine aa hX hC hP (aQ _ _ _) rfl rfl rfl (by simp only [go_sem,simprocAttr]) rfl ?_);try simp only [go_sem,simprocAttr])|((with_reducible refine oD ?_ ?_);kernel_rfl)|((with_reducible intro h);try simp only [go_sem,simprocAttr] at h)|omega|intro h)
 all_goals rfl
def aj (a b p:Pt):Int:=(p.1 - a.1)*(b.1 - a.1)+(p.2 - a.2)*(b.2 - a.2)
theorem aT (a b c:Pt) (ha:bw a) (hb:bw b) (hc:bw c):Spec Tryz.prog 162 (Args [eP a,eP b,eP c]) [] (eN (aj a b c)) []:=by
 (refine Spec.hd (C:=T.cfg [] []) (rs:= [.t 6]) (T.ai _ _) Tryz.func162 rfl rfl Tryz.ntmps162 Tryz.results162 (by simp [AObj.isNest]) (by simp [AObj.isNest]) (by kernel_rfl) T.mixed fun X hX hP hC aG b9=> ?_)
 simp only [bw] at ha hb hc
 have m1:=ko (x:=c.1 - a.1) (y:=b.1 - a.1) (m:=524288) (n:=524288) (by omega) (by omega)
 have m2:=ko (x:=c.2 - a.2) (y:=b.2 - a.2) (m:=524288) (n:=524288) (by omega) (by omega)
 repeat' (first|refine Rn.p ?_|(with_reducible apply And.intro)|((first|(refine hK _ ?_;clear hK K)|with_reducible intro K hK|refine Rs.p ?_|((with_reducible first|apply oP|apply oQ);exact rfl)|refine aa hX hC hP (aS _ (by assumption)) rfl rfl rfl (by simp only [go_sem,simprocAttr]) rfl ?_|refine aa hX hC hP (aN _ (by assumption)) rfl rfl rfl (by simp only [go_sem,simprocAttr]) rfl ?_|refine aa hX hC hP (aY _) rfl rfl rfl (by simp only [go_sem,simprocAttr]) rfl ?_|refine aa hX hC hP (aZ _ _ _ (by assumption) (by assumption) (by assumption)) rfl rfl rfl (by simp only [go_sem,simprocAttr]) rfl ?_|refine aa hX hC hP (aT _ _ _ (by assumption) (by assumption) (by assumption)) rfl rfl rfl (by simp only [go_sem,simprocAttr]) rfl ?_|refine aa hX hC hP (aQ _ _ _) rfl rfl rfl (by simp only [go_sem,simprocAttr]) rfl ?_);try simp only [go_sem,simprocAttr])|((with_reducible refine oD ?_ ?_);kernel_rfl)|((with_reducible intro h);try simp only [go_sem,simprocAttr] at h)|omega|intro h)
 all_goals rfl
def kO (a b c:Pt):Int:=if bw a∧bw b∧bw c then e9 (aq a b c) 0 else 0
theorem um (a b c:Pt):Spec Tryz.prog 57 (Args [eP a,eP b,eP c]) [] (eN (kO a b c)) []:=by
 by_cases ha:bw a<;>by_cases hb:bw b<;>by_cases hc:bw c<;>(refine Spec.hd (C:=T.cfg [] []) (rs:= [.t 6]) (T.ai _ _) Tryz.func57 rfl rfl Tryz.ntmps57 Tryz.results57 (by simp [AObj.isNest]) (by simp [AObj.isNest]) (by kernel_rfl) T.mixed fun X hX hP hC aG b9=> ?_)
 all_goals repeat' (first|refine Rn.p ?_|(with_reducible apply And.intro)|((first|(refine hK _ ?_;clear hK K)|with_reducible intro K hK|refine Rs.p ?_|((with_reducible first|apply oP|apply oQ);exact rfl)|refine aa hX hC hP (aS _ (by assumption)) rfl rfl rfl (by simp only [go_sem,simprocAttr]) rfl ?_|refine aa hX hC hP (aN _ (by assumption)) rfl rfl rfl (by simp only [go_sem,simprocAttr]) rfl ?_|refine aa hX hC hP (aY _) rfl rfl rfl (by simp only [go_sem,simprocAttr]) rfl ?_|refine aa hX hC hP (aZ _ _ _ (by assumption) (by assumption) (by assumption)) rfl rfl rfl (by simp only [go_sem,simprocAttr]) rfl ?_|refine aa hX hC hP (aT _ _ _ (by assumption) (by assumption) (by assumption)) rfl rfl rfl (by simp only [go_sem,simprocAttr]) rfl ?_|refine aa hX hC hP (aQ _ _ _) rfl rfl rfl (by simp only [go_sem,simprocAttr]) rfl ?_);try simp only [go_sem,simprocAttr])|((with_reducible refine oD ?_ ?_);kernel_rfl)|((with_reducible intro h);try simp only [go_sem,simprocAttr] at h)|omega|intro h)
 all_goals simp [kO,ha,hb,hc]
def iR (a b c:Pt):Bool:=decide (bw a∧bw b∧bw c)&&(decide (aq a b c=0)&&decide ((a.1 - c.1)*(b.1 - c.1)+(a.2 - c.2)*(b.2 - c.2)≤0))
theorem aQ (a b c:Pt):Spec Tryz.prog 106 (Args [eP a,eP b,eP c]) [] (eB (iR a b c)) []:=by
 by_cases ha:bw a
 ·by_cases hb:bw b
  ·by_cases hc:bw c
   ·(refine Spec.hd (C:=T.cfg [] []) (rs:= [.t 6]) (T.ai _ _) Tryz.func106 rfl rfl Tryz.ntmps106 Tryz.results106 (by simp [AObj.isNest]) (by simp [AObj.isNest]) (by kernel_rfl) T.mixed fun X hX hP hC aG b9=> ?_)
    have i1:=ha
    have i2:=hb
    have i3:=hc
    simp only [bw] at i1 i2 i3
    have m1:=ko (x:=a.1 - c.1) (y:=b.1 - c.1) (m:=524288) (n:=524288) (by omega) (by omega)
    have m2:=ko (x:=a.2 - c.2) (y:=b.2 - c.2) (m:=524288) (n:=524288) (by omega) (by omega)
    repeat' (first|refine Rn.p ?_|(with_reducible apply And.intro)|((first|(refine hK _ ?_;clear hK K)|with_reducible intro K hK|refine Rs.p ?_|((with_reducible first|apply oP|apply oQ);exact rfl)|refine aa hX hC hP (aS _ (by assumption)) rfl rfl rfl (by simp only [go_sem,simprocAttr]) rfl ?_|refine aa hX hC hP (aN _ (by assumption)) rfl rfl rfl (by simp only [go_sem,simprocAttr]) rfl ?_|refine aa hX hC hP (aY _) rfl rfl rfl (by simp only [go_sem,simprocAttr]) rfl ?_|refine aa hX hC hP (aZ _ _ _ (by assumption) (by assumption) (by assumption)) rfl rfl rfl (by simp only [go_sem,simprocAttr]) rfl ?_|refine aa hX hC hP (aT _ _ _ (by assumption) (by assumption) (by assumption)) rfl rfl rfl (by simp only [go_sem,simprocAttr]) rfl ?_|refine aa hX hC hP (aQ _ _ _) rfl rfl rfl (by simp only [go_sem,simprocAttr]) rfl ?_);try simp only [go_sem,simprocAttr])|((with_reducible refine oD ?_ ?_);kernel_rfl)|((with_reducible intro h);try simp only [go_sem,simprocAttr] at h)|omega|intro h)
    all_goals simp_all [iR]
   ·(refine Spec.hd (C:=T.cfg [] []) (rs:= [.t 6]) (T.ai _ _) Tryz.func106 rfl rfl Tryz.ntmps106 Tryz.results106 (by simp [AObj.isNest]) (by simp [AObj.isNest]) (by kernel_rfl) T.mixed fun X hX hP hC aG b9=> ?_)
    repeat' (first|refine Rn.p ?_|(with_reducible apply And.intro)|((first|(refine hK _ ?_;clear hK K)|with_reducible intro K hK|refine Rs.p ?_|((with_reducible first|apply oP|apply oQ);exact rfl)|refine aa hX hC hP (aS _ (by assumption)) rfl rfl rfl (by simp only [go_sem,simprocAttr]) rfl ?_|refine aa hX hC hP (aN _ (by assumption)) rfl rfl rfl (by simp only [go_sem,simprocAttr]) rfl ?_|refine aa hX hC hP (aY _) rfl rfl rfl (by simp only [go_sem,simprocAttr]) rfl ?_|refine aa hX hC hP (aZ _ _ _ (by assumption) (by assumption) (by assumption)) rfl rfl rfl (by simp only [go_sem,simprocAttr]) rfl ?_|refine aa hX hC hP (aT _ _ _ (by assumption) (by assumption) (by assumption)) rfl rfl rfl (by simp only [go_sem,simprocAttr]) rfl ?_|refine aa hX hC hP (aQ _ _ _) rfl rfl rfl (by simp only [go_sem,simprocAttr]) rfl ?_);try simp only [go_sem,simprocAttr])|((with_reducible refine oD ?_ ?_);kernel_rfl)|((with_reducible intro h);try simp only [go_sem,simprocAttr] at h)|omega|intro h)
    all_goals simp [iR,ha,hb,hc]
  ·(refine Spec.hd (C:=T.cfg [] []) (rs:= [.t 6]) (T.ai _ _) Tryz.func106 rfl rfl Tryz.ntmps106 Tryz.results106 (by simp [AObj.isNest]) (by simp [AObj.isNest]) (by kernel_rfl) T.mixed fun X hX hP hC aG b9=> ?_)
   repeat' (first|refine Rn.p ?_|(with_reducible apply And.intro)|((first|(refine hK _ ?_;clear hK K)|with_reducible intro K hK|refine Rs.p ?_|((with_reducible first|apply oP|apply oQ);exact rfl)|refine aa hX hC hP (aS _ (by assumption)) rfl rfl rfl (by simp only [go_sem,simprocAttr]) rfl ?_|refine aa hX hC hP (aN _ (by assumption)) rfl rfl rfl (by simp only [go_sem,simprocAttr]) rfl ?_|refine aa hX hC hP (aY _) rfl rfl rfl (by simp only [go_sem,simprocAttr]) rfl ?_|refine aa hX hC hP (aZ _ _ _ (by assumption) (by assumption) (by assumption)) rfl rfl rfl (by simp only [go_sem,simprocAttr]) rfl ?_|refine aa hX hC hP (aT _ _ _ (by assumption) (by assumption) (by assumption)) rfl rfl rfl (by simp only [go_sem,simprocAttr]) rfl ?_|refine aa hX hC hP (aQ _ _ _) rfl rfl rfl (by simp only [go_sem,simprocAttr]) rfl ?_);try simp only [go_sem,simprocAttr])|((with_reducible refine oD ?_ ?_);kernel_rfl)|((with_reducible intro h);try simp only [go_sem,simprocAttr] at h)|omega|intro h)
   all_goals simp [iR,ha,hb]
 ·(refine Spec.hd (C:=T.cfg [] []) (rs:= [.t 6]) (T.ai _ _) Tryz.func106 rfl rfl Tryz.ntmps106 Tryz.results106 (by simp [AObj.isNest]) (by simp [AObj.isNest]) (by kernel_rfl) T.mixed fun X hX hP hC aG b9=> ?_)
  repeat' (first|refine Rn.p ?_|(with_reducible apply And.intro)|((first|(refine hK _ ?_;clear hK K)|with_reducible intro K hK|refine Rs.p ?_|((with_reducible first|apply oP|apply oQ);exact rfl)|refine aa hX hC hP (aS _ (by assumption)) rfl rfl rfl (by simp only [go_sem,simprocAttr]) rfl ?_|refine aa hX hC hP (aN _ (by assumption)) rfl rfl rfl (by simp only [go_sem,simprocAttr]) rfl ?_|refine aa hX hC hP (aY _) rfl rfl rfl (by simp only [go_sem,simprocAttr]) rfl ?_|refine aa hX hC hP (aZ _ _ _ (by assumption) (by assumption) (by assumption)) rfl rfl rfl (by simp only [go_sem,simprocAttr]) rfl ?_|refine aa hX hC hP (aT _ _ _ (by assumption) (by assumption) (by assumption)) rfl rfl rfl (by simp only [go_sem,simprocAttr]) rfl ?_|refine aa hX hC hP (aQ _ _ _) rfl rfl rfl (by simp only [go_sem,simprocAttr]) rfl ?_);try simp only [go_sem,simprocAttr])|((with_reducible refine oD ?_ ?_);kernel_rfl)|((with_reducible intro h);try simp only [go_sem,simprocAttr] at h)|omega|intro h)
  all_goals simp [iR,ha]
end Go.Ab
end
section
namespace Go.Ab
open Go.Proofs
attribute [local congr] ACall.congr gd.congr Nx.congr
set_option maxRecDepth 10000
set_option maxHeartbeats 2000000
def pV:OT:=(.br 0 (.br 1 (.br 2 (.br 3 (.br 4 (.br 5 (.br 6 .nil .nil) .nil) .nil) (.br 4 (.br 3 (.br 5 (.br 6 .nil .nil) .nil) (.br 5 (.br 3 (.br 6 .nil .nil) .nil) .nil)) .nil)) (.br 4 (.br 2 (.br 3 (.br 5 (.br 6 .nil .nil) .nil) (.br 5 (.br 3 (.br 6 .nil .nil) .nil) .nil)) (.br 5 (.br 2 (.br 3 (.br 6 .nil .nil) .nil) .nil) .nil)) .nil)) .nil) (.br 1 (.br 0 (.br 2 (.br 3 (.br 4 (.br 5 (.br 6 .nil .nil) .nil) .nil) (.br 4 (.br 3 (.br 5 (.br 6 .nil .nil) .nil) (.br 5 (.br 3 (.br 6 .nil .nil) .nil) .nil)) .nil)) (.br 4 (.br 2 (.br 3 (.br 5 (.br 6 .nil .nil) .nil) (.br 5 (.br 3 (.br 6 .nil .nil) .nil) .nil)) (.br 5 (.br 2 (.br 3 (.br 6 .nil .nil) .nil) .nil) .nil)) .nil)) .nil) .nil))
theorem kP (n:Int): -1≤e9 n 0∧e9 n 0≤1:=by unfold e9;repeat' split<;>omega
def fc (a b c d:Pt):Int:=
 if bw a∧bw b∧bw c∧bw d then
  if a=b then (if iR c d a=true then 1 else 0)
  else if c=d then (if iR a b c=true then 1 else 0)
  else if e9 (aq a b c) 0=0∧e9 (aq a b d) 0=0 then
   let lo:=max (aj a b a) (min (aj a b c) (aj a b d))
   let hi:=min (aj a b b) (max (aj a b c) (aj a b d))
   if hi<lo then 0 else if lo=hi then 1 else 2
  else if e9 (aq a b c) 0*e9 (aq a b d) 0≤0∧e9 (aq c d a) 0*e9 (aq c d b) 0≤0 then 1 else 0
 else 0
theorem uo (a b c d:Pt):Spec Tryz.prog 107 (Args [eP a,eP b,eP c,eP d]) [] (eN (fc a b c d)) []:=by
 by_cases ha:bw a
 ·by_cases hb:bw b
  ·by_cases hc:bw c
   ·by_cases hd:bw d
    ·(refine Spec.hd (C:=T.cfg [] []) (rs:= [.t 8]) (T.ai _ _) Tryz.func107 rfl rfl Tryz.ntmps107 Tryz.results107 (by simp [AObj.isNest]) (by simp [AObj.isNest]) (by kernel_rfl) T.mixed fun X hX hP hC aG b9=> ?_)
     have m1:=ko (kP (aq a b c)) (kP (aq a b d))
     have m2:=ko (kP (aq c d a)) (kP (aq c d b))
     repeat' (first|((with_reducible refine dx hX hC aG pV (by kernel_rfl) ?_);simp only [pV])|((with_reducible apply oI);(iterate 2 exact rfl);intro K hK;try simp only [go_sem,simprocAttr])|(with_reducible (first|apply oJ|exact oK))|refine Rn.p ?_|(with_reducible apply And.intro)|((first|(refine hK _ ?_;clear hK K)|with_reducible intro K hK|refine Rs.p ?_|((with_reducible first|apply oP|apply oQ);exact rfl)|refine aa hX hC hP (aS _ (by assumption)) rfl rfl rfl (by simp only [go_sem,simprocAttr]) rfl ?_|refine aa hX hC hP (aN _ (by assumption)) rfl rfl rfl (by simp only [go_sem,simprocAttr]) rfl ?_|refine aa hX hC hP (aY _) rfl rfl rfl (by simp only [go_sem,simprocAttr]) rfl ?_|refine aa hX hC hP (aZ _ _ _ (by assumption) (by assumption) (by assumption)) rfl rfl rfl (by simp only [go_sem,simprocAttr]) rfl ?_|refine aa hX hC hP (aT _ _ _ (by assumption) (by assumption) (by assumption)) rfl rfl rfl (by simp only [go_sem,simprocAttr]) rfl ?_|refine aa hX hC hP (aQ _ _ _) rfl rfl rfl (by simp only [go_sem,simprocAttr]) rfl ?_|refine aa hX hC hP (aK _ _ _ _ (by assumption) (by assumption) (by assumption) (by assumption)) rfl rfl rfl (by simp only [go_sem,simprocAttr]) rfl ?_|refine aa hX hC hP (aR _ _ _ (by assumption) (by assumption) (by assumption)) rfl rfl rfl (by simp only [go_sem,simprocAttr]) rfl ?_|refine aa hX hC hP (bF _ _ _ (by assumption) (by assumption) (by assumption)) rfl rfl rfl (by simp only [go_sem,simprocAttr]) rfl ?_|(refine ak hX hC hP (dA a b c d (by assumption) (by assumption) (by assumption) (by assumption)) rfl rfl rfl ?_ ?_ rfl ?_;iterate 2 (focus (simp only [go_sem,simprocAttr];done)))|(refine ak hX hC hP (cB a b c d (by assumption)) rfl rfl rfl ?_ ?_ rfl ?_;iterate 2 (focus (simp only [go_sem,simprocAttr];done))));try simp only [go_sem,simprocAttr])|((with_reducible refine oD ?_ ?_);kernel_rfl)|((with_reducible intro h);try simp only [go_sem,simprocAttr] at h)|omega|intro h)
     all_goals simp only [fc,ha,hb,hc,hd,and_self,if_true,Prod.ext_iff]
     all_goals clear hX aG hP hC b9 X
     all_goals grind
    ·(refine Spec.hd (C:=T.cfg [] []) (rs:= [.t 8]) (T.ai _ _) Tryz.func107 rfl rfl Tryz.ntmps107 Tryz.results107 (by simp [AObj.isNest]) (by simp [AObj.isNest]) (by kernel_rfl) T.mixed fun X hX hP hC aG b9=> ?_)
     repeat' (first|((with_reducible refine dx hX hC aG pV (by kernel_rfl) ?_);simp only [pV])|((with_reducible apply oI);(iterate 2 exact rfl);intro K hK;try simp only [go_sem,simprocAttr])|(with_reducible (first|apply oJ|exact oK))|refine Rn.p ?_|(with_reducible apply And.intro)|((first|(refine hK _ ?_;clear hK K)|with_reducible intro K hK|refine Rs.p ?_|((with_reducible first|apply oP|apply oQ);exact rfl)|refine aa hX hC hP (aS _ (by assumption)) rfl rfl rfl (by simp only [go_sem,simprocAttr]) rfl ?_|refine aa hX hC hP (aN _ (by assumption)) rfl rfl rfl (by simp only [go_sem,simprocAttr]) rfl ?_|refine aa hX hC hP (aY _) rfl rfl rfl (by simp only [go_sem,simprocAttr]) rfl ?_|refine aa hX hC hP (aZ _ _ _ (by assumption) (by assumption) (by assumption)) rfl rfl rfl (by simp only [go_sem,simprocAttr]) rfl ?_|refine aa hX hC hP (aT _ _ _ (by assumption) (by assumption) (by assumption)) rfl rfl rfl (by simp only [go_sem,simprocAttr]) rfl ?_|refine aa hX hC hP (aQ _ _ _) rfl rfl rfl (by simp only [go_sem,simprocAttr]) rfl ?_|refine aa hX hC hP (aK _ _ _ _ (by assumption) (by assumption) (by assumption) (by assumption)) rfl rfl rfl (by simp only [go_sem,simprocAttr]) rfl ?_|refine aa hX hC hP (aR _ _ _ (by assumption) (by assumption) (by assumption)) rfl rfl rfl (by simp only [go_sem,simprocAttr]) rfl ?_|refine aa hX hC hP (bF _ _ _ (by assumption) (by assumption) (by assumption)) rfl rfl rfl (by simp only [go_sem,simprocAttr]) rfl ?_|(refine ak hX hC hP (dA a b c d (by assumption) (by assumption) (by assumption) (by assumption)) rfl rfl rfl ?_ ?_ rfl ?_;iterate 2 (focus (simp only [go_sem,simprocAttr];done)))|(refine ak hX hC hP (cB a b c d (by assumption)) rfl rfl rfl ?_ ?_ rfl ?_;iterate 2 (focus (simp only [go_sem,simprocAttr];done))));try simp only [go_sem,simprocAttr])|((with_reducible refine oD ?_ ?_);kernel_rfl)|((with_reducible intro h);try simp only [go_sem,simprocAttr] at h)|omega|intro h)
     all_goals simp [fc,hd]
   ·(refine Spec.hd (C:=T.cfg [] []) (rs:= [.t 8]) (T.ai _ _) Tryz.func107 rfl rfl Tryz.ntmps107 Tryz.results107 (by simp [AObj.isNest]) (by simp [AObj.isNest]) (by kernel_rfl) T.mixed fun X hX hP hC aG b9=> ?_)
    repeat' (first|((with_reducible refine dx hX hC aG pV (by kernel_rfl) ?_);simp only [pV])|((with_reducible apply oI);(iterate 2 exact rfl);intro K hK;try simp only [go_sem,simprocAttr])|(with_reducible (first|apply oJ|exact oK))|refine Rn.p ?_|(with_reducible apply And.intro)|((first|(refine hK _ ?_;clear hK K)|with_reducible intro K hK|refine Rs.p ?_|((with_reducible first|apply oP|apply oQ);exact rfl)|refine aa hX hC hP (aS _ (by assumption)) rfl rfl rfl (by simp only [go_sem,simprocAttr]) rfl ?_|refine aa hX hC hP (aN _ (by assumption)) rfl rfl rfl (by simp only [go_sem,simprocAttr]) rfl ?_|refine aa hX hC hP (aY _) rfl rfl rfl (by simp only [go_sem,simprocAttr]) rfl ?_|refine aa hX hC hP (aZ _ _ _ (by assumption) (by assumption) (by assumption)) rfl rfl rfl (by simp only [go_sem,simprocAttr]) rfl ?_|refine aa hX hC hP (aT _ _ _ (by assumption) (by assumption) (by assumption)) rfl rfl rfl (by simp only [go_sem,simprocAttr]) rfl ?_|refine aa hX hC hP (aQ _ _ _) rfl rfl rfl (by simp only [go_sem,simprocAttr]) rfl ?_|refine aa hX hC hP (aK _ _ _ _ (by assumption) (by assumption) (by assumption) (by assumption)) rfl rfl rfl (by simp only [go_sem,simprocAttr]) rfl ?_|refine aa hX hC hP (aR _ _ _ (by assumption) (by assumption) (by assumption)) rfl rfl rfl (by simp only [go_sem,simprocAttr]) rfl ?_|refine aa hX hC hP (bF _ _ _ (by assumption) (by assumption) (by assumption)) rfl rfl rfl (by simp only [go_sem,simprocAttr]) rfl ?_|(refine ak hX hC hP (dA a b c d (by assumption) (by assumption) (by assumption) (by assumption)) rfl rfl rfl ?_ ?_ rfl ?_;iterate 2 (focus (simp only [go_sem,simprocAttr];done)))|(refine ak hX hC hP (cB a b c d (by assumption)) rfl rfl rfl ?_ ?_ rfl ?_;iterate 2 (focus (simp only [go_sem,simprocAttr];done))));try simp only [go_sem,simprocAttr])|((with_reducible refine oD ?_ ?_);kernel_rfl)|((with_reducible intro h);try simp only [go_sem,simprocAttr] at h)|omega|intro h)
    all_goals simp [fc,hc]
  ·(refine Spec.hd (C:=T.cfg [] []) (rs:= [.t 8]) (T.ai _ _) Tryz.func107 rfl rfl Tryz.ntmps107 Tryz.results107 (by simp [AObj.isNest]) (by simp [AObj.isNest]) (by kernel_rfl) T.mixed fun X hX hP hC aG b9=> ?_)
   repeat' (first|((with_reducible refine dx hX hC aG pV (by kernel_rfl) ?_);simp only [pV])|((with_reducible apply oI);(iterate 2 exact rfl);intro K hK;try simp only [go_sem,simprocAttr])|(with_reducible (first|apply oJ|exact oK))|refine Rn.p ?_|(with_reducible apply And.intro)|((first|(refine hK _ ?_;clear hK K)|with_reducible intro K hK|refine Rs.p ?_|((with_reducible first|apply oP|apply oQ);exact rfl)|refine aa hX hC hP (aS _ (by assumption)) rfl rfl rfl (by simp only [go_sem,simprocAttr]) rfl ?_|refine aa hX hC hP (aN _ (by assumption)) rfl rfl rfl (by simp only [go_sem,simprocAttr]) rfl ?_|refine aa hX hC hP (aY _) rfl rfl rfl (by simp only [go_sem,simprocAttr]) rfl ?_|refine aa hX hC hP (aZ _ _ _ (by assumption) (by assumption) (by assumption)) rfl rfl rfl (by simp only [go_sem,simprocAttr]) rfl ?_|refine aa hX hC hP (aT _ _ _ (by assumption) (by assumption) (by assumption)) rfl rfl rfl (by simp only [go_sem,simprocAttr]) rfl ?_|refine aa hX hC hP (aQ _ _ _) rfl rfl rfl (by simp only [go_sem,simprocAttr]) rfl ?_|refine aa hX hC hP (aK _ _ _ _ (by assumption) (by assumption) (by assumption) (by assumption)) rfl rfl rfl (by simp only [go_sem,simprocAttr]) rfl ?_|refine aa hX hC hP (aR _ _ _ (by assumption) (by assumption) (by assumption)) rfl rfl rfl (by simp only [go_sem,simprocAttr]) rfl ?_|refine aa hX hC hP (bF _ _ _ (by assumption) (by assumption) (by assumption)) rfl rfl rfl (by simp only [go_sem,simprocAttr]) rfl ?_|(refine ak hX hC hP (dA a b c d (by assumption) (by assumption) (by assumption) (by assumption)) rfl rfl rfl ?_ ?_ rfl ?_;iterate 2 (focus (simp only [go_sem,simprocAttr];done)))|(refine ak hX hC hP (cB a b c d (by assumption)) rfl rfl rfl ?_ ?_ rfl ?_;iterate 2 (focus (simp only [go_sem,simprocAttr];done))));try simp only [go_sem,simprocAttr])|((with_reducible refine oD ?_ ?_);kernel_rfl)|((with_reducible intro h);try simp only [go_sem,simprocAttr] at h)|omega|intro h)
   all_goals simp [fc,hb]
 ·(refine Spec.hd (C:=T.cfg [] []) (rs:= [.t 8]) (T.ai _ _) Tryz.func107 rfl rfl Tryz.ntmps107 Tryz.results107 (by simp [AObj.isNest]) (by simp [AObj.isNest]) (by kernel_rfl) T.mixed fun X hX hP hC aG b9=> ?_)
  repeat' (first|((with_reducible refine dx hX hC aG pV (by kernel_rfl) ?_);simp only [pV])|((with_reducible apply oI);(iterate 2 exact rfl);intro K hK;try simp only [go_sem,simprocAttr])|(with_reducible (first|apply oJ|exact oK))|refine Rn.p ?_|(with_reducible apply And.intro)|((first|(refine hK _ ?_;clear hK K)|with_reducible intro K hK|refine Rs.p ?_|((with_reducible first|apply oP|apply oQ);exact rfl)|refine aa hX hC hP (aS _ (by assumption)) rfl rfl rfl (by simp only [go_sem,simprocAttr]) rfl ?_|refine aa hX hC hP (aN _ (by assumption)) rfl rfl rfl (by simp only [go_sem,simprocAttr]) rfl ?_|refine aa hX hC hP (aY _) rfl rfl rfl (by simp only [go_sem,simprocAttr]) rfl ?_|refine aa hX hC hP (aZ _ _ _ (by assumption) (by assumption) (by assumption)) rfl rfl rfl (by simp only [go_sem,simprocAttr]) rfl ?_|refine aa hX hC hP (aT _ _ _ (by assumption) (by assumption) (by assumption)) rfl rfl rfl (by simp only [go_sem,simprocAttr]) rfl ?_|refine aa hX hC hP (aQ _ _ _) rfl rfl rfl (by simp only [go_sem,simprocAttr]) rfl ?_|refine aa hX hC hP (aK _ _ _ _ (by assumption) (by assumption) (by assumption) (by assumption)) rfl rfl rfl (by simp only [go_sem,simprocAttr]) rfl ?_|refine aa hX hC hP (aR _ _ _ (by assumption) (by assumption) (by assumption)) rfl rfl rfl (by simp only [go_sem,simprocAttr]) rfl ?_|refine aa hX hC hP (bF _ _ _ (by assumption) (by assumption) (by assumption)) rfl rfl rfl (by simp only [go_sem,simprocAttr]) rfl ?_|(refine ak hX hC hP (dA a b c d (by assumption) (by assumption) (by assumption) (by assumption)) rfl rfl rfl ?_ ?_ rfl ?_;iterate 2 (focus (simp only [go_sem,simprocAttr];done)))|(refine ak hX hC hP (cB a b c d (by assumption)) rfl rfl rfl ?_ ?_ rfl ?_;iterate 2 (focus (simp only [go_sem,simprocAttr];done))));try simp only [go_sem,simprocAttr])|((with_reducible refine oD ?_ ?_);kernel_rfl)|((with_reducible intro h);try simp only [go_sem,simprocAttr] at h)|omega|intro h)
  all_goals simp [fc,ha]
end Go.Ab
end
section
namespace Go.Ab
open Go.Proofs
attribute [local congr] ACall.congr gd.congr Nx.congr
set_option maxRecDepth 10000
set_option maxHeartbeats 2000000
theorem mval_touch (es:List (List Int × Int)) (k:List Int):jF (dn es k) k=jF es k:=by
 unfold dn
 cases h:cg es k with
 |some i=>rfl
 |none=>
  have hn:=mj h
  have:cg (es++ [(k,0)]) k=some es.length:=by
   unfold cg
   rw [List.findIdx?_eq_some_iff_getElem]
   refine ⟨by simp,by simp,fun j hj=> ?_⟩
   rw [List.getElem_append_left hj]
   have:=hn es[j] (List.getElem_mem hj)
   simpa using fun e=>this e.symm
  simp [jF,h,this]
theorem lH (es:List (List Int × Int)) (k:List Int):gE es k<(dn es k).length:=by
 unfold gE dn
 cases h:cg es k with
 |some i=>
  obtain ⟨p,hp,_⟩:=gG h
  exact (List.getElem?_eq_some_iff.1 hp).1
 |none=>simp
def bump (es:List (List Int × Int)) (k:List Int):List (List Int × Int):=mO (dn es k) (gE es k) (jF es k+1)
theorem Au (es:List (List Int × Int)) (i:Nat) (v:Int):(mO es i v).map (·.1)=es.map (·.1):=by
 apply List.ext_getElem?
 intro j
 rw [List.getElem?_map,List.getElem?_map]
 unfold mO
 rw [List.getElem?_modify]
 split<;>cases es[j]? <;>rfl
def sx (p:Pt) (ks:List (List Int)):List (List Int):=if [p.1,p.2]∈ks then ks else ks++ [[p.1,p.2]]
theorem lI (es:List (List Int × Int)) (p:Pt):(bump es [p.1,p.2]).map (·.1)=sx p (es.map (·.1)):=by
 unfold bump sx
 rw [Au]
 unfold dn
 cases h:cg es [p.1,p.2] with
 |some i=>
  obtain ⟨q,hq,hk⟩:=gG h
  have: [p.1,p.2]∈es.map (·.1):=List.mem_map.2 ⟨q,List.mem_of_getElem? hq,hk⟩
  rw [if_pos this]
 |none=>
  have: [p.1,p.2]∉es.map (·.1):=fun hm=>by
   obtain ⟨q,hq,hk⟩:=List.mem_map.1 hm
   exact mj h q hq hk
  rw [if_neg this];simp
def BE (n:Int) (es:List (List Int × Int)):Prop:=∀p∈es,0≤p.2∧p.2≤n
theorem qP {n:Int} (hn:0≤n) {es:List (List Int × Int)} (h:BE n es) (k:List Int):0≤jF es k∧jF es k≤n:=by
 unfold jF
 cases hf:cg es k with
 |none=>simp [hn]
 |some i=>
  obtain ⟨p,hp,_⟩:=gG hf
  simp only [hp,Option.map_some,Option.getD_some]
  exact h p (List.mem_of_getElem? hp)
theorem uq {n:Int} (hn:0≤n) {es:List (List Int × Int)} (h:BE n es) (k:List Int):BE (n+1) (bump es k):=by
 intro p hp
 have hv:=qP hn h k
 have ht:BE n (dn es k):=by
  unfold dn
  split
  ·exact h
  ·intro q hq
   rcases List.mem_append.1 hq with hq|hq
   ·exact h q hq
   ·simp at hq;subst hq;simp [hn]
 obtain ⟨j,hj⟩:=List.mem_iff_getElem?.1 hp
 unfold bump mO at hj
 rw [List.getElem?_modify] at hj
 split at hj
 ·simp only [Option.map_eq_map,Option.map_eq_some_iff] at hj
  obtain ⟨q,hq,rfl⟩:=hj
  constructor<;>simp only<;>omega
 ·have:=ht p (List.mem_of_getElem? (by simpa using hj))
  omega
end Go.Ab
end
section
namespace Go.Ab
open Go.Proofs
attribute [local congr] ACall.congr gd.congr Nx.congr
set_option maxRecDepth 10000
set_option maxHeartbeats 4000000
attribute [go_sem] mval_touch
def K1 (a _b c d:Pt):List (List Int):=if iq c d a=true then sx a [] else []
def K2 (a b c d:Pt):List (List Int):=if iq c d b=true then sx b (K1 a b c d) else K1 a b c d
def K3 (a b c d:Pt):List (List Int):=if iq a b c=true then sx c (K2 a b c d) else K2 a b c d
def K4 (a b c d:Pt):List (List Int):=if iq a b d=true then sx d (K3 a b c d) else K3 a b c d
def fh (a b c d:Pt):Int:=
 if bw a∧bw b∧bw c∧bw d then
  if 0<(K4 a b c d).length then min ((K4 a b c d).length:Int) 2
  else if sd a b c*sd a b d<0∧sd c d a*sd c d b<0 then 1 else 0
 else 0
def RS (A B C:List (List Int)) (p:Nat × List (List Int × Int)) (n:Int):Prop:=
 (p.1=0∧p.2.map (·.1)=A∧BE n p.2)∨(p.1=1∧p.2.map (·.1)=B∧BE (n+1) p.2)∨(p.1=2∧p.2.map (·.1)=C∧BE (n+2) p.2)
def bx (p:Pt):AObj:= .box [.d (.sc (.int .i64 p.1)), .d (.sc (.int .i64 p.2))]
attribute [go_sem] bx
def st1 (a b c d:Pt) (i:Nat × List (List Int × Int)):ASt:=
 ⟨[(9, .mref 21),(4, .ptr 4 0),(5, .ptr 5 0),(6, .ptr 6 0),(7, .ptr 7 0),(24, .agg [eN a.1,eN a.2,eN b.1,eN b.2]),(25,eN i.1)],
   [(4,bx a),(5,bx b),(6,bx c),(7,bx d),(21, .mp 2 i.2)]⟩
def st2 (a b c d:Pt) (i:Nat × List (List Int × Int)):ASt:=
 ⟨[(9, .mref 21),(4, .ptr 4 0),(5, .ptr 5 0),(6, .ptr 6 0),(7, .ptr 7 0),(41, .agg [eN c.1,eN c.2,eN d.1,eN d.2]),(42,eN i.1)],
   [(4,bx a),(5,bx b),(6,bx c),(7,bx d),(21, .mp 2 i.2)]⟩
theorem El (a b c d:Pt) (ha:bw a) (hb:bw b) (hc:bw c) (hd:bw d):Spec Tryz.prog 142 (Args [eP a,eP b,eP c,eP d]) [] (eN (fh a b c d)) []:=by
 (refine Spec.hd (C:=T.cfg [] []) (rs:= [.t 8]) (T.ai _ _) Tryz.func142 rfl rfl Tryz.ntmps142 Tryz.results142 (by simp [AObj.isNest]) (by simp [AObj.isNest]) (by kernel_rfl) T.mixed fun X hX hP hC aG b9=> ?_)
 repeat' (first|((with_reducible refine dx hX hC aG pV (by kernel_rfl) ?_);simp only [pV])|((with_reducible apply oI);(iterate 2 exact rfl);intro K hK;try simp only [go_sem,simprocAttr])|(with_reducible (first|apply oJ|exact oK))|refine Rn.p ?_|(with_reducible apply And.intro)|((first|(refine hK _ ?_;clear hK K)|with_reducible intro K hK|refine Rs.p ?_|((with_reducible first|apply oP|apply oQ);exact rfl)|refine aa hX hC hP (aS _ (by assumption)) rfl rfl rfl (by simp only [go_sem,simprocAttr]) rfl ?_|refine aa hX hC hP (aN _ (by assumption)) rfl rfl rfl (by simp only [go_sem,simprocAttr]) rfl ?_|refine aa hX hC hP (aY _) rfl rfl rfl (by simp only [go_sem,simprocAttr]) rfl ?_|refine aa hX hC hP (aZ _ _ _ (by assumption) (by assumption) (by assumption)) rfl rfl rfl (by simp only [go_sem,simprocAttr]) rfl ?_|refine aa hX hC hP (aT _ _ _ (by assumption) (by assumption) (by assumption)) rfl rfl rfl (by simp only [go_sem,simprocAttr]) rfl ?_|refine aa hX hC hP (aQ _ _ _) rfl rfl rfl (by simp only [go_sem,simprocAttr]) rfl ?_|refine aa hX hC hP (aK _ _ _ _ (by assumption) (by assumption) (by assumption) (by assumption)) rfl rfl rfl (by simp only [go_sem,simprocAttr]) rfl ?_|refine aa hX hC hP (aR _ _ _ (by assumption) (by assumption) (by assumption)) rfl rfl rfl (by simp only [go_sem,simprocAttr]) rfl ?_|refine aa hX hC hP (bF _ _ _ (by assumption) (by assumption) (by assumption)) rfl rfl rfl (by simp only [go_sem,simprocAttr]) rfl ?_|(refine ak hX hC hP (dA a b c d (by assumption) (by assumption) (by assumption) (by assumption)) rfl rfl rfl ?_ ?_ rfl ?_;iterate 2 (focus (simp only [go_sem,simprocAttr];done)))|(refine ak hX hC hP (cB a b c d (by assumption)) rfl rfl rfl ?_ ?_ rfl ?_;iterate 2 (focus (simp only [go_sem,simprocAttr];done))));try simp only [go_sem,simprocAttr])|((with_reducible refine oD ?_ ?_);kernel_rfl)|((with_reducible intro h);try simp only [go_sem,simprocAttr] at h)|omega|intro h)
 refine ag (fun i:Nat × List (List Int × Int)=>RS [] (K1 a b c d) (K2 a b c d) i 0) (st1 a b c d) (fun i=>2 - i.1) (0, []) (.inl ⟨rfl,rfl,by simp [BE]⟩) ?_ ?_
 ·refine Le.of ?_ ?_<;>simp [go_sem,simprocAttr,st1]
 rintro ⟨k,es⟩ (⟨hk,hks,mM⟩|⟨hk,hks,mM⟩|⟨hk,hks,mM⟩)<;>simp only at hk hks mM<;>subst hk<;>simp only [st1]
 ·have hv:=qP (by omega) mM [a.1,a.2]
  have hs:=lH es [a.1,a.2]
  have bn:=uq (by omega) mM [a.1,a.2]
  have hk2:=lI es a
  repeat' (first|((with_reducible refine dx hX hC aG pV (by kernel_rfl) ?_);simp only [pV])|((with_reducible apply oI);(iterate 2 exact rfl);intro K hK;try simp only [go_sem,simprocAttr])|(with_reducible (first|apply oJ|exact oK))|refine Rn.p ?_|(with_reducible apply And.intro)|((first|(refine hK _ ?_;clear hK K)|with_reducible intro K hK|refine Rs.p ?_|((with_reducible first|apply oP|apply oQ);exact rfl)|refine aa hX hC hP (aS _ (by assumption)) rfl rfl rfl (by simp only [go_sem,simprocAttr]) rfl ?_|refine aa hX hC hP (aN _ (by assumption)) rfl rfl rfl (by simp only [go_sem,simprocAttr]) rfl ?_|refine aa hX hC hP (aY _) rfl rfl rfl (by simp only [go_sem,simprocAttr]) rfl ?_|refine aa hX hC hP (aZ _ _ _ (by assumption) (by assumption) (by assumption)) rfl rfl rfl (by simp only [go_sem,simprocAttr]) rfl ?_|refine aa hX hC hP (aT _ _ _ (by assumption) (by assumption) (by assumption)) rfl rfl rfl (by simp only [go_sem,simprocAttr]) rfl ?_|refine aa hX hC hP (aQ _ _ _) rfl rfl rfl (by simp only [go_sem,simprocAttr]) rfl ?_|refine aa hX hC hP (aK _ _ _ _ (by assumption) (by assumption) (by assumption) (by assumption)) rfl rfl rfl (by simp only [go_sem,simprocAttr]) rfl ?_|refine aa hX hC hP (aR _ _ _ (by assumption) (by assumption) (by assumption)) rfl rfl rfl (by simp only [go_sem,simprocAttr]) rfl ?_|refine aa hX hC hP (bF _ _ _ (by assumption) (by assumption) (by assumption)) rfl rfl rfl (by simp only [go_sem,simprocAttr]) rfl ?_|(refine ak hX hC hP (dA a b c d (by assumption) (by assumption) (by assumption) (by assumption)) rfl rfl rfl ?_ ?_ rfl ?_;iterate 2 (focus (simp only [go_sem,simprocAttr];done)))|(refine ak hX hC hP (cB a b c d (by assumption)) rfl rfl rfl ?_ ?_ rfl ?_;iterate 2 (focus (simp only [go_sem,simprocAttr];done))));try simp only [go_sem,simprocAttr])|((with_reducible refine oD ?_ ?_);kernel_rfl)|((with_reducible intro h);try simp only [go_sem,simprocAttr] at h)|omega|intro h)
  all_goals first
   |(refine ⟨(1,bump es [a.1,a.2]), .inr (.inl ⟨rfl,by rw [hk2,hks];simp only [K1,if_pos h],by simpa using bn⟩),Le.of ?_ ?_,by simp⟩<;>simp [go_sem,simprocAttr,bump];done)
   |(refine ⟨(1,es), .inr (.inl ⟨rfl,by rw [hks];simp [K1,h],fun p hp=>by have:=mM p hp;omega⟩),Le.of ?_ ?_,by simp⟩<;>simp [go_sem,simprocAttr];done)
 ·have hv:=qP (by omega) mM [b.1,b.2]
  have hs:=lH es [b.1,b.2]
  have bn:=uq (by omega) mM [b.1,b.2]
  have hk2:=lI es b
  repeat' (first|((with_reducible refine dx hX hC aG pV (by kernel_rfl) ?_);simp only [pV])|((with_reducible apply oI);(iterate 2 exact rfl);intro K hK;try simp only [go_sem,simprocAttr])|(with_reducible (first|apply oJ|exact oK))|refine Rn.p ?_|(with_reducible apply And.intro)|((first|(refine hK _ ?_;clear hK K)|with_reducible intro K hK|refine Rs.p ?_|((with_reducible first|apply oP|apply oQ);exact rfl)|refine aa hX hC hP (aS _ (by assumption)) rfl rfl rfl (by simp only [go_sem,simprocAttr]) rfl ?_|refine aa hX hC hP (aN _ (by assumption)) rfl rfl rfl (by simp only [go_sem,simprocAttr]) rfl ?_|refine aa hX hC hP (aY _) rfl rfl rfl (by simp only [go_sem,simprocAttr]) rfl ?_|refine aa hX hC hP (aZ _ _ _ (by assumption) (by assumption) (by assumption)) rfl rfl rfl (by simp only [go_sem,simprocAttr]) rfl ?_|refine aa hX hC hP (aT _ _ _ (by assumption) (by assumption) (by assumption)) rfl rfl rfl (by simp only [go_sem,simprocAttr]) rfl ?_|refine aa hX hC hP (aQ _ _ _) rfl rfl rfl (by simp only [go_sem,simprocAttr]) rfl ?_|refine aa hX hC hP (aK _ _ _ _ (by assumption) (by assumption) (by assumption) (by assumption)) rfl rfl rfl (by simp only [go_sem,simprocAttr]) rfl ?_|refine aa hX hC hP (aR _ _ _ (by assumption) (by assumption) (by assumption)) rfl rfl rfl (by simp only [go_sem,simprocAttr]) rfl ?_|refine aa hX hC hP (bF _ _ _ (by assumption) (by assumption) (by assumption)) rfl rfl rfl (by simp only [go_sem,simprocAttr]) rfl ?_|(refine ak hX hC hP (dA a b c d (by assumption) (by assumption) (by assumption) (by assumption)) rfl rfl rfl ?_ ?_ rfl ?_;iterate 2 (focus (simp only [go_sem,simprocAttr];done)))|(refine ak hX hC hP (cB a b c d (by assumption)) rfl rfl rfl ?_ ?_ rfl ?_;iterate 2 (focus (simp only [go_sem,simprocAttr];done))));try simp only [go_sem,simprocAttr])|((with_reducible refine oD ?_ ?_);kernel_rfl)|((with_reducible intro h);try simp only [go_sem,simprocAttr] at h)|omega|intro h)
  all_goals first
   |(refine ⟨(2,bump es [b.1,b.2]), .inr (.inr ⟨rfl,by rw [hk2,hks];simp only [K2,if_pos h],by simpa using bn⟩),Le.of ?_ ?_,by simp⟩<;>simp [go_sem,simprocAttr,bump];done)
   |(refine ⟨(2,es), .inr (.inr ⟨rfl,by rw [hks];simp [K2,h],fun p hp=>by have:=mM p hp;omega⟩),Le.of ?_ ?_,by simp⟩<;>simp [go_sem,simprocAttr];done)
 ·repeat' (first|((with_reducible refine dx hX hC aG pV (by kernel_rfl) ?_);simp only [pV])|((with_reducible apply oI);(iterate 2 exact rfl);intro K hK;try simp only [go_sem,simprocAttr])|(with_reducible (first|apply oJ|exact oK))|refine Rn.p ?_|(with_reducible apply And.intro)|((first|(refine hK _ ?_;clear hK K)|with_reducible intro K hK|refine Rs.p ?_|((with_reducible first|apply oP|apply oQ);exact rfl)|refine aa hX hC hP (aS _ (by assumption)) rfl rfl rfl (by simp only [go_sem,simprocAttr]) rfl ?_|refine aa hX hC hP (aN _ (by assumption)) rfl rfl rfl (by simp only [go_sem,simprocAttr]) rfl ?_|refine aa hX hC hP (aY _) rfl rfl rfl (by simp only [go_sem,simprocAttr]) rfl ?_|refine aa hX hC hP (aZ _ _ _ (by assumption) (by assumption) (by assumption)) rfl rfl rfl (by simp only [go_sem,simprocAttr]) rfl ?_|refine aa hX hC hP (aT _ _ _ (by assumption) (by assumption) (by assumption)) rfl rfl rfl (by simp only [go_sem,simprocAttr]) rfl ?_|refine aa hX hC hP (aQ _ _ _) rfl rfl rfl (by simp only [go_sem,simprocAttr]) rfl ?_|refine aa hX hC hP (aK _ _ _ _ (by assumption) (by assumption) (by assumption) (by assumption)) rfl rfl rfl (by simp only [go_sem,simprocAttr]) rfl ?_|refine aa hX hC hP (aR _ _ _ (by assumption) (by assumption) (by assumption)) rfl rfl rfl (by simp only [go_sem,simprocAttr]) rfl ?_|refine aa hX hC hP (bF _ _ _ (by assumption) (by assumption) (by assumption)) rfl rfl rfl (by simp only [go_sem,simprocAttr]) rfl ?_|(refine ak hX hC hP (dA a b c d (by assumption) (by assumption) (by assumption) (by assumption)) rfl rfl rfl ?_ ?_ rfl ?_;iterate 2 (focus (simp only [go_sem,simprocAttr];done)))|(refine ak hX hC hP (cB a b c d (by assumption)) rfl rfl rfl ?_ ?_ rfl ?_;iterate 2 (focus (simp only [go_sem,simprocAttr];done))));try simp only [go_sem,simprocAttr])|((with_reducible refine oD ?_ ?_);kernel_rfl)|((with_reducible intro h);try simp only [go_sem,simprocAttr] at h)|omega|intro h)
  refine ag (fun i:Nat × List (List Int × Int)=>RS (K2 a b c d) (K3 a b c d) (K4 a b c d) i 2) (st2 a b c d) (fun i=>2 - i.1) (0,es) (.inl ⟨rfl,hks,by simpa using mM⟩) ?_ ?_
  ·refine Le.of ?_ ?_<;>simp [go_sem,simprocAttr,st2]
  clear hks mM es
  rintro ⟨k,es⟩ (⟨hk,hks,mM⟩|⟨hk,hks,mM⟩|⟨hk,hks,mM⟩)<;>simp only at hk hks mM<;>subst hk<;>simp only [st2]
  ·have hv:=qP (by omega) mM [c.1,c.2]
   have hs:=lH es [c.1,c.2]
   have bn:=uq (by omega) mM [c.1,c.2]
   have hk2:=lI es c
   repeat' (first|((with_reducible refine dx hX hC aG pV (by kernel_rfl) ?_);simp only [pV])|((with_reducible apply oI);(iterate 2 exact rfl);intro K hK;try simp only [go_sem,simprocAttr])|(with_reducible (first|apply oJ|exact oK))|refine Rn.p ?_|(with_reducible apply And.intro)|((first|(refine hK _ ?_;clear hK K)|with_reducible intro K hK|refine Rs.p ?_|((with_reducible first|apply oP|apply oQ);exact rfl)|refine aa hX hC hP (aS _ (by assumption)) rfl rfl rfl (by simp only [go_sem,simprocAttr]) rfl ?_|refine aa hX hC hP (aN _ (by assumption)) rfl rfl rfl (by simp only [go_sem,simprocAttr]) rfl ?_|refine aa hX hC hP (aY _) rfl rfl rfl (by simp only [go_sem,simprocAttr]) rfl ?_|refine aa hX hC hP (aZ _ _ _ (by assumption) (by assumption) (by assumption)) rfl rfl rfl (by simp only [go_sem,simprocAttr]) rfl ?_|refine aa hX hC hP (aT _ _ _ (by assumption) (by assumption) (by assumption)) rfl rfl rfl (by simp only [go_sem,simprocAttr]) rfl ?_|refine aa hX hC hP (aQ _ _ _) rfl rfl rfl (by simp only [go_sem,simprocAttr]) rfl ?_|refine aa hX hC hP (aK _ _ _ _ (by assumption) (by assumption) (by assumption) (by assumption)) rfl rfl rfl (by simp only [go_sem,simprocAttr]) rfl ?_|refine aa hX hC hP (aR _ _ _ (by assumption) (by assumption) (by assumption)) rfl rfl rfl (by simp only [go_sem,simprocAttr]) rfl ?_|refine aa hX hC hP (bF _ _ _ (by assumption) (by assumption) (by assumption)) rfl rfl rfl (by simp only [go_sem,simprocAttr]) rfl ?_|(refine ak hX hC hP (dA a b c d (by assumption) (by assumption) (by assumption) (by assumption)) rfl rfl rfl ?_ ?_ rfl ?_;iterate 2 (focus (simp only [go_sem,simprocAttr];done)))|(refine ak hX hC hP (cB a b c d (by assumption)) rfl rfl rfl ?_ ?_ rfl ?_;iterate 2 (focus (simp only [go_sem,simprocAttr];done))));try simp only [go_sem,simprocAttr])|((with_reducible refine oD ?_ ?_);kernel_rfl)|((with_reducible intro h);try simp only [go_sem,simprocAttr] at h)|omega|intro h)
   all_goals first
    |(refine ⟨(1,bump es [c.1,c.2]), .inr (.inl ⟨rfl,by rw [hk2,hks];simp only [K3,if_pos h],by simpa using bn⟩),Le.of ?_ ?_,by simp⟩<;>simp [go_sem,simprocAttr,bump];done)
    |(refine ⟨(1,es), .inr (.inl ⟨rfl,by rw [hks];simp [K3,h],fun p hp=>by have:=mM p hp;omega⟩),Le.of ?_ ?_,by simp⟩<;>simp [go_sem,simprocAttr];done)
  ·have hv:=qP (by omega) mM [d.1,d.2]
   have hs:=lH es [d.1,d.2]
   have bn:=uq (by omega) mM [d.1,d.2]
   have hk2:=lI es d
   repeat' (first|((with_reducible refine dx hX hC aG pV (by kernel_rfl) ?_);simp only [pV])|((with_reducible apply oI);(iterate 2 exact rfl);intro K hK;try simp only [go_sem,simprocAttr])|(with_reducible (first|apply oJ|exact oK))|refine Rn.p ?_|(with_reducible apply And.intro)|((first|(refine hK _ ?_;clear hK K)|with_reducible intro K hK|refine Rs.p ?_|((with_reducible first|apply oP|apply oQ);exact rfl)|refine aa hX hC hP (aS _ (by assumption)) rfl rfl rfl (by simp only [go_sem,simprocAttr]) rfl ?_|refine aa hX hC hP (aN _ (by assumption)) rfl rfl rfl (by simp only [go_sem,simprocAttr]) rfl ?_|refine aa hX hC hP (aY _) rfl rfl rfl (by simp only [go_sem,simprocAttr]) rfl ?_|refine aa hX hC hP (aZ _ _ _ (by assumption) (by assumption) (by assumption)) rfl rfl rfl (by simp only [go_sem,simprocAttr]) rfl ?_|refine aa hX hC hP (aT _ _ _ (by assumption) (by assumption) (by assumption)) rfl rfl rfl (by simp only [go_sem,simprocAttr]) rfl ?_|refine aa hX hC hP (aQ _ _ _) rfl rfl rfl (by simp only [go_sem,simprocAttr]) rfl ?_|refine aa hX hC hP (aK _ _ _ _ (by assumption) (by assumption) (by assumption) (by assumption)) rfl rfl rfl (by simp only [go_sem,simprocAttr]) rfl ?_|refine aa hX hC hP (aR _ _ _ (by assumption) (by assumption) (by assumption)) rfl rfl rfl (by simp only [go_sem,simprocAttr]) rfl ?_|refine aa hX hC hP (bF _ _ _ (by assumption) (by assumption) (by assumption)) rfl rfl rfl (by simp only [go_sem,simprocAttr]) rfl ?_|(refine ak hX hC hP (dA a b c d (by assumption) (by assumption) (by assumption) (by assumption)) rfl rfl rfl ?_ ?_ rfl ?_;iterate 2 (focus (simp only [go_sem,simprocAttr];done)))|(refine ak hX hC hP (cB a b c d (by assumption)) rfl rfl rfl ?_ ?_ rfl ?_;iterate 2 (focus (simp only [go_sem,simprocAttr];done))));try simp only [go_sem,simprocAttr])|((with_reducible refine oD ?_ ?_);kernel_rfl)|((with_reducible intro h);try simp only [go_sem,simprocAttr] at h)|omega|intro h)
   all_goals first
    |(refine ⟨(2,bump es [d.1,d.2]), .inr (.inr ⟨rfl,by rw [hk2,hks];simp only [K4,if_pos h],by simpa using bn⟩),Le.of ?_ ?_,by simp⟩<;>simp [go_sem,simprocAttr,bump];done)
    |(refine ⟨(2,es), .inr (.inr ⟨rfl,by rw [hks];simp [K4,h],fun p hp=>by have:=mM p hp;omega⟩),Le.of ?_ ?_,by simp⟩<;>simp [go_sem,simprocAttr];done)
  ·have hlen:(es.length:Int)=((K4 a b c d).length:Int):=by rw [← hks,List.length_map]
   have m1: -(1*1)≤sd a b c*sd a b d∧sd a b c*sd a b d≤1*1:=ko (kP _) (kP _)
   have m2: -(1*1)≤sd c d a*sd c d b∧sd c d a*sd c d b≤1*1:=ko (kP _) (kP _)
   repeat' (first|((with_reducible refine dx hX hC aG pV (by kernel_rfl) ?_);simp only [pV])|((with_reducible apply oI);(iterate 2 exact rfl);intro K hK;try simp only [go_sem,simprocAttr])|(with_reducible (first|apply oJ|exact oK))|refine Rn.p ?_|(with_reducible apply And.intro)|((first|(refine hK _ ?_;clear hK K)|with_reducible intro K hK|refine Rs.p ?_|((with_reducible first|apply oP|apply oQ);exact rfl)|refine aa hX hC hP (aS _ (by assumption)) rfl rfl rfl (by simp only [go_sem,simprocAttr]) rfl ?_|refine aa hX hC hP (aN _ (by assumption)) rfl rfl rfl (by simp only [go_sem,simprocAttr]) rfl ?_|refine aa hX hC hP (aY _) rfl rfl rfl (by simp only [go_sem,simprocAttr]) rfl ?_|refine aa hX hC hP (aZ _ _ _ (by assumption) (by assumption) (by assumption)) rfl rfl rfl (by simp only [go_sem,simprocAttr]) rfl ?_|refine aa hX hC hP (aT _ _ _ (by assumption) (by assumption) (by assumption)) rfl rfl rfl (by simp only [go_sem,simprocAttr]) rfl ?_|refine aa hX hC hP (aQ _ _ _) rfl rfl rfl (by simp only [go_sem,simprocAttr]) rfl ?_|refine aa hX hC hP (aK _ _ _ _ (by assumption) (by assumption) (by assumption) (by assumption)) rfl rfl rfl (by simp only [go_sem,simprocAttr]) rfl ?_|refine aa hX hC hP (aR _ _ _ (by assumption) (by assumption) (by assumption)) rfl rfl rfl (by simp only [go_sem,simprocAttr]) rfl ?_|refine aa hX hC hP (bF _ _ _ (by assumption) (by assumption) (by assumption)) rfl rfl rfl (by simp only [go_sem,simprocAttr]) rfl ?_|(refine ak hX hC hP (dA a b c d (by assumption) (by assumption) (by assumption) (by assumption)) rfl rfl rfl ?_ ?_ rfl ?_;iterate 2 (focus (simp only [go_sem,simprocAttr];done)))|(refine ak hX hC hP (cB a b c d (by assumption)) rfl rfl rfl ?_ ?_ rfl ?_;iterate 2 (focus (simp only [go_sem,simprocAttr];done))));try simp only [go_sem,simprocAttr])|((with_reducible refine oD ?_ ?_);kernel_rfl)|((with_reducible intro h);try simp only [go_sem,simprocAttr] at h)|omega|intro h)
   all_goals clear hX aG hP hC b9 X hks mM m1 m2
   all_goals simp only [fh,ha,hb,hc,hd,and_self,if_true, ← hlen]
   all_goals grind
end Go.Ab
end
section
namespace Go.Ab
open Go.Proofs
attribute [local congr] ACall.congr gd.congr Nx.congr
set_option maxRecDepth 10000
theorem ur (a b c:Pt):aq a b c=tm a b a c:=by unfold aq tm;grind
theorem lJ (n:Int):e9 n 0=0↔n=0:=by unfold e9;split<;>(try split)<;>omega
theorem pg {u v:Int} :(min u v≤0∧0≤max u v)↔u*v≤0:=by
 rcases Int.lt_trichotomy u 0 with hu|hu|hu<;>rcases Int.lt_trichotomy v 0 with hv|hv|hv
 ·have:=Int.mul_pos_of_neg_of_neg hu hv;omega
 ·subst hv;simp;omega
 ·have:=Int.mul_neg_of_neg_of_pos hu hv;omega
 ·subst hu;simp;omega
 ·subst hu;simp;omega
 ·subst hu;simp;omega
 ·have:=Int.mul_neg_of_pos_of_neg hu hv;omega
 ·subst hv;simp;omega
 ·have:=Int.mul_pos hu hv;omega
theorem sq_nonneg (s:Int):0≤s*s:=by
 rcases Int.le_total 0 s with h|h
 ·exact Int.mul_nonneg h h
 ·exact Int.mul_nonneg_of_nonpos_of_nonpos h h
theorem Em {u1 u2 v1 v2:Int} (h:u1*v2=u2*v1):(u1*v1≤0∧u2*v2≤0)↔u1*v1+u2*v2≤0:=by
 constructor
 ·omega
 ·intro hs
  have key:(u1*v1)*(u2*v2)=(u1*v2)*(u1*v2):=by grind
  have h0:=sq_nonneg (u1*v2)
  rw [← key] at h0
  constructor
  ·refine Int.not_lt.1 fun hp=> ?_
   have:=Int.mul_neg_of_pos_of_neg hp (show u2*v2<0 by omega)
   omega
  ·refine Int.not_lt.1 fun hp=> ?_
   have:=Int.mul_neg_of_neg_of_pos (show u1*v1<0 by omega) hp
   omega
theorem within_iff (a b n:Int):lF a b n=decide ((a - n)*(b - n)≤0):=by
 rw [Bool.eq_iff_iff]
 simp only [lF,Bool.and_eq_true,decide_eq_true_eq]
 rw [← pg]
 omega
theorem F7 (a b c:Pt):iq a b c=(decide (aq a b c=0)&&decide ((a.1 - c.1)*(b.1 - c.1)+(a.2 - c.2)*(b.2 - c.2)≤0)):=by
 unfold iq sd
 rw [← ur,within_iff,within_iff]
 by_cases h:aq a b c=0
 ·have h':(a.1 - c.1)*(b.2 - c.2)=(a.2 - c.2)*(b.1 - c.1):=by unfold aq at h;grind
  rw [Bool.eq_iff_iff]
  simp only [lJ,h,decide_true,Bool.true_and,Bool.and_eq_true,decide_eq_true_eq]
  exact Em h'
 ·simp [lJ,h]
theorem E6 (a b c:Pt):iR a b c=pJ a b c:=by unfold iR pJ;rw [F7]
theorem CF (a b c d:Pt) (h:¬(bw a∧bw b∧bw c∧bw d)):Spec Tryz.prog 142 (Args [eP a,eP b,eP c,eP d]) [] (eN 0) []:=by
 (refine Spec.hd (C:=T.cfg [] []) (rs:= [.t 8]) (T.ai _ _) Tryz.func142 rfl rfl Tryz.ntmps142 Tryz.results142 (by simp [AObj.isNest]) (by simp [AObj.isNest]) (by kernel_rfl) T.mixed fun X hX hP hC aG b9=> ?_)
 repeat' (first|refine Rn.p ?_|(with_reducible apply And.intro)|((first|(refine hK _ ?_;clear hK K)|with_reducible intro K hK|refine Rs.p ?_|((with_reducible first|apply oP|apply oQ);exact rfl)|(refine ak hX hC hP (cB a b c d (by assumption)) rfl rfl rfl ?_ ?_ rfl ?_;iterate 2 (focus (simp only [go_sem,simprocAttr];done))));try simp only [go_sem,simprocAttr])|((with_reducible refine oD ?_ ?_);kernel_rfl)|((with_reducible intro h);try simp only [go_sem,simprocAttr] at h)|omega|intro h)
theorem Av {a b c d:Pt} (h:¬(bw a∧bw b∧bw c∧bw d)):fh a b c d=0:=by rw [fh,if_neg h]
theorem Aw (a b c d:Pt):Spec Tryz.prog 142 (Args [eP a,eP b,eP c,eP d]) [] (eN (fh a b c d)) []:=by
 by_cases h:bw a∧bw b∧bw c∧bw d
 ·exact El a b c d h.1 h.2.1 h.2.2.1 h.2.2.2
 ·rw [Av h];exact CF a b c d h
def key (p:Pt):List Int:= [p.1,p.2]
theorem key_inj {p q:Pt} :key p=key q↔p=q:=by simp [key,Prod.ext_iff]
theorem nF {x:List Int} {p:Pt} {ks:List (List Int)} :x∈sx p ks↔x=key p∨x∈ks:=by
 unfold sx
 split
 ·rename_i h
  constructor
  ·exact .inr
  ·rintro (rfl|h')
   ·exact h
   ·exact h'
 ·simp [key,or_comm]
theorem jU {p:Pt} {ks:List (List Int)} (h:ks.Nodup):(sx p ks).Nodup:=by
 unfold sx
 split
 ·exact h
 ·rename_i hn
  rw [List.nodup_append]
  exact ⟨h,by simp,fun a ha b hb=>by simp at hb;subst hb;exact fun e=>hn (e ▸ ha)⟩
theorem qQ (a b c d:Pt):(K4 a b c d).Nodup:=by
 have h1:(K1 a b c d).Nodup:=by unfold K1;split;exact jU List.nodup_nil;exact List.nodup_nil
 have h2:(K2 a b c d).Nodup:=by unfold K2;split;exact jU h1;exact h1
 have h3:(K3 a b c d).Nodup:=by unfold K3;split;exact jU h2;exact h2
 unfold K4;split;exact jU h3;exact h3
def vV (a b c d p:Pt):Prop:=(iq c d a=true∧p=a)∨(iq c d b=true∧p=b)∨(iq a b c=true∧p=c)∨(iq a b d=true∧p=d)
theorem om {a b c d:Pt} {x:List Int} :x∈K4 a b c d↔∃p,vV a b c d p∧x=key p:=by
 have h1:x∈K1 a b c d↔iq c d a=true∧x=key a:=by unfold K1;split<;>simp_all [nF]
 have h2:x∈K2 a b c d↔(iq c d b=true∧x=key b)∨x∈K1 a b c d:=by unfold K2;split<;>simp_all [nF]
 have h3:x∈K3 a b c d↔(iq a b c=true∧x=key c)∨x∈K2 a b c d:=by unfold K3;split<;>simp_all [nF]
 have h4:x∈K4 a b c d↔(iq a b d=true∧x=key d)∨x∈K3 a b c d:=by unfold K4;split<;>simp_all [nF]
 rw [h4,h3,h2,h1]
 unfold vV
 constructor
 ·rintro (⟨h,rfl⟩|⟨h,rfl⟩|⟨h,rfl⟩|⟨h,rfl⟩)
  ·exact ⟨d, .inr (.inr (.inr ⟨h,rfl⟩)),rfl⟩
  ·exact ⟨c, .inr (.inr (.inl ⟨h,rfl⟩)),rfl⟩
  ·exact ⟨b, .inr (.inl ⟨h,rfl⟩),rfl⟩
  ·exact ⟨a, .inl ⟨h,rfl⟩,rfl⟩
 ·rintro ⟨p,(⟨h,rfl⟩|⟨h,rfl⟩|⟨h,rfl⟩|⟨h,rfl⟩),rfl⟩
  ·exact .inr (.inr (.inr ⟨h,rfl⟩))
  ·exact .inr (.inr (.inl ⟨h,rfl⟩))
  ·exact .inr (.inl ⟨h,rfl⟩)
  ·exact .inl ⟨h,rfl⟩
theorem pW {a b c d:Pt} (h:∀p,¬vV a b c d p):(K4 a b c d).length=0:=by
 rw [List.length_eq_zero_iff,List.eq_nil_iff_forall_not_mem]
 intro x hx
 obtain ⟨p,hp,_⟩:=om.1 hx
 exact h p hp
theorem xP {a b c d p:Pt} (h:vV a b c d p) (h1:∀q,vV a b c d q→q=p):(K4 a b c d).length=1:=by
 have e:(K4 a b c d).Perm [key p]:=(List.perm_ext_iff_of_nodup (qQ a b c d) (by simp)).2 fun x=>by
  rw [om]
  constructor
  ·rintro ⟨q,hq,rfl⟩;rw [h1 q hq];simp
  ·intro hx;simp at hx;exact ⟨p,h,hx⟩
 exact e.length_eq
theorem F8 {a b c d p q:Pt} (h:vV a b c d p) (h1:vV a b c d q) (hn:p≠q):2≤(K4 a b c d).length:=by
 have:=List.Nodup.length_le_of_subset (l₁:= [key p,key q]) (l₂:=K4 a b c d) (by simp [key_inj,hn]) (by
  intro x hx
  simp at hx
  rcases hx with rfl|rfl
  ·exact om.2 ⟨p,h,rfl⟩
  ·exact om.2 ⟨q,h1,rfl⟩)
 simpa using this
theorem uu {a b c:Pt} :sd a b c=0↔aq a b c=0:=by unfold sd;rw [lJ,ur]
theorem gq {a b c:Pt} :iq a b c=true↔aq a b c=0∧(a.1 - c.1)*(b.1 - c.1)≤0∧(a.2 - c.2)*(b.2 - c.2)≤0:=by
 unfold iq
 rw [within_iff,within_iff]
 simp only [Bool.and_eq_true,decide_eq_true_eq,uu,and_assoc]
theorem cm {x s:Int} (hs:s≠0) (h:x*(s*s)≤0):x≤0:=by
 have h1:=sq_nonneg s
 have h2:s*s≠0:=Int.mul_ne_zero hs hs
 refine Int.not_lt.1 fun hp=> ?_
 have:=Int.mul_pos hp (show 0<s*s by omega)
 omega
theorem cq {x s:Int} (h:x≤0):x*(s*s)≤0:=Int.mul_nonpos_of_nonpos_of_nonneg h (sq_nonneg s)
theorem y6 {a b c d:Pt} (h0:aq c d a=0):tm a b c d*(c.1 - a.1)=aq a b c*(d.1 - c.1):=by unfold aq at*;unfold tm;grind
theorem CG {a b c d:Pt} (h0:aq c d a=0):tm a b c d*(d.1 - a.1)=aq a b d*(d.1 - c.1):=by unfold aq at*;unfold tm;grind
theorem y7 {a b c d:Pt} (h0:aq c d a=0):tm a b c d*(c.2 - a.2)=aq a b c*(d.2 - c.2):=by unfold aq at*;unfold tm;grind
theorem CH {a b c d:Pt} (h0:aq c d a=0):tm a b c d*(d.2 - a.2)=aq a b d*(d.2 - c.2):=by unfold aq at*;unfold tm;grind
theorem E7 {t p q u v w:Int} (h1:t*p=u*w) (h2:t*q=v*w):(p*q)*(t*t)=(u*v)*(w*w):=by grind
theorem nG {a b c d:Pt} (hT:tm a b c d≠0):iq c d a=true↔aq c d a=0∧aq a b c*aq a b d≤0:=by
 rw [gq]
 refine and_congr_right fun h0=> ?_
 have e1:=E7 (y6 (b:=b) h0) (CG (b:=b) h0)
 have e2:=E7 (y7 (b:=b) h0) (CH (b:=b) h0)
 constructor
 ·rintro ⟨h1,h2⟩
  by_cases hx:d.1 - c.1=0
  ·have hy:d.2 - c.2≠0:=fun hy=>hT (by unfold tm;simp [hx,hy])
   exact cm hy (e2 ▸ cq h2)
  ·exact cm hx (e1 ▸ cq h1)
 ·intro h
  exact ⟨cm hT (e1 ▸ cq h),cm hT (e2 ▸ cq h)⟩
theorem uv (a b c d:Pt):tm b a c d= - tm a b c d:=by unfold tm;grind
theorem y8 (a b c d:Pt):tm c d a b= - tm a b c d:=by unfold tm;grind
theorem qR (a b c d:Pt):tm a b d c= - tm a b c d:=by unfold tm;grind
theorem dS (a b c:Pt):aq b a c= - aq a b c:=by unfold aq;grind
theorem oo (a b c d:Pt):aq a b d - aq a b c=tm a b c d:=by unfold aq tm;grind
theorem qS (a b c d:Pt):aq c d a - aq c d b=tm a b c d:=by unfold aq tm;grind
theorem CI (a b c:Pt):iq b a c=iq a b c:=by
 rw [Bool.eq_iff_iff,gq,gq,dS,Int.mul_comm (b.1 - c.1),Int.mul_comm (b.2 - c.2)]
 simp
theorem xQ {a b c d:Pt} (hT:tm a b c d≠0):iq c d b=true↔aq c d b=0∧aq a b c*aq a b d≤0:=by
 rw [nG (a:=b) (b:=a) (by rw [uv];omega),dS a b c,dS a b d,Int.neg_mul_neg]
theorem xR {a b c d:Pt} (hT:tm a b c d≠0):iq a b c=true↔aq a b c=0∧aq c d a*aq c d b≤0:=by
 rw [nG (a:=c) (b:=d) (c:=a) (d:=b) (by rw [y8];omega)]
theorem xS {a b c d:Pt} (hT:tm a b c d≠0):iq a b d=true↔aq a b d=0∧aq c d a*aq c d b≤0:=by
 rw [nG (a:=d) (b:=c) (c:=a) (d:=b) (by rw [y8,qR];omega),dS c d a,dS c d b,Int.neg_mul_neg]
theorem lK {a b c d:Pt} (hT:tm a b c d≠0) (h1:aq c d a=0) (h2:aq a b c=0):a=c:=by
 have k1:=y6 (b:=b) h1
 have k2:=y7 (b:=b) h1
 rw [h2,Int.zero_mul] at k1 k2
 have e1:=(Int.mul_eq_zero.1 k1).resolve_left hT
 have e2:=(Int.mul_eq_zero.1 k2).resolve_left hT
 exact Prod.ext (by omega) (by omega)
theorem vW (u v:Int):e9 u 0*e9 v 0<0↔u*v<0:=by
 unfold e9
 rcases Int.lt_trichotomy u 0 with hu|hu|hu<;>rcases Int.lt_trichotomy v 0 with hv|hv|hv
 ·have:=Int.mul_pos_of_neg_of_neg hu hv;simp [hu,hv];omega
 ·subst hv;simp
 ·have:=Int.mul_neg_of_neg_of_pos hu hv;simp [hu,hv,show ¬v<0 by omega,this]
 ·subst hu;simp
 ·subst hu;simp
 ·subst hu;simp
 ·have:=Int.mul_neg_of_pos_of_neg hu hv;simp [hu,hv,show ¬u<0 by omega,this]
 ·subst hv;simp
 ·have:=Int.mul_pos hu hv;simp [hu,hv,show ¬u<0 by omega,show ¬v<0 by omega];omega
theorem Ax (u v:Int):e9 u 0*e9 v 0≤0↔u*v≤0:=by
 unfold e9
 rcases Int.lt_trichotomy u 0 with hu|hu|hu<;>rcases Int.lt_trichotomy v 0 with hv|hv|hv
 ·have:=Int.mul_pos_of_neg_of_neg hu hv;simp [hu,hv];omega
 ·subst hv;simp
 ·have:=Int.mul_neg_of_neg_of_pos hu hv;simp [hu,hv,show ¬v<0 by omega];omega
 ·subst hu;simp
 ·subst hu;simp
 ·subst hu;simp
 ·have:=Int.mul_neg_of_pos_of_neg hu hv;simp [hu,hv,show ¬u<0 by omega];omega
 ·subst hv;simp
 ·have:=Int.mul_pos hu hv;simp [hu,hv,show ¬u<0 by omega,show ¬v<0 by omega];omega
theorem y9 (a b c:Pt):sd a b c=e9 (aq a b c) 0:=by rw [ur];rfl
def iF (a b c d:Pt):Int:=if 0<(K4 a b c d).length then min ((K4 a b c d).length:Int) 2 else if sd a b c*sd a b d<0∧sd c d a*sd c d b<0 then 1 else 0
theorem vX {a b c d:Pt} (hT:tm a b c d≠0):iF a b c d=if aq a b c*aq a b d≤0∧aq c d a*aq c d b≤0 then 1 else 0:=by
 have oa:=nG hT
 have ob:=xQ hT
 have oc:=xR hT
 have od:=xS hT
 have d1:=oo a b c d
 have d2:=qS a b c d
 have one:∀p q,vV a b c d p→vV a b c d q→q=p:=by
  have ab:iq c d a=true→iq c d b=true→False:=fun h1 h2=>by have:=oa.1 h1;have:=ob.1 h2;omega
  have cd:iq a b c=true→iq a b d=true→False:=fun h1 h2=>by have:=oc.1 h1;have:=od.1 h2;omega
  have ac:iq c d a=true→iq a b c=true→a=c:=fun h1 h2=>lK hT (oa.1 h1).1 (oc.1 h2).1
  have ad:iq c d a=true→iq a b d=true→a=d:=fun h1 h2=>lK (c:=d) (d:=c) (by rw [qR];omega) (by rw [dS,(oa.1 h1).1];rfl) (od.1 h2).1
  have bc:iq c d b=true→iq a b c=true→b=c:=fun h1 h2=>lK (a:=b) (b:=a) (d:=d) (by rw [uv];omega) (ob.1 h1).1 (by rw [dS,(oc.1 h2).1];rfl)
  have bd:iq c d b=true→iq a b d=true→b=d:=fun h1 h2=>lK (a:=b) (b:=a) (c:=d) (d:=c) (by rw [uv,qR];omega) (by rw [dS,(ob.1 h1).1];rfl) (by rw [dS,(od.1 h2).1];rfl)
  rintro p q (⟨h1,rfl⟩|⟨h1,rfl⟩|⟨h1,rfl⟩|⟨h1,rfl⟩) (⟨h2,rfl⟩|⟨h2,rfl⟩|⟨h2,rfl⟩|⟨h2,rfl⟩)
  ·rfl
  ·exact (ab h1 h2).elim
  ·exact (ac h1 h2).symm
  ·exact (ad h1 h2).symm
  ·exact (ab h2 h1).elim
  ·rfl
  ·exact (bc h1 h2).symm
  ·exact (bd h1 h2).symm
  ·exact ac h2 h1
  ·exact bc h2 h1
  ·rfl
  ·exact (cd h1 h2).elim
  ·exact ad h2 h1
  ·exact bd h2 h1
  ·exact (cd h2 h1).elim
  ·rfl
 unfold iF
 simp only [y9,vW]
 by_cases hc:∃p,vV a b c d p
 ·obtain ⟨p,hp⟩:=hc
  rw [xP hp fun q hq=>one p q hp hq]
  have:aq a b c*aq a b d≤0∧aq c d a*aq c d b≤0:=by
   rcases hp with ⟨h,_⟩|⟨h,_⟩|⟨h,_⟩|⟨h,_⟩
   ·have:=oa.1 h;exact ⟨this.2,by rw [this.1];simp⟩
   ·have:=ob.1 h;exact ⟨this.2,by rw [this.1];simp⟩
   ·have:=oc.1 h;exact ⟨by rw [this.1];simp,this.2⟩
   ·have:=od.1 h;exact ⟨by rw [this.1];simp,this.2⟩
  rw [if_pos this];rfl
 ·have hn:∀p,¬vV a b c d p:=fun p hp=>hc ⟨p,hp⟩
  rw [pW hn]
  simp only [Nat.lt_irrefl,if_false]
  by_cases h:aq a b c*aq a b d≤0∧aq c d a*aq c d b≤0
  ·rw [if_pos h,if_pos]
   have n1:aq a b c*aq a b d≠0:=fun h0=>by
    rcases Int.mul_eq_zero.1 h0 with h0|h0
    ·exact hn c (.inr (.inr (.inl ⟨oc.2 ⟨h0,h.2⟩,rfl⟩)))
    ·exact hn d (.inr (.inr (.inr ⟨od.2 ⟨h0,h.2⟩,rfl⟩)))
   have n2:aq c d a*aq c d b≠0:=fun h0=>by
    rcases Int.mul_eq_zero.1 h0 with h0|h0
    ·exact hn a (.inl ⟨oa.2 ⟨h0,h.1⟩,rfl⟩)
    ·exact hn b (.inr (.inl ⟨ob.2 ⟨h0,h.1⟩,rfl⟩))
   omega
  ·rw [if_neg h,if_neg (by omega)]
section
variable {a b:Pt}
theorem xT {p r:Pt} (hp:aq a b p=0) (hr:aq a b r=0):aj a b b*(p.1 - r.1)=(aj a b p - aj a b r)*(b.1 - a.1):=by unfold aq at*;unfold aj;grind
theorem xU {p r:Pt} (hp:aq a b p=0) (hr:aq a b r=0):aj a b b*(p.2 - r.2)=(aj a b p - aj a b r)*(b.2 - a.2):=by unfold aq at*;unfold aj;grind
theorem oq (hab:a≠b):0<aj a b b:=by
 unfold aj
 have h1:=sq_nonneg (b.1 - a.1)
 have h2:=sq_nonneg (b.2 - a.2)
 by_cases hx:b.1 - a.1=0
 ·have hy:b.2 - a.2≠0:=fun hy=>hab (Prod.ext (by omega) (by omega))
  have:=Int.mul_ne_zero hy hy
  omega
 ·have:=Int.mul_ne_zero hx hx
  omega
theorem En:aj a b a=0:=by unfold aj;simp
theorem ot:aq a b a=0:=by unfold aq;grind
theorem uw:aq a b b=0:=by unfold aq;grind
theorem vY (hab:a≠b) {p r:Pt} (hp:aq a b p=0) (hr:aq a b r=0) (h:aj a b p=aj a b r):p=r:=by
 have hN:=oq hab
 have h1:=xT hp hr
 have h2:=xU hp hr
 rw [h,Int.sub_self,Int.zero_mul] at h1 h2
 have e1:=(Int.mul_eq_zero.1 h1).resolve_left (by omega)
 have e2:=(Int.mul_eq_zero.1 h2).resolve_left (by omega)
 exact Prod.ext (by omega) (by omega)
theorem s5 (hab:a≠b) {p q r:Pt} (hp:aq a b p=0) (hq:aq a b q=0) (hr:aq a b r=0):aq p q r=0:=by
 have h1:(b.1 - a.1)*aq p q r=0:=by unfold aq at*;grind
 have h2:(b.2 - a.2)*aq p q r=0:=by unfold aq at*;grind
 by_cases h:aq p q r=0
 ·exact h
 ·have e1:=(Int.mul_eq_zero.1 h1).resolve_right h
  have e2:=(Int.mul_eq_zero.1 h2).resolve_right h
  exact absurd (Prod.ext (by omega) (by omega)) hab
theorem CJ {N x y u v w:Int} (h1:N*x=u*w) (h2:N*y=v*w):(x*y)*(N*N)=(u*v)*(w*w):=by grind
theorem pX (hab:a≠b) {p q r:Pt} (hp:aq a b p=0) (hq:aq a b q=0) (hr:aq a b r=0):iq p q r=true↔min (aj a b p) (aj a b q)≤aj a b r∧aj a b r≤max (aj a b p) (aj a b q):=by
 have hN:=oq hab
 have e1:=CJ (xT hp hr) (xT hq hr)
 have e2:=CJ (xU hp hr) (xU hq hr)
 have e3:(min (aj a b p) (aj a b q)≤aj a b r∧aj a b r≤max (aj a b p) (aj a b q))↔(aj a b p - aj a b r)*(aj a b q - aj a b r)≤0:=by
  rw [← pg];omega
 rw [gq,e3]
 constructor
 ·rintro ⟨_,h1,h2⟩
  by_cases hx:b.1 - a.1=0
  ·have hy:b.2 - a.2≠0:=fun hy=>hab (Prod.ext (by omega) (by omega))
   exact cm hy (e2 ▸ cq h2)
  ·exact cm hx (e1 ▸ cq h1)
 ·intro h
  exact ⟨s5 hab hp hq hr,cm (by omega) (e1 ▸ cq h),cm (by omega) (e2 ▸ cq h)⟩
end
theorem xV {a b c d:Pt} (hab:a≠b) (hcd:c≠d) (hc:aq a b c=0) (hd:aq a b d=0):
 iF a b c d=if min (aj a b b) (max (aj a b c) (aj a b d))<max (aj a b a) (min (aj a b c) (aj a b d)) then 0
  else if max (aj a b a) (min (aj a b c) (aj a b d))=min (aj a b b) (max (aj a b c) (aj a b d)) then 1 else 2:=by
 have hN:=oq hab
 have h0:=En (a:=a) (b:=b)
 have oa:=pX hab hc hd ot
 have ob:=pX hab hc hd uw
 have oc:=pX hab ot uw hc
 have od:=pX hab ot uw hd
 have hne:aj a b c≠aj a b d:=fun h=>hcd (vY hab hc hd h)
 have on:∀p,vV a b c d p→aq a b p=0∧max (aj a b a) (min (aj a b c) (aj a b d))≤aj a b p∧aj a b p≤min (aj a b b) (max (aj a b c) (aj a b d)):=by
  rintro p (⟨h,rfl⟩|⟨h,rfl⟩|⟨h,rfl⟩|⟨h,rfl⟩)
  ·have:=oa.1 h;exact ⟨ot,by omega⟩
  ·have:=ob.1 h;exact ⟨uw,by omega⟩
  ·have:=oc.1 h;exact ⟨hc,by omega⟩
  ·have:=od.1 h;exact ⟨hd,by omega⟩
 have hz:¬(sd a b c*sd a b d<0∧sd c d a*sd c d b<0):=by
  have:sd a b c=0:=uu.2 hc
  rw [this];simp
 by_cases hlt:min (aj a b b) (max (aj a b c) (aj a b d))<max (aj a b a) (min (aj a b c) (aj a b d))
 ·unfold iF
  rw [pW fun p hp=>by have:=on p hp;omega,if_neg (by simp),if_neg hz,if_pos hlt]
 ·rw [if_neg hlt]
  have lo:∃p,vV a b c d p∧aj a b p=max (aj a b a) (min (aj a b c) (aj a b d)):=by
   by_cases h1:min (aj a b c) (aj a b d)≤aj a b a
   ·exact ⟨a, .inl ⟨oa.2 (by omega),rfl⟩,by omega⟩
   ·by_cases h2:aj a b c≤aj a b d
    ·exact ⟨c, .inr (.inr (.inl ⟨oc.2 (by omega),rfl⟩)),by omega⟩
    ·exact ⟨d, .inr (.inr (.inr ⟨od.2 (by omega),rfl⟩)),by omega⟩
  have hi:∃p,vV a b c d p∧aj a b p=min (aj a b b) (max (aj a b c) (aj a b d)):=by
   by_cases h1:aj a b b≤max (aj a b c) (aj a b d)
   ·exact ⟨b, .inr (.inl ⟨ob.2 (by omega),rfl⟩),by omega⟩
   ·by_cases h2:aj a b c≤aj a b d
    ·exact ⟨d, .inr (.inr (.inr ⟨od.2 (by omega),rfl⟩)),by omega⟩
    ·exact ⟨c, .inr (.inr (.inl ⟨oc.2 (by omega),rfl⟩)),by omega⟩
  obtain ⟨p,hp,hp1⟩:=lo
  obtain ⟨q,hq,hq1⟩:=hi
  by_cases heq:max (aj a b a) (min (aj a b c) (aj a b d))=min (aj a b b) (max (aj a b c) (aj a b d))
  ·unfold iF
   rw [if_pos heq,xP hp fun r hr=>by
    have h1:=on r hr
    exact vY hab h1.1 (on p hp).1 (by omega)]
   rfl
  ·have h2:=F8 hp hq (fun e=>by subst e;omega)
   unfold iF
   rw [if_neg heq,if_pos (by omega)]
   omega
theorem za {a c:Pt} :iq a a c=true↔c=a:=by
 rw [gq]
 constructor
 ·rintro ⟨_,h1,h2⟩
  have e1:a.1 - c.1=0:=by
   by_cases h:a.1 - c.1=0
   ·exact h
   ·have:=Int.mul_ne_zero h h;have:=sq_nonneg (a.1 - c.1);omega
  have e2:a.2 - c.2=0:=by
   by_cases h:a.2 - c.2=0
   ·exact h
   ·have:=Int.mul_ne_zero h h;have:=sq_nonneg (a.2 - c.2);omega
  exact Prod.ext (by omega) (by omega)
 ·rintro rfl
  exact ⟨by unfold aq;grind,by simp,by simp⟩
theorem zf {a d:Pt} :iq a d a=true:=by rw [gq];exact ⟨ot,by simp,by simp⟩
theorem qT {a c d:Pt} :iF a a c d=if iq c d a=true then 1 else 0:=by
 have hz:sd a a c=0:=uu.2 (by unfold aq;grind)
 have on:∀p,vV a a c d p→iq c d a=true∧p=a:=by
  rintro p (⟨h,rfl⟩|⟨h,rfl⟩|⟨h,rfl⟩|⟨h,rfl⟩)
  ·exact ⟨h,rfl⟩
  ·exact ⟨h,rfl⟩
  ·have:=za.1 h;subst this;exact ⟨zf,rfl⟩
  ·have:=za.1 h;subst this;exact ⟨by rw [CI];exact zf,rfl⟩
 unfold iF
 by_cases h:iq c d a=true
 ·rw [xP (p:=a) (.inl ⟨h,rfl⟩) fun q hq=>(on q hq).2,if_pos h];rfl
 ·rw [pW fun p hp=>h (on p hp).1,if_neg h]
  simp [hz]
theorem xW (a b c d:Pt):iF c d a b=iF a b c d:=by
 have e:(K4 c d a b).Perm (K4 a b c d):=(List.perm_ext_iff_of_nodup (qQ _ _ _ _) (qQ _ _ _ _)).2 fun x=>by
  rw [om,om]
  refine exists_congr fun p=>and_congr_left fun _=> ?_
  unfold vV
  grind
 unfold iF
 rw [e.length_eq]
 congr 1
 simp only [and_comm]
theorem vZ {a b c:Pt} :iF a b c c=if iq a b c=true then 1 else 0:=by rw [← xW,qT]
theorem Eo (a b c d:Pt):fh a b c d=if bw a∧bw b∧bw c∧bw d then iF a b c d else 0:=rfl
theorem zg (a b c d:Pt):fc a b c d=fh a b c d:=by
 rw [Eo]
 unfold fc
 split
 ·rename_i hin
  have sJ:∀x y z:Pt,bw x→bw y→bw z→iR x y z=iq x y z:=fun x y z h1 h2 h3=>by rw [E6,pJ,decide_eq_true ⟨h1,h2,h3⟩,Bool.true_and]
  rw [sJ c d a hin.2.2.1 hin.2.2.2 hin.1,sJ a b c hin.1 hin.2.1 hin.2.2.1]
  split
  ·rename_i hab;subst hab;rw [qT]
  ·rename_i hab
   split
   ·rename_i hcd;subst hcd;rw [vZ]
   ·rename_i hcd
    simp only [lJ,Ax]
    by_cases hT:tm a b c d=0
    ·have d1:=oo a b c d
     split
     ·rename_i hz;rw [xV hab hcd hz.1 hz.2]
     ·rename_i hz
      have hne:aq a b c≠0:=by omega
      have Iv:∀p,iq c d p=true→p=a∨p=b→False:=fun p hp h=>by
       have h1:=(gq.1 hp).1
       have d2:=qS a b c d
       have h2:aq c d a=0∧aq c d b=0:=by rcases h with rfl|rfl<;>omega
       exact hne (s5 hcd h2.1 h2.2 ot)
      have hn:∀p,¬vV a b c d p:=by
       rintro p (⟨h,rfl⟩|⟨h,rfl⟩|⟨h,rfl⟩|⟨h,rfl⟩)
       ·exact Iv _ h (.inl rfl)
       ·exact Iv _ h (.inr rfl)
       ·exact hne (gq.1 h).1
       ·have:=(gq.1 h).1;omega
      have hq:aq a b d=aq a b c:=by omega
      have hp:=sq_nonneg (aq a b c)
      have HE:=Int.mul_ne_zero hne hne
      unfold iF
      rw [pW hn]
      simp only [y9,vW,Nat.lt_irrefl,if_false]
      rw [if_neg (fun h=>by have h:=h.1;rw [hq] at h;omega),if_neg (fun h=>by have h:=h.1;rw [hq] at h;omega)]
    ·rw [vX hT,if_neg]
     have d1:=oo a b c d
     omega
 ·rfl
end Go.Ab
end
section
namespace Go.Ab
open Go.Proofs
attribute [local congr] ACall.congr gd.congr Nx.congr
set_option maxRecDepth 10000
abbrev Pc:=Pt × Pt
def rQ (q:Pc):List D:= [.sc (.int .i64 q.1.1), .sc (.int .i64 q.1.2), .sc (.int .i64 q.2.1), .sc (.int .i64 q.2.2)]
def eQ (q:Pc):AV:= .agg [.d (.sc (.int .i64 q.1.1)), .d (.sc (.int .i64 q.1.2)), .d (.sc (.int .i64 q.2.1)), .d (.sc (.int .i64 q.2.2))]
def sQ (qs:List Pc):D:= .sl 4 (qs.map rQ)
def sP (ps:List Pt):D:= .sl 2 (ps.map rP)
def vP (ls:List (List Pt)):List (List D):=ls.map fun l=> [sP l]
def sLn (ls:List (List Pt)):D:= .sl 1 (vP ls)
def eLn (l:List Pt):AV:= .d (sP l)
theorem getD_rQ (ps:List Pc) (i:Nat):(ps.map rQ).getD i [.sc (.int .i64 0), .sc (.int .i64 0), .sc (.int .i64 0), .sc (.int .i64 0)]=rQ (ps.getD i ((0,0),(0,0))):=by
 simp only [List.getD_eq_getElem?_getD,List.getElem?_map]
 cases ps[i]? <;>rfl
theorem rQ_eq (q:Pc):rQ q= [.sc (.int .i64 q.1.1), .sc (.int .i64 q.1.2), .sc (.int .i64 q.2.1), .sc (.int .i64 q.2.2)]:=rfl
theorem vP_length (ls:List (List Pt)):(vP ls).length=ls.length:=by simp [vP]
theorem vP_getD (ls:List (List Pt)) (i:Nat):(vP ls).getD i [.sl 2 []]= [sP (ls.getD i [])]:=by
 simp only [vP,List.getD_eq_getElem?_getD,List.getElem?_map]
 cases ls[i]? <;>rfl
attribute [go_sem] getD_rQ rQ_eq eQ sQ sP sLn eLn vP_length vP_getD
theorem bf {α:Type} {l:List α} {m:Nat} {d:α} (h:m<l.length):l.getD m d∈l:=by
 rw [List.getD_eq_getElem?_getD,List.getElem?_eq_getElem h];exact List.getElem_mem h
theorem kf {m:List (Nat × AObj)} (hR:aF m) (f:Nat) (caps:List AV) (g:Pc→Bool) (ps:List Pc) (hf:∀p∈ps,Spec Tryz.prog f (Args (eQ p::caps)) m (eB (g p)) m) (hl:ps.length≤9223372036854775807):
 Spec Tryz.prog 181 (Args [.d (sQ ps), .fn f [] caps]) m (eN (bG g ps)) m:=by
 (refine Spec.hd (C:=T.cfg [] []) (rs:= [.t 4]) (T.ai _ _) Tryz.func181 rfl rfl Tryz.ntmps181 Tryz.results181 (fun p hp=>⟨(aF.low hR p hp).1,aF.nest hR p hp⟩) (fun p hp=>⟨(aF.low hR p hp).2,aF.nest hR p hp⟩) (by kernel_rfl) T.mixed fun X hX hP hC aG b9=> ?_)
 repeat' (first|refine Rn.p ?_|(with_reducible apply And.intro)|((first|(refine hK _ ?_;clear hK K)|with_reducible intro K hK|refine Rs.p ?_|((with_reducible first|apply oP|apply oQ);exact rfl));try simp only [go_sem,simprocAttr])|((with_reducible refine oD ?_ ?_);kernel_rfl)|((with_reducible intro h);try simp only [go_sem,simprocAttr] at h)|omega|intro h)
 refine ag (fun k:Nat=>k≤ps.length∧∀j,j<k→g (ps.getD j ((0,0),(0,0)))=false) (fun k=>⟨[(0, .d (sQ ps)),(1, .fn f [] caps),(7,eN ps.length),(8,eN k)],m⟩) (fun k=>ps.length - k) 0 (by simp) ?_ ?_
 ·(refine ⟨bI ?_,fun _ _ h=>h⟩;simp [go_sem,simprocAttr])
 rintro k ⟨hk,hg⟩
 rcases Nat.lt_or_ge k ps.length with hlt|hge
 ·have hb:decide ((k:Int)<(ps.length:Int))=true:=decide_eq_true (by omega)
  have hf':=hf (ps.getD k ((0,0),(0,0))) (bf hlt)
  repeat' (first|refine Rn.p ?_|(with_reducible apply And.intro)|((first|(refine hK _ ?_;clear hK K)|with_reducible intro K hK|refine Rs.p ?_|((with_reducible first|apply oP|apply oQ);exact rfl)|(first|(refine aA hX hC hP hR (hf') rfl rfl rfl ?_ ?_ rfl rfl ?_;(focus (simp only [go_sem,simprocAttr,hb];done));(focus (first|(intro p hp;exact az (aF.nd hR) hp)|(simp [go_sem,simprocAttr,hb];done))))|(refine aA hX hC hP hR (hf') rfl rfl rfl ?_ ?_ ?_ rfl ?_;(focus (simp only [go_sem,simprocAttr,hb];done));(focus (first|(intro p hp;exact az (aF.nd hR) hp)|(simp [go_sem,simprocAttr,hb];done)));(focus (simp [go_sem,simprocAttr,hb];done)))));try simp only [go_sem,simprocAttr,hb])|((with_reducible refine oD ?_ ?_);kernel_rfl)|((with_reducible intro h);try simp only [go_sem,simprocAttr,hb] at h)|omega|intro h)
  ·exact (bQ (by omega) hg h).symm
  ·exact bZ hR
  ·refine ⟨k+1,⟨by omega,fun j hj=> ?_⟩, ?_,by omega⟩
   ·by_cases hjk:j=k
    ·subst hjk;exact h
    ·exact hg j (by omega)
   ·(refine ⟨bI ?_,fun _ _ h=>h⟩;simp [go_sem,simprocAttr,hb])
 ·have hb:decide ((k:Int)<(ps.length:Int))=false:=decide_eq_false (by omega)
  repeat' (first|refine Rn.p ?_|(with_reducible apply And.intro)|((first|(refine hK _ ?_;clear hK K)|with_reducible intro K hK|refine Rs.p ?_|((with_reducible first|apply oP|apply oQ);exact rfl)|(first|(refine aA hX hC hP hR (hf') rfl rfl rfl ?_ ?_ rfl rfl ?_;(focus (simp only [go_sem,simprocAttr,hb];done));(focus (first|(intro p hp;exact az (aF.nd hR) hp)|(simp [go_sem,simprocAttr,hb];done))))|(refine aA hX hC hP hR (hf') rfl rfl rfl ?_ ?_ ?_ rfl ?_;(focus (simp only [go_sem,simprocAttr,hb];done));(focus (first|(intro p hp;exact az (aF.nd hR) hp)|(simp [go_sem,simprocAttr,hb];done)));(focus (simp [go_sem,simprocAttr,hb];done)))));try simp only [go_sem,simprocAttr,hb])|((with_reducible refine oD ?_ ?_);kernel_rfl)|((with_reducible intro h);try simp only [go_sem,simprocAttr,hb] at h)|omega|intro h)
  ·exact (bq ((0,0),(0,0)) fun j hj=>hg j (by omega)).symm
  ·exact bZ hR
theorem gR {m:List (Nat × AObj)} (hR:aF m) (f:Nat) (caps:List AV) (g:Pc→Bool) (ps:List Pc) (hf:∀p∈ps,Spec Tryz.prog f (Args (eQ p::caps)) m (eB (g p)) m) (hl:ps.length≤9223372036854775807):
 Spec Tryz.prog 136 (Args [.d (sQ ps), .fn f [] caps]) m (eB (ps.any g)) m:=by
 (refine Spec.hd (C:=T.cfg [] []) (rs:= [.t 4]) (T.ai _ _) Tryz.func136 rfl rfl Tryz.ntmps136 Tryz.results136 (fun p hp=>⟨(aF.low hR p hp).1,aF.nest hR p hp⟩) (fun p hp=>⟨(aF.low hR p hp).2,aF.nest hR p hp⟩) (by kernel_rfl) T.mixed fun X hX hP hC aG b9=> ?_)
 repeat' (first|refine Rn.p ?_|(with_reducible apply And.intro)|((first|(refine hK _ ?_;clear hK K)|with_reducible intro K hK|refine Rs.p ?_|((with_reducible first|apply oP|apply oQ);exact rfl)|(first|(refine aA hX hC hP hR (kf hR f caps g ps hf hl) rfl rfl rfl ?_ ?_ rfl rfl ?_;(focus (simp only [go_sem,simprocAttr];done));(focus (first|(intro p hp;exact az (aF.nd hR) hp)|(simp [go_sem,simprocAttr];done))))|(refine aA hX hC hP hR (kf hR f caps g ps hf hl) rfl rfl rfl ?_ ?_ ?_ rfl ?_;(focus (simp only [go_sem,simprocAttr];done));(focus (first|(intro p hp;exact az (aF.nd hR) hp)|(simp [go_sem,simprocAttr];done)));(focus (simp [go_sem,simprocAttr];done)))));try simp only [go_sem,simprocAttr])|((with_reducible refine oD ?_ ?_);kernel_rfl)|((with_reducible intro h);try simp only [go_sem,simprocAttr] at h)|omega|intro h)
 ·exact c7 g ps
 ·exact bZ hR
theorem jl {m:List (Nat × AObj)} (hR:aF m) (f:Nat) (caps:List AV) (g:Pt→Bool) (ps:List Pt) (hf:∀p∈ps,Spec Tryz.prog f (Args (eP p::caps)) m (eB (g p)) m) (hl:ps.length≤9223372036854775807):
 Spec Tryz.prog 185 (Args [.d (sP ps), .fn f [] caps]) m (eN (bG g ps)) m:=by
 (refine Spec.hd (C:=T.cfg [] []) (rs:= [.t 4]) (T.ai _ _) Tryz.func185 rfl rfl Tryz.ntmps185 Tryz.results185 (fun p hp=>⟨(aF.low hR p hp).1,aF.nest hR p hp⟩) (fun p hp=>⟨(aF.low hR p hp).2,aF.nest hR p hp⟩) (by kernel_rfl) T.mixed fun X hX hP hC aG b9=> ?_)
 repeat' (first|refine Rn.p ?_|(with_reducible apply And.intro)|((first|(refine hK _ ?_;clear hK K)|with_reducible intro K hK|refine Rs.p ?_|((with_reducible first|apply oP|apply oQ);exact rfl));try simp only [go_sem,simprocAttr])|((with_reducible refine oD ?_ ?_);kernel_rfl)|((with_reducible intro h);try simp only [go_sem,simprocAttr] at h)|omega|intro h)
 refine ag (fun k:Nat=>k≤ps.length∧∀j,j<k→g (ps.getD j (0,0))=false) (fun k=>⟨[(0, .d (sP ps)),(1, .fn f [] caps),(7,eN ps.length),(8,eN k)],m⟩) (fun k=>ps.length - k) 0 (by simp) ?_ ?_
 ·(refine ⟨bI ?_,fun _ _ h=>h⟩;simp [go_sem,simprocAttr])
 rintro k ⟨hk,hg⟩
 rcases Nat.lt_or_ge k ps.length with hlt|hge
 ·have hb:decide ((k:Int)<(ps.length:Int))=true:=decide_eq_true (by omega)
  have hf':=hf (ps.getD k (0,0)) (bf hlt)
  repeat' (first|refine Rn.p ?_|(with_reducible apply And.intro)|((first|(refine hK _ ?_;clear hK K)|with_reducible intro K hK|refine Rs.p ?_|((with_reducible first|apply oP|apply oQ);exact rfl)|(first|(refine aA hX hC hP hR (hf') rfl rfl rfl ?_ ?_ rfl rfl ?_;(focus (simp only [go_sem,simprocAttr,hb];done));(focus (first|(intro p hp;exact az (aF.nd hR) hp)|(simp [go_sem,simprocAttr,hb];done))))|(refine aA hX hC hP hR (hf') rfl rfl rfl ?_ ?_ ?_ rfl ?_;(focus (simp only [go_sem,simprocAttr,hb];done));(focus (first|(intro p hp;exact az (aF.nd hR) hp)|(simp [go_sem,simprocAttr,hb];done)));(focus (simp [go_sem,simprocAttr,hb];done)))));try simp only [go_sem,simprocAttr,hb])|((with_reducible refine oD ?_ ?_);kernel_rfl)|((with_reducible intro h);try simp only [go_sem,simprocAttr,hb] at h)|omega|intro h)
  ·exact (bQ (by omega) hg h).symm
  ·exact bZ hR
  ·refine ⟨k+1,⟨by omega,fun j hj=> ?_⟩, ?_,by omega⟩
   ·by_cases hjk:j=k
    ·subst hjk;exact h
    ·exact hg j (by omega)
   ·(refine ⟨bI ?_,fun _ _ h=>h⟩;simp [go_sem,simprocAttr,hb])
 ·have hb:decide ((k:Int)<(ps.length:Int))=false:=decide_eq_false (by omega)
  repeat' (first|refine Rn.p ?_|(with_reducible apply And.intro)|((first|(refine hK _ ?_;clear hK K)|with_reducible intro K hK|refine Rs.p ?_|((with_reducible first|apply oP|apply oQ);exact rfl)|(first|(refine aA hX hC hP hR (hf') rfl rfl rfl ?_ ?_ rfl rfl ?_;(focus (simp only [go_sem,simprocAttr,hb];done));(focus (first|(intro p hp;exact az (aF.nd hR) hp)|(simp [go_sem,simprocAttr,hb];done))))|(refine aA hX hC hP hR (hf') rfl rfl rfl ?_ ?_ ?_ rfl ?_;(focus (simp only [go_sem,simprocAttr,hb];done));(focus (first|(intro p hp;exact az (aF.nd hR) hp)|(simp [go_sem,simprocAttr,hb];done)));(focus (simp [go_sem,simprocAttr,hb];done)))));try simp only [go_sem,simprocAttr,hb])|((with_reducible refine oD ?_ ?_);kernel_rfl)|((with_reducible intro h);try simp only [go_sem,simprocAttr,hb] at h)|omega|intro h)
  ·exact (bq (0,0) fun j hj=>hg j (by omega)).symm
  ·exact bZ hR
theorem lU {m:List (Nat × AObj)} (hR:aF m) (f:Nat) (caps:List AV) (g:Pt→Bool) (ps:List Pt) (hf:∀p∈ps,Spec Tryz.prog f (Args (eP p::caps)) m (eB (g p)) m) (hl:ps.length≤9223372036854775807):
 Spec Tryz.prog 145 (Args [.d (sP ps), .fn f [] caps]) m (eB (ps.any g)) m:=by
 (refine Spec.hd (C:=T.cfg [] []) (rs:= [.t 4]) (T.ai _ _) Tryz.func145 rfl rfl Tryz.ntmps145 Tryz.results145 (fun p hp=>⟨(aF.low hR p hp).1,aF.nest hR p hp⟩) (fun p hp=>⟨(aF.low hR p hp).2,aF.nest hR p hp⟩) (by kernel_rfl) T.mixed fun X hX hP hC aG b9=> ?_)
 repeat' (first|refine Rn.p ?_|(with_reducible apply And.intro)|((first|(refine hK _ ?_;clear hK K)|with_reducible intro K hK|refine Rs.p ?_|((with_reducible first|apply oP|apply oQ);exact rfl)|(first|(refine aA hX hC hP hR (jl hR f caps g ps hf hl) rfl rfl rfl ?_ ?_ rfl rfl ?_;(focus (simp only [go_sem,simprocAttr];done));(focus (first|(intro p hp;exact az (aF.nd hR) hp)|(simp [go_sem,simprocAttr];done))))|(refine aA hX hC hP hR (jl hR f caps g ps hf hl) rfl rfl rfl ?_ ?_ ?_ rfl ?_;(focus (simp only [go_sem,simprocAttr];done));(focus (first|(intro p hp;exact az (aF.nd hR) hp)|(simp [go_sem,simprocAttr];done)));(focus (simp [go_sem,simprocAttr];done)))));try simp only [go_sem,simprocAttr])|((with_reducible refine oD ?_ ?_);kernel_rfl)|((with_reducible intro h);try simp only [go_sem,simprocAttr] at h)|omega|intro h)
 ·exact c7 g ps
 ·exact bZ hR
theorem jm {m:List (Nat × AObj)} (hR:aF m) (f:Nat) (caps:List AV) (g:List Pt→Bool) (ps:List (List Pt)) (hf:∀p∈ps,Spec Tryz.prog f (Args (eLn p::caps)) m (eB (g p)) m) (hl:ps.length≤9223372036854775807):
 Spec Tryz.prog 180 (Args [.d (sLn ps), .fn f [] caps]) m (eN (bG g ps)) m:=by
 (refine Spec.hd (C:=T.cfg [] []) (rs:= [.t 4]) (T.ai _ _) Tryz.func180 rfl rfl Tryz.ntmps180 Tryz.results180 (fun p hp=>⟨(aF.low hR p hp).1,aF.nest hR p hp⟩) (fun p hp=>⟨(aF.low hR p hp).2,aF.nest hR p hp⟩) (by kernel_rfl) T.mixed fun X hX hP hC aG b9=> ?_)
 repeat' (first|refine Rn.p ?_|(with_reducible apply And.intro)|((first|(refine hK _ ?_;clear hK K)|with_reducible intro K hK|refine Rs.p ?_|((with_reducible first|apply oP|apply oQ);exact rfl));try simp only [go_sem,simprocAttr])|((with_reducible refine oD ?_ ?_);kernel_rfl)|((with_reducible intro h);try simp only [go_sem,simprocAttr] at h)|omega|intro h)
 refine ag (fun k:Nat=>k≤ps.length∧∀j,j<k→g (ps.getD j [])=false) (fun k=>⟨[(0, .d (sLn ps)),(1, .fn f [] caps),(7,eN ps.length),(8,eN k)],m⟩) (fun k=>ps.length - k) 0 (by simp) ?_ ?_
 ·(refine ⟨bI ?_,fun _ _ h=>h⟩;simp [go_sem,simprocAttr])
 rintro k ⟨hk,hg⟩
 rcases Nat.lt_or_ge k ps.length with hlt|hge
 ·have hb:decide ((k:Int)<(ps.length:Int))=true:=decide_eq_true (by omega)
  have hf':=hf (ps.getD k []) (bf hlt)
  repeat' (first|refine Rn.p ?_|(with_reducible apply And.intro)|((first|(refine hK _ ?_;clear hK K)|with_reducible intro K hK|refine Rs.p ?_|((with_reducible first|apply oP|apply oQ);exact rfl)|(first|(refine aA hX hC hP hR (hf') rfl rfl rfl ?_ ?_ rfl rfl ?_;(focus (simp only [go_sem,simprocAttr,hb];done));(focus (first|(intro p hp;exact az (aF.nd hR) hp)|(simp [go_sem,simprocAttr,hb];done))))|(refine aA hX hC hP hR (hf') rfl rfl rfl ?_ ?_ ?_ rfl ?_;(focus (simp only [go_sem,simprocAttr,hb];done));(focus (first|(intro p hp;exact az (aF.nd hR) hp)|(simp [go_sem,simprocAttr,hb];done)));(focus (simp [go_sem,simprocAttr,hb];done)))));try simp only [go_sem,simprocAttr,hb])|((with_reducible refine oD ?_ ?_);kernel_rfl)|((with_reducible intro h);try simp only [go_sem,simprocAttr,hb] at h)|omega|intro h)
  ·exact (bQ (by omega) hg h).symm
  ·exact bZ hR
  ·refine ⟨k+1,⟨by omega,fun j hj=> ?_⟩, ?_,by omega⟩
   ·by_cases hjk:j=k
    ·subst hjk;exact h
    ·exact hg j (by omega)
   ·(refine ⟨bI ?_,fun _ _ h=>h⟩;simp [go_sem,simprocAttr,hb])
 ·have hb:decide ((k:Int)<(ps.length:Int))=false:=decide_eq_false (by omega)
  repeat' (first|refine Rn.p ?_|(with_reducible apply And.intro)|((first|(refine hK _ ?_;clear hK K)|with_reducible intro K hK|refine Rs.p ?_|((with_reducible first|apply oP|apply oQ);exact rfl)|(first|(refine aA hX hC hP hR (hf') rfl rfl rfl ?_ ?_ rfl rfl ?_;(focus (simp only [go_sem,simprocAttr,hb];done));(focus (first|(intro p hp;exact az (aF.nd hR) hp)|(simp [go_sem,simprocAttr,hb];done))))|(refine aA hX hC hP hR (hf') rfl rfl rfl ?_ ?_ ?_ rfl ?_;(focus (simp only [go_sem,simprocAttr,hb];done));(focus (first|(intro p hp;exact az (aF.nd hR) hp)|(simp [go_sem,simprocAttr,hb];done)));(focus (simp [go_sem,simprocAttr,hb];done)))));try simp only [go_sem,simprocAttr,hb])|((with_reducible refine oD ?_ ?_);kernel_rfl)|((with_reducible intro h);try simp only [go_sem,simprocAttr,hb] at h)|omega|intro h)
  ·exact (bq [] fun j hj=>hg j (by omega)).symm
  ·exact bZ hR
theorem lV {m:List (Nat × AObj)} (hR:aF m) (f:Nat) (caps:List AV) (g:List Pt→Bool) (ps:List (List Pt)) (hf:∀p∈ps,Spec Tryz.prog f (Args (eLn p::caps)) m (eB (g p)) m) (hl:ps.length≤9223372036854775807):
 Spec Tryz.prog 134 (Args [.d (sLn ps), .fn f [] caps]) m (eB (ps.any g)) m:=by
 (refine Spec.hd (C:=T.cfg [] []) (rs:= [.t 4]) (T.ai _ _) Tryz.func134 rfl rfl Tryz.ntmps134 Tryz.results134 (fun p hp=>⟨(aF.low hR p hp).1,aF.nest hR p hp⟩) (fun p hp=>⟨(aF.low hR p hp).2,aF.nest hR p hp⟩) (by kernel_rfl) T.mixed fun X hX hP hC aG b9=> ?_)
 repeat' (first|refine Rn.p ?_|(with_reducible apply And.intro)|((first|(refine hK _ ?_;clear hK K)|with_reducible intro K hK|refine Rs.p ?_|((with_reducible first|apply oP|apply oQ);exact rfl)|(first|(refine aA hX hC hP hR (jm hR f caps g ps hf hl) rfl rfl rfl ?_ ?_ rfl rfl ?_;(focus (simp only [go_sem,simprocAttr];done));(focus (first|(intro p hp;exact az (aF.nd hR) hp)|(simp [go_sem,simprocAttr];done))))|(refine aA hX hC hP hR (jm hR f caps g ps hf hl) rfl rfl rfl ?_ ?_ ?_ rfl ?_;(focus (simp only [go_sem,simprocAttr];done));(focus (first|(intro p hp;exact az (aF.nd hR) hp)|(simp [go_sem,simprocAttr];done)));(focus (simp [go_sem,simprocAttr];done)))));try simp only [go_sem,simprocAttr])|((with_reducible refine oD ?_ ?_);kernel_rfl)|((with_reducible intro h);try simp only [go_sem,simprocAttr] at h)|omega|intro h)
 ·exact c7 g ps
 ·exact bZ hR
end Go.Ab
end
section
namespace Go.Ab
open Go.Proofs
attribute [local congr] ACall.congr gd.congr Nx.congr
set_option maxRecDepth 10000
structure Dr where
 pts:List Pt
 ls:List (List Pt)
def eDr (d:Dr):AV:= .agg [.d (sP d.pts), .d (sLn d.ls)]
def lkO (g:Gr) (d:Dr):AObj:= .rob [eN g.n, .d (sE g.es), .d (sP d.pts), .d (sLn d.ls)]
theorem uz (g:Gr) (d:Dr):aF [(10000,lkO g d)]:=⟨by simp [lkO,AObj.ro],by simp [nodupM,look],by simp,by simp [lkO,AObj.ids,AV.ids,AV.idss,eN]⟩
attribute [go_sem] eDr lkO
def DI (l:List Pt) (k:Nat):List Pc:=(List.range k).map fun i=>(l.getD i (0,0),l.getD (i+1) (0,0))
def ee (l:List Pt):List Pc:=DI l (l.length - 1)
theorem CK {l:List Pt} {k:Nat} :DI l (k+1)=DI l k++ [(l.getD k (0,0),l.getD (k+1) (0,0))]:=by simp [DI,List.range_succ]
theorem jV {l:List Pt} {k:Nat} :(DI l k).length=k:=by simp [DI]
theorem dK {l:List Pt} :(ee l).length=l.length - 1:=jV
theorem iG (l:List Pt) (h1:1≤l.length) (hl:l.length≤1000000):Spec Tryz.prog 137 (Args [.d (sP l)]) [] (.d (sQ (ee l))) []:=by
 (refine Spec.hd (C:=T.cfg [] []) (rs:= [.t 2]) (T.ai _ _) Tryz.func137 rfl rfl Tryz.ntmps137 Tryz.results137 (by simp [AObj.isNest]) (by simp [AObj.isNest]) (by kernel_rfl) T.mixed fun X hX hP hC aG b9=> ?_)
 repeat' (first|refine Rn.p ?_|(with_reducible apply And.intro)|((first|(refine hK _ ?_;clear hK K)|with_reducible intro K hK|refine Rs.p ?_|((with_reducible first|apply oP|apply oQ);exact rfl));try simp only [go_sem,simprocAttr])|((with_reducible refine oD ?_ ?_);kernel_rfl)|((with_reducible intro h);try simp only [go_sem,simprocAttr] at h)|omega|intro h)
 (refine jO hX 2 22 (.tip 185 4 []) (by simp only [go_sem,simprocAttr]) (by simp only [go_sem,simprocAttr]) (by decide) ⟨185,4,by decide, .inr rfl⟩ ?_;simp only [go_sem,simprocAttr])
 refine ag (fun k:Nat=>k≤l.length - 1) (fun k=>⟨[(0, .d (sP l)),(6,eN (l.length - 1:Nat)),(7,eN k),(2, .ref 22)], [(22, .tip 185 4 ((DI l k).map rQ))]⟩) (fun k=>l.length - 1 - k) 0 (by omega) ?_ ?_
 ·refine Le.of ?_ ?_<;>simp [go_sem,simprocAttr,DI]
 rintro k hk
 rcases Nat.lt_or_ge k (l.length - 1) with hlt|hge
 ·have hb:decide ((k:Int)<((l.length - 1:Nat):Int))=true:=decide_eq_true (by omega)
  repeat' (first|refine Rn.p ?_|(with_reducible apply And.intro)|((first|(refine hK _ ?_;clear hK K)|with_reducible intro K hK|refine Rs.p ?_|((with_reducible first|apply oP|apply oQ);exact rfl));try simp only [go_sem,simprocAttr,hb,jV])|((with_reducible refine oD ?_ ?_);kernel_rfl)|((with_reducible intro h);try simp only [go_sem,simprocAttr,hb,jV] at h)|omega|intro h)
  refine ⟨k+1,by omega, ?_,by omega⟩
  refine Le.of ?_ ?_<;>simp [go_sem,simprocAttr,hb,jV,CK,rQ]
 ·have hb:decide ((k:Int)<((l.length - 1:Nat):Int))=false:=decide_eq_false (by omega)
  obtain rfl:k=l.length - 1:=by omega
  repeat' (first|refine Rn.p ?_|(with_reducible apply And.intro)|((first|(refine hK _ ?_;clear hK K)|with_reducible intro K hK|refine Rs.p ?_|((with_reducible first|apply oP|apply oQ);exact rfl));try simp only [go_sem,simprocAttr,hb])|((with_reducible refine oD ?_ ?_);kernel_rfl)|((with_reducible intro h);try simp only [go_sem,simprocAttr,hb] at h)|omega|intro h)
  rfl
def robPt (p:Pt):List (Nat × AObj):= [(10000, .rob [eN p.1,eN p.2])]
theorem CL (p:Pt):aF (robPt p):=⟨by simp [robPt,AObj.ro],by simp [robPt,nodupM,look],by simp [robPt],by simp [robPt,AObj.ids,AV.ids,AV.idss,eN]⟩
attribute [go_sem] robPt
theorem Ay (q:Pc) (p:Pt):Spec Tryz.prog 183 (Args [eQ q, .ptr 10000 0]) (robPt p) (eB (pJ q.1 q.2 p)) (robPt p):=by
 unfold robPt
 (refine Spec.hd (C:=T.cfg [] []) (rs:= [.t 3]) (T.ai _ _) Tryz.func183 rfl rfl Tryz.ntmps183 Tryz.results183 (by simp [AObj.isNest]) (by simp [AObj.isNest]) (by kernel_rfl) T.mixed fun X hX hP hC aG b9=> ?_)
 repeat' (first|refine Rn.p ?_|(with_reducible apply And.intro)|((first|(refine hK _ ?_;clear hK K)|with_reducible intro K hK|refine Rs.p ?_|((with_reducible first|apply oP|apply oQ);exact rfl)|refine aa hX hC hP (uj q.1 q.2 p) rfl rfl rfl (by simp only [go_sem,simprocAttr]) rfl ?_);try simp only [go_sem,simprocAttr])|((with_reducible refine oD ?_ ?_);kernel_rfl)|((with_reducible intro h);try simp only [go_sem,simprocAttr] at h)|omega|intro h)
def GS (l:List Pt) (p:Pt):Bool:=(ee l).any fun q=>pJ q.1 q.2 p
theorem s6 (l:List Pt) (p:Pt) (h1:1≤l.length) (hl:l.length≤1000000):Spec Tryz.prog 140 (Args [.d (sP l),eP p]) [] (eB (GS l p)) []:=by
 have hl':(ee l).length≤9223372036854775807:=by rw [dK];omega
 (refine Spec.hd (C:=T.cfg [] []) (rs:= [.t 4]) (T.ai _ _) Tryz.func140 rfl rfl Tryz.ntmps140 Tryz.results140 (by simp [AObj.isNest]) (by simp [AObj.isNest]) (by kernel_rfl) T.mixed fun X hX hP hC aG b9=> ?_)
 repeat' (first|refine Rn.p ?_|(with_reducible apply And.intro)|((first|(refine hK _ ?_;clear hK K)|with_reducible intro K hK|refine Rs.p ?_|((with_reducible first|apply oP|apply oQ);exact rfl)|refine aa hX hC hP (iG l h1 hl) rfl rfl rfl (by simp only [go_sem,simprocAttr]) rfl ?_|(refine dz hX hC hP [(10000,3)] (gR (CL p) _ _ (fun q=>pJ q.1 q.2 p) (ee l) (fun q _=>Ay q p) hl') rfl rfl rfl ?_ ?_ ?_ ?_ ?_ ?_ rfl rfl ?_ ?_;(focus (simp only [go_sem,simprocAttr];done));(iterate 6 (focus (simp [go_sem,simprocAttr];done)));try simp only [List.map_cons,List.map_nil]));try simp only [go_sem,simprocAttr])|((with_reducible refine oD ?_ ?_);kernel_rfl)|((with_reducible intro h);try simp only [go_sem,simprocAttr] at h)|omega|intro h)
 rfl
theorem v7 (q:Pc):Spec Tryz.prog 138 (Args [eQ q]) [] (eB (decide (q.2.2≤q.1.2))) []:=by
 (refine Spec.hd (C:=T.cfg [] []) (rs:= [.t 2]) (T.ai _ _) Tryz.func138 rfl rfl Tryz.ntmps138 Tryz.results138 (by simp [AObj.isNest]) (by simp [AObj.isNest]) (by kernel_rfl) T.mixed fun X hX hP hC aG b9=> ?_)
 repeat' (first|refine Rn.p ?_|(with_reducible apply And.intro)|((first|(refine hK _ ?_;clear hK K)|with_reducible intro K hK|refine Rs.p ?_|((with_reducible first|apply oP|apply oQ);exact rfl));try simp only [go_sem,simprocAttr])|((with_reducible refine oD ?_ ?_);kernel_rfl)|((with_reducible intro h);try simp only [go_sem,simprocAttr] at h)|omega|intro h)
def fk (l:List Pt):Bool:= !(ee l).any fun q=>decide (q.2.2≤q.1.2)
structure pK (g:Gr) (d:Dr):Prop where
 may:aV g=true
 np:(d.pts.length:Int)=g.n
 nl:d.ls.length=g.es.length
 F9:∀l∈d.ls,2≤l.length∧l.length≤8
theorem pK.line {g:Gr} {d:Dr} (h:pK g d) {i:Nat} (hi:i<g.es.length):2≤(d.ls.getD i []).length∧(d.ls.getD i []).length≤8:=h.F9 _ (bf (by rw [h.nl];exact hi))
theorem xX (g:Gr) (d:Dr) (h:pK g d) (i:Nat) (hi:i<g.es.length):Spec Tryz.prog 92 (Args [.ptr 10000 0,eN i]) [(10000,lkO g d)] (eB (fk (d.ls.getD i []))) [(10000,lkO g d)]:=by
 have hn:=bL h.may
 have hnl:=h.nl
 obtain ⟨h2,h8⟩:=h.line hi
 have h1:1≤(d.ls.getD i []).length:=by omega
 have hl:(d.ls.getD i []).length≤1000000:=by omega
 have hl':(ee (d.ls.getD i [])).length≤9223372036854775807:=by rw [dK];omega
 unfold lkO
 (refine Spec.hd (C:=T.cfg [] []) (rs:= [.t 4]) (T.ai _ _) Tryz.func92 rfl rfl Tryz.ntmps92 Tryz.results92 (by simp [AObj.isNest]) (by simp [AObj.isNest]) (by kernel_rfl) T.mixed fun X hX hP hC aG b9=> ?_)
 repeat' (first|refine Rn.p ?_|(with_reducible apply And.intro)|((first|(refine hK _ ?_;clear hK K)|with_reducible intro K hK|refine Rs.p ?_|((with_reducible first|apply oP|apply oQ);exact rfl)|refine aa hX hC hP (iG (d.ls.getD i []) h1 hl) rfl rfl rfl (by simp only [go_sem,simprocAttr]) rfl ?_|refine aa hX hC hP (gR aF.nil _ [] (fun q=>decide (q.2.2≤q.1.2)) (ee (d.ls.getD i [])) (fun q _=>v7 q) hl') rfl rfl rfl (by simp only [go_sem,simprocAttr]) rfl ?_);try simp only [go_sem,simprocAttr])|((with_reducible refine oD ?_ ?_);kernel_rfl)|((with_reducible intro h);try simp only [go_sem,simprocAttr] at h)|omega|intro h)
 rfl
def nH (g:Gr) (d:Dr) (i:Nat):Bool:=decide ((d.ls.getD i []).getD 0 (0,0)=d.pts.getD (g.es.getD i (0,0)).1.toNat (0,0))&&decide ((d.ls.getD i []).getD ((d.ls.getD i []).length - 1) (0,0)=d.pts.getD (g.es.getD i (0,0)).2.toNat (0,0))
theorem xY (g:Gr) (d:Dr) (h:pK g d) (i:Nat) (hi:i<g.es.length):Spec Tryz.prog 91 (Args [.ptr 10000 0,eN i]) [(10000,lkO g d)] (eB (nH g d i)) [(10000,lkO g d)]:=by
 have hn:=bL h.may
 have hnp:=h.np
 have hnl:=h.nl
 obtain ⟨h2,h8⟩:=h.line hi
 obtain ⟨⟨Ct,rZ⟩,vi,qh⟩:=dX h.may hi
 have htn:(((d.ls.getD i []).length:Int) - 1).toNat=(d.ls.getD i []).length - 1:=by omega
 unfold lkO
 (refine Spec.hd (C:=T.cfg [] []) (rs:= [.t 4]) (T.ai _ _) Tryz.func91 rfl rfl Tryz.ntmps91 Tryz.results91 (by simp [AObj.isNest]) (by simp [AObj.isNest]) (by kernel_rfl) T.mixed fun X hX hP hC aG b9=> ?_)
 repeat' (first|refine Rn.p ?_|(with_reducible apply And.intro)|((first|(refine hK _ ?_;clear hK K)|with_reducible intro K hK|refine Rs.p ?_|((with_reducible first|apply oP|apply oQ);exact rfl));try simp only [go_sem,simprocAttr,iw,htn])|((with_reducible refine oD ?_ ?_);kernel_rfl)|((with_reducible intro h);try simp only [go_sem,simprocAttr,iw,htn] at h)|omega|intro h)
 ·have h0:(d.ls.getD i []).getD 0 (0,0)=d.pts.getD (g.es.getD i (0,0)).1.toNat (0,0):=by assumption
  simp only [nH,h0,decide_true,Bool.true_and]
 ·have h0:¬(d.ls.getD i []).getD 0 (0,0)=d.pts.getD (g.es.getD i (0,0)).1.toNat (0,0):=by assumption
  simp only [nH,h0,decide_false,Bool.false_and]
def Ga (l:List Pt) (x:Pt):Int:=bG (fun y=>decide (x=y)) l
theorem CM (l:List Pt) (x:Pt):decide (0≤Ga l x)=decide (x∈l):=by
 unfold Ga;rw [c7,Bool.eq_iff_iff];simp [-Prod.exists, -Prod.forall]
theorem v8 (ps:List Pt) (x:Pt) (hl:ps.length≤9223372036854775807):
 Spec Tryz.prog 182 (Args [.d (sP ps),eP x]) [] (eN (Ga ps x)) []:=by
 (refine Spec.hd (C:=T.cfg [] []) (rs:= [.t 4]) (T.ai _ _) Tryz.func182 rfl rfl Tryz.ntmps182 Tryz.results182 (by simp [AObj.isNest]) (by simp [AObj.isNest]) (by kernel_rfl) T.mixed fun X hX hP hC aG b9=> ?_)
 repeat' (first|refine Rn.p ?_|(with_reducible apply And.intro)|((first|(refine hK _ ?_;clear hK K)|with_reducible intro K hK|refine Rs.p ?_|((with_reducible first|apply oP|apply oQ);exact rfl));try simp only [go_sem,simprocAttr])|((with_reducible refine oD ?_ ?_);kernel_rfl)|((with_reducible intro h);try simp only [go_sem,simprocAttr] at h)|omega|intro h)
 refine ag (fun k:Nat=>k≤ps.length∧∀j,j<k→decide (x=ps.getD j (0,0))=false) (fun k=>⟨[(0, .d (sP ps)),(3, .ptr 3 0),(7,eN ps.length),(8,eN k)], [(3, .box [eN x.1,eN x.2])]⟩) (fun k=>ps.length - k) 0 (by simp) ?_ ?_
 ·(refine Le.of ?_ ?_<;>simp [go_sem,simprocAttr])
 rintro k ⟨hk,hg⟩
 repeat' (first|refine Rn.p ?_|(with_reducible apply And.intro)|((first|(refine hK _ ?_;clear hK K)|with_reducible intro K hK|refine Rs.p ?_|((with_reducible first|apply oP|apply oQ);exact rfl));try simp only [go_sem,simprocAttr,iw])|((with_reducible refine oD ?_ ?_);kernel_rfl)|((with_reducible intro h);try simp only [go_sem,simprocAttr,iw] at h)|omega|intro h)
 ·exact (bQ (d:=(0,0)) (by omega) hg (by simpa using h)).symm
 ·refine ⟨k+1,⟨by omega,fun j hj=> ?_⟩, ?_,by omega⟩
  ·by_cases hjk:j=k
   ·subst hjk;exact h
   ·simpa using hg j (by omega)
  ·(refine Le.of ?_ ?_<;>simp [go_sem,simprocAttr,iw])
 ·exact (bq (0,0) fun j hj=>hg j (by omega)).symm
theorem qU (ps:List Pt) (x:Pt) (hl:ps.length≤9223372036854775807):
 Spec Tryz.prog 139 (Args [.d (sP ps),eP x]) [] (eB (decide (x∈ps))) []:=by
 rw [← CM]
 (refine Spec.hd (C:=T.cfg [] []) (rs:= [.t 4]) (T.ai _ _) Tryz.func139 rfl rfl Tryz.ntmps139 Tryz.results139 (by simp [AObj.isNest]) (by simp [AObj.isNest]) (by kernel_rfl) T.mixed fun X hX hP hC aG b9=> ?_)
 repeat' (first|refine Rn.p ?_|(with_reducible apply And.intro)|((first|(refine hK _ ?_;clear hK K)|with_reducible intro K hK|refine Rs.p ?_|((with_reducible first|apply oP|apply oQ);exact rfl)|refine aa hX hC hP (v8 ps x hl) rfl rfl rfl (by simp only [go_sem,simprocAttr]) rfl ?_);try simp only [go_sem,simprocAttr])|((with_reducible refine oD ?_ ?_);kernel_rfl)|((with_reducible intro h);try simp only [go_sem,simprocAttr] at h)|omega|intro h)
def dL (d:Dr) (x:Nat):Bool:= !decide (d.pts.getD x (0,0)∈d.pts.take x)
theorem xZ (g:Gr) (d:Dr) (h:pK g d) (x:Nat) (hx:x<d.pts.length):Spec Tryz.prog 93 (Args [.ptr 10000 0,eN x]) [(10000,lkO g d)] (eB (dL d x)) [(10000,lkO g d)]:=by
 have hn:=bL h.may
 have hnp:=h.np
 have hl:(d.pts.take x).length≤9223372036854775807:=by rw [List.length_take];omega
 unfold lkO
 (refine Spec.hd (C:=T.cfg [] []) (rs:= [.t 4]) (T.ai _ _) Tryz.func93 rfl rfl Tryz.ntmps93 Tryz.results93 (by simp [AObj.isNest]) (by simp [AObj.isNest]) (by kernel_rfl) T.mixed fun X hX hP hC aG b9=> ?_)
 repeat' (first|refine Rn.p ?_|(with_reducible apply And.intro)|((first|(refine hK _ ?_;clear hK K)|with_reducible intro K hK|refine Rs.p ?_|((with_reducible first|apply oP|apply oQ);exact rfl)|refine aa hX hC hP (qU (d.pts.take x) (d.pts.getD x (0,0)) hl) rfl rfl rfl (by simp only [go_sem,simprocAttr, ← List.map_take]) rfl ?_);try simp only [go_sem,simprocAttr, ← List.map_take])|((with_reducible refine oD ?_ ?_);kernel_rfl)|((with_reducible intro h);try simp only [go_sem,simprocAttr, ← List.map_take] at h)|omega|intro h)
 rfl
def kQ (g:Gr) (d:Dr) (i k:Nat):Bool:=(List.range k).all fun x=>decide ((x:Int)=(g.es.getD i (0,0)).1)||decide ((x:Int)=(g.es.getD i (0,0)).2)|| !GS (d.ls.getD i []) (d.pts.getD x (0,0))
def jo (g:Gr) (d:Dr) (i:Nat):Bool:=kQ g d i d.pts.length
theorem qV {g:Gr} {d:Dr} {i k:Nat} :kQ g d i (k+1)=(kQ g d i k&&(decide ((k:Int)=(g.es.getD i (0,0)).1)||decide ((k:Int)=(g.es.getD i (0,0)).2)|| !GS (d.ls.getD i []) (d.pts.getD k (0,0)))):=by
 simp [kQ,List.range_succ]
theorem nI {n k:Nat} {f:Nat→Bool} (hk:k<n) (h:f k=false):(List.range n).all f=false:=by
 rw [List.all_eq_false];exact ⟨k,List.mem_range.2 hk,by simp [h]⟩
theorem free_spec (g:Gr) (d:Dr) (h:pK g d) (i:Nat) (hi:i<g.es.length):Spec Tryz.prog 94 (Args [.ptr 10000 0,eN i]) [(10000,lkO g d)] (eB (jo g d i)) [(10000,lkO g d)]:=by
 have hn:=bL h.may
 have hnp:=h.np
 have hnl:=h.nl
 obtain ⟨h2,h8⟩:=h.line hi
 have h1:1≤(d.ls.getD i []).length:=by omega
 have hl:(d.ls.getD i []).length≤1000000:=by omega
 unfold lkO
 (refine Spec.hd (C:=T.cfg [] []) (rs:= [.t 4]) (T.ai _ _) Tryz.func94 rfl rfl Tryz.ntmps94 Tryz.results94 (by simp [AObj.isNest]) (by simp [AObj.isNest]) (by kernel_rfl) T.mixed fun X hX hP hC aG b9=> ?_)
 repeat' (first|refine Rn.p ?_|(with_reducible apply And.intro)|((first|(refine hK _ ?_;clear hK K)|with_reducible intro K hK|refine Rs.p ?_|((with_reducible first|apply oP|apply oQ);exact rfl));try simp only [go_sem,simprocAttr])|((with_reducible refine oD ?_ ?_);kernel_rfl)|((with_reducible intro h);try simp only [go_sem,simprocAttr] at h)|omega|intro h)
 refine ag (fun k:Nat=>k≤d.pts.length∧kQ g d i k=true) (fun k=>⟨[(0, .ptr 10000 0),(1,eN i),(5, .ptr 5 0),(20, .d (sP d.pts)),(21,eN d.pts.length),(22,eN k)], [(5, .box [eN (g.es.getD i (0,0)).1,eN (g.es.getD i (0,0)).2]),(10000,lkO g d)]⟩) (fun k=>d.pts.length - k) 0 (by simp [kQ]) ?_ ?_
 ·(refine Le.of ?_ ?_<;>simp [go_sem,simprocAttr])
 rintro k ⟨hk,hf⟩
 rcases Nat.lt_or_ge k d.pts.length with hlt|hge
 ·have hb:decide ((k:Int)<(d.pts.length:Int))=true:=decide_eq_true (by omega)
  have iE:=qV (g:=g) (d:=d) (i:=i) (k:=k)
  rw [hf,Bool.true_and] at iE
  repeat' (first|refine Rn.p ?_|(with_reducible apply And.intro)|((first|(refine hK _ ?_;clear hK K)|with_reducible intro K hK|refine Rs.p ?_|((with_reducible first|apply oP|apply oQ);exact rfl)|refine aa hX hC hP (s6 (d.ls.getD i []) (d.pts.getD k (0,0)) h1 hl) rfl rfl rfl (by simp only [go_sem,simprocAttr,hb]) rfl ?_);try simp only [go_sem,simprocAttr,hb])|((with_reducible refine oD ?_ ?_);kernel_rfl)|((with_reducible intro h);try simp only [go_sem,simprocAttr,hb] at h)|omega|intro h)
  ·rw [jo,kQ]
   refine (nI hlt ?_).symm
   simp only [*,decide_false,Bool.or_false,Bool.false_or,Bool.not_true]
  all_goals (
   refine ⟨k+1,⟨by omega, ?_⟩, ?_,by omega⟩
   ·rw [iE];simp only [*,decide_true,Bool.true_or,Bool.or_true,Bool.not_false]
   ·(refine Le.of ?_ ?_<;>simp [go_sem,simprocAttr,hb]))
 ·have hb:decide ((k:Int)<(d.pts.length:Int))=false:=decide_eq_false (by omega)
  obtain rfl:k=d.pts.length:=by omega
  repeat' (first|refine Rn.p ?_|(with_reducible apply And.intro)|((first|(refine hK _ ?_;clear hK K)|with_reducible intro K hK|refine Rs.p ?_|((with_reducible first|apply oP|apply oQ);exact rfl)|refine aa hX hC hP (s6 (d.ls.getD i []) (d.pts.getD k (0,0)) h1 hl) rfl rfl rfl (by simp only [go_sem,simprocAttr,hb]) rfl ?_);try simp only [go_sem,simprocAttr,hb])|((with_reducible refine oD ?_ ?_);kernel_rfl)|((with_reducible intro h);try simp only [go_sem,simprocAttr,hb] at h)|omega|intro h)
  ·exact hf.symm
end Go.Ab
end
section
namespace Go.Ab
open Go.Proofs
attribute [local congr] ACall.congr gd.congr Nx.congr
set_option maxRecDepth 10000
def Ep (e:Edge) (x:Int):Bool:=decide (x=e.1)||decide (x=e.2)
def ou (g:Gr) (d:Dr) (i k:Nat) (m:Nat):List Pt:=(([(g.es.getD i (0,0)).1,(g.es.getD i (0,0)).2].take m).filter (Ep (g.es.getD k (0,0)))).map fun x=>d.pts.getD x.toNat (0,0)
def fD (g:Gr) (d:Dr) (i k:Nat):List Pt:=ou g d i k 2
theorem CN {g:Gr} {d:Dr} {i k:Nat} :(fD g d i k).length≤2:=by
 unfold fD ou
 rw [List.length_map]
 exact Nat.le_trans (List.length_filter_le _ _) (by simp)
theorem CO {g:Gr} {d:Dr} {i k m:Nat} :(ou g d i k m).length≤2:=by
 unfold ou
 rw [List.length_map]
 refine Nat.le_trans (List.length_filter_le _ _) ?_
 rw [List.length_take];simp;omega
theorem Gb {g:Gr} {d:Dr} {i k:Nat} :ou g d i k 1=ou g d i k 0++if (g.es.getD i (0,0)).1=(g.es.getD k (0,0)).1∨(g.es.getD i (0,0)).1=(g.es.getD k (0,0)).2 then [d.pts.getD (g.es.getD i (0,0)).1.toNat (0,0)] else []:=by
 simp only [ou,List.take_succ_cons,List.take_zero,List.filter_nil,List.map_nil,List.nil_append,List.filter_cons,Ep,Bool.or_eq_true,decide_eq_true_eq]
 split<;>rfl
theorem Gc {g:Gr} {d:Dr} {i k:Nat} :ou g d i k 2=ou g d i k 1++if (g.es.getD i (0,0)).2=(g.es.getD k (0,0)).1∨(g.es.getD i (0,0)).2=(g.es.getD k (0,0)).2 then [d.pts.getD (g.es.getD i (0,0)).2.toNat (0,0)] else []:=by
 simp only [ou,List.take_succ_cons,List.take_zero,List.filter_nil,List.map_nil,List.nil_append,List.filter_cons,Ep,Bool.or_eq_true,decide_eq_true_eq]
 split<;>split<;>rfl
theorem pn (g:Gr) (d:Dr) (h:pK g d) (i k:Nat) (hi:i<g.es.length) (hk:k<g.es.length):Spec Tryz.prog 141 (Args [.ptr 10000 0,eN i,eN k]) [(10000,lkO g d)] (.d (sP (fD g d i k))) [(10000,lkO g d)]:=by
 have hn:=bL h.may
 have hnp:=h.np
 obtain ⟨⟨Ct,rZ⟩,vi,qh⟩:=dX h.may hi
 obtain ⟨⟨DE,zU⟩,hk2,Jo⟩:=dX h.may hk
 unfold lkO
 (refine Spec.hd (C:=T.cfg [] []) (rs:= [.t 6]) (T.ai _ _) Tryz.func141 rfl rfl Tryz.ntmps141 Tryz.results141 (by simp [AObj.isNest]) (by simp [AObj.isNest]) (by kernel_rfl) T.mixed fun X hX hP hC aG b9=> ?_)
 repeat' (first|refine Rn.p ?_|(with_reducible apply And.intro)|((first|(refine hK _ ?_;clear hK K)|with_reducible intro K hK|refine Rs.p ?_|((with_reducible first|apply oP|apply oQ);exact rfl));try simp only [go_sem,simprocAttr])|((with_reducible refine oD ?_ ?_);kernel_rfl)|((with_reducible intro h);try simp only [go_sem,simprocAttr] at h)|omega|intro h)
 (refine jO hX 6 55 (.tip 71 2 []) (by simp only [go_sem,simprocAttr]) (by simp only [go_sem,simprocAttr]) (by decide) ⟨71,2,by decide, .inr rfl⟩ ?_;simp only [go_sem,simprocAttr])
 refine ag (fun m:Nat=>m≤2) (fun m=>⟨[(0, .ptr 10000 0),(8, .ptr 8 0),(31, .agg [eN (g.es.getD i (0,0)).1,eN (g.es.getD i (0,0)).2]),(32,eN m),(6, .ref 55)], [(55, .tip 71 2 ((ou g d i k m).map rP)),(8, .box [eN (g.es.getD k (0,0)).1,eN (g.es.getD k (0,0)).2]),(10000,lkO g d)]⟩) (fun m=>2 - m) 0 (by omega) ?_ ?_
 ·refine Le.of ?_ ?_<;>simp [go_sem,simprocAttr,ou]
 rintro m hm
 have hlen:=CO (g:=g) (d:=d) (i:=i) (k:=k) (m:=m)
 match m,hm with
 |0,_=>
  have hx:=Gb (g:=g) (d:=d) (i:=i) (k:=k)
  repeat' (first|refine Rn.p ?_|(with_reducible apply And.intro)|((first|(refine hK _ ?_;clear hK K)|with_reducible intro K hK|refine Rs.p ?_|((with_reducible first|apply oP|apply oQ);exact rfl));try simp only [go_sem,simprocAttr])|((with_reducible refine oD ?_ ?_);kernel_rfl)|((with_reducible intro h);try simp only [go_sem,simprocAttr] at h)|omega|intro h)
  all_goals (refine ⟨1,by omega, ?_,by omega⟩;first|rw [if_pos (by omega)] at hx|rw [if_neg (by omega)] at hx)
  all_goals (refine Le.of ?_ ?_<;>simp [go_sem,simprocAttr,hx,rP])
 |1,_=>
  have hx:=Gc (g:=g) (d:=d) (i:=i) (k:=k)
  repeat' (first|refine Rn.p ?_|(with_reducible apply And.intro)|((first|(refine hK _ ?_;clear hK K)|with_reducible intro K hK|refine Rs.p ?_|((with_reducible first|apply oP|apply oQ);exact rfl));try simp only [go_sem,simprocAttr])|((with_reducible refine oD ?_ ?_);kernel_rfl)|((with_reducible intro h);try simp only [go_sem,simprocAttr] at h)|omega|intro h)
  all_goals (refine ⟨2,by omega, ?_,by omega⟩;first|rw [if_pos (by omega)] at hx|rw [if_neg (by omega)] at hx)
  all_goals (refine Le.of ?_ ?_<;>simp [go_sem,simprocAttr,hx,rP])
 |2,_=>
  repeat' (first|refine Rn.p ?_|(with_reducible apply And.intro)|((first|(refine hK _ ?_;clear hK K)|with_reducible intro K hK|refine Rs.p ?_|((with_reducible first|apply oP|apply oQ);exact rfl));try simp only [go_sem,simprocAttr])|((with_reducible refine oD ?_ ?_);kernel_rfl)|((with_reducible intro h);try simp only [go_sem,simprocAttr] at h)|omega|intro h)
  rfl
 |m+3,hm=>omega
theorem nJ {α:Type} {f:α→Bool} {xs:List α} (d:α) {k:Nat} (h1:k<xs.length) (h:(xs.take k).all f=true) (he:f (xs.getD k d)=true):(xs.take (k+1)).all f=true:=by
 rw [List.take_add_one,List.all_append,h,List.getElem?_eq_getElem h1]
 simp only [List.getD_eq_getElem?_getD,List.getElem?_eq_getElem h1,Option.getD_some] at he
 simp [he]
theorem iH {α:Type} {f:α→Bool} {xs:List α} {d:α} {k:Nat} (h1:k<xs.length) (he:f (xs.getD k d)=false):xs.all f=false:=by
 rw [List.all_eq_false]
 exact ⟨_,bf h1,by rw [he];simp⟩
def robQ2 (a b:Pc):List (Nat × AObj):= [(10000, .rob [eN a.1.1,eN a.1.2,eN a.2.1,eN a.2.2]),(10001, .rob [eN b.1.1,eN b.1.2,eN b.2.1,eN b.2.2])]
theorem CP (a b:Pc):aF (robQ2 a b):=⟨by simp [robQ2,AObj.ro],by simp [robQ2,nodupM,look],by simp [robQ2],by simp [robQ2,AObj.ids,AV.ids,AV.idss,eN]⟩
attribute [go_sem] robQ2
theorem we (a b:Pc) (p:Pt):Spec Tryz.prog 143 (Args [eP p, .ptr 10000 0, .ptr 10001 0]) (robQ2 a b) (eB (pJ a.1 a.2 p&&pJ b.1 b.2 p)) (robQ2 a b):=by
 unfold robQ2
 (refine Spec.hd (C:=T.cfg [] []) (rs:= [.t 4]) (T.ai _ _) Tryz.func143 rfl rfl Tryz.ntmps143 Tryz.results143 (by simp [AObj.isNest]) (by simp [AObj.isNest]) (by kernel_rfl) T.mixed fun X hX hP hC aG b9=> ?_)
 repeat' (first|refine Rn.p ?_|(with_reducible apply And.intro)|((first|(refine hK _ ?_;clear hK K)|with_reducible intro K hK|refine Rs.p ?_|((with_reducible first|apply oP|apply oQ);exact rfl)|refine aa hX hC hP (uj a.1 a.2 p) rfl rfl rfl (by simp only [go_sem,simprocAttr]) rfl ?_|refine aa hX hC hP (uj b.1 b.2 p) rfl rfl rfl (by simp only [go_sem,simprocAttr]) rfl ?_);try simp only [go_sem,simprocAttr])|((with_reducible refine oD ?_ ?_);kernel_rfl)|((with_reducible intro h);try simp only [go_sem,simprocAttr] at h)|omega|intro h)
 all_goals simp [*]
def fm (es:List Pt) (a b:Pc):Bool:=decide (1<fh a.1 a.2 b.1 b.2)||(decide (fh a.1 a.2 b.1 b.2=1)&& !es.any fun p=>pJ a.1 a.2 p&&pJ b.1 b.2 p)
def gT (g:Gr) (d:Dr) (i m:Nat):Bool:=(List.range m).all fun k=>(ee (d.ls.getD i [])).all fun a=>(ee (d.ls.getD k [])).all fun b=> !fm (fD g d i k) a b
def fE (g:Gr) (d:Dr) (i:Nat):Bool:=gT g d i i
theorem pq {g:Gr} {d:Dr} {i m:Nat} :gT g d i (m+1)=(gT g d i m&&(ee (d.ls.getD i [])).all fun a=>(ee (d.ls.getD m [])).all fun b=> !fm (fD g d i m) a b):=by
 simp [gT,List.range_succ]
theorem apart_spec (g:Gr) (d:Dr) (hD:pK g d) (i:Nat) (hi:i<g.es.length):Spec Tryz.prog 95 (Args [.ptr 10000 0,eN i]) [(10000,lkO g d)] (eB (fE g d i)) [(10000,lkO g d)]:=by
 have hn:=bL hD.may
 have hnp:=hD.np
 have hnl:=hD.nl
 obtain ⟨h2,h8⟩:=hD.line hi
 have h1:1≤(d.ls.getD i []).length:=by omega
 have hl:(d.ls.getD i []).length≤1000000:=by omega
 have ij:(ee (d.ls.getD i [])).length=(d.ls.getD i []).length - 1:=dK
 unfold lkO
 (refine Spec.hd (C:=T.cfg [] []) (rs:= [.t 4]) (T.ai _ _) Tryz.func95 rfl rfl Tryz.ntmps95 Tryz.results95 (by simp [AObj.isNest]) (by simp [AObj.isNest]) (by kernel_rfl) T.mixed fun X hX hP hC aG b9=> ?_)
 repeat' (first|refine Rn.p ?_|(with_reducible apply And.intro)|((first|(refine hK _ ?_;clear hK K)|with_reducible intro K hK|refine Rs.p ?_|((with_reducible first|apply oP|apply oQ);exact rfl));try simp only [go_sem,simprocAttr])|((with_reducible refine oD ?_ ?_);kernel_rfl)|((with_reducible intro h);try simp only [go_sem,simprocAttr] at h)|omega|intro h)
 refine ag (fun k:Nat=>k≤i∧gT g d i k=true) (fun k=>⟨[(0, .ptr 10000 0),(1,eN i),(13,eN i),(14,eN k)], [(10000,lkO g d)]⟩) (fun k=>i - k) 0 (by simp [gT]) ?_ ?_
 ·(refine Le.of ?_ ?_<;>simp [go_sem,simprocAttr])
 rintro k ⟨hk,hf⟩
 rcases Nat.lt_or_ge k i with hlt|hge
 ·have hb:decide ((k:Int)<(i:Int))=true:=decide_eq_true (by omega)
  have b8:k<g.es.length:=by omega
  obtain ⟨D2,O6⟩:=hD.line b8
  have xx:1≤(d.ls.getD k []).length:=by omega
  have hl':(d.ls.getD k []).length≤1000000:=by omega
  have sj:(ee (d.ls.getD k [])).length=(d.ls.getD k []).length - 1:=dK
  have xg:(fD g d i k).length≤9223372036854775807:=by have:=CN (g:=g) (d:=d) (i:=i) (k:=k);omega
  have iE:=pq (g:=g) (d:=d) (i:=i) (m:=k)
  rw [hf,Bool.true_and] at iE
  repeat' (first|refine Rn.p ?_|(with_reducible apply And.intro)|((first|(refine hK _ ?_;clear hK K)|with_reducible intro K hK|refine Rs.p ?_|((with_reducible first|apply oP|apply oQ);exact rfl)|(first|(refine aA hX hC hP (uz g d) (pn g d hD i k hi b8) rfl rfl rfl ?_ ?_ rfl rfl ?_;(focus (simp only [go_sem,simprocAttr,hb];done));(focus (first|(intro p hp;exact az (aF.nd (uz g d)) hp)|(simp [go_sem,simprocAttr,hb];done))))|(refine aA hX hC hP (uz g d) (pn g d hD i k hi b8) rfl rfl rfl ?_ ?_ ?_ rfl ?_;(focus (simp only [go_sem,simprocAttr,hb];done));(focus (first|(intro p hp;exact az (aF.nd (uz g d)) hp)|(simp [go_sem,simprocAttr,hb];done)));(focus (simp [go_sem,simprocAttr,hb];done))))|refine aa hX hC hP (iG (d.ls.getD i []) h1 hl) rfl rfl rfl (by simp only [go_sem,simprocAttr,hb]) rfl ?_);try simp only [go_sem,simprocAttr,hb])|((with_reducible refine oD ?_ ?_);kernel_rfl)|((with_reducible intro h);try simp only [go_sem,simprocAttr,hb] at h)|omega|intro h)
  refine ag (fun s:Nat=>s≤(ee (d.ls.getD i [])).length∧((ee (d.ls.getD i [])).take s).all (fun a=>(ee (d.ls.getD k [])).all fun b=> !fm (fD g d i k) a b)=true) (fun s=>⟨[(0, .ptr 10000 0),(1,eN i),(13,eN i),(14,eN k),(5,eN k),(6, .d (sP (fD g d i k))),(29, .d (sQ (ee (d.ls.getD i [])))),(30,eN (ee (d.ls.getD i [])).length),(31,eN s)], [(10000,lkO g d)]⟩) (fun s=>(ee (d.ls.getD i [])).length - s) 0 (by simp) ?_ ?_
  ·(refine ⟨bI ?_,fun _ _ h=>h⟩;simp [go_sem,simprocAttr,hb])
  rintro s ⟨hs,E8⟩
  rcases Nat.lt_or_ge s (ee (d.ls.getD i [])).length with zV|GI
  ·have bC:decide ((s:Int)<((ee (d.ls.getD i [])).length:Int))=true:=decide_eq_true (by omega)
   obtain ⟨a,ha⟩:∃a,a=(ee (d.ls.getD i [])).getD s ((0,0),(0,0)):=⟨_,rfl⟩
   repeat' (first|refine Rn.p ?_|(with_reducible apply And.intro)|((first|(refine hK _ ?_;clear hK K)|with_reducible intro K hK|refine Rs.p ?_|((with_reducible first|apply oP|apply oQ);exact rfl)|refine aa hX hC hP (iG (d.ls.getD k []) xx hl') rfl rfl rfl (by simp only [go_sem,simprocAttr,bC, ← ha]) rfl ?_);try simp only [go_sem,simprocAttr,bC, ← ha])|((with_reducible refine oD ?_ ?_);kernel_rfl)|((with_reducible intro h);try simp only [go_sem,simprocAttr,bC, ← ha] at h)|omega|intro h)
   refine ag (fun t:Nat=>t≤(ee (d.ls.getD k [])).length∧((ee (d.ls.getD k [])).take t).all (fun b=> !fm (fD g d i k) a b)=true) (fun t=>⟨[(0, .ptr 10000 0),(1,eN i),(13,eN i),(14,eN k),(5,eN k),(6, .d (sP (fD g d i k))),(29, .d (sQ (ee (d.ls.getD i [])))),(30,eN (ee (d.ls.getD i [])).length),(31,eN s),(8, .ptr 8 0),(43, .d (sQ (ee (d.ls.getD k [])))),(44,eN (ee (d.ls.getD k [])).length),(45,eN t)], [(8, .box [eN a.1.1,eN a.1.2,eN a.2.1,eN a.2.2]),(10000,lkO g d)]⟩) (fun t=>(ee (d.ls.getD k [])).length - t) 0 (by simp) ?_ ?_
   ·(refine Le.of ?_ ?_<;>simp [go_sem,simprocAttr,bC, ← ha])
   rintro t ⟨ht,E9⟩
   rcases Nat.lt_or_ge t (ee (d.ls.getD k [])).length with lS|Md
   ·have bn:decide ((t:Int)<((ee (d.ls.getD k [])).length:Int))=true:=decide_eq_true (by omega)
    obtain ⟨b,DJ⟩:∃b,b=(ee (d.ls.getD k [])).getD t ((0,0),(0,0)):=⟨_,rfl⟩
    have mo:fm (fD g d i k) a b=(decide (1<fh a.1 a.2 b.1 b.2)||(decide (fh a.1 a.2 b.1 b.2=1)&& !(fD g d i k).any fun p=>pJ a.1 a.2 p&&pJ b.1 b.2 p)):=rfl
    have hno:fm (fD g d i k) a b=true→fE g d i=false:=fun hb=>nI hlt (iH (d:=((0,0),(0,0))) zV (by rw [← ha];exact iH (d:=((0,0),(0,0))) lS (by rw [← DJ,hb];rfl)))
    repeat' (first|refine Rn.p ?_|(with_reducible apply And.intro)|((first|(refine hK _ ?_;clear hK K)|with_reducible intro K hK|refine Rs.p ?_|((with_reducible first|apply oP|apply oQ);exact rfl)|refine aa hX hC hP (Aw a.1 a.2 b.1 b.2) rfl rfl rfl (by simp only [go_sem,simprocAttr,bn, ← DJ]) rfl ?_|(refine dz hX hC hP [(10000,8),(10001,10)] (lU (CP a b) _ _ (fun p=>pJ a.1 a.2 p&&pJ b.1 b.2 p) (fD g d i k) (fun p _=>we a b p) xg) rfl rfl rfl ?_ ?_ ?_ ?_ ?_ ?_ rfl rfl ?_ ?_;(focus (simp only [go_sem,simprocAttr,bn, ← DJ];done));(iterate 6 (focus (simp [go_sem,simprocAttr,bn, ← DJ];done)));try simp only [List.map_cons,List.map_nil]));try simp only [go_sem,simprocAttr,bn, ← DJ])|((with_reducible refine oD ?_ ?_);kernel_rfl)|((with_reducible intro h);try simp only [go_sem,simprocAttr,bn, ← DJ] at h)|omega|intro h)
    all_goals first
     |(refine (hno ?_).symm;rw [mo];simp only [decide_eq_true_eq,Bool.or_eq_true,Bool.and_eq_true,Bool.not_eq_true'];first|exact .inl (by assumption)|exact .inr ⟨by assumption,by assumption⟩)
     |(have Er:fm (fD g d i k) a b=false:=(by rw [mo];simp only [Bool.or_eq_false_iff,decide_eq_false_iff_not,Bool.and_eq_false_iff,Bool.not_eq_false'];first|exact ⟨by omega, .inl (by assumption)⟩|exact ⟨by omega, .inr (by assumption)⟩)
       refine ⟨t+1,⟨by omega,nJ ((0,0),(0,0)) lS E9 (by rw [← DJ,Er];rfl)⟩, ?_,by omega⟩
       (refine Le.of ?_ ?_<;>simp [go_sem,simprocAttr,bn, ← DJ]))
   ·have bn:decide ((t:Int)<((ee (d.ls.getD k [])).length:Int))=false:=decide_eq_false (by omega)
    rw [List.take_of_length_le Md] at E9
    repeat' (first|refine Rn.p ?_|(with_reducible apply And.intro)|((first|(refine hK _ ?_;clear hK K)|with_reducible intro K hK|refine Rs.p ?_|((with_reducible first|apply oP|apply oQ);exact rfl));try simp only [go_sem,simprocAttr,bn])|((with_reducible refine oD ?_ ?_);kernel_rfl)|((with_reducible intro h);try simp only [go_sem,simprocAttr,bn] at h)|omega|intro h)
    refine ⟨s+1,⟨by omega,nJ ((0,0),(0,0)) zV E8 (by rw [← ha];exact E9)⟩, ?_,by omega⟩
    (refine Le.of ?_ ?_<;>simp [go_sem,simprocAttr,bn])
  ·have bC:decide ((s:Int)<((ee (d.ls.getD i [])).length:Int))=false:=decide_eq_false (by omega)
   rw [List.take_of_length_le GI] at E8
   repeat' (first|refine Rn.p ?_|(with_reducible apply And.intro)|((first|(refine hK _ ?_;clear hK K)|with_reducible intro K hK|refine Rs.p ?_|((with_reducible first|apply oP|apply oQ);exact rfl));try simp only [go_sem,simprocAttr,bC])|((with_reducible refine oD ?_ ?_);kernel_rfl)|((with_reducible intro h);try simp only [go_sem,simprocAttr,bC] at h)|omega|intro h)
   refine ⟨k+1,⟨by omega,by rw [iE];exact E8⟩, ?_,by omega⟩
   (refine Le.of ?_ ?_<;>simp [go_sem,simprocAttr,bC])
 ·have hb:decide ((k:Int)<(i:Int))=false:=decide_eq_false (by omega)
  obtain rfl:k=i:=by omega
  repeat' (first|refine Rn.p ?_|(with_reducible apply And.intro)|((first|(refine hK _ ?_;clear hK K)|with_reducible intro K hK|refine Rs.p ?_|((with_reducible first|apply oP|apply oQ);exact rfl));try simp only [go_sem,simprocAttr,hb])|((with_reducible refine oD ?_ ?_);kernel_rfl)|((with_reducible intro h);try simp only [go_sem,simprocAttr,hb] at h)|omega|intro h)
  exact hf.symm
end Go.Ab
end
section
namespace Go.Ab
open Go.Proofs
attribute [local congr] ACall.congr gd.congr Nx.congr
set_option maxRecDepth 10000
def bt (n:Nat) (holds:Nat→Bool):Int:=bG (fun i=> !holds i) (List.range n)
theorem gU {m:List (Nat × AObj)} (hR:aF m) (f:Nat) (fs caps:List AV) (holds:Nat→Bool) (n:Nat) (hl:n≤9223372036854775807) (hf:∀i:Nat,i<n→Spec Tryz.prog f (Args (fs++eN i::caps)) m (eB (holds i)) m):
 Spec Tryz.prog 90 (Args [eN n, .fn f fs caps]) m (eN (bt n holds)) m:=by
 (refine Spec.hd (C:=T.cfg [] []) (rs:= [.t 4]) (T.ai _ _) Tryz.func90 rfl rfl Tryz.ntmps90 Tryz.results90 (fun p hp=>⟨(aF.low hR p hp).1,aF.nest hR p hp⟩) (fun p hp=>⟨(aF.low hR p hp).2,aF.nest hR p hp⟩) (by kernel_rfl) T.mixed fun X hX hP hC aG b9=> ?_)
 repeat' (first|refine Rn.p ?_|(with_reducible apply And.intro)|((first|(refine hK _ ?_;clear hK K)|with_reducible intro K hK|refine Rs.p ?_|((with_reducible first|apply oP|apply oQ);exact rfl));try simp only [go_sem,simprocAttr])|((with_reducible refine oD ?_ ?_);kernel_rfl)|((with_reducible intro h);try simp only [go_sem,simprocAttr] at h)|omega|intro h)
 refine ag (fun k:Nat=>k≤n∧∀j,j<k→holds j=true) (fun k=>⟨[(1, .fn f fs caps),(6,eN n),(7,eN k)],m⟩) (fun k=>n - k) 0 (by simp) ?_ ?_
 ·(refine ⟨bI ?_,fun _ _ h=>h⟩;simp [go_sem,simprocAttr])
 rintro k ⟨hk,hg⟩
 rcases Nat.lt_or_ge k n with hlt|hge
 ·have hb:decide ((k:Int)<(n:Int))=true:=decide_eq_true (by omega)
  have hf':=hf k hlt
  repeat' (first|refine Rn.p ?_|(with_reducible apply And.intro)|((first|(refine hK _ ?_;clear hK K)|with_reducible intro K hK|refine Rs.p ?_|((with_reducible first|apply oP|apply oQ);exact rfl)|(first|(refine aA hX hC hP hR (hf') rfl rfl rfl ?_ ?_ rfl rfl ?_;(focus (simp only [go_sem,simprocAttr,hb];done));(focus (first|(intro p hp;exact az (aF.nd hR) hp)|(simp [go_sem,simprocAttr,hb];done))))|(refine aA hX hC hP hR (hf') rfl rfl rfl ?_ ?_ ?_ rfl ?_;(focus (simp only [go_sem,simprocAttr,hb];done));(focus (first|(intro p hp;exact az (aF.nd hR) hp)|(simp [go_sem,simprocAttr,hb];done)));(focus (simp [go_sem,simprocAttr,hb];done)))));try simp only [go_sem,simprocAttr,hb])|((with_reducible refine oD ?_ ?_);kernel_rfl)|((with_reducible intro h);try simp only [go_sem,simprocAttr,hb] at h)|omega|intro h)
  ·refine (bQ (d:=0) (by simpa using hlt) (fun j hj=> ?_) ?_).symm
   ·rw [bX (by omega),hg j hj];rfl
   ·rw [bX hlt,h];rfl
  ·exact bZ hR
  ·refine ⟨k+1,⟨by omega,fun j hj=> ?_⟩, ?_,by omega⟩
   ·by_cases hjk:j=k
    ·subst hjk;exact h
    ·exact hg j (by omega)
   ·(refine ⟨bI ?_,fun _ _ h=>h⟩;simp [go_sem,simprocAttr,hb])
 ·have hb:decide ((k:Int)<(n:Int))=false:=decide_eq_false (by omega)
  repeat' (first|refine Rn.p ?_|(with_reducible apply And.intro)|((first|(refine hK _ ?_;clear hK K)|with_reducible intro K hK|refine Rs.p ?_|((with_reducible first|apply oP|apply oQ);exact rfl)|(first|(refine aA hX hC hP hR (hf') rfl rfl rfl ?_ ?_ rfl rfl ?_;(focus (simp only [go_sem,simprocAttr,hb];done));(focus (first|(intro p hp;exact az (aF.nd hR) hp)|(simp [go_sem,simprocAttr,hb];done))))|(refine aA hX hC hP hR (hf') rfl rfl rfl ?_ ?_ ?_ rfl ?_;(focus (simp only [go_sem,simprocAttr,hb];done));(focus (first|(intro p hp;exact az (aF.nd hR) hp)|(simp [go_sem,simprocAttr,hb];done)));(focus (simp [go_sem,simprocAttr,hb];done)))));try simp only [go_sem,simprocAttr,hb])|((with_reducible refine oD ?_ ?_);kernel_rfl)|((with_reducible intro h);try simp only [go_sem,simprocAttr,hb] at h)|omega|intro h)
  ·refine (bq 0 fun j hj=> ?_).symm
   rw [List.length_range] at hj
   rw [bX hj,hg j (by omega)];rfl
  ·exact bZ hR
def gV (l:List Pt):Bool:=decide (l.length<2)||decide (8<l.length)||l.any kN
theorem uA (l:List Pt) (hl:l.length≤9223372036854775806):Spec Tryz.prog 135 (Args [.d (sP l)]) [] (eB (gV l)) []:=by
 (refine Spec.hd (C:=T.cfg [] []) (rs:= [.t 2]) (T.ai _ _) Tryz.func135 rfl rfl Tryz.ntmps135 Tryz.results135 (by simp [AObj.isNest]) (by simp [AObj.isNest]) (by kernel_rfl) T.mixed fun X hX hP hC aG b9=> ?_)
 repeat' (first|refine Rn.p ?_|(with_reducible apply And.intro)|((first|(refine hK _ ?_;clear hK K)|with_reducible intro K hK|refine Rs.p ?_|((with_reducible first|apply oP|apply oQ);exact rfl)|refine aa hX hC hP (lG l hl) rfl rfl rfl (by simp only [go_sem,simprocAttr]) rfl ?_);try simp only [go_sem,simprocAttr])|((with_reducible refine oD ?_ ?_);kernel_rfl)|((with_reducible intro h);try simp only [go_sem,simprocAttr] at h)|omega|intro h)
 ·have e1:decide (l.length<2)=false:=decide_eq_false (by omega)
  have e2:decide (8<l.length)=false:=decide_eq_false (by omega)
  simp only [gV,e1,e2,Bool.false_or,Bool.not_not]
 ·have e2:decide (8<l.length)=true:=decide_eq_true (by omega)
  simp only [gV,e2,Bool.or_true,Bool.true_or]
 ·have e1:decide (l.length<2)=true:=decide_eq_true (by omega)
  simp only [gV,e1,Bool.true_or]
def dU (d:Dr):Bool:= !d.pts.any kN&& !d.ls.any gV
theorem pE (g:Gr) (d:Dr) (hp:d.pts.length≤9223372036854775806) (hls:d.ls.length≤9223372036854775807) (mL:∀l∈d.ls,l.length≤9223372036854775806):
 Spec Tryz.prog 89 (Args [.ptr 10000 0]) [(10000,lkO g d)] (eB (dU d)) [(10000,lkO g d)]:=by
 unfold lkO
 (refine Spec.hd (C:=T.cfg [] []) (rs:= [.t 2]) (T.ai _ _) Tryz.func89 rfl rfl Tryz.ntmps89 Tryz.results89 (by simp [AObj.isNest]) (by simp [AObj.isNest]) (by kernel_rfl) T.mixed fun X hX hP hC aG b9=> ?_)
 repeat' (first|refine Rn.p ?_|(with_reducible apply And.intro)|((first|(refine hK _ ?_;clear hK K)|with_reducible intro K hK|refine Rs.p ?_|((with_reducible first|apply oP|apply oQ);exact rfl)|refine aa hX hC hP (lG d.pts hp) rfl rfl rfl (by simp only [go_sem,simprocAttr]) rfl ?_|refine aa hX hC hP (lV aF.nil _ [] gV d.ls (fun l hl=>uA l (mL l hl)) hls) rfl rfl rfl (by simp only [go_sem,simprocAttr]) rfl ?_);try simp only [go_sem,simprocAttr])|((with_reducible refine oD ?_ ?_);kernel_rfl)|((with_reducible intro h);try simp only [go_sem,simprocAttr] at h)|omega|intro h)
 all_goals simp only [dU]
 ·have h0:d.pts.any kN=false:=by assumption
  simp only [h0,Bool.not_false,Bool.true_and]
 ·have h0:d.pts.any kN=true:=by assumption
  simp only [h0,Bool.not_true,Bool.false_and]
theorem wg {g:Gr} (h:(dR g).1=0):aV g=true:=by
 cases hm:aV g with
 |true=>rfl
 |false=>simp [dR,gh,hm] at h
theorem qW {d:Dr} (h:dU d=true):∀l∈d.ls,2≤l.length∧l.length≤8:=by
 intro l hl
 simp only [dU,Bool.and_eq_true,Bool.not_eq_true'] at h
 have:=(List.any_eq_false.1 h.2) l hl
 simp only [gV,Bool.or_eq_true,decide_eq_true_eq,not_or] at this
 omega
def fV (g:Gr) (d:Dr):Bool:=decide ((dR g).1=0)&&decide ((d.pts.length:Int)=g.n)&&decide (d.ls.length=g.es.length)
def fF (g:Gr) (d:Dr):Int × Int:=
 if fV g d=false then (1,0) else
 if dU d=false then (2,0) else
 if 0≤bt g.es.length (nH g d) then (6,bt g.es.length (nH g d)) else
 if 0≤bt g.es.length (fun i=>fk (d.ls.getD i [])) then (7,bt g.es.length (fun i=>fk (d.ls.getD i []))) else
 if 0≤bt d.pts.length (dL d) then (8,bt d.pts.length (dL d)) else
 if 0≤bt g.es.length (jo g d) then (9,bt g.es.length (jo g d)) else
 if 0≤bt g.es.length (fE g d) then (17,bt g.es.length (fE g d)) else (0,0)
def eFt (c:Int × Int):AV:= .agg [eN c.1,eN c.2, .d (.sl 1 [])]
attribute [go_sem] eFt
set_option maxHeartbeats 8000000 in
theorem dB (g:Gr) (d:Dr) (tI:g.es.length≤1000) (hp:d.pts.length≤1000) (hls:d.ls.length≤1000) (mL:∀l∈d.ls,l.length≤1000):
 Spec Tryz.prog 43 (Args [eG g,eDr d]) [] (eFt (fF g d)) []:=by
 have HE:d.pts.length≤9223372036854775806:=by omega
 have Az:d.ls.length≤9223372036854775807:=by omega
 have Iw:∀l∈d.ls,l.length≤9223372036854775806:=fun l hl=>by have:=mL l hl;omega
 (refine Spec.hd (C:=T.cfg [] []) (rs:= [.c 4 66]) (T.ai _ _) Tryz.func43 rfl rfl Tryz.ntmps43 Tryz.results43 (by simp [AObj.isNest]) (by simp [AObj.isNest]) (by kernel_rfl) T.mixed fun X hX hP hC aG b9=> ?_)
 cases hfit:fV g d with
 |false=>
  have hc:fF g d=(1,0):=by rw [fF,if_pos hfit]
  have hneg:¬((dR g).1=0∧(d.pts.length:Int)=g.n∧d.ls.length=g.es.length):=fun ⟨a,b,c⟩=>by simp [fV,a,b,c] at hfit
  repeat' (first|refine Rn.p ?_|(with_reducible apply And.intro)|((first|(refine hK _ ?_;clear hK K)|with_reducible intro K hK|refine Rs.p ?_|((with_reducible first|apply oP|apply oQ);exact rfl)|refine aa hX hC hP (mD g tI) rfl rfl rfl (by simp only [go_sem,simprocAttr,hc]) rfl ?_);try simp only [go_sem,simprocAttr,hc])|((with_reducible refine oD ?_ ?_);kernel_rfl)|((with_reducible intro h);try simp only [go_sem,simprocAttr,hc] at h)|omega|intro h)
  all_goals trace_state
 |true=>
  simp only [fV,Bool.and_eq_true,decide_eq_true_eq] at hfit
  obtain ⟨⟨h0,hnp⟩,hnl⟩:=hfit
  have hfit:fV g d=true:=by simp only [fV,h0,hnp,hnl,decide_true,Bool.and_self]
  have hm:=wg h0
  have hn:=bL hm
  have e0:(dR g).1=0:=h0
  cases hr:dU d with
  |false=>
   have hc:fF g d=(2,0):=by rw [fF,if_neg (by rw [hfit];simp),if_pos hr]
   repeat' (first|refine Rn.p ?_|(with_reducible apply And.intro)|((first|(refine hK _ ?_;clear hK K)|with_reducible intro K hK|refine Rs.p ?_|((with_reducible first|apply oP|apply oQ);exact rfl)|refine aa hX hC hP (mD g tI) rfl rfl rfl (by simp only [go_sem,simprocAttr,hc,h0,hnl,hr]) rfl ?_|(refine dz hX hC hP [(10000,14)] (pE g d HE Az Iw) rfl rfl rfl ?_ ?_ ?_ ?_ ?_ ?_ rfl rfl ?_ ?_;(focus (simp only [go_sem,simprocAttr,hc,h0,hnl,hr];done));(iterate 6 (focus (simp [go_sem,simprocAttr,hc,h0,hnl,hr];done)));try simp only [List.map_cons,List.map_nil]));try simp only [go_sem,simprocAttr,hc,h0,hnl,hr])|((with_reducible refine oD ?_ ?_);kernel_rfl)|((with_reducible intro h);try simp only [go_sem,simprocAttr,hc,h0,hnl,hr] at h)|omega|intro h)
  |true=>
  have Iy:pK g d:=⟨hm,hnp,hnl,qW hr⟩
  have hle:g.es.length≤9223372036854775807:=by omega
  have hle2:d.pts.length≤9223372036854775807:=by omega
  have fa:Spec Tryz.prog 90 (Args [eN g.n, .fn 93 [.ptr 10000 0] []]) [(10000,lkO g d)] (eN (bt d.pts.length (dL d))) [(10000,lkO g d)]:=by
   rw [← hnp];exact gU (uz g d) _ [.ptr 10000 0] [] (dL d) d.pts.length hle2 (fun i hi=>xZ g d Iy i hi)
  have hc1:fF g d=if 0≤bt g.es.length (nH g d) then (6,bt g.es.length (nH g d)) else
   if 0≤bt g.es.length (fun i=>fk (d.ls.getD i [])) then (7,bt g.es.length (fun i=>fk (d.ls.getD i []))) else
   if 0≤bt d.pts.length (dL d) then (8,bt d.pts.length (dL d)) else
   if 0≤bt g.es.length (jo g d) then (9,bt g.es.length (jo g d)) else
   if 0≤bt g.es.length (fE g d) then (17,bt g.es.length (fE g d)) else (0,0):=by
   rw [fF,if_neg (by rw [hfit];simp),if_neg (by rw [hr];simp)]
  generalize Nz:fF g d=c at hc1 ⊢
  repeat' (first|refine Rn.p ?_|(with_reducible apply And.intro)|((first|(refine hK _ ?_;clear hK K)|with_reducible intro K hK|refine Rs.p ?_|((with_reducible first|apply oP|apply oQ);exact rfl)|refine aa hX hC hP (mD g tI) rfl rfl rfl (by simp only [go_sem,simprocAttr,h0,hnl,hr]) rfl ?_|(refine dz hX hC hP [(10000,14)] (pE g d HE Az Iw) rfl rfl rfl ?_ ?_ ?_ ?_ ?_ ?_ rfl rfl ?_ ?_;(focus (simp only [go_sem,simprocAttr,h0,hnl,hr];done));(iterate 6 (focus (simp [go_sem,simprocAttr,h0,hnl,hr];done)));try simp only [List.map_cons,List.map_nil])|(refine dz hX hC hP [(10000,14)] (gU (uz g d) _ [.ptr 10000 0] [] (nH g d) g.es.length hle (fun i hi=>xY g d Iy i hi)) rfl rfl rfl ?_ ?_ ?_ ?_ ?_ ?_ rfl rfl ?_ ?_;(focus (simp only [go_sem,simprocAttr,h0,hnl,hr];done));(iterate 6 (focus (simp [go_sem,simprocAttr,h0,hnl,hr];done)));try simp only [List.map_cons,List.map_nil])|(refine dz hX hC hP [(10000,14)] (gU (uz g d) _ [.ptr 10000 0] [] (fun i=>fk (d.ls.getD i [])) g.es.length hle (fun i hi=>xX g d Iy i hi)) rfl rfl rfl ?_ ?_ ?_ ?_ ?_ ?_ rfl rfl ?_ ?_;(focus (simp only [go_sem,simprocAttr,h0,hnl,hr];done));(iterate 6 (focus (simp [go_sem,simprocAttr,h0,hnl,hr];done)));try simp only [List.map_cons,List.map_nil])|(refine dz hX hC hP [(10000,14)] (fa) rfl rfl rfl ?_ ?_ ?_ ?_ ?_ ?_ rfl rfl ?_ ?_;(focus (simp only [go_sem,simprocAttr,h0,hnl,hr];done));(iterate 6 (focus (simp [go_sem,simprocAttr,h0,hnl,hr];done)));try simp only [List.map_cons,List.map_nil])|(refine dz hX hC hP [(10000,14)] (gU (uz g d) _ [.ptr 10000 0] [] (jo g d) g.es.length hle (fun i hi=>free_spec g d Iy i hi)) rfl rfl rfl ?_ ?_ ?_ ?_ ?_ ?_ rfl rfl ?_ ?_;(focus (simp only [go_sem,simprocAttr,h0,hnl,hr];done));(iterate 6 (focus (simp [go_sem,simprocAttr,h0,hnl,hr];done)));try simp only [List.map_cons,List.map_nil])|(refine dz hX hC hP [(10000,14)] (gU (uz g d) _ [.ptr 10000 0] [] (fE g d) g.es.length hle (fun i hi=>apart_spec g d Iy i hi)) rfl rfl rfl ?_ ?_ ?_ ?_ ?_ ?_ rfl rfl ?_ ?_;(focus (simp only [go_sem,simprocAttr,h0,hnl,hr];done));(iterate 6 (focus (simp [go_sem,simprocAttr,h0,hnl,hr];done)));try simp only [List.map_cons,List.map_nil]));try simp only [go_sem,simprocAttr,h0,hnl,hr])|((with_reducible refine oD ?_ ?_);kernel_rfl)|((with_reducible intro h);try simp only [go_sem,simprocAttr,h0,hnl,hr] at h)|omega|intro h)
  all_goals (rw [hc1];repeat (first|rw [if_pos (by assumption)]|rw [if_neg (by assumption)]))
end Go.Ab
end
